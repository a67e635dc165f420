/-
  NARROWER THAN 'FOR EVERY INPUT', by the rows' own cells (each row's printed sentence says how): FnExactPolCount: loops · FnExactHasRate: loops · FnExactSamePol: loops · FnExactOpposite: loops · FnExactPolOk: loops · FnExactWants: loops · FnExactJudge: loops.
  DERIVED. THE GIVEN ROWS OF THIS SEAT. 10 by the template 'for every input the law returns true; each argument reads behind the call as it read before'; 0 by the template 'total and deterministic' (their statements: YtfhblnbicnmndaaTotals.lean).
  GIVEN WITH THE SEED: the statements are not yours to turn. If you find one false, say at which input.
  Laid BY PROGRAM, IN A SANDBOX (cutbox-rows.mjs): the forced cells as the released guide's own fill.sh prints them over the translation 5287ecd1954abde0… (all of the seat's roots in one cut). By AI agents, Wed Nov 11 2026. No macro, syntax, notation, axiom, sorry.
-/
import Derived.Test.YtfhblnbicnmndaaChecked
import GoSem.Claim
import GoSem.ClaimJoined
import GoSem.ClaimMapViews
import Derived.JoinedTies
import Derived.KernelRfl
namespace Go.Proofs.Ytfhblnbicnmndaa
/- THE CELL 'sum', in the pinned program and in every row, IS THE sha256 OF THE DUMP (.gsa) THAT YtfhblnbicnmndaaProg.lean LOADS. Nothing in Lean hashes anything: it is a label: what it is worth is what the hold of that sum in a sandbox is worth. -/
noncomputable def Try.pinned : Pinned := { name := "ytfhblnbicnmndaa", sum := "5287ecd1954abde04dcd29dff6ec3b31b2b6fa7016cc6435bf7531476c84fd22", checked := Try.checked }
namespace Rows
def none {H : Type} : Left H := { results := [], args := [] }

/-- 'laws.FnExactPolCount': WHATEVER THE INPUT: true; the input reads as it did. -/
def fnExactPolCountSpec : ChangeSpec := { name := "fnExactPolCount", fn := fun _ => fun
  | [d] => { results := [.lit (.bool true)], args := [d] }
  | _ => none }
def fnExactPolCountRow : OpenClaim := { program := "ytfhblnbicnmndaa", sum := "5287ecd1954abde04dcd29dff6ec3b31b2b6fa7016cc6435bf7531476c84fd22", func := "loop.example/g00488/laws.FnExactPolCount", spec := "fnExactPolCount", recurses := true, loops := true, apart := false }
def FnExactPolCountSaid : Prop := fnExactPolCountRow.holds Try.pinned (OpenSpec.ofChange fnExactPolCountSpec)

/-- ITS FALSE NEIGHBOUR: 'it returns false'. Refute it at one input. -/
def fnExactPolCountWrong : ChangeSpec := { name := "fnExactPolCount", fn := fun _ => fun
  | [d] => { results := [.lit (.bool false)], args := [d] }
  | _ => none }
def FnExactPolCountWrongFalsely : Prop := fnExactPolCountRow.holds Try.pinned (OpenSpec.ofChange fnExactPolCountWrong)

/-- 'laws.FnExactHasRate': WHATEVER THE INPUT: true; the input reads as it did. -/
def fnExactHasRateSpec : ChangeSpec := { name := "fnExactHasRate", fn := fun _ => fun
  | [d] => { results := [.lit (.bool true)], args := [d] }
  | _ => none }
def fnExactHasRateRow : OpenClaim := { program := "ytfhblnbicnmndaa", sum := "5287ecd1954abde04dcd29dff6ec3b31b2b6fa7016cc6435bf7531476c84fd22", func := "loop.example/g00488/laws.FnExactHasRate", spec := "fnExactHasRate", unfollowed := true, recurses := true, loops := true, apart := false }
def FnExactHasRateSaid : Prop := fnExactHasRateRow.holds Try.pinned (OpenSpec.ofChange fnExactHasRateSpec)

/-- ITS FALSE NEIGHBOUR: 'it returns false'. Refute it at one input. -/
def fnExactHasRateWrong : ChangeSpec := { name := "fnExactHasRate", fn := fun _ => fun
  | [d] => { results := [.lit (.bool false)], args := [d] }
  | _ => none }
def FnExactHasRateWrongFalsely : Prop := fnExactHasRateRow.holds Try.pinned (OpenSpec.ofChange fnExactHasRateWrong)

/-- 'laws.FnExactSamePol': WHATEVER THE INPUT: true; the input reads as it did. -/
def fnExactSamePolSpec : ChangeSpec := { name := "fnExactSamePol", fn := fun _ => fun
  | [d1, d2] => { results := [.lit (.bool true)], args := [d1, d2] }
  | _ => none }
def fnExactSamePolRow : OpenClaim := { program := "ytfhblnbicnmndaa", sum := "5287ecd1954abde04dcd29dff6ec3b31b2b6fa7016cc6435bf7531476c84fd22", func := "loop.example/g00488/laws.FnExactSamePol", spec := "fnExactSamePol", unfollowed := true, recurses := true, loops := true, apart := false }
def FnExactSamePolSaid : Prop := fnExactSamePolRow.holds Try.pinned (OpenSpec.ofChange fnExactSamePolSpec)

/-- ITS FALSE NEIGHBOUR: 'it returns false'. Refute it at one input. -/
def fnExactSamePolWrong : ChangeSpec := { name := "fnExactSamePol", fn := fun _ => fun
  | [d1, d2] => { results := [.lit (.bool false)], args := [d1, d2] }
  | _ => none }
def FnExactSamePolWrongFalsely : Prop := fnExactSamePolRow.holds Try.pinned (OpenSpec.ofChange fnExactSamePolWrong)

/-- 'laws.FnExactErrors': WHATEVER THE INPUT: true; the input reads as it did. -/
def fnExactErrorsSpec : ChangeSpec := { name := "fnExactErrors", fn := fun _ => fun
  | [d] => { results := [.lit (.bool true)], args := [d] }
  | _ => none }
def fnExactErrorsRow : OpenClaim := { program := "ytfhblnbicnmndaa", sum := "5287ecd1954abde04dcd29dff6ec3b31b2b6fa7016cc6435bf7531476c84fd22", func := "loop.example/g00488/laws.FnExactErrors", spec := "fnExactErrors", apart := false }
def FnExactErrorsSaid : Prop := fnExactErrorsRow.holds Try.pinned (OpenSpec.ofChange fnExactErrorsSpec)

/-- ITS FALSE NEIGHBOUR: 'it returns false'. Refute it at one input. -/
def fnExactErrorsWrong : ChangeSpec := { name := "fnExactErrors", fn := fun _ => fun
  | [d] => { results := [.lit (.bool false)], args := [d] }
  | _ => none }
def FnExactErrorsWrongFalsely : Prop := fnExactErrorsRow.holds Try.pinned (OpenSpec.ofChange fnExactErrorsWrong)

/-- 'laws.FnExactOpposite': WHATEVER THE INPUT: true; the input reads as it did. -/
def fnExactOppositeSpec : ChangeSpec := { name := "fnExactOpposite", fn := fun _ => fun
  | [d] => { results := [.lit (.bool true)], args := [d] }
  | _ => none }
def fnExactOppositeRow : OpenClaim := { program := "ytfhblnbicnmndaa", sum := "5287ecd1954abde04dcd29dff6ec3b31b2b6fa7016cc6435bf7531476c84fd22", func := "loop.example/g00488/laws.FnExactOpposite", spec := "fnExactOpposite", recurses := true, loops := true, apart := false }
def FnExactOppositeSaid : Prop := fnExactOppositeRow.holds Try.pinned (OpenSpec.ofChange fnExactOppositeSpec)

/-- ITS FALSE NEIGHBOUR: 'it returns false'. Refute it at one input. -/
def fnExactOppositeWrong : ChangeSpec := { name := "fnExactOpposite", fn := fun _ => fun
  | [d] => { results := [.lit (.bool false)], args := [d] }
  | _ => none }
def FnExactOppositeWrongFalsely : Prop := fnExactOppositeRow.holds Try.pinned (OpenSpec.ofChange fnExactOppositeWrong)

/-- 'laws.FnExactOlder': WHATEVER THE INPUT: true; the input reads as it did. -/
def fnExactOlderSpec : ChangeSpec := { name := "fnExactOlder", fn := fun _ => fun
  | [d1, d2] => { results := [.lit (.bool true)], args := [d1, d2] }
  | _ => none }
def fnExactOlderRow : OpenClaim := { program := "ytfhblnbicnmndaa", sum := "5287ecd1954abde04dcd29dff6ec3b31b2b6fa7016cc6435bf7531476c84fd22", func := "loop.example/g00488/laws.FnExactOlder", spec := "fnExactOlder", apart := false }
def FnExactOlderSaid : Prop := fnExactOlderRow.holds Try.pinned (OpenSpec.ofChange fnExactOlderSpec)

/-- ITS FALSE NEIGHBOUR: 'it returns false'. Refute it at one input. -/
def fnExactOlderWrong : ChangeSpec := { name := "fnExactOlder", fn := fun _ => fun
  | [d1, d2] => { results := [.lit (.bool false)], args := [d1, d2] }
  | _ => none }
def FnExactOlderWrongFalsely : Prop := fnExactOlderRow.holds Try.pinned (OpenSpec.ofChange fnExactOlderWrong)

/-- 'laws.FnExactPolOk': WHATEVER THE INPUT: true; the input reads as it did. -/
def fnExactPolOkSpec : ChangeSpec := { name := "fnExactPolOk", fn := fun _ => fun
  | [d] => { results := [.lit (.bool true)], args := [d] }
  | _ => none }
def fnExactPolOkRow : OpenClaim := { program := "ytfhblnbicnmndaa", sum := "5287ecd1954abde04dcd29dff6ec3b31b2b6fa7016cc6435bf7531476c84fd22", func := "loop.example/g00488/laws.FnExactPolOk", spec := "fnExactPolOk", recurses := true, loops := true, apart := false }
def FnExactPolOkSaid : Prop := fnExactPolOkRow.holds Try.pinned (OpenSpec.ofChange fnExactPolOkSpec)

/-- ITS FALSE NEIGHBOUR: 'it returns false'. Refute it at one input. -/
def fnExactPolOkWrong : ChangeSpec := { name := "fnExactPolOk", fn := fun _ => fun
  | [d] => { results := [.lit (.bool false)], args := [d] }
  | _ => none }
def FnExactPolOkWrongFalsely : Prop := fnExactPolOkRow.holds Try.pinned (OpenSpec.ofChange fnExactPolOkWrong)

/-- 'laws.FnExactWants': WHATEVER THE INPUT: true; the input reads as it did. -/
def fnExactWantsSpec : ChangeSpec := { name := "fnExactWants", fn := fun _ => fun
  | [d1, d2, d3] => { results := [.lit (.bool true)], args := [d1, d2, d3] }
  | _ => none }
def fnExactWantsRow : OpenClaim := { program := "ytfhblnbicnmndaa", sum := "5287ecd1954abde04dcd29dff6ec3b31b2b6fa7016cc6435bf7531476c84fd22", func := "loop.example/g00488/laws.FnExactWants", spec := "fnExactWants", unfollowed := true, recurses := true, loops := true, apart := false }
def FnExactWantsSaid : Prop := fnExactWantsRow.holds Try.pinned (OpenSpec.ofChange fnExactWantsSpec)

/-- ITS FALSE NEIGHBOUR: 'it returns false'. Refute it at one input. -/
def fnExactWantsWrong : ChangeSpec := { name := "fnExactWants", fn := fun _ => fun
  | [d1, d2, d3] => { results := [.lit (.bool false)], args := [d1, d2, d3] }
  | _ => none }
def FnExactWantsWrongFalsely : Prop := fnExactWantsRow.holds Try.pinned (OpenSpec.ofChange fnExactWantsWrong)

/-- 'laws.FnExactJudge': WHATEVER THE INPUT: true; the input reads as it did. -/
def fnExactJudgeSpec : ChangeSpec := { name := "fnExactJudge", fn := fun _ => fun
  | [d1, d2, d3] => { results := [.lit (.bool true)], args := [d1, d2, d3] }
  | _ => none }
def fnExactJudgeRow : OpenClaim := { program := "ytfhblnbicnmndaa", sum := "5287ecd1954abde04dcd29dff6ec3b31b2b6fa7016cc6435bf7531476c84fd22", func := "loop.example/g00488/laws.FnExactJudge", spec := "fnExactJudge", unfollowed := true, recurses := true, loops := true, apart := false }
def FnExactJudgeSaid : Prop := fnExactJudgeRow.holds Try.pinned (OpenSpec.ofChange fnExactJudgeSpec)

/-- ITS FALSE NEIGHBOUR: 'it returns false'. Refute it at one input. -/
def fnExactJudgeWrong : ChangeSpec := { name := "fnExactJudge", fn := fun _ => fun
  | [d1, d2, d3] => { results := [.lit (.bool false)], args := [d1, d2, d3] }
  | _ => none }
def FnExactJudgeWrongFalsely : Prop := fnExactJudgeRow.holds Try.pinned (OpenSpec.ofChange fnExactJudgeWrong)

/-- 'laws.FnJudges': WHATEVER THE INPUT: true; the input reads as it did. -/
def fnJudgesSpec : ChangeSpec := { name := "fnJudges", fn := fun _ => fun
  | [d] => { results := [.lit (.bool true)], args := [d] }
  | _ => none }
def fnJudgesRow : OpenClaim := { program := "ytfhblnbicnmndaa", sum := "5287ecd1954abde04dcd29dff6ec3b31b2b6fa7016cc6435bf7531476c84fd22", func := "loop.example/g00488/laws.FnJudges", spec := "fnJudges", unfollowed := true, recurses := true, apart := false }
def FnJudgesSaid : Prop := fnJudgesRow.holds Try.pinned (OpenSpec.ofChange fnJudgesSpec)

/-- ITS FALSE NEIGHBOUR: 'it returns false'. Refute it at one input. -/
def fnJudgesWrong : ChangeSpec := { name := "fnJudges", fn := fun _ => fun
  | [d] => { results := [.lit (.bool false)], args := [d] }
  | _ => none }
def FnJudgesWrongFalsely : Prop := fnJudgesRow.holds Try.pinned (OpenSpec.ofChange fnJudgesWrong)

/- THE SECOND FORM. 'bulk': how many values and letters a reading holds, each counted each time it is reached (what is shared counts as often as it is met; a slice's spare places count too). A statement '..UptoSaid' is the law's where the arguments, and the package variables that the reading takes, are together of bulk at most 1048576: NARROWER than '..Said'. Prove '..Said' where nothing that the law and all that it calls make is longer than what came in: it says more and counts as full. Else prove '..UptoSaid'. A law counts once. -/
mutual
def uptoBulk {H : Type} : DataW H → Nat
  | .lit (.string bytes) => bytes.length + 1
  | .lit _ => 1
  | .nil => 1
  | .ptr d => uptoBulk d + 1
  | .slice elems spare => uptoBulkAll elems + uptoBulkAll spare + 1
  | .agg parts => uptoBulkAll parts + 1
  | .iface _ d => uptoBulk d + 1
  | .map entries => uptoBulkEntries entries + 1
  | .held _ => 1
def uptoBulkAll {H : Type} : List (DataW H) → Nat
  | [] => 0
  | d :: r => uptoBulk d + uptoBulkAll r
def uptoBulkEntries {H : Type} : List (Lit × DataW H) → Nat
  | [] => 0
  | x :: r => uptoBulkEntry x + uptoBulkEntries r
def uptoBulkEntry {H : Type} : Lit × DataW H → Nat
  | (.string bytes, d) => bytes.length + uptoBulk d + 1
  | (_, d) => uptoBulk d + 1
 end
def uptoSmall : (H : Type) → List (DataW H) → Bool := fun _ ds => decide (uptoBulkAll ds ≤ 1048576)
def OpenSpec.upto (s : _root_.Go.ChangeSpec) : _root_.Go.OpenSpec := { _root_.Go.OpenSpec.ofChange s with cond := some uptoSmall }

/-- 'laws.FnExactPolCount', WHERE WHAT IT READS IS OF BULK AT MOST 1048576: true; the input reads as it did. -/
def fnExactPolCountUptoRow : OpenClaim := { program := "ytfhblnbicnmndaa", sum := "5287ecd1954abde04dcd29dff6ec3b31b2b6fa7016cc6435bf7531476c84fd22", func := "loop.example/g00488/laws.FnExactPolCount", spec := "fnExactPolCount", recurses := true, loops := true, apart := false, narrowed := true }
def FnExactPolCountUptoSaid : Prop := fnExactPolCountUptoRow.holds Try.pinned (OpenSpec.upto fnExactPolCountSpec)

/-- 'laws.FnExactHasRate', WHERE WHAT IT READS IS OF BULK AT MOST 1048576: true; the input reads as it did. -/
def fnExactHasRateUptoRow : OpenClaim := { program := "ytfhblnbicnmndaa", sum := "5287ecd1954abde04dcd29dff6ec3b31b2b6fa7016cc6435bf7531476c84fd22", func := "loop.example/g00488/laws.FnExactHasRate", spec := "fnExactHasRate", unfollowed := true, recurses := true, loops := true, apart := false, narrowed := true }
def FnExactHasRateUptoSaid : Prop := fnExactHasRateUptoRow.holds Try.pinned (OpenSpec.upto fnExactHasRateSpec)

/-- 'laws.FnExactSamePol', WHERE WHAT IT READS IS OF BULK AT MOST 1048576: true; the input reads as it did. -/
def fnExactSamePolUptoRow : OpenClaim := { program := "ytfhblnbicnmndaa", sum := "5287ecd1954abde04dcd29dff6ec3b31b2b6fa7016cc6435bf7531476c84fd22", func := "loop.example/g00488/laws.FnExactSamePol", spec := "fnExactSamePol", unfollowed := true, recurses := true, loops := true, apart := false, narrowed := true }
def FnExactSamePolUptoSaid : Prop := fnExactSamePolUptoRow.holds Try.pinned (OpenSpec.upto fnExactSamePolSpec)

/-- 'laws.FnExactErrors', WHERE WHAT IT READS IS OF BULK AT MOST 1048576: true; the input reads as it did. -/
def fnExactErrorsUptoRow : OpenClaim := { program := "ytfhblnbicnmndaa", sum := "5287ecd1954abde04dcd29dff6ec3b31b2b6fa7016cc6435bf7531476c84fd22", func := "loop.example/g00488/laws.FnExactErrors", spec := "fnExactErrors", apart := false, narrowed := true }
def FnExactErrorsUptoSaid : Prop := fnExactErrorsUptoRow.holds Try.pinned (OpenSpec.upto fnExactErrorsSpec)

/-- 'laws.FnExactOpposite', WHERE WHAT IT READS IS OF BULK AT MOST 1048576: true; the input reads as it did. -/
def fnExactOppositeUptoRow : OpenClaim := { program := "ytfhblnbicnmndaa", sum := "5287ecd1954abde04dcd29dff6ec3b31b2b6fa7016cc6435bf7531476c84fd22", func := "loop.example/g00488/laws.FnExactOpposite", spec := "fnExactOpposite", recurses := true, loops := true, apart := false, narrowed := true }
def FnExactOppositeUptoSaid : Prop := fnExactOppositeUptoRow.holds Try.pinned (OpenSpec.upto fnExactOppositeSpec)

/-- 'laws.FnExactOlder', WHERE WHAT IT READS IS OF BULK AT MOST 1048576: true; the input reads as it did. -/
def fnExactOlderUptoRow : OpenClaim := { program := "ytfhblnbicnmndaa", sum := "5287ecd1954abde04dcd29dff6ec3b31b2b6fa7016cc6435bf7531476c84fd22", func := "loop.example/g00488/laws.FnExactOlder", spec := "fnExactOlder", apart := false, narrowed := true }
def FnExactOlderUptoSaid : Prop := fnExactOlderUptoRow.holds Try.pinned (OpenSpec.upto fnExactOlderSpec)

/-- 'laws.FnExactPolOk', WHERE WHAT IT READS IS OF BULK AT MOST 1048576: true; the input reads as it did. -/
def fnExactPolOkUptoRow : OpenClaim := { program := "ytfhblnbicnmndaa", sum := "5287ecd1954abde04dcd29dff6ec3b31b2b6fa7016cc6435bf7531476c84fd22", func := "loop.example/g00488/laws.FnExactPolOk", spec := "fnExactPolOk", recurses := true, loops := true, apart := false, narrowed := true }
def FnExactPolOkUptoSaid : Prop := fnExactPolOkUptoRow.holds Try.pinned (OpenSpec.upto fnExactPolOkSpec)

/-- 'laws.FnExactWants', WHERE WHAT IT READS IS OF BULK AT MOST 1048576: true; the input reads as it did. -/
def fnExactWantsUptoRow : OpenClaim := { program := "ytfhblnbicnmndaa", sum := "5287ecd1954abde04dcd29dff6ec3b31b2b6fa7016cc6435bf7531476c84fd22", func := "loop.example/g00488/laws.FnExactWants", spec := "fnExactWants", unfollowed := true, recurses := true, loops := true, apart := false, narrowed := true }
def FnExactWantsUptoSaid : Prop := fnExactWantsUptoRow.holds Try.pinned (OpenSpec.upto fnExactWantsSpec)

/-- 'laws.FnExactJudge', WHERE WHAT IT READS IS OF BULK AT MOST 1048576: true; the input reads as it did. -/
def fnExactJudgeUptoRow : OpenClaim := { program := "ytfhblnbicnmndaa", sum := "5287ecd1954abde04dcd29dff6ec3b31b2b6fa7016cc6435bf7531476c84fd22", func := "loop.example/g00488/laws.FnExactJudge", spec := "fnExactJudge", unfollowed := true, recurses := true, loops := true, apart := false, narrowed := true }
def FnExactJudgeUptoSaid : Prop := fnExactJudgeUptoRow.holds Try.pinned (OpenSpec.upto fnExactJudgeSpec)

/-- 'laws.FnJudges', WHERE WHAT IT READS IS OF BULK AT MOST 1048576: true; the input reads as it did. -/
def fnJudgesUptoRow : OpenClaim := { program := "ytfhblnbicnmndaa", sum := "5287ecd1954abde04dcd29dff6ec3b31b2b6fa7016cc6435bf7531476c84fd22", func := "loop.example/g00488/laws.FnJudges", spec := "fnJudges", unfollowed := true, recurses := true, apart := false, narrowed := true }
def FnJudgesUptoSaid : Prop := fnJudgesUptoRow.holds Try.pinned (OpenSpec.upto fnJudgesSpec)

end Rows
end Go.Proofs.Ytfhblnbicnmndaa
