/-
  No cell of these rows narrows 'for every input' (looked for: loops, veiled, ifaces, maps, wideKeys, modest, calm, conditions, laid).
  DERIVED. THE GIVEN ROWS OF THIS SEAT. 12 by the template 'for every input the law returns true; each argument reads behind the call as it read before'; 0 by the template 'total and deterministic' (their statements: YteiabkojcfjldaaTotals.lean).
  GIVEN WITH THE SEED: the statements are not yours to turn. If you find one false, say at which input.
  Laid BY PROGRAM, IN A SANDBOX (cutbox-rows.mjs): the forced cells as the released guide's own fill.sh prints them over the translation a38eed45f1c1d072… (all of the seat's roots in one cut). By AI agents, Wed Nov 11 2026. No macro, syntax, notation, axiom, sorry.
-/
import Derived.Test.YteiabkojcfjldaaChecked
import GoSem.Claim
import GoSem.ClaimJoined
import GoSem.ClaimMapViews
import Derived.JoinedTies
import Derived.KernelRfl
namespace Go.Proofs.Yteiabkojcfjldaa
/- THE CELL 'sum', in the pinned program and in every row, IS THE sha256 OF THE DUMP (.gsa) THAT YteiabkojcfjldaaProg.lean LOADS. Nothing in Lean hashes anything: it is a label: what it is worth is what the hold of that sum in a sandbox is worth. -/
noncomputable def Try.pinned : Pinned := { name := "yteiabkojcfjldaa", sum := "a38eed45f1c1d0726e0d14462b6bd71b015d7a26d7048c02766430320a7d45e8", checked := Try.checked }
namespace Rows
def none {H : Type} : Left H := { results := [], args := [] }

/-- 'laws.FnExactAttrSize': WHATEVER THE INPUT: true; the input reads as it did. -/
def fnExactAttrSizeSpec : ChangeSpec := { name := "fnExactAttrSize", fn := fun _ => fun
  | [d] => { results := [.lit (.bool true)], args := [d] }
  | _ => none }
def fnExactAttrSizeRow : OpenClaim := { program := "yteiabkojcfjldaa", sum := "a38eed45f1c1d0726e0d14462b6bd71b015d7a26d7048c02766430320a7d45e8", func := "loop.example/g00488/laws.FnExactAttrSize", spec := "fnExactAttrSize", apart := false }
def FnExactAttrSizeSaid : Prop := fnExactAttrSizeRow.holds Try.pinned (OpenSpec.ofChange fnExactAttrSizeSpec)

/-- ITS FALSE NEIGHBOUR: 'it returns false'. Refute it at one input. -/
def fnExactAttrSizeWrong : ChangeSpec := { name := "fnExactAttrSize", fn := fun _ => fun
  | [d] => { results := [.lit (.bool false)], args := [d] }
  | _ => none }
def FnExactAttrSizeWrongFalsely : Prop := fnExactAttrSizeRow.holds Try.pinned (OpenSpec.ofChange fnExactAttrSizeWrong)

/-- 'laws.FnExactSpend': WHATEVER THE INPUT: true; the input reads as it did. -/
def fnExactSpendSpec : ChangeSpec := { name := "fnExactSpend", fn := fun _ => fun
  | [d1, d2] => { results := [.lit (.bool true)], args := [d1, d2] }
  | _ => none }
def fnExactSpendRow : OpenClaim := { program := "yteiabkojcfjldaa", sum := "a38eed45f1c1d0726e0d14462b6bd71b015d7a26d7048c02766430320a7d45e8", func := "loop.example/g00488/laws.FnExactSpend", spec := "fnExactSpend", apart := false }
def FnExactSpendSaid : Prop := fnExactSpendRow.holds Try.pinned (OpenSpec.ofChange fnExactSpendSpec)

/-- ITS FALSE NEIGHBOUR: 'it returns false'. Refute it at one input. -/
def fnExactSpendWrong : ChangeSpec := { name := "fnExactSpend", fn := fun _ => fun
  | [d1, d2] => { results := [.lit (.bool false)], args := [d1, d2] }
  | _ => none }
def FnExactSpendWrongFalsely : Prop := fnExactSpendRow.holds Try.pinned (OpenSpec.ofChange fnExactSpendWrong)

/-- 'laws.FnExactRefill': WHATEVER THE INPUT: true; the input reads as it did. -/
def fnExactRefillSpec : ChangeSpec := { name := "fnExactRefill", fn := fun _ => fun
  | [d1, d2] => { results := [.lit (.bool true)], args := [d1, d2] }
  | _ => none }
def fnExactRefillRow : OpenClaim := { program := "yteiabkojcfjldaa", sum := "a38eed45f1c1d0726e0d14462b6bd71b015d7a26d7048c02766430320a7d45e8", func := "loop.example/g00488/laws.FnExactRefill", spec := "fnExactRefill", apart := false }
def FnExactRefillSaid : Prop := fnExactRefillRow.holds Try.pinned (OpenSpec.ofChange fnExactRefillSpec)

/-- ITS FALSE NEIGHBOUR: 'it returns false'. Refute it at one input. -/
def fnExactRefillWrong : ChangeSpec := { name := "fnExactRefill", fn := fun _ => fun
  | [d1, d2] => { results := [.lit (.bool false)], args := [d1, d2] }
  | _ => none }
def FnExactRefillWrongFalsely : Prop := fnExactRefillRow.holds Try.pinned (OpenSpec.ofChange fnExactRefillWrong)

/-- 'laws.FnExactAttrOk': WHATEVER THE INPUT: true; the input reads as it did. -/
def fnExactAttrOkSpec : ChangeSpec := { name := "fnExactAttrOk", fn := fun _ => fun
  | [d] => { results := [.lit (.bool true)], args := [d] }
  | _ => none }
def fnExactAttrOkRow : OpenClaim := { program := "yteiabkojcfjldaa", sum := "a38eed45f1c1d0726e0d14462b6bd71b015d7a26d7048c02766430320a7d45e8", func := "loop.example/g00488/laws.FnExactAttrOk", spec := "fnExactAttrOk", apart := false }
def FnExactAttrOkSaid : Prop := fnExactAttrOkRow.holds Try.pinned (OpenSpec.ofChange fnExactAttrOkSpec)

/-- ITS FALSE NEIGHBOUR: 'it returns false'. Refute it at one input. -/
def fnExactAttrOkWrong : ChangeSpec := { name := "fnExactAttrOk", fn := fun _ => fun
  | [d] => { results := [.lit (.bool false)], args := [d] }
  | _ => none }
def FnExactAttrOkWrongFalsely : Prop := fnExactAttrOkRow.holds Try.pinned (OpenSpec.ofChange fnExactAttrOkWrong)

/-- 'laws.FnAmounts': WHATEVER THE INPUT: true; the input reads as it did. -/
def fnAmountsSpec : ChangeSpec := { name := "fnAmounts", fn := fun _ => fun
  | [d] => { results := [.lit (.bool true)], args := [d] }
  | _ => none }
def fnAmountsRow : OpenClaim := { program := "yteiabkojcfjldaa", sum := "a38eed45f1c1d0726e0d14462b6bd71b015d7a26d7048c02766430320a7d45e8", func := "loop.example/g00488/laws.FnAmounts", spec := "fnAmounts", apart := false }
def FnAmountsSaid : Prop := fnAmountsRow.holds Try.pinned (OpenSpec.ofChange fnAmountsSpec)

/-- ITS FALSE NEIGHBOUR: 'it returns false'. Refute it at one input. -/
def fnAmountsWrong : ChangeSpec := { name := "fnAmounts", fn := fun _ => fun
  | [d] => { results := [.lit (.bool false)], args := [d] }
  | _ => none }
def FnAmountsWrongFalsely : Prop := fnAmountsRow.holds Try.pinned (OpenSpec.ofChange fnAmountsWrong)

/-- 'laws.FnExactFindAttr': WHATEVER THE INPUT: true; the input reads as it did. -/
def fnExactFindAttrSpec : ChangeSpec := { name := "fnExactFindAttr", fn := fun _ => fun
  | [d1, d2] => { results := [.lit (.bool true)], args := [d1, d2] }
  | _ => none }
def fnExactFindAttrRow : OpenClaim := { program := "yteiabkojcfjldaa", sum := "a38eed45f1c1d0726e0d14462b6bd71b015d7a26d7048c02766430320a7d45e8", func := "loop.example/g00488/laws.FnExactFindAttr", spec := "fnExactFindAttr", apart := false }
def FnExactFindAttrSaid : Prop := fnExactFindAttrRow.holds Try.pinned (OpenSpec.ofChange fnExactFindAttrSpec)

/-- ITS FALSE NEIGHBOUR: 'it returns false'. Refute it at one input. -/
def fnExactFindAttrWrong : ChangeSpec := { name := "fnExactFindAttr", fn := fun _ => fun
  | [d1, d2] => { results := [.lit (.bool false)], args := [d1, d2] }
  | _ => none }
def FnExactFindAttrWrongFalsely : Prop := fnExactFindAttrRow.holds Try.pinned (OpenSpec.ofChange fnExactFindAttrWrong)

/-- 'laws.FnExactSpread': WHATEVER THE INPUT: true; the input reads as it did. -/
def fnExactSpreadSpec : ChangeSpec := { name := "fnExactSpread", fn := fun _ => fun
  | [d1, d2] => { results := [.lit (.bool true)], args := [d1, d2] }
  | _ => none }
def fnExactSpreadRow : OpenClaim := { program := "yteiabkojcfjldaa", sum := "a38eed45f1c1d0726e0d14462b6bd71b015d7a26d7048c02766430320a7d45e8", func := "loop.example/g00488/laws.FnExactSpread", spec := "fnExactSpread", apart := false }
def FnExactSpreadSaid : Prop := fnExactSpreadRow.holds Try.pinned (OpenSpec.ofChange fnExactSpreadSpec)

/-- ITS FALSE NEIGHBOUR: 'it returns false'. Refute it at one input. -/
def fnExactSpreadWrong : ChangeSpec := { name := "fnExactSpread", fn := fun _ => fun
  | [d1, d2] => { results := [.lit (.bool false)], args := [d1, d2] }
  | _ => none }
def FnExactSpreadWrongFalsely : Prop := fnExactSpreadRow.holds Try.pinned (OpenSpec.ofChange fnExactSpreadWrong)

/-- 'laws.FnExactAttrsOk': WHATEVER THE INPUT: true; the input reads as it did. -/
def fnExactAttrsOkSpec : ChangeSpec := { name := "fnExactAttrsOk", fn := fun _ => fun
  | [d] => { results := [.lit (.bool true)], args := [d] }
  | _ => none }
def fnExactAttrsOkRow : OpenClaim := { program := "yteiabkojcfjldaa", sum := "a38eed45f1c1d0726e0d14462b6bd71b015d7a26d7048c02766430320a7d45e8", func := "loop.example/g00488/laws.FnExactAttrsOk", spec := "fnExactAttrsOk", apart := false }
def FnExactAttrsOkSaid : Prop := fnExactAttrsOkRow.holds Try.pinned (OpenSpec.ofChange fnExactAttrsOkSpec)

/-- ITS FALSE NEIGHBOUR: 'it returns false'. Refute it at one input. -/
def fnExactAttrsOkWrong : ChangeSpec := { name := "fnExactAttrsOk", fn := fun _ => fun
  | [d] => { results := [.lit (.bool false)], args := [d] }
  | _ => none }
def FnExactAttrsOkWrongFalsely : Prop := fnExactAttrsOkRow.holds Try.pinned (OpenSpec.ofChange fnExactAttrsOkWrong)

/-- 'laws.FnStripes': WHATEVER THE INPUT: true; the input reads as it did. -/
def fnStripesSpec : ChangeSpec := { name := "fnStripes", fn := fun _ => fun
  | [d] => { results := [.lit (.bool true)], args := [d] }
  | _ => none }
def fnStripesRow : OpenClaim := { program := "yteiabkojcfjldaa", sum := "a38eed45f1c1d0726e0d14462b6bd71b015d7a26d7048c02766430320a7d45e8", func := "loop.example/g00488/laws.FnStripes", spec := "fnStripes", apart := false }
def FnStripesSaid : Prop := fnStripesRow.holds Try.pinned (OpenSpec.ofChange fnStripesSpec)

/-- ITS FALSE NEIGHBOUR: 'it returns false'. Refute it at one input. -/
def fnStripesWrong : ChangeSpec := { name := "fnStripes", fn := fun _ => fun
  | [d] => { results := [.lit (.bool false)], args := [d] }
  | _ => none }
def FnStripesWrongFalsely : Prop := fnStripesRow.holds Try.pinned (OpenSpec.ofChange fnStripesWrong)

/-- 'laws.FnBuckets': WHATEVER THE INPUT: true; the input reads as it did. -/
def fnBucketsSpec : ChangeSpec := { name := "fnBuckets", fn := fun _ => fun
  | [d] => { results := [.lit (.bool true)], args := [d] }
  | _ => none }
def fnBucketsRow : OpenClaim := { program := "yteiabkojcfjldaa", sum := "a38eed45f1c1d0726e0d14462b6bd71b015d7a26d7048c02766430320a7d45e8", func := "loop.example/g00488/laws.FnBuckets", spec := "fnBuckets", apart := false }
def FnBucketsSaid : Prop := fnBucketsRow.holds Try.pinned (OpenSpec.ofChange fnBucketsSpec)

/-- ITS FALSE NEIGHBOUR: 'it returns false'. Refute it at one input. -/
def fnBucketsWrong : ChangeSpec := { name := "fnBuckets", fn := fun _ => fun
  | [d] => { results := [.lit (.bool false)], args := [d] }
  | _ => none }
def FnBucketsWrongFalsely : Prop := fnBucketsRow.holds Try.pinned (OpenSpec.ofChange fnBucketsWrong)

/-- 'laws.FnExactLengthOf': WHATEVER THE INPUT: true; the input reads as it did. -/
def fnExactLengthOfSpec : ChangeSpec := { name := "fnExactLengthOf", fn := fun _ => fun
  | [d] => { results := [.lit (.bool true)], args := [d] }
  | _ => none }
def fnExactLengthOfRow : OpenClaim := { program := "yteiabkojcfjldaa", sum := "a38eed45f1c1d0726e0d14462b6bd71b015d7a26d7048c02766430320a7d45e8", func := "loop.example/g00488/laws.FnExactLengthOf", spec := "fnExactLengthOf", apart := false }
def FnExactLengthOfSaid : Prop := fnExactLengthOfRow.holds Try.pinned (OpenSpec.ofChange fnExactLengthOfSpec)

/-- ITS FALSE NEIGHBOUR: 'it returns false'. Refute it at one input. -/
def fnExactLengthOfWrong : ChangeSpec := { name := "fnExactLengthOf", fn := fun _ => fun
  | [d] => { results := [.lit (.bool false)], args := [d] }
  | _ => none }
def FnExactLengthOfWrongFalsely : Prop := fnExactLengthOfRow.holds Try.pinned (OpenSpec.ofChange fnExactLengthOfWrong)

/-- 'laws.FnExactSizeOf': WHATEVER THE INPUT: true; the input reads as it did. -/
def fnExactSizeOfSpec : ChangeSpec := { name := "fnExactSizeOf", fn := fun _ => fun
  | [d] => { results := [.lit (.bool true)], args := [d] }
  | _ => none }
def fnExactSizeOfRow : OpenClaim := { program := "yteiabkojcfjldaa", sum := "a38eed45f1c1d0726e0d14462b6bd71b015d7a26d7048c02766430320a7d45e8", func := "loop.example/g00488/laws.FnExactSizeOf", spec := "fnExactSizeOf", apart := false }
def FnExactSizeOfSaid : Prop := fnExactSizeOfRow.holds Try.pinned (OpenSpec.ofChange fnExactSizeOfSpec)

/-- ITS FALSE NEIGHBOUR: 'it returns false'. Refute it at one input. -/
def fnExactSizeOfWrong : ChangeSpec := { name := "fnExactSizeOf", fn := fun _ => fun
  | [d] => { results := [.lit (.bool false)], args := [d] }
  | _ => none }
def FnExactSizeOfWrongFalsely : Prop := fnExactSizeOfRow.holds Try.pinned (OpenSpec.ofChange fnExactSizeOfWrong)

/- THE SECOND FORM. 'bulk': how many values and letters a reading holds, each counted each time it is reached (what is shared counts as often as it is met; a slice's spare places count too). A statement '..UptoSaid' is the law's where the arguments, and the package variables that the reading takes, are together of bulk at most 1048576: NARROWER than '..Said'. Prove '..Said' where nothing that the law and all that it calls make is longer than what came in: it says more and counts as full. Else prove '..UptoSaid'. A law counts once. -/
mutual
def uptoBulk {H : Type} : DataW H → Nat
  | .lit (.string bytes) => bytes.length + 1
  | .lit _ => 1
  | .nil => 1
  | .ptr d => uptoBulk d + 1
  | .slice elems spare => uptoBulkAll elems + uptoBulkAll spare + 1
  | .agg parts => uptoBulkAll parts + 1
  | .iface _ d => uptoBulk d + 1
  | .map entries => uptoBulkEntries entries + 1
  | .held _ => 1
def uptoBulkAll {H : Type} : List (DataW H) → Nat
  | [] => 0
  | d :: r => uptoBulk d + uptoBulkAll r
def uptoBulkEntries {H : Type} : List (Lit × DataW H) → Nat
  | [] => 0
  | x :: r => uptoBulkEntry x + uptoBulkEntries r
def uptoBulkEntry {H : Type} : Lit × DataW H → Nat
  | (.string bytes, d) => bytes.length + uptoBulk d + 1
  | (_, d) => uptoBulk d + 1
 end
def uptoSmall : (H : Type) → List (DataW H) → Bool := fun _ ds => decide (uptoBulkAll ds ≤ 1048576)
def OpenSpec.upto (s : _root_.Go.ChangeSpec) : _root_.Go.OpenSpec := { _root_.Go.OpenSpec.ofChange s with cond := some uptoSmall }

/-- 'laws.FnExactAttrSize', WHERE WHAT IT READS IS OF BULK AT MOST 1048576: true; the input reads as it did. -/
def fnExactAttrSizeUptoRow : OpenClaim := { program := "yteiabkojcfjldaa", sum := "a38eed45f1c1d0726e0d14462b6bd71b015d7a26d7048c02766430320a7d45e8", func := "loop.example/g00488/laws.FnExactAttrSize", spec := "fnExactAttrSize", apart := false, narrowed := true }
def FnExactAttrSizeUptoSaid : Prop := fnExactAttrSizeUptoRow.holds Try.pinned (OpenSpec.upto fnExactAttrSizeSpec)

/-- 'laws.FnExactSpend', WHERE WHAT IT READS IS OF BULK AT MOST 1048576: true; the input reads as it did. -/
def fnExactSpendUptoRow : OpenClaim := { program := "yteiabkojcfjldaa", sum := "a38eed45f1c1d0726e0d14462b6bd71b015d7a26d7048c02766430320a7d45e8", func := "loop.example/g00488/laws.FnExactSpend", spec := "fnExactSpend", apart := false, narrowed := true }
def FnExactSpendUptoSaid : Prop := fnExactSpendUptoRow.holds Try.pinned (OpenSpec.upto fnExactSpendSpec)

/-- 'laws.FnExactRefill', WHERE WHAT IT READS IS OF BULK AT MOST 1048576: true; the input reads as it did. -/
def fnExactRefillUptoRow : OpenClaim := { program := "yteiabkojcfjldaa", sum := "a38eed45f1c1d0726e0d14462b6bd71b015d7a26d7048c02766430320a7d45e8", func := "loop.example/g00488/laws.FnExactRefill", spec := "fnExactRefill", apart := false, narrowed := true }
def FnExactRefillUptoSaid : Prop := fnExactRefillUptoRow.holds Try.pinned (OpenSpec.upto fnExactRefillSpec)

/-- 'laws.FnExactAttrOk', WHERE WHAT IT READS IS OF BULK AT MOST 1048576: true; the input reads as it did. -/
def fnExactAttrOkUptoRow : OpenClaim := { program := "yteiabkojcfjldaa", sum := "a38eed45f1c1d0726e0d14462b6bd71b015d7a26d7048c02766430320a7d45e8", func := "loop.example/g00488/laws.FnExactAttrOk", spec := "fnExactAttrOk", apart := false, narrowed := true }
def FnExactAttrOkUptoSaid : Prop := fnExactAttrOkUptoRow.holds Try.pinned (OpenSpec.upto fnExactAttrOkSpec)

/-- 'laws.FnAmounts', WHERE WHAT IT READS IS OF BULK AT MOST 1048576: true; the input reads as it did. -/
def fnAmountsUptoRow : OpenClaim := { program := "yteiabkojcfjldaa", sum := "a38eed45f1c1d0726e0d14462b6bd71b015d7a26d7048c02766430320a7d45e8", func := "loop.example/g00488/laws.FnAmounts", spec := "fnAmounts", apart := false, narrowed := true }
def FnAmountsUptoSaid : Prop := fnAmountsUptoRow.holds Try.pinned (OpenSpec.upto fnAmountsSpec)

/-- 'laws.FnExactFindAttr', WHERE WHAT IT READS IS OF BULK AT MOST 1048576: true; the input reads as it did. -/
def fnExactFindAttrUptoRow : OpenClaim := { program := "yteiabkojcfjldaa", sum := "a38eed45f1c1d0726e0d14462b6bd71b015d7a26d7048c02766430320a7d45e8", func := "loop.example/g00488/laws.FnExactFindAttr", spec := "fnExactFindAttr", apart := false, narrowed := true }
def FnExactFindAttrUptoSaid : Prop := fnExactFindAttrUptoRow.holds Try.pinned (OpenSpec.upto fnExactFindAttrSpec)

/-- 'laws.FnExactSpread', WHERE WHAT IT READS IS OF BULK AT MOST 1048576: true; the input reads as it did. -/
def fnExactSpreadUptoRow : OpenClaim := { program := "yteiabkojcfjldaa", sum := "a38eed45f1c1d0726e0d14462b6bd71b015d7a26d7048c02766430320a7d45e8", func := "loop.example/g00488/laws.FnExactSpread", spec := "fnExactSpread", apart := false, narrowed := true }
def FnExactSpreadUptoSaid : Prop := fnExactSpreadUptoRow.holds Try.pinned (OpenSpec.upto fnExactSpreadSpec)

/-- 'laws.FnExactAttrsOk', WHERE WHAT IT READS IS OF BULK AT MOST 1048576: true; the input reads as it did. -/
def fnExactAttrsOkUptoRow : OpenClaim := { program := "yteiabkojcfjldaa", sum := "a38eed45f1c1d0726e0d14462b6bd71b015d7a26d7048c02766430320a7d45e8", func := "loop.example/g00488/laws.FnExactAttrsOk", spec := "fnExactAttrsOk", apart := false, narrowed := true }
def FnExactAttrsOkUptoSaid : Prop := fnExactAttrsOkUptoRow.holds Try.pinned (OpenSpec.upto fnExactAttrsOkSpec)

/-- 'laws.FnStripes', WHERE WHAT IT READS IS OF BULK AT MOST 1048576: true; the input reads as it did. -/
def fnStripesUptoRow : OpenClaim := { program := "yteiabkojcfjldaa", sum := "a38eed45f1c1d0726e0d14462b6bd71b015d7a26d7048c02766430320a7d45e8", func := "loop.example/g00488/laws.FnStripes", spec := "fnStripes", apart := false, narrowed := true }
def FnStripesUptoSaid : Prop := fnStripesUptoRow.holds Try.pinned (OpenSpec.upto fnStripesSpec)

/-- 'laws.FnBuckets', WHERE WHAT IT READS IS OF BULK AT MOST 1048576: true; the input reads as it did. -/
def fnBucketsUptoRow : OpenClaim := { program := "yteiabkojcfjldaa", sum := "a38eed45f1c1d0726e0d14462b6bd71b015d7a26d7048c02766430320a7d45e8", func := "loop.example/g00488/laws.FnBuckets", spec := "fnBuckets", apart := false, narrowed := true }
def FnBucketsUptoSaid : Prop := fnBucketsUptoRow.holds Try.pinned (OpenSpec.upto fnBucketsSpec)

/-- 'laws.FnExactLengthOf', WHERE WHAT IT READS IS OF BULK AT MOST 1048576: true; the input reads as it did. -/
def fnExactLengthOfUptoRow : OpenClaim := { program := "yteiabkojcfjldaa", sum := "a38eed45f1c1d0726e0d14462b6bd71b015d7a26d7048c02766430320a7d45e8", func := "loop.example/g00488/laws.FnExactLengthOf", spec := "fnExactLengthOf", apart := false, narrowed := true }
def FnExactLengthOfUptoSaid : Prop := fnExactLengthOfUptoRow.holds Try.pinned (OpenSpec.upto fnExactLengthOfSpec)

/-- 'laws.FnExactSizeOf', WHERE WHAT IT READS IS OF BULK AT MOST 1048576: true; the input reads as it did. -/
def fnExactSizeOfUptoRow : OpenClaim := { program := "yteiabkojcfjldaa", sum := "a38eed45f1c1d0726e0d14462b6bd71b015d7a26d7048c02766430320a7d45e8", func := "loop.example/g00488/laws.FnExactSizeOf", spec := "fnExactSizeOf", apart := false, narrowed := true }
def FnExactSizeOfUptoSaid : Prop := fnExactSizeOfUptoRow.holds Try.pinned (OpenSpec.upto fnExactSizeOfSpec)

end Rows
end Go.Proofs.Yteiabkojcfjldaa
