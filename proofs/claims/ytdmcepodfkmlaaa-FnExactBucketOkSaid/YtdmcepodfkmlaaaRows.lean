/-
  No cell of these rows narrows 'for every input' (looked for: loops, veiled, ifaces, maps, wideKeys, modest, calm, conditions, laid).
  DERIVED. THE GIVEN ROWS OF THIS SEAT. 12 by the template 'for every input the law returns true; each argument reads behind the call as it read before'; 0 by the template 'total and deterministic' (their statements: YtdmcepodfkmlaaaTotals.lean).
  GIVEN WITH THE SEED: the statements are not yours to turn. If you find one false, say at which input.
  Laid BY PROGRAM, IN A SANDBOX (cutbox-rows.mjs): the forced cells as the released guide's own fill.sh prints them over the translation 47151acc3804a8c2… (all of the seat's roots in one cut). By AI agents, Wed Nov 11 2026. No macro, syntax, notation, axiom, sorry.
-/
import Derived.Test.YtdmcepodfkmlaaaChecked
import GoSem.Claim
import GoSem.ClaimJoined
import GoSem.ClaimMapViews
import Derived.JoinedTies
import Derived.KernelRfl
namespace Go.Proofs.Ytdmcepodfkmlaaa
/- THE CELL 'sum', in the pinned program and in every row, IS THE sha256 OF THE DUMP (.gsa) THAT YtdmcepodfkmlaaaProg.lean LOADS. Nothing in Lean hashes anything: it is a label: what it is worth is what the hold of that sum in a sandbox is worth. -/
noncomputable def Try.pinned : Pinned := { name := "ytdmcepodfkmlaaa", sum := "47151acc3804a8c22d4be99398f1997306439fdfae3c83eb6a623867e3cd1a82", checked := Try.checked }
namespace Rows
def none {H : Type} : Left H := { results := [], args := [] }

/-- 'laws.FnExactConstants': WHATEVER THE INPUT: true; the input reads as it did. -/
def fnExactConstantsSpec : ChangeSpec := { name := "fnExactConstants", fn := fun _ => fun
  | [] => { results := [.lit (.bool true)], args := [] }
  | _ => none }
def fnExactConstantsRow : OpenClaim := { program := "ytdmcepodfkmlaaa", sum := "47151acc3804a8c22d4be99398f1997306439fdfae3c83eb6a623867e3cd1a82", func := "loop.example/g00488/laws.FnExactConstants", spec := "fnExactConstants", apart := false }
def FnExactConstantsSaid : Prop := fnExactConstantsRow.holds Try.pinned (OpenSpec.ofChange fnExactConstantsSpec)

/-- ITS FALSE NEIGHBOUR: 'it returns false'. Refute it at one input. -/
def fnExactConstantsWrong : ChangeSpec := { name := "fnExactConstants", fn := fun _ => fun
  | [] => { results := [.lit (.bool false)], args := [] }
  | _ => none }
def FnExactConstantsWrongFalsely : Prop := fnExactConstantsRow.holds Try.pinned (OpenSpec.ofChange fnExactConstantsWrong)

/-- 'laws.FnExactCap': WHATEVER THE INPUT: true; the input reads as it did. -/
def fnExactCapSpec : ChangeSpec := { name := "fnExactCap", fn := fun _ => fun
  | [d] => { results := [.lit (.bool true)], args := [d] }
  | _ => none }
def fnExactCapRow : OpenClaim := { program := "ytdmcepodfkmlaaa", sum := "47151acc3804a8c22d4be99398f1997306439fdfae3c83eb6a623867e3cd1a82", func := "loop.example/g00488/laws.FnExactCap", spec := "fnExactCap", apart := false }
def FnExactCapSaid : Prop := fnExactCapRow.holds Try.pinned (OpenSpec.ofChange fnExactCapSpec)

/-- ITS FALSE NEIGHBOUR: 'it returns false'. Refute it at one input. -/
def fnExactCapWrong : ChangeSpec := { name := "fnExactCap", fn := fun _ => fun
  | [d] => { results := [.lit (.bool false)], args := [d] }
  | _ => none }
def FnExactCapWrongFalsely : Prop := fnExactCapRow.holds Try.pinned (OpenSpec.ofChange fnExactCapWrong)

/-- 'laws.FnExactMix': WHATEVER THE INPUT: true; the input reads as it did. -/
def fnExactMixSpec : ChangeSpec := { name := "fnExactMix", fn := fun _ => fun
  | [d] => { results := [.lit (.bool true)], args := [d] }
  | _ => none }
def fnExactMixRow : OpenClaim := { program := "ytdmcepodfkmlaaa", sum := "47151acc3804a8c22d4be99398f1997306439fdfae3c83eb6a623867e3cd1a82", func := "loop.example/g00488/laws.FnExactMix", spec := "fnExactMix", apart := false }
def FnExactMixSaid : Prop := fnExactMixRow.holds Try.pinned (OpenSpec.ofChange fnExactMixSpec)

/-- ITS FALSE NEIGHBOUR: 'it returns false'. Refute it at one input. -/
def fnExactMixWrong : ChangeSpec := { name := "fnExactMix", fn := fun _ => fun
  | [d] => { results := [.lit (.bool false)], args := [d] }
  | _ => none }
def FnExactMixWrongFalsely : Prop := fnExactMixRow.holds Try.pinned (OpenSpec.ofChange fnExactMixWrong)

/-- 'laws.FnExactAdd': WHATEVER THE INPUT: true; the input reads as it did. -/
def fnExactAddSpec : ChangeSpec := { name := "fnExactAdd", fn := fun _ => fun
  | [d1, d2] => { results := [.lit (.bool true)], args := [d1, d2] }
  | _ => none }
def fnExactAddRow : OpenClaim := { program := "ytdmcepodfkmlaaa", sum := "47151acc3804a8c22d4be99398f1997306439fdfae3c83eb6a623867e3cd1a82", func := "loop.example/g00488/laws.FnExactAdd", spec := "fnExactAdd", apart := false }
def FnExactAddSaid : Prop := fnExactAddRow.holds Try.pinned (OpenSpec.ofChange fnExactAddSpec)

/-- ITS FALSE NEIGHBOUR: 'it returns false'. Refute it at one input. -/
def fnExactAddWrong : ChangeSpec := { name := "fnExactAdd", fn := fun _ => fun
  | [d1, d2] => { results := [.lit (.bool false)], args := [d1, d2] }
  | _ => none }
def FnExactAddWrongFalsely : Prop := fnExactAddRow.holds Try.pinned (OpenSpec.ofChange fnExactAddWrong)

/-- 'laws.FnExactMul': WHATEVER THE INPUT: true; the input reads as it did. -/
def fnExactMulSpec : ChangeSpec := { name := "fnExactMul", fn := fun _ => fun
  | [d1, d2] => { results := [.lit (.bool true)], args := [d1, d2] }
  | _ => none }
def fnExactMulRow : OpenClaim := { program := "ytdmcepodfkmlaaa", sum := "47151acc3804a8c22d4be99398f1997306439fdfae3c83eb6a623867e3cd1a82", func := "loop.example/g00488/laws.FnExactMul", spec := "fnExactMul", apart := false }
def FnExactMulSaid : Prop := fnExactMulRow.holds Try.pinned (OpenSpec.ofChange fnExactMulSpec)

/-- ITS FALSE NEIGHBOUR: 'it returns false'. Refute it at one input. -/
def fnExactMulWrong : ChangeSpec := { name := "fnExactMul", fn := fun _ => fun
  | [d1, d2] => { results := [.lit (.bool false)], args := [d1, d2] }
  | _ => none }
def FnExactMulWrongFalsely : Prop := fnExactMulRow.holds Try.pinned (OpenSpec.ofChange fnExactMulWrong)

/-- 'laws.FnExactSub': WHATEVER THE INPUT: true; the input reads as it did. -/
def fnExactSubSpec : ChangeSpec := { name := "fnExactSub", fn := fun _ => fun
  | [d1, d2] => { results := [.lit (.bool true)], args := [d1, d2] }
  | _ => none }
def fnExactSubRow : OpenClaim := { program := "ytdmcepodfkmlaaa", sum := "47151acc3804a8c22d4be99398f1997306439fdfae3c83eb6a623867e3cd1a82", func := "loop.example/g00488/laws.FnExactSub", spec := "fnExactSub", apart := false }
def FnExactSubSaid : Prop := fnExactSubRow.holds Try.pinned (OpenSpec.ofChange fnExactSubSpec)

/-- ITS FALSE NEIGHBOUR: 'it returns false'. Refute it at one input. -/
def fnExactSubWrong : ChangeSpec := { name := "fnExactSub", fn := fun _ => fun
  | [d1, d2] => { results := [.lit (.bool false)], args := [d1, d2] }
  | _ => none }
def FnExactSubWrongFalsely : Prop := fnExactSubRow.holds Try.pinned (OpenSpec.ofChange fnExactSubWrong)

/-- 'laws.FnExactBucketOk': WHATEVER THE INPUT: true; the input reads as it did. -/
def fnExactBucketOkSpec : ChangeSpec := { name := "fnExactBucketOk", fn := fun _ => fun
  | [d] => { results := [.lit (.bool true)], args := [d] }
  | _ => none }
def fnExactBucketOkRow : OpenClaim := { program := "ytdmcepodfkmlaaa", sum := "47151acc3804a8c22d4be99398f1997306439fdfae3c83eb6a623867e3cd1a82", func := "loop.example/g00488/laws.FnExactBucketOk", spec := "fnExactBucketOk", apart := false }
def FnExactBucketOkSaid : Prop := fnExactBucketOkRow.holds Try.pinned (OpenSpec.ofChange fnExactBucketOkSpec)

/-- ITS FALSE NEIGHBOUR: 'it returns false'. Refute it at one input. -/
def fnExactBucketOkWrong : ChangeSpec := { name := "fnExactBucketOk", fn := fun _ => fun
  | [d] => { results := [.lit (.bool false)], args := [d] }
  | _ => none }
def FnExactBucketOkWrongFalsely : Prop := fnExactBucketOkRow.holds Try.pinned (OpenSpec.ofChange fnExactBucketOkWrong)

/-- 'laws.FnExactPlainOk': WHATEVER THE INPUT: true; the input reads as it did. -/
def fnExactPlainOkSpec : ChangeSpec := { name := "fnExactPlainOk", fn := fun _ => fun
  | [d] => { results := [.lit (.bool true)], args := [d] }
  | _ => none }
def fnExactPlainOkRow : OpenClaim := { program := "ytdmcepodfkmlaaa", sum := "47151acc3804a8c22d4be99398f1997306439fdfae3c83eb6a623867e3cd1a82", func := "loop.example/g00488/laws.FnExactPlainOk", spec := "fnExactPlainOk", apart := false }
def FnExactPlainOkSaid : Prop := fnExactPlainOkRow.holds Try.pinned (OpenSpec.ofChange fnExactPlainOkSpec)

/-- ITS FALSE NEIGHBOUR: 'it returns false'. Refute it at one input. -/
def fnExactPlainOkWrong : ChangeSpec := { name := "fnExactPlainOk", fn := fun _ => fun
  | [d] => { results := [.lit (.bool false)], args := [d] }
  | _ => none }
def FnExactPlainOkWrongFalsely : Prop := fnExactPlainOkRow.holds Try.pinned (OpenSpec.ofChange fnExactPlainOkWrong)

/-- 'laws.FnExactNameOk': WHATEVER THE INPUT: true; the input reads as it did. -/
def fnExactNameOkSpec : ChangeSpec := { name := "fnExactNameOk", fn := fun _ => fun
  | [d] => { results := [.lit (.bool true)], args := [d] }
  | _ => none }
def fnExactNameOkRow : OpenClaim := { program := "ytdmcepodfkmlaaa", sum := "47151acc3804a8c22d4be99398f1997306439fdfae3c83eb6a623867e3cd1a82", func := "loop.example/g00488/laws.FnExactNameOk", spec := "fnExactNameOk", apart := false }
def FnExactNameOkSaid : Prop := fnExactNameOkRow.holds Try.pinned (OpenSpec.ofChange fnExactNameOkSpec)

/-- ITS FALSE NEIGHBOUR: 'it returns false'. Refute it at one input. -/
def fnExactNameOkWrong : ChangeSpec := { name := "fnExactNameOk", fn := fun _ => fun
  | [d] => { results := [.lit (.bool false)], args := [d] }
  | _ => none }
def FnExactNameOkWrongFalsely : Prop := fnExactNameOkRow.holds Try.pinned (OpenSpec.ofChange fnExactNameOkWrong)

/-- 'laws.FnExactBucketNew': WHATEVER THE INPUT: true; the input reads as it did. -/
def fnExactBucketNewSpec : ChangeSpec := { name := "fnExactBucketNew", fn := fun _ => fun
  | [d1, d2] => { results := [.lit (.bool true)], args := [d1, d2] }
  | _ => none }
def fnExactBucketNewRow : OpenClaim := { program := "ytdmcepodfkmlaaa", sum := "47151acc3804a8c22d4be99398f1997306439fdfae3c83eb6a623867e3cd1a82", func := "loop.example/g00488/laws.FnExactBucketNew", spec := "fnExactBucketNew", apart := false }
def FnExactBucketNewSaid : Prop := fnExactBucketNewRow.holds Try.pinned (OpenSpec.ofChange fnExactBucketNewSpec)

/-- ITS FALSE NEIGHBOUR: 'it returns false'. Refute it at one input. -/
def fnExactBucketNewWrong : ChangeSpec := { name := "fnExactBucketNew", fn := fun _ => fun
  | [d1, d2] => { results := [.lit (.bool false)], args := [d1, d2] }
  | _ => none }
def FnExactBucketNewWrongFalsely : Prop := fnExactBucketNewRow.holds Try.pinned (OpenSpec.ofChange fnExactBucketNewWrong)

/-- 'laws.FnExactStripeOf': WHATEVER THE INPUT: true; the input reads as it did. -/
def fnExactStripeOfSpec : ChangeSpec := { name := "fnExactStripeOf", fn := fun _ => fun
  | [d1, d2] => { results := [.lit (.bool true)], args := [d1, d2] }
  | _ => none }
def fnExactStripeOfRow : OpenClaim := { program := "ytdmcepodfkmlaaa", sum := "47151acc3804a8c22d4be99398f1997306439fdfae3c83eb6a623867e3cd1a82", func := "loop.example/g00488/laws.FnExactStripeOf", spec := "fnExactStripeOf", apart := false }
def FnExactStripeOfSaid : Prop := fnExactStripeOfRow.holds Try.pinned (OpenSpec.ofChange fnExactStripeOfSpec)

/-- ITS FALSE NEIGHBOUR: 'it returns false'. Refute it at one input. -/
def fnExactStripeOfWrong : ChangeSpec := { name := "fnExactStripeOf", fn := fun _ => fun
  | [d1, d2] => { results := [.lit (.bool false)], args := [d1, d2] }
  | _ => none }
def FnExactStripeOfWrongFalsely : Prop := fnExactStripeOfRow.holds Try.pinned (OpenSpec.ofChange fnExactStripeOfWrong)

/-- 'laws.FnExactMostIn': WHATEVER THE INPUT: true; the input reads as it did. -/
def fnExactMostInSpec : ChangeSpec := { name := "fnExactMostIn", fn := fun _ => fun
  | [d1, d2] => { results := [.lit (.bool true)], args := [d1, d2] }
  | _ => none }
def fnExactMostInRow : OpenClaim := { program := "ytdmcepodfkmlaaa", sum := "47151acc3804a8c22d4be99398f1997306439fdfae3c83eb6a623867e3cd1a82", func := "loop.example/g00488/laws.FnExactMostIn", spec := "fnExactMostIn", apart := false }
def FnExactMostInSaid : Prop := fnExactMostInRow.holds Try.pinned (OpenSpec.ofChange fnExactMostInSpec)

/-- ITS FALSE NEIGHBOUR: 'it returns false'. Refute it at one input. -/
def fnExactMostInWrong : ChangeSpec := { name := "fnExactMostIn", fn := fun _ => fun
  | [d1, d2] => { results := [.lit (.bool false)], args := [d1, d2] }
  | _ => none }
def FnExactMostInWrongFalsely : Prop := fnExactMostInRow.holds Try.pinned (OpenSpec.ofChange fnExactMostInWrong)

/- THE SECOND FORM. 'bulk': how many values and letters a reading holds, each counted each time it is reached (what is shared counts as often as it is met; a slice's spare places count too). A statement '..UptoSaid' is the law's where the arguments, and the package variables that the reading takes, are together of bulk at most 1048576: NARROWER than '..Said'. Prove '..Said' where nothing that the law and all that it calls make is longer than what came in: it says more and counts as full. Else prove '..UptoSaid'. A law counts once. -/
mutual
def uptoBulk {H : Type} : DataW H → Nat
  | .lit (.string bytes) => bytes.length + 1
  | .lit _ => 1
  | .nil => 1
  | .ptr d => uptoBulk d + 1
  | .slice elems spare => uptoBulkAll elems + uptoBulkAll spare + 1
  | .agg parts => uptoBulkAll parts + 1
  | .iface _ d => uptoBulk d + 1
  | .map entries => uptoBulkEntries entries + 1
  | .held _ => 1
def uptoBulkAll {H : Type} : List (DataW H) → Nat
  | [] => 0
  | d :: r => uptoBulk d + uptoBulkAll r
def uptoBulkEntries {H : Type} : List (Lit × DataW H) → Nat
  | [] => 0
  | x :: r => uptoBulkEntry x + uptoBulkEntries r
def uptoBulkEntry {H : Type} : Lit × DataW H → Nat
  | (.string bytes, d) => bytes.length + uptoBulk d + 1
  | (_, d) => uptoBulk d + 1
 end
def uptoSmall : (H : Type) → List (DataW H) → Bool := fun _ ds => decide (uptoBulkAll ds ≤ 1048576)
def OpenSpec.upto (s : _root_.Go.ChangeSpec) : _root_.Go.OpenSpec := { _root_.Go.OpenSpec.ofChange s with cond := some uptoSmall }

/-- 'laws.FnExactConstants', WHERE WHAT IT READS IS OF BULK AT MOST 1048576: true; the input reads as it did. -/
def fnExactConstantsUptoRow : OpenClaim := { program := "ytdmcepodfkmlaaa", sum := "47151acc3804a8c22d4be99398f1997306439fdfae3c83eb6a623867e3cd1a82", func := "loop.example/g00488/laws.FnExactConstants", spec := "fnExactConstants", apart := false, narrowed := true }
def FnExactConstantsUptoSaid : Prop := fnExactConstantsUptoRow.holds Try.pinned (OpenSpec.upto fnExactConstantsSpec)

/-- 'laws.FnExactCap', WHERE WHAT IT READS IS OF BULK AT MOST 1048576: true; the input reads as it did. -/
def fnExactCapUptoRow : OpenClaim := { program := "ytdmcepodfkmlaaa", sum := "47151acc3804a8c22d4be99398f1997306439fdfae3c83eb6a623867e3cd1a82", func := "loop.example/g00488/laws.FnExactCap", spec := "fnExactCap", apart := false, narrowed := true }
def FnExactCapUptoSaid : Prop := fnExactCapUptoRow.holds Try.pinned (OpenSpec.upto fnExactCapSpec)

/-- 'laws.FnExactMix', WHERE WHAT IT READS IS OF BULK AT MOST 1048576: true; the input reads as it did. -/
def fnExactMixUptoRow : OpenClaim := { program := "ytdmcepodfkmlaaa", sum := "47151acc3804a8c22d4be99398f1997306439fdfae3c83eb6a623867e3cd1a82", func := "loop.example/g00488/laws.FnExactMix", spec := "fnExactMix", apart := false, narrowed := true }
def FnExactMixUptoSaid : Prop := fnExactMixUptoRow.holds Try.pinned (OpenSpec.upto fnExactMixSpec)

/-- 'laws.FnExactAdd', WHERE WHAT IT READS IS OF BULK AT MOST 1048576: true; the input reads as it did. -/
def fnExactAddUptoRow : OpenClaim := { program := "ytdmcepodfkmlaaa", sum := "47151acc3804a8c22d4be99398f1997306439fdfae3c83eb6a623867e3cd1a82", func := "loop.example/g00488/laws.FnExactAdd", spec := "fnExactAdd", apart := false, narrowed := true }
def FnExactAddUptoSaid : Prop := fnExactAddUptoRow.holds Try.pinned (OpenSpec.upto fnExactAddSpec)

/-- 'laws.FnExactMul', WHERE WHAT IT READS IS OF BULK AT MOST 1048576: true; the input reads as it did. -/
def fnExactMulUptoRow : OpenClaim := { program := "ytdmcepodfkmlaaa", sum := "47151acc3804a8c22d4be99398f1997306439fdfae3c83eb6a623867e3cd1a82", func := "loop.example/g00488/laws.FnExactMul", spec := "fnExactMul", apart := false, narrowed := true }
def FnExactMulUptoSaid : Prop := fnExactMulUptoRow.holds Try.pinned (OpenSpec.upto fnExactMulSpec)

/-- 'laws.FnExactSub', WHERE WHAT IT READS IS OF BULK AT MOST 1048576: true; the input reads as it did. -/
def fnExactSubUptoRow : OpenClaim := { program := "ytdmcepodfkmlaaa", sum := "47151acc3804a8c22d4be99398f1997306439fdfae3c83eb6a623867e3cd1a82", func := "loop.example/g00488/laws.FnExactSub", spec := "fnExactSub", apart := false, narrowed := true }
def FnExactSubUptoSaid : Prop := fnExactSubUptoRow.holds Try.pinned (OpenSpec.upto fnExactSubSpec)

/-- 'laws.FnExactBucketOk', WHERE WHAT IT READS IS OF BULK AT MOST 1048576: true; the input reads as it did. -/
def fnExactBucketOkUptoRow : OpenClaim := { program := "ytdmcepodfkmlaaa", sum := "47151acc3804a8c22d4be99398f1997306439fdfae3c83eb6a623867e3cd1a82", func := "loop.example/g00488/laws.FnExactBucketOk", spec := "fnExactBucketOk", apart := false, narrowed := true }
def FnExactBucketOkUptoSaid : Prop := fnExactBucketOkUptoRow.holds Try.pinned (OpenSpec.upto fnExactBucketOkSpec)

/-- 'laws.FnExactPlainOk', WHERE WHAT IT READS IS OF BULK AT MOST 1048576: true; the input reads as it did. -/
def fnExactPlainOkUptoRow : OpenClaim := { program := "ytdmcepodfkmlaaa", sum := "47151acc3804a8c22d4be99398f1997306439fdfae3c83eb6a623867e3cd1a82", func := "loop.example/g00488/laws.FnExactPlainOk", spec := "fnExactPlainOk", apart := false, narrowed := true }
def FnExactPlainOkUptoSaid : Prop := fnExactPlainOkUptoRow.holds Try.pinned (OpenSpec.upto fnExactPlainOkSpec)

/-- 'laws.FnExactNameOk', WHERE WHAT IT READS IS OF BULK AT MOST 1048576: true; the input reads as it did. -/
def fnExactNameOkUptoRow : OpenClaim := { program := "ytdmcepodfkmlaaa", sum := "47151acc3804a8c22d4be99398f1997306439fdfae3c83eb6a623867e3cd1a82", func := "loop.example/g00488/laws.FnExactNameOk", spec := "fnExactNameOk", apart := false, narrowed := true }
def FnExactNameOkUptoSaid : Prop := fnExactNameOkUptoRow.holds Try.pinned (OpenSpec.upto fnExactNameOkSpec)

/-- 'laws.FnExactBucketNew', WHERE WHAT IT READS IS OF BULK AT MOST 1048576: true; the input reads as it did. -/
def fnExactBucketNewUptoRow : OpenClaim := { program := "ytdmcepodfkmlaaa", sum := "47151acc3804a8c22d4be99398f1997306439fdfae3c83eb6a623867e3cd1a82", func := "loop.example/g00488/laws.FnExactBucketNew", spec := "fnExactBucketNew", apart := false, narrowed := true }
def FnExactBucketNewUptoSaid : Prop := fnExactBucketNewUptoRow.holds Try.pinned (OpenSpec.upto fnExactBucketNewSpec)

/-- 'laws.FnExactStripeOf', WHERE WHAT IT READS IS OF BULK AT MOST 1048576: true; the input reads as it did. -/
def fnExactStripeOfUptoRow : OpenClaim := { program := "ytdmcepodfkmlaaa", sum := "47151acc3804a8c22d4be99398f1997306439fdfae3c83eb6a623867e3cd1a82", func := "loop.example/g00488/laws.FnExactStripeOf", spec := "fnExactStripeOf", apart := false, narrowed := true }
def FnExactStripeOfUptoSaid : Prop := fnExactStripeOfUptoRow.holds Try.pinned (OpenSpec.upto fnExactStripeOfSpec)

/-- 'laws.FnExactMostIn', WHERE WHAT IT READS IS OF BULK AT MOST 1048576: true; the input reads as it did. -/
def fnExactMostInUptoRow : OpenClaim := { program := "ytdmcepodfkmlaaa", sum := "47151acc3804a8c22d4be99398f1997306439fdfae3c83eb6a623867e3cd1a82", func := "loop.example/g00488/laws.FnExactMostIn", spec := "fnExactMostIn", apart := false, narrowed := true }
def FnExactMostInUptoSaid : Prop := fnExactMostInUptoRow.holds Try.pinned (OpenSpec.upto fnExactMostInSpec)

end Rows
end Go.Proofs.Ytdmcepodfkmlaaa
