/- What the Go functions that the law FnBuckets reaches answer: each as a Lean function, with its walk. Written by a program of this session. Conditions: those that each theorem names. -/
import Derived.Test.YteiabkojcfjldaaQFnBucketsx0
import Derived.Test.YteiabkojcfjldaaQFnBucketsx1
import Derived.Test.YteiabkojcfjldaaQFnBucketsx2
import Derived.Test.YteiabkojcfjldaaQFnBucketsx3
import Derived.Test.YteiabkojcfjldaaQFnBucketsx4
import Derived.Test.YteiabkojcfjldaaQFnBucketsx5
namespace Go.Proofs.Yteiabkojcfjldaa.QFnBuckets
open Go.RowKit Go.Proofs.YteiabkojcfjldaaW.PrintWords Go.Proofs.YteiabkojcfjldaaW.PrintLast Go.Proofs.YteiabkojcfjldaaW.PrintMore
attribute [local go_sem] max2_int min2_int max_two min_two max_three min_three max_four min_four   -- for this text's walks alone
set_option linter.unusedVariables false
set_option linter.unusedSimpArgs false

attribute [local go_sem high] eqA31
open Go.Proofs.YteiabkojcfjldaaW.PrintWords renaming blk_drewN → bN, blk_drew → bD, blk_alloc → bA, blk_cell → bC, blk_below → bB, below_set → bS
theorem sA_ {α : Type} (xs : List α) (i : Nat) (a : α) : xs.toArray.setIfInBounds i a = (xs.set i a).toArray := List.setIfInBounds_toArray xs i a
theorem sB_ {α : Type} (x : α) (xs : List α) (a : α) : (x :: xs).set 0 a = a :: xs := List.set_cons_zero
theorem sC_ {α : Type} (x : α) (xs : List α) (i : Nat) (a : α) : (x :: xs).set (i + 1) a = x :: xs.set i a := List.set_cons_succ
def fB (n m : Nat) : Array Bool := ((List.range n).map fun i => m.testBit i).toArray
/-! ### laws_FnBuckets: function 12 -/
mutual
def laws_FnBuckets.j0 : Nat → Int → Int → Bool → Bool → Int → Int → Int → Int → Int → Int → Int → Int → Int → Int → Int → Int → Int → Int → Int → Int → Option (Bool)
 | 0, _, _, _, _, _, _, _, _, _, _, _, _, _, _, _, _, _, _, _, _ => none
 | k + 1, x4, x7, x9, x96, x341000, x341001, x341002, x341003, x346000, x346001, x346002, x346003, x352000, x352001, x352002, x352003, x358000, x358001, x358002, x358003 => if x96 = true then (some false) else ((impl_BucketOk.f x341000 x341001 x341002 x341003).bind fun t393 => (if t393 = true then (if x9 = true then ((impl_BucketOk.f x358000 x358001 x358002 x358003).bind fun t394 => (if t394 = true then (if (wrap64 (x358002 + x7)) = x352002 then (laws_FnBuckets.j1 k x4 false x341000 x341001 x341002 x341003 x346000 x346001 x346002 x346003) else (laws_FnBuckets.j1 k x4 true x341000 x341001 x341002 x341003 x346000 x346001 x346002 x346003)) else (laws_FnBuckets.j1 k x4 true x341000 x341001 x341002 x341003 x346000 x346001 x346002 x346003))) else (laws_FnBuckets.j1 k x4 (!(x358000 == x352000) || (!(x358001 == x352001) || (!(x358002 == x352002) || (!(x358003 == x352003))))) x341000 x341001 x341002 x341003 x346000 x346001 x346002 x346003)) else (some (x346000 == x341000 && (x346001 == x341001 && (x346002 == x341002 && (x346003 == x341003)))))))
def laws_FnBuckets.j1 : Nat → Int → Bool → Int → Int → Int → Int → Int → Int → Int → Int → Option (Bool)
 | 0, _, _, _, _, _, _, _, _, _, _ => none
 | k + 1, x4, x126, x341000, x341001, x341002, x341003, x346000, x346001, x346002, x346003 => if x126 = true then (some false) else ((impl_BucketOk.f x346000 x346001 x346002 x346003).bind fun t395 => (if t395 = true then (if x346002 ≥ x341002 then (if x4 < x341003 then (some true) else (if x4 > 2147483647 then (some true) else (if x346003 = x4 then ((impl_Refill.f k x341000 x341001 x341002 x341003 (wrap64 (x341003 + (wrap64 (Int.tdiv (wrap64 (x4 - x341003)) 2))))).bind fun bt396 => ((impl_Refill.f k bt396.1 bt396.2.1 bt396.2.2.1 bt396.2.2.2 x4).bind fun bt400 => (if (bt400.1 == x346000 && (bt400.2.1 == x346001 && (bt400.2.2.1 == x346002 && (bt400.2.2.2 == x346003)))) = true then ((impl_MostIn.f x341000 x341001 x341002 x341003 (wrap64 (x4 - x341003))).bind fun t404 => (some (decide (x346002 ≤ t404)))) else (some false)))) else (some false)))) else (some false)) else (some false)))
end
def laws_FnBuckets.f (k : Nat) (l0 : List Int) : Option (Bool) := (laws_big.f l0).bind fun t334 => (if t334 = true then (some true) else ((spec_DrawRefill.f k l0).bind fun bt335 => ((impl_Refill.f k bt335.1 bt335.2.1 bt335.2.2.1 bt335.2.2.2.1 bt335.2.2.2.2).bind fun bt341 => ((spec_DrawSpend.f k l0).bind fun bt346 => ((impl_Spend.f bt346.1 bt346.2.1 bt346.2.2.1 bt346.2.2.2.1 bt346.2.2.2.2).bind fun bt352 => ((spec_Spend.f bt346.1 bt346.2.1 bt346.2.2.1 bt346.2.2.2.1 bt346.2.2.2.2).bind fun bt358 => ((spec_DrawBucketOk.f k l0).bind fun bt364 => ((spec_DrawMostIn.f k l0).bind fun bt369 => ((spec_DrawBucketNew.f k l0).bind fun bt375 => ((spec_Refill.f k bt335.1 bt335.2.1 bt335.2.2.1 bt335.2.2.2.1 bt335.2.2.2.2).bind fun bt377 => (if (!(bt341.1 == bt377.1) || (!(bt341.2.1 == bt377.2.1) || (!(bt341.2.2.1 == bt377.2.2.1) || (!(bt341.2.2.2 == bt377.2.2.2))))) = true then (laws_FnBuckets.j0 k bt335.2.2.2.2 bt346.2.2.2.2 bt352.2.2.2.2 true bt335.1 bt335.2.1 bt335.2.2.1 bt335.2.2.2.1 bt341.1 bt341.2.1 bt341.2.2.1 bt341.2.2.2 bt346.1 bt346.2.1 bt346.2.2.1 bt346.2.2.2.1 bt352.1 bt352.2.1 bt352.2.2.1 bt352.2.2.2.1) else (if (!(bt352.1 == bt358.1) || (!(bt352.2.1 == bt358.2.1) || (!(bt352.2.2.1 == bt358.2.2.1) || (!(bt352.2.2.2.1 == bt358.2.2.2.1))))) = true then (laws_FnBuckets.j0 k bt335.2.2.2.2 bt346.2.2.2.2 bt352.2.2.2.2 true bt335.1 bt335.2.1 bt335.2.2.1 bt335.2.2.2.1 bt341.1 bt341.2.1 bt341.2.2.1 bt341.2.2.2 bt346.1 bt346.2.1 bt346.2.2.1 bt346.2.2.2.1 bt352.1 bt352.2.1 bt352.2.2.1 bt352.2.2.2.1) else (if (bt352.2.2.2.2 != bt358.2.2.2.2) = true then (laws_FnBuckets.j0 k bt335.2.2.2.2 bt346.2.2.2.2 bt352.2.2.2.2 true bt335.1 bt335.2.1 bt335.2.2.1 bt335.2.2.2.1 bt341.1 bt341.2.1 bt341.2.2.1 bt341.2.2.2 bt346.1 bt346.2.1 bt346.2.2.1 bt346.2.2.2.1 bt352.1 bt352.2.1 bt352.2.2.1 bt352.2.2.2.1) else ((impl_BucketOk.f bt364.1 bt364.2.1 bt364.2.2.1 bt364.2.2.2).bind fun t381 => ((spec_BucketOk.f bt364.1 bt364.2.1 bt364.2.2.1 bt364.2.2.2).bind fun t382 => (if (t381 != t382) = true then (laws_FnBuckets.j0 k bt335.2.2.2.2 bt346.2.2.2.2 bt352.2.2.2.2 true bt335.1 bt335.2.1 bt335.2.2.1 bt335.2.2.2.1 bt341.1 bt341.2.1 bt341.2.2.1 bt341.2.2.2 bt346.1 bt346.2.1 bt346.2.2.1 bt346.2.2.2.1 bt352.1 bt352.2.1 bt352.2.2.1 bt352.2.2.2.1) else ((impl_MostIn.f bt369.1 bt369.2.1 bt369.2.2.1 bt369.2.2.2.1 bt369.2.2.2.2).bind fun t383 => ((spec_MostIn.f bt369.1 bt369.2.1 bt369.2.2.1 bt369.2.2.2.1 bt369.2.2.2.2).bind fun t384 => (if t383 = t384 then ((impl_BucketNew.f bt375.1 bt375.2).bind fun bt385 => ((spec_BucketNew.f bt375.1 bt375.2).bind fun bt389 => (laws_FnBuckets.j0 k bt335.2.2.2.2 bt346.2.2.2.2 bt352.2.2.2.2 (!(bt385.1 == bt389.1) || (!(bt385.2.1 == bt389.2.1) || (!(bt385.2.2.1 == bt389.2.2.1) || (!(bt385.2.2.2 == bt389.2.2.2))))) bt335.1 bt335.2.1 bt335.2.2.1 bt335.2.2.2.1 bt341.1 bt341.2.1 bt341.2.2.1 bt341.2.2.2 bt346.1 bt346.2.1 bt346.2.2.1 bt346.2.2.2.1 bt352.1 bt352.2.1 bt352.2.2.1 bt352.2.2.2.1))) else (laws_FnBuckets.j0 k bt335.2.2.2.2 bt346.2.2.2.2 bt352.2.2.2.2 true bt335.1 bt335.2.1 bt335.2.2.1 bt335.2.2.2.1 bt341.1 bt341.2.1 bt341.2.2.1 bt341.2.2.2 bt346.1 bt346.2.1 bt346.2.2.1 bt346.2.2.2.1 bt352.1 bt352.2.1 bt352.2.2.1 bt352.2.2.2.1))))))))))))))))))))
theorem laws_FnBuckets.mono_l : ∀ k, (∀ y0 y1 y2 y3 y4 y5 y6 y7 y8 y9 y10 y11 y12 y13 y14 y15 y16 y17 y18 y19, LeO (laws_FnBuckets.j0 k y0 y1 y2 y3 y4 y5 y6 y7 y8 y9 y10 y11 y12 y13 y14 y15 y16 y17 y18 y19) (laws_FnBuckets.j0 (k + 1) y0 y1 y2 y3 y4 y5 y6 y7 y8 y9 y10 y11 y12 y13 y14 y15 y16 y17 y18 y19)) ∧ (∀ y0 y1 y2 y3 y4 y5 y6 y7 y8 y9, LeO (laws_FnBuckets.j1 k y0 y1 y2 y3 y4 y5 y6 y7 y8 y9) (laws_FnBuckets.j1 (k + 1) y0 y1 y2 y3 y4 y5 y6 y7 y8 y9))
 | 0 => ⟨fun _ _ _ _ _ _ _ _ _ _ _ _ _ _ _ _ _ _ _ _ r h => by simp [laws_FnBuckets.j0] at h, fun _ _ _ _ _ _ _ _ _ _ r h => by simp [laws_FnBuckets.j1] at h⟩
 | k + 1 => by
  obtain ⟨ih0, ih1⟩ := laws_FnBuckets.mono_l k
  refine ⟨?_, ?_⟩
  ·intro y0 y1 y2 y3 y4 y5 y6 y7 y8 y9 y10 y11 y12 y13 y14 y15 y16 y17 y18 y19
   unfold laws_FnBuckets.j0
   repeat' first
   | (with_reducible exact ih0 _ _ _ _ _ _ _ _ _ _ _ _ _ _ _ _ _ _ _ _)
   | (with_reducible exact ih1 _ _ _ _ _ _ _ _ _ _)
   | (with_reducible exact impl_Refill.mono _ _ _ _ _ _)
   | (with_reducible exact spec_DrawBucketNew.mono _ _)
   | (with_reducible exact spec_DrawBucketOk.mono _ _)
   | (with_reducible exact spec_DrawMostIn.mono _ _)
   | (with_reducible exact spec_DrawRefill.mono _ _)
   | (with_reducible exact spec_DrawSpend.mono _ _)
   | (with_reducible exact spec_Refill.mono _ _ _ _ _ _)
   | (with_reducible exact LeO.refl _)
   | (with_reducible exact LeO.none _)
   | (with_reducible refine LeO.ite ?_ ?_)
   | (with_reducible refine LeO.bind ?_ (fun _ => ?_))
   | exact ih0 _ _ _ _ _ _ _ _ _ _ _ _ _ _ _ _ _ _ _ _
   | exact ih1 _ _ _ _ _ _ _ _ _ _
   | exact impl_Refill.mono _ _ _ _ _ _
   | exact spec_DrawBucketNew.mono _ _
   | exact spec_DrawBucketOk.mono _ _
   | exact spec_DrawMostIn.mono _ _
   | exact spec_DrawRefill.mono _ _
   | exact spec_DrawSpend.mono _ _
   | exact spec_Refill.mono _ _ _ _ _ _
   | exact LeO.none _
   | refine LeO.ite ?_ ?_
   | refine LeO.bind ?_ (fun _ => ?_)
  ·intro y0 y1 y2 y3 y4 y5 y6 y7 y8 y9
   unfold laws_FnBuckets.j1
   repeat' first
   | (with_reducible exact ih0 _ _ _ _ _ _ _ _ _ _ _ _ _ _ _ _ _ _ _ _)
   | (with_reducible exact ih1 _ _ _ _ _ _ _ _ _ _)
   | (with_reducible exact impl_Refill.mono _ _ _ _ _ _)
   | (with_reducible exact spec_DrawBucketNew.mono _ _)
   | (with_reducible exact spec_DrawBucketOk.mono _ _)
   | (with_reducible exact spec_DrawMostIn.mono _ _)
   | (with_reducible exact spec_DrawRefill.mono _ _)
   | (with_reducible exact spec_DrawSpend.mono _ _)
   | (with_reducible exact spec_Refill.mono _ _ _ _ _ _)
   | (with_reducible exact LeO.refl _)
   | (with_reducible exact LeO.none _)
   | (with_reducible refine LeO.ite ?_ ?_)
   | (with_reducible refine LeO.bind ?_ (fun _ => ?_))
   | exact ih0 _ _ _ _ _ _ _ _ _ _ _ _ _ _ _ _ _ _ _ _
   | exact ih1 _ _ _ _ _ _ _ _ _ _
   | exact impl_Refill.mono _ _ _ _ _ _
   | exact spec_DrawBucketNew.mono _ _
   | exact spec_DrawBucketOk.mono _ _
   | exact spec_DrawMostIn.mono _ _
   | exact spec_DrawRefill.mono _ _
   | exact spec_DrawSpend.mono _ _
   | exact spec_Refill.mono _ _ _ _ _ _
   | exact LeO.none _
   | refine LeO.ite ?_ ?_
   | refine LeO.bind ?_ (fun _ => ?_)
theorem laws_FnBuckets.mono : ∀ a0 k, LeO (laws_FnBuckets.f k a0) (laws_FnBuckets.f (k + 1) a0) := by
 intro a0 k
 obtain ⟨ih0, ih1⟩ := laws_FnBuckets.mono_l k
 unfold laws_FnBuckets.f
 repeat' first
   | (with_reducible exact ih0 _ _ _ _ _ _ _ _ _ _ _ _ _ _ _ _ _ _ _ _)
   | (with_reducible exact ih1 _ _ _ _ _ _ _ _ _ _)
   | (with_reducible exact impl_Refill.mono _ _ _ _ _ _)
   | (with_reducible exact spec_DrawBucketNew.mono _ _)
   | (with_reducible exact spec_DrawBucketOk.mono _ _)
   | (with_reducible exact spec_DrawMostIn.mono _ _)
   | (with_reducible exact spec_DrawRefill.mono _ _)
   | (with_reducible exact spec_DrawSpend.mono _ _)
   | (with_reducible exact spec_Refill.mono _ _ _ _ _ _)
   | (with_reducible exact LeO.refl _)
   | (with_reducible exact LeO.none _)
   | (with_reducible refine LeO.ite ?_ ?_)
   | (with_reducible refine LeO.bind ?_ (fun _ => ?_))
   | exact ih0 _ _ _ _ _ _ _ _ _ _ _ _ _ _ _ _ _ _ _ _
   | exact ih1 _ _ _ _ _ _ _ _ _ _
   | exact impl_Refill.mono _ _ _ _ _ _
   | exact spec_DrawBucketNew.mono _ _
   | exact spec_DrawBucketOk.mono _ _
   | exact spec_DrawMostIn.mono _ _
   | exact spec_DrawRefill.mono _ _
   | exact spec_DrawSpend.mono _ _
   | exact spec_Refill.mono _ _ _ _ _ _
   | exact LeO.none _
   | refine LeO.ite ?_ ?_
   | refine LeO.bind ?_ (fun _ => ?_)
def laws_FnBuckets.T11 : Bool × List (List Nat × List Nat) := (true, [([], []), ([], []), ([], []), ([1, 2], [1, 2]), ([0, 3], [0, 3]), ([4, 3], [4]), ([5], [5]), ([5], [5]), ([6, 7, 5], [5, 6, 7]), ([5, 8], [5, 8]), ([9, 5], [9]), ([10], [10]), ([10], [10]), ([11, 12, 10], [10, 11, 12]), ([10, 13], [10, 13]), ([14, 10], [14]), ([15], [15]), ([16, 15, 15], [15, 16]), ([15], [15]), ([18, 17, 15], [15, 18]), ([17, 19, 15], [15, 17, 19]), ([15, 20], [15, 20]), ([21, 19], [21]), ([22], [22]), ([22], [22]), ([23, 24, 22, 22], [22, 23, 24]), ([22], [22]), ([22], [22]), ([26, 27, 25, 22], [22, 26, 27]), ([25, 28, 22], [22, 25, 28]), ([22, 29], [22, 29]), ([30, 28], [30]), ([31], [31]), ([31], [31]), ([32, 33, 31, 31], [31, 32, 33]), ([31], [31]), ([31], [31]), ([35, 36, 34, 31], [31, 35, 36]), ([34, 37, 31], [31, 34, 37]), ([31, 38], [31, 38])])
def laws_FnBuckets.B11 : List Nat := [0, 0, 0, 6, 15, 31, 63, 63, 255, 511, 1023, 2047, 2047, 8191, 16383, 32767, 65535, 131071, 65535, 524287, 1048575, 2097151, 4194303, 8388607, 8388607, 33554431, 8388607, 8388607, 268435455, 536870911, 1073741823, 2147483647, 4294967295, 4294967295, 17179869183, 4294967295, 4294967295, 137438953471, 274877906943, 549755813887]
theorem laws_FnBuckets.tab11 : rtab .any (opsOf Try.f12 11) = laws_FnBuckets.T11 := by kernel_rfl
theorem laws_FnBuckets.bits11 : waitsOk laws_FnBuckets.T11.2 laws_FnBuckets.B11 = true := by kernel_rfl
def laws_FnBuckets.T18 : Bool × List (List Nat × List Nat) := (true, [([], []), ([0], [0]), ([1, 1], [1]), ([2], [2]), ([3, 2], [2, 3]), ([2], [2]), ([5, 2], [2, 5]), ([4, 6, 2], [2, 4, 6]), ([2, 7], [2, 7]), ([8, 2], [8]), ([9], [9]), ([9], [9]), ([11, 9], [9, 11]), ([10, 12, 9], [9, 10, 12]), ([13, 9, 9], [9, 13]), ([14], [14]), ([15, 14], [14, 15]), ([14, 16, 9], [9, 14, 16]), ([17, 14, 9], [9, 17]), ([18], [18]), ([19, 18], [18, 19]), ([18], [18]), ([20, 21, 18], [18, 20, 21]), ([22, 18, 18], [18, 22]), ([23], [23]), ([23], [23]), ([24, 25, 23, 23], [23, 24, 25]), ([23], [23]), ([26, 27, 26, 23], [23, 26, 27]), ([23], [23]), ([28, 29, 23], [23, 28, 29]), ([23, 30, 18], [18, 23, 30]), ([31, 28, 18], [18, 31]), ([32], [32]), ([33, 32], [32, 33]), ([32], [32]), ([32], [32]), ([32], [32]), ([37, 32], [32, 37]), ([36, 38, 32], [32, 36, 38]), ([35, 39, 32, 32], [32, 35, 39]), ([34, 40, 32], [32, 34, 40]), ([32, 41, 18], [18, 32, 41]), ([18, 42, 9], [9, 18, 42]), ([9, 43], [9, 43]), ([44, 40, 0, 1, 2, 3, 4, 5, 6, 7, 8, 9, 10, 11, 12, 13, 14, 15, 16, 17, 18, 19, 20, 21, 22, 23, 24, 25, 26, 27, 28, 29, 30, 31, 32, 33, 34, 35, 36, 37, 38, 39, 40, 41, 42, 43, 44], [44])])
def laws_FnBuckets.B18 : List Nat := [0, 1, 3, 7, 15, 7, 39, 127, 255, 511, 1023, 1023, 3071, 8191, 16383, 32767, 65535, 131071, 262143, 524287, 1048575, 524287, 4194303, 8388607, 16777215, 16777215, 67108863, 16777215, 268435455, 16777215, 1073741823, 2147483647, 4294967295, 8589934591, 17179869183, 8589934591, 8589934591, 8589934591, 146028888063, 489626271743, 1073741823999, 2199023255551, 4398046511103, 8796093022207, 17592186044415, 35184372088831]
theorem laws_FnBuckets.tab18 : rtab .any (opsOf Try.f12 18) = laws_FnBuckets.T18 := by kernel_rfl
theorem laws_FnBuckets.bits18 : waitsOk laws_FnBuckets.T18.2 laws_FnBuckets.B18 = true := by kernel_rfl
theorem laws_FnBuckets.j0_bad {k : Nat} {y0 : Int} {y1 : Int} {y2 : Bool} {y4 : Int} {y5 : Int} {y6 : Int} {y7 : Int} {y8 : Int} {y9 : Int} {y10 : Int} {y11 : Int} {y12 : Int} {y13 : Int} {y14 : Int} {y15 : Int} {y16 : Int} {y17 : Int} {y18 : Int} {y19 : Int} {r : Bool} (h : laws_FnBuckets.j0 k y0 y1 y2 true y4 y5 y6 y7 y8 y9 y10 y11 y12 y13 y14 y15 y16 y17 y18 y19 = some r) (hr : r = true) : False := by
 cases k with
 | zero => simp [laws_FnBuckets.j0] at h
 | succ k =>
  simp only [laws_FnBuckets.j0, if_true] at h
  subst hr
  simp at h
theorem laws_FnBuckets.j1_bad {k : Nat} {y0 : Int} {y2 : Int} {y3 : Int} {y4 : Int} {y5 : Int} {y6 : Int} {y7 : Int} {y8 : Int} {y9 : Int} {r : Bool} (h : laws_FnBuckets.j1 k y0 true y2 y3 y4 y5 y6 y7 y8 y9 = some r) (hr : r = true) : False := by
 cases k with
 | zero => simp [laws_FnBuckets.j1] at h
 | succ k =>
  simp only [laws_FnBuckets.j1, if_true] at h
  subst hr
  simp at h
set_option maxHeartbeats 8000000 in
set_option maxRecDepth 100000 in
theorem laws_FnBuckets.calls (k : Nat) (A0 : Option Addr) (c0 : Nat) (l0 : List Int) (r : Bool) (w : World) (hr0 : Kd.C (Kd.int .u8) w A0 l0.length l0) (hc0 : l0.length ≤ c0) (hrt_ : Aside0 (r = true)) (h : laws_FnBuckets.f k l0 = some r) :
  Calls Try.prog 12 #[.slice A0 l0.length c0] w fun e w' => e = .returned (.bool r) ∧ Below w.heap.size w w' := by
 have hu31 := Try.underlying31
 have HR0 := Aside0.mk hr0
 have HC0 := Aside0.mk hc0
 clear hr0 hc0
 have HB := Aside0.mk (Below.refl w.heap.size w)
 have H : ((laws_big.f l0).bind fun t334 => (if t334 = true then (some true) else ((spec_DrawRefill.f k l0).bind fun bt335 => ((impl_Refill.f k bt335.1 bt335.2.1 bt335.2.2.1 bt335.2.2.2.1 bt335.2.2.2.2).bind fun bt341 => ((spec_DrawSpend.f k l0).bind fun bt346 => ((impl_Spend.f bt346.1 bt346.2.1 bt346.2.2.1 bt346.2.2.2.1 bt346.2.2.2.2).bind fun bt352 => ((spec_Spend.f bt346.1 bt346.2.1 bt346.2.2.1 bt346.2.2.2.1 bt346.2.2.2.2).bind fun bt358 => ((spec_DrawBucketOk.f k l0).bind fun bt364 => ((spec_DrawMostIn.f k l0).bind fun bt369 => ((spec_DrawBucketNew.f k l0).bind fun bt375 => ((spec_Refill.f k bt335.1 bt335.2.1 bt335.2.2.1 bt335.2.2.2.1 bt335.2.2.2.2).bind fun bt377 => (if (!(bt341.1 == bt377.1) || (!(bt341.2.1 == bt377.2.1) || (!(bt341.2.2.1 == bt377.2.2.1) || (!(bt341.2.2.2 == bt377.2.2.2))))) = true then (laws_FnBuckets.j0 k bt335.2.2.2.2 bt346.2.2.2.2 bt352.2.2.2.2 true bt335.1 bt335.2.1 bt335.2.2.1 bt335.2.2.2.1 bt341.1 bt341.2.1 bt341.2.2.1 bt341.2.2.2 bt346.1 bt346.2.1 bt346.2.2.1 bt346.2.2.2.1 bt352.1 bt352.2.1 bt352.2.2.1 bt352.2.2.2.1) else (if (!(bt352.1 == bt358.1) || (!(bt352.2.1 == bt358.2.1) || (!(bt352.2.2.1 == bt358.2.2.1) || (!(bt352.2.2.2.1 == bt358.2.2.2.1))))) = true then (laws_FnBuckets.j0 k bt335.2.2.2.2 bt346.2.2.2.2 bt352.2.2.2.2 true bt335.1 bt335.2.1 bt335.2.2.1 bt335.2.2.2.1 bt341.1 bt341.2.1 bt341.2.2.1 bt341.2.2.2 bt346.1 bt346.2.1 bt346.2.2.1 bt346.2.2.2.1 bt352.1 bt352.2.1 bt352.2.2.1 bt352.2.2.2.1) else (if (bt352.2.2.2.2 != bt358.2.2.2.2) = true then (laws_FnBuckets.j0 k bt335.2.2.2.2 bt346.2.2.2.2 bt352.2.2.2.2 true bt335.1 bt335.2.1 bt335.2.2.1 bt335.2.2.2.1 bt341.1 bt341.2.1 bt341.2.2.1 bt341.2.2.2 bt346.1 bt346.2.1 bt346.2.2.1 bt346.2.2.2.1 bt352.1 bt352.2.1 bt352.2.2.1 bt352.2.2.2.1) else ((impl_BucketOk.f bt364.1 bt364.2.1 bt364.2.2.1 bt364.2.2.2).bind fun t381 => ((spec_BucketOk.f bt364.1 bt364.2.1 bt364.2.2.1 bt364.2.2.2).bind fun t382 => (if (t381 != t382) = true then (laws_FnBuckets.j0 k bt335.2.2.2.2 bt346.2.2.2.2 bt352.2.2.2.2 true bt335.1 bt335.2.1 bt335.2.2.1 bt335.2.2.2.1 bt341.1 bt341.2.1 bt341.2.2.1 bt341.2.2.2 bt346.1 bt346.2.1 bt346.2.2.1 bt346.2.2.2.1 bt352.1 bt352.2.1 bt352.2.2.1 bt352.2.2.2.1) else ((impl_MostIn.f bt369.1 bt369.2.1 bt369.2.2.1 bt369.2.2.2.1 bt369.2.2.2.2).bind fun t383 => ((spec_MostIn.f bt369.1 bt369.2.1 bt369.2.2.1 bt369.2.2.2.1 bt369.2.2.2.2).bind fun t384 => (if t383 = t384 then ((impl_BucketNew.f bt375.1 bt375.2).bind fun bt385 => ((spec_BucketNew.f bt375.1 bt375.2).bind fun bt389 => (laws_FnBuckets.j0 k bt335.2.2.2.2 bt346.2.2.2.2 bt352.2.2.2.2 (!(bt385.1 == bt389.1) || (!(bt385.2.1 == bt389.2.1) || (!(bt385.2.2.1 == bt389.2.2.1) || (!(bt385.2.2.2 == bt389.2.2.2))))) bt335.1 bt335.2.1 bt335.2.2.1 bt335.2.2.2.1 bt341.1 bt341.2.1 bt341.2.2.1 bt341.2.2.2 bt346.1 bt346.2.1 bt346.2.2.1 bt346.2.2.2.1 bt352.1 bt352.2.1 bt352.2.2.1 bt352.2.2.2.1))) else (laws_FnBuckets.j0 k bt335.2.2.2.2 bt346.2.2.2.2 bt352.2.2.2.2 true bt335.1 bt335.2.1 bt335.2.2.1 bt335.2.2.2.1 bt341.1 bt341.2.1 bt341.2.2.1 bt341.2.2.2 bt346.1 bt346.2.1 bt346.2.2.1 bt346.2.2.2.1 bt352.1 bt352.2.1 bt352.2.2.1 bt352.2.2.2.1))))))))))))))))))))) = some r := h
 clear h
 replace H := Option.bind_eq_some_iff.mp H
 obtain ⟨t334, A20, H⟩ := H
 replace H : (if t334 = true then (some true) else ((spec_DrawRefill.f k l0).bind fun bt335 => ((impl_Refill.f k bt335.1 bt335.2.1 bt335.2.2.1 bt335.2.2.2.1 bt335.2.2.2.2).bind fun bt341 => ((spec_DrawSpend.f k l0).bind fun bt346 => ((impl_Spend.f bt346.1 bt346.2.1 bt346.2.2.1 bt346.2.2.2.1 bt346.2.2.2.2).bind fun bt352 => ((spec_Spend.f bt346.1 bt346.2.1 bt346.2.2.1 bt346.2.2.2.1 bt346.2.2.2.2).bind fun bt358 => ((spec_DrawBucketOk.f k l0).bind fun bt364 => ((spec_DrawMostIn.f k l0).bind fun bt369 => ((spec_DrawBucketNew.f k l0).bind fun bt375 => ((spec_Refill.f k bt335.1 bt335.2.1 bt335.2.2.1 bt335.2.2.2.1 bt335.2.2.2.2).bind fun bt377 => (if (!(bt341.1 == bt377.1) || (!(bt341.2.1 == bt377.2.1) || (!(bt341.2.2.1 == bt377.2.2.1) || (!(bt341.2.2.2 == bt377.2.2.2))))) = true then (laws_FnBuckets.j0 k bt335.2.2.2.2 bt346.2.2.2.2 bt352.2.2.2.2 true bt335.1 bt335.2.1 bt335.2.2.1 bt335.2.2.2.1 bt341.1 bt341.2.1 bt341.2.2.1 bt341.2.2.2 bt346.1 bt346.2.1 bt346.2.2.1 bt346.2.2.2.1 bt352.1 bt352.2.1 bt352.2.2.1 bt352.2.2.2.1) else (if (!(bt352.1 == bt358.1) || (!(bt352.2.1 == bt358.2.1) || (!(bt352.2.2.1 == bt358.2.2.1) || (!(bt352.2.2.2.1 == bt358.2.2.2.1))))) = true then (laws_FnBuckets.j0 k bt335.2.2.2.2 bt346.2.2.2.2 bt352.2.2.2.2 true bt335.1 bt335.2.1 bt335.2.2.1 bt335.2.2.2.1 bt341.1 bt341.2.1 bt341.2.2.1 bt341.2.2.2 bt346.1 bt346.2.1 bt346.2.2.1 bt346.2.2.2.1 bt352.1 bt352.2.1 bt352.2.2.1 bt352.2.2.2.1) else (if (bt352.2.2.2.2 != bt358.2.2.2.2) = true then (laws_FnBuckets.j0 k bt335.2.2.2.2 bt346.2.2.2.2 bt352.2.2.2.2 true bt335.1 bt335.2.1 bt335.2.2.1 bt335.2.2.2.1 bt341.1 bt341.2.1 bt341.2.2.1 bt341.2.2.2 bt346.1 bt346.2.1 bt346.2.2.1 bt346.2.2.2.1 bt352.1 bt352.2.1 bt352.2.2.1 bt352.2.2.2.1) else ((impl_BucketOk.f bt364.1 bt364.2.1 bt364.2.2.1 bt364.2.2.2).bind fun t381 => ((spec_BucketOk.f bt364.1 bt364.2.1 bt364.2.2.1 bt364.2.2.2).bind fun t382 => (if (t381 != t382) = true then (laws_FnBuckets.j0 k bt335.2.2.2.2 bt346.2.2.2.2 bt352.2.2.2.2 true bt335.1 bt335.2.1 bt335.2.2.1 bt335.2.2.2.1 bt341.1 bt341.2.1 bt341.2.2.1 bt341.2.2.2 bt346.1 bt346.2.1 bt346.2.2.1 bt346.2.2.2.1 bt352.1 bt352.2.1 bt352.2.2.1 bt352.2.2.2.1) else ((impl_MostIn.f bt369.1 bt369.2.1 bt369.2.2.1 bt369.2.2.2.1 bt369.2.2.2.2).bind fun t383 => ((spec_MostIn.f bt369.1 bt369.2.1 bt369.2.2.1 bt369.2.2.2.1 bt369.2.2.2.2).bind fun t384 => (if t383 = t384 then ((impl_BucketNew.f bt375.1 bt375.2).bind fun bt385 => ((spec_BucketNew.f bt375.1 bt375.2).bind fun bt389 => (laws_FnBuckets.j0 k bt335.2.2.2.2 bt346.2.2.2.2 bt352.2.2.2.2 (!(bt385.1 == bt389.1) || (!(bt385.2.1 == bt389.2.1) || (!(bt385.2.2.1 == bt389.2.2.1) || (!(bt385.2.2.2 == bt389.2.2.2))))) bt335.1 bt335.2.1 bt335.2.2.1 bt335.2.2.2.1 bt341.1 bt341.2.1 bt341.2.2.1 bt341.2.2.2 bt346.1 bt346.2.1 bt346.2.2.1 bt346.2.2.2.1 bt352.1 bt352.2.1 bt352.2.2.1 bt352.2.2.2.1))) else (laws_FnBuckets.j0 k bt335.2.2.2.2 bt346.2.2.2.2 bt352.2.2.2.2 true bt335.1 bt335.2.1 bt335.2.2.1 bt335.2.2.2.1 bt341.1 bt341.2.1 bt341.2.2.1 bt341.2.2.2 bt346.1 bt346.2.1 bt346.2.2.1 bt346.2.2.2.1 bt352.1 bt352.2.1 bt352.2.2.1 bt352.2.2.2.1)))))))))))))))))))) = some r := H
 have A2 := Aside0.mk A20
 clear A20
 by_cases c3 : t334 = true
 ·subst c3
  have H1 : (some true) = some r := by rw [if_pos rfl] at H; exact H
  clear H
  have H := H1
  clear H1
  obtain rfl := Option.some.inj H
  go_enter Try.func12, Try.ntmps12
  go_wp2_with (first | ((with_reducible refine gate_callee (f := 27) rfl ?_); refine goesL_ (some 19) rfl rfl Try.func27 (by kernel_rfl) rfl #[.slice A0 l0.length c0] rfl (by (try simp only [List.map_toArray, List.map_cons, List.map_nil]); first | done | rfl | (simp only [List.length_drop, List.length_take]; rfl)) ?_; (with_reducible refine (laws_big.calls _ _ l0 true _ ?side1 ?side2 A2.out).mono ?_); (case side1 => repeat (first | exact HR0.out | (with_reducible refine Kd.C_alloc ?_ _) | (with_reducible refine Kd.C_drewN ?_ _) | (with_reducible refine Kd.C_drew ?_))); (case side2 => exact HC0.out); rintro e w' ⟨rfl, ⟨nd, rfl⟩⟩; refine ⟨_, rfl, ?_⟩))
  go_ret
  exact ⟨by first | rfl | (simp [errW_none, errW_some] <;> rfl) | (simp [*, errW_none, errW_some] <;> rfl), by repeat (first | (with_reducible first | exact HB.out | apply below_alloc | apply pw_below_drewN | apply below_drew1) | exact HB.out)⟩
 ·replace c3 := Bool.eq_false_iff.mpr c3
  subst c3
  have H1 : ((spec_DrawRefill.f k l0).bind fun bt335 => ((impl_Refill.f k bt335.1 bt335.2.1 bt335.2.2.1 bt335.2.2.2.1 bt335.2.2.2.2).bind fun bt341 => ((spec_DrawSpend.f k l0).bind fun bt346 => ((impl_Spend.f bt346.1 bt346.2.1 bt346.2.2.1 bt346.2.2.2.1 bt346.2.2.2.2).bind fun bt352 => ((spec_Spend.f bt346.1 bt346.2.1 bt346.2.2.1 bt346.2.2.2.1 bt346.2.2.2.2).bind fun bt358 => ((spec_DrawBucketOk.f k l0).bind fun bt364 => ((spec_DrawMostIn.f k l0).bind fun bt369 => ((spec_DrawBucketNew.f k l0).bind fun bt375 => ((spec_Refill.f k bt335.1 bt335.2.1 bt335.2.2.1 bt335.2.2.2.1 bt335.2.2.2.2).bind fun bt377 => (if (!(bt341.1 == bt377.1) || (!(bt341.2.1 == bt377.2.1) || (!(bt341.2.2.1 == bt377.2.2.1) || (!(bt341.2.2.2 == bt377.2.2.2))))) = true then (laws_FnBuckets.j0 k bt335.2.2.2.2 bt346.2.2.2.2 bt352.2.2.2.2 true bt335.1 bt335.2.1 bt335.2.2.1 bt335.2.2.2.1 bt341.1 bt341.2.1 bt341.2.2.1 bt341.2.2.2 bt346.1 bt346.2.1 bt346.2.2.1 bt346.2.2.2.1 bt352.1 bt352.2.1 bt352.2.2.1 bt352.2.2.2.1) else (if (!(bt352.1 == bt358.1) || (!(bt352.2.1 == bt358.2.1) || (!(bt352.2.2.1 == bt358.2.2.1) || (!(bt352.2.2.2.1 == bt358.2.2.2.1))))) = true then (laws_FnBuckets.j0 k bt335.2.2.2.2 bt346.2.2.2.2 bt352.2.2.2.2 true bt335.1 bt335.2.1 bt335.2.2.1 bt335.2.2.2.1 bt341.1 bt341.2.1 bt341.2.2.1 bt341.2.2.2 bt346.1 bt346.2.1 bt346.2.2.1 bt346.2.2.2.1 bt352.1 bt352.2.1 bt352.2.2.1 bt352.2.2.2.1) else (if (bt352.2.2.2.2 != bt358.2.2.2.2) = true then (laws_FnBuckets.j0 k bt335.2.2.2.2 bt346.2.2.2.2 bt352.2.2.2.2 true bt335.1 bt335.2.1 bt335.2.2.1 bt335.2.2.2.1 bt341.1 bt341.2.1 bt341.2.2.1 bt341.2.2.2 bt346.1 bt346.2.1 bt346.2.2.1 bt346.2.2.2.1 bt352.1 bt352.2.1 bt352.2.2.1 bt352.2.2.2.1) else ((impl_BucketOk.f bt364.1 bt364.2.1 bt364.2.2.1 bt364.2.2.2).bind fun t381 => ((spec_BucketOk.f bt364.1 bt364.2.1 bt364.2.2.1 bt364.2.2.2).bind fun t382 => (if (t381 != t382) = true then (laws_FnBuckets.j0 k bt335.2.2.2.2 bt346.2.2.2.2 bt352.2.2.2.2 true bt335.1 bt335.2.1 bt335.2.2.1 bt335.2.2.2.1 bt341.1 bt341.2.1 bt341.2.2.1 bt341.2.2.2 bt346.1 bt346.2.1 bt346.2.2.1 bt346.2.2.2.1 bt352.1 bt352.2.1 bt352.2.2.1 bt352.2.2.2.1) else ((impl_MostIn.f bt369.1 bt369.2.1 bt369.2.2.1 bt369.2.2.2.1 bt369.2.2.2.2).bind fun t383 => ((spec_MostIn.f bt369.1 bt369.2.1 bt369.2.2.1 bt369.2.2.2.1 bt369.2.2.2.2).bind fun t384 => (if t383 = t384 then ((impl_BucketNew.f bt375.1 bt375.2).bind fun bt385 => ((spec_BucketNew.f bt375.1 bt375.2).bind fun bt389 => (laws_FnBuckets.j0 k bt335.2.2.2.2 bt346.2.2.2.2 bt352.2.2.2.2 (!(bt385.1 == bt389.1) || (!(bt385.2.1 == bt389.2.1) || (!(bt385.2.2.1 == bt389.2.2.1) || (!(bt385.2.2.2 == bt389.2.2.2))))) bt335.1 bt335.2.1 bt335.2.2.1 bt335.2.2.2.1 bt341.1 bt341.2.1 bt341.2.2.1 bt341.2.2.2 bt346.1 bt346.2.1 bt346.2.2.1 bt346.2.2.2.1 bt352.1 bt352.2.1 bt352.2.2.1 bt352.2.2.2.1))) else (laws_FnBuckets.j0 k bt335.2.2.2.2 bt346.2.2.2.2 bt352.2.2.2.2 true bt335.1 bt335.2.1 bt335.2.2.1 bt335.2.2.2.1 bt341.1 bt341.2.1 bt341.2.2.1 bt341.2.2.2 bt346.1 bt346.2.1 bt346.2.2.1 bt346.2.2.2.1 bt352.1 bt352.2.1 bt352.2.2.1 bt352.2.2.2.1))))))))))))))))))) = some r := by rw [if_neg (show ¬ (false = true) by decide)] at H; exact H
  clear H
  have H := H1
  clear H1
  replace H := Option.bind_eq_some_iff.mp H
  obtain ⟨⟨t335, t336, t337, t338, t339⟩, A40, H⟩ := H
  replace H : ((impl_Refill.f k t335 t336 t337 t338 t339).bind fun bt341 => ((spec_DrawSpend.f k l0).bind fun bt346 => ((impl_Spend.f bt346.1 bt346.2.1 bt346.2.2.1 bt346.2.2.2.1 bt346.2.2.2.2).bind fun bt352 => ((spec_Spend.f bt346.1 bt346.2.1 bt346.2.2.1 bt346.2.2.2.1 bt346.2.2.2.2).bind fun bt358 => ((spec_DrawBucketOk.f k l0).bind fun bt364 => ((spec_DrawMostIn.f k l0).bind fun bt369 => ((spec_DrawBucketNew.f k l0).bind fun bt375 => ((spec_Refill.f k t335 t336 t337 t338 t339).bind fun bt377 => (if (!(bt341.1 == bt377.1) || (!(bt341.2.1 == bt377.2.1) || (!(bt341.2.2.1 == bt377.2.2.1) || (!(bt341.2.2.2 == bt377.2.2.2))))) = true then (laws_FnBuckets.j0 k t339 bt346.2.2.2.2 bt352.2.2.2.2 true t335 t336 t337 t338 bt341.1 bt341.2.1 bt341.2.2.1 bt341.2.2.2 bt346.1 bt346.2.1 bt346.2.2.1 bt346.2.2.2.1 bt352.1 bt352.2.1 bt352.2.2.1 bt352.2.2.2.1) else (if (!(bt352.1 == bt358.1) || (!(bt352.2.1 == bt358.2.1) || (!(bt352.2.2.1 == bt358.2.2.1) || (!(bt352.2.2.2.1 == bt358.2.2.2.1))))) = true then (laws_FnBuckets.j0 k t339 bt346.2.2.2.2 bt352.2.2.2.2 true t335 t336 t337 t338 bt341.1 bt341.2.1 bt341.2.2.1 bt341.2.2.2 bt346.1 bt346.2.1 bt346.2.2.1 bt346.2.2.2.1 bt352.1 bt352.2.1 bt352.2.2.1 bt352.2.2.2.1) else (if (bt352.2.2.2.2 != bt358.2.2.2.2) = true then (laws_FnBuckets.j0 k t339 bt346.2.2.2.2 bt352.2.2.2.2 true t335 t336 t337 t338 bt341.1 bt341.2.1 bt341.2.2.1 bt341.2.2.2 bt346.1 bt346.2.1 bt346.2.2.1 bt346.2.2.2.1 bt352.1 bt352.2.1 bt352.2.2.1 bt352.2.2.2.1) else ((impl_BucketOk.f bt364.1 bt364.2.1 bt364.2.2.1 bt364.2.2.2).bind fun t381 => ((spec_BucketOk.f bt364.1 bt364.2.1 bt364.2.2.1 bt364.2.2.2).bind fun t382 => (if (t381 != t382) = true then (laws_FnBuckets.j0 k t339 bt346.2.2.2.2 bt352.2.2.2.2 true t335 t336 t337 t338 bt341.1 bt341.2.1 bt341.2.2.1 bt341.2.2.2 bt346.1 bt346.2.1 bt346.2.2.1 bt346.2.2.2.1 bt352.1 bt352.2.1 bt352.2.2.1 bt352.2.2.2.1) else ((impl_MostIn.f bt369.1 bt369.2.1 bt369.2.2.1 bt369.2.2.2.1 bt369.2.2.2.2).bind fun t383 => ((spec_MostIn.f bt369.1 bt369.2.1 bt369.2.2.1 bt369.2.2.2.1 bt369.2.2.2.2).bind fun t384 => (if t383 = t384 then ((impl_BucketNew.f bt375.1 bt375.2).bind fun bt385 => ((spec_BucketNew.f bt375.1 bt375.2).bind fun bt389 => (laws_FnBuckets.j0 k t339 bt346.2.2.2.2 bt352.2.2.2.2 (!(bt385.1 == bt389.1) || (!(bt385.2.1 == bt389.2.1) || (!(bt385.2.2.1 == bt389.2.2.1) || (!(bt385.2.2.2 == bt389.2.2.2))))) t335 t336 t337 t338 bt341.1 bt341.2.1 bt341.2.2.1 bt341.2.2.2 bt346.1 bt346.2.1 bt346.2.2.1 bt346.2.2.2.1 bt352.1 bt352.2.1 bt352.2.2.1 bt352.2.2.2.1))) else (laws_FnBuckets.j0 k t339 bt346.2.2.2.2 bt352.2.2.2.2 true t335 t336 t337 t338 bt341.1 bt341.2.1 bt341.2.2.1 bt341.2.2.2 bt346.1 bt346.2.1 bt346.2.2.1 bt346.2.2.2.1 bt352.1 bt352.2.1 bt352.2.2.1 bt352.2.2.2.1)))))))))))))))))) = some r := H
  have A4 := Aside0.mk A40
  clear A40
  replace H := Option.bind_eq_some_iff.mp H
  obtain ⟨⟨t341, t342, t343, t344⟩, A50, H⟩ := H
  replace H : ((spec_DrawSpend.f k l0).bind fun bt346 => ((impl_Spend.f bt346.1 bt346.2.1 bt346.2.2.1 bt346.2.2.2.1 bt346.2.2.2.2).bind fun bt352 => ((spec_Spend.f bt346.1 bt346.2.1 bt346.2.2.1 bt346.2.2.2.1 bt346.2.2.2.2).bind fun bt358 => ((spec_DrawBucketOk.f k l0).bind fun bt364 => ((spec_DrawMostIn.f k l0).bind fun bt369 => ((spec_DrawBucketNew.f k l0).bind fun bt375 => ((spec_Refill.f k t335 t336 t337 t338 t339).bind fun bt377 => (if (!(t341 == bt377.1) || (!(t342 == bt377.2.1) || (!(t343 == bt377.2.2.1) || (!(t344 == bt377.2.2.2))))) = true then (laws_FnBuckets.j0 k t339 bt346.2.2.2.2 bt352.2.2.2.2 true t335 t336 t337 t338 t341 t342 t343 t344 bt346.1 bt346.2.1 bt346.2.2.1 bt346.2.2.2.1 bt352.1 bt352.2.1 bt352.2.2.1 bt352.2.2.2.1) else (if (!(bt352.1 == bt358.1) || (!(bt352.2.1 == bt358.2.1) || (!(bt352.2.2.1 == bt358.2.2.1) || (!(bt352.2.2.2.1 == bt358.2.2.2.1))))) = true then (laws_FnBuckets.j0 k t339 bt346.2.2.2.2 bt352.2.2.2.2 true t335 t336 t337 t338 t341 t342 t343 t344 bt346.1 bt346.2.1 bt346.2.2.1 bt346.2.2.2.1 bt352.1 bt352.2.1 bt352.2.2.1 bt352.2.2.2.1) else (if (bt352.2.2.2.2 != bt358.2.2.2.2) = true then (laws_FnBuckets.j0 k t339 bt346.2.2.2.2 bt352.2.2.2.2 true t335 t336 t337 t338 t341 t342 t343 t344 bt346.1 bt346.2.1 bt346.2.2.1 bt346.2.2.2.1 bt352.1 bt352.2.1 bt352.2.2.1 bt352.2.2.2.1) else ((impl_BucketOk.f bt364.1 bt364.2.1 bt364.2.2.1 bt364.2.2.2).bind fun t381 => ((spec_BucketOk.f bt364.1 bt364.2.1 bt364.2.2.1 bt364.2.2.2).bind fun t382 => (if (t381 != t382) = true then (laws_FnBuckets.j0 k t339 bt346.2.2.2.2 bt352.2.2.2.2 true t335 t336 t337 t338 t341 t342 t343 t344 bt346.1 bt346.2.1 bt346.2.2.1 bt346.2.2.2.1 bt352.1 bt352.2.1 bt352.2.2.1 bt352.2.2.2.1) else ((impl_MostIn.f bt369.1 bt369.2.1 bt369.2.2.1 bt369.2.2.2.1 bt369.2.2.2.2).bind fun t383 => ((spec_MostIn.f bt369.1 bt369.2.1 bt369.2.2.1 bt369.2.2.2.1 bt369.2.2.2.2).bind fun t384 => (if t383 = t384 then ((impl_BucketNew.f bt375.1 bt375.2).bind fun bt385 => ((spec_BucketNew.f bt375.1 bt375.2).bind fun bt389 => (laws_FnBuckets.j0 k t339 bt346.2.2.2.2 bt352.2.2.2.2 (!(bt385.1 == bt389.1) || (!(bt385.2.1 == bt389.2.1) || (!(bt385.2.2.1 == bt389.2.2.1) || (!(bt385.2.2.2 == bt389.2.2.2))))) t335 t336 t337 t338 t341 t342 t343 t344 bt346.1 bt346.2.1 bt346.2.2.1 bt346.2.2.2.1 bt352.1 bt352.2.1 bt352.2.2.1 bt352.2.2.2.1))) else (laws_FnBuckets.j0 k t339 bt346.2.2.2.2 bt352.2.2.2.2 true t335 t336 t337 t338 t341 t342 t343 t344 bt346.1 bt346.2.1 bt346.2.2.1 bt346.2.2.2.1 bt352.1 bt352.2.1 bt352.2.2.1 bt352.2.2.2.1))))))))))))))))) = some r := H
  have A5 := Aside0.mk A50
  clear A50
  replace H := Option.bind_eq_some_iff.mp H
  obtain ⟨⟨t346, t347, t348, t349, t350⟩, A60, H⟩ := H
  replace H : ((impl_Spend.f t346 t347 t348 t349 t350).bind fun bt352 => ((spec_Spend.f t346 t347 t348 t349 t350).bind fun bt358 => ((spec_DrawBucketOk.f k l0).bind fun bt364 => ((spec_DrawMostIn.f k l0).bind fun bt369 => ((spec_DrawBucketNew.f k l0).bind fun bt375 => ((spec_Refill.f k t335 t336 t337 t338 t339).bind fun bt377 => (if (!(t341 == bt377.1) || (!(t342 == bt377.2.1) || (!(t343 == bt377.2.2.1) || (!(t344 == bt377.2.2.2))))) = true then (laws_FnBuckets.j0 k t339 t350 bt352.2.2.2.2 true t335 t336 t337 t338 t341 t342 t343 t344 t346 t347 t348 t349 bt352.1 bt352.2.1 bt352.2.2.1 bt352.2.2.2.1) else (if (!(bt352.1 == bt358.1) || (!(bt352.2.1 == bt358.2.1) || (!(bt352.2.2.1 == bt358.2.2.1) || (!(bt352.2.2.2.1 == bt358.2.2.2.1))))) = true then (laws_FnBuckets.j0 k t339 t350 bt352.2.2.2.2 true t335 t336 t337 t338 t341 t342 t343 t344 t346 t347 t348 t349 bt352.1 bt352.2.1 bt352.2.2.1 bt352.2.2.2.1) else (if (bt352.2.2.2.2 != bt358.2.2.2.2) = true then (laws_FnBuckets.j0 k t339 t350 bt352.2.2.2.2 true t335 t336 t337 t338 t341 t342 t343 t344 t346 t347 t348 t349 bt352.1 bt352.2.1 bt352.2.2.1 bt352.2.2.2.1) else ((impl_BucketOk.f bt364.1 bt364.2.1 bt364.2.2.1 bt364.2.2.2).bind fun t381 => ((spec_BucketOk.f bt364.1 bt364.2.1 bt364.2.2.1 bt364.2.2.2).bind fun t382 => (if (t381 != t382) = true then (laws_FnBuckets.j0 k t339 t350 bt352.2.2.2.2 true t335 t336 t337 t338 t341 t342 t343 t344 t346 t347 t348 t349 bt352.1 bt352.2.1 bt352.2.2.1 bt352.2.2.2.1) else ((impl_MostIn.f bt369.1 bt369.2.1 bt369.2.2.1 bt369.2.2.2.1 bt369.2.2.2.2).bind fun t383 => ((spec_MostIn.f bt369.1 bt369.2.1 bt369.2.2.1 bt369.2.2.2.1 bt369.2.2.2.2).bind fun t384 => (if t383 = t384 then ((impl_BucketNew.f bt375.1 bt375.2).bind fun bt385 => ((spec_BucketNew.f bt375.1 bt375.2).bind fun bt389 => (laws_FnBuckets.j0 k t339 t350 bt352.2.2.2.2 (!(bt385.1 == bt389.1) || (!(bt385.2.1 == bt389.2.1) || (!(bt385.2.2.1 == bt389.2.2.1) || (!(bt385.2.2.2 == bt389.2.2.2))))) t335 t336 t337 t338 t341 t342 t343 t344 t346 t347 t348 t349 bt352.1 bt352.2.1 bt352.2.2.1 bt352.2.2.2.1))) else (laws_FnBuckets.j0 k t339 t350 bt352.2.2.2.2 true t335 t336 t337 t338 t341 t342 t343 t344 t346 t347 t348 t349 bt352.1 bt352.2.1 bt352.2.2.1 bt352.2.2.2.1)))))))))))))))) = some r := H
  have A6 := Aside0.mk A60
  clear A60
  replace H := Option.bind_eq_some_iff.mp H
  obtain ⟨⟨t352, t353, t354, t355, t356⟩, A70, H⟩ := H
  replace H : ((spec_Spend.f t346 t347 t348 t349 t350).bind fun bt358 => ((spec_DrawBucketOk.f k l0).bind fun bt364 => ((spec_DrawMostIn.f k l0).bind fun bt369 => ((spec_DrawBucketNew.f k l0).bind fun bt375 => ((spec_Refill.f k t335 t336 t337 t338 t339).bind fun bt377 => (if (!(t341 == bt377.1) || (!(t342 == bt377.2.1) || (!(t343 == bt377.2.2.1) || (!(t344 == bt377.2.2.2))))) = true then (laws_FnBuckets.j0 k t339 t350 t356 true t335 t336 t337 t338 t341 t342 t343 t344 t346 t347 t348 t349 t352 t353 t354 t355) else (if (!(t352 == bt358.1) || (!(t353 == bt358.2.1) || (!(t354 == bt358.2.2.1) || (!(t355 == bt358.2.2.2.1))))) = true then (laws_FnBuckets.j0 k t339 t350 t356 true t335 t336 t337 t338 t341 t342 t343 t344 t346 t347 t348 t349 t352 t353 t354 t355) else (if (t356 != bt358.2.2.2.2) = true then (laws_FnBuckets.j0 k t339 t350 t356 true t335 t336 t337 t338 t341 t342 t343 t344 t346 t347 t348 t349 t352 t353 t354 t355) else ((impl_BucketOk.f bt364.1 bt364.2.1 bt364.2.2.1 bt364.2.2.2).bind fun t381 => ((spec_BucketOk.f bt364.1 bt364.2.1 bt364.2.2.1 bt364.2.2.2).bind fun t382 => (if (t381 != t382) = true then (laws_FnBuckets.j0 k t339 t350 t356 true t335 t336 t337 t338 t341 t342 t343 t344 t346 t347 t348 t349 t352 t353 t354 t355) else ((impl_MostIn.f bt369.1 bt369.2.1 bt369.2.2.1 bt369.2.2.2.1 bt369.2.2.2.2).bind fun t383 => ((spec_MostIn.f bt369.1 bt369.2.1 bt369.2.2.1 bt369.2.2.2.1 bt369.2.2.2.2).bind fun t384 => (if t383 = t384 then ((impl_BucketNew.f bt375.1 bt375.2).bind fun bt385 => ((spec_BucketNew.f bt375.1 bt375.2).bind fun bt389 => (laws_FnBuckets.j0 k t339 t350 t356 (!(bt385.1 == bt389.1) || (!(bt385.2.1 == bt389.2.1) || (!(bt385.2.2.1 == bt389.2.2.1) || (!(bt385.2.2.2 == bt389.2.2.2))))) t335 t336 t337 t338 t341 t342 t343 t344 t346 t347 t348 t349 t352 t353 t354 t355))) else (laws_FnBuckets.j0 k t339 t350 t356 true t335 t336 t337 t338 t341 t342 t343 t344 t346 t347 t348 t349 t352 t353 t354 t355))))))))))))))) = some r := H
  have A7 := Aside0.mk A70
  clear A70
  replace H := Option.bind_eq_some_iff.mp H
  obtain ⟨⟨t358, t359, t360, t361, t362⟩, A80, H⟩ := H
  replace H : ((spec_DrawBucketOk.f k l0).bind fun bt364 => ((spec_DrawMostIn.f k l0).bind fun bt369 => ((spec_DrawBucketNew.f k l0).bind fun bt375 => ((spec_Refill.f k t335 t336 t337 t338 t339).bind fun bt377 => (if (!(t341 == bt377.1) || (!(t342 == bt377.2.1) || (!(t343 == bt377.2.2.1) || (!(t344 == bt377.2.2.2))))) = true then (laws_FnBuckets.j0 k t339 t350 t356 true t335 t336 t337 t338 t341 t342 t343 t344 t346 t347 t348 t349 t352 t353 t354 t355) else (if (!(t352 == t358) || (!(t353 == t359) || (!(t354 == t360) || (!(t355 == t361))))) = true then (laws_FnBuckets.j0 k t339 t350 t356 true t335 t336 t337 t338 t341 t342 t343 t344 t346 t347 t348 t349 t352 t353 t354 t355) else (if (t356 != t362) = true then (laws_FnBuckets.j0 k t339 t350 t356 true t335 t336 t337 t338 t341 t342 t343 t344 t346 t347 t348 t349 t352 t353 t354 t355) else ((impl_BucketOk.f bt364.1 bt364.2.1 bt364.2.2.1 bt364.2.2.2).bind fun t381 => ((spec_BucketOk.f bt364.1 bt364.2.1 bt364.2.2.1 bt364.2.2.2).bind fun t382 => (if (t381 != t382) = true then (laws_FnBuckets.j0 k t339 t350 t356 true t335 t336 t337 t338 t341 t342 t343 t344 t346 t347 t348 t349 t352 t353 t354 t355) else ((impl_MostIn.f bt369.1 bt369.2.1 bt369.2.2.1 bt369.2.2.2.1 bt369.2.2.2.2).bind fun t383 => ((spec_MostIn.f bt369.1 bt369.2.1 bt369.2.2.1 bt369.2.2.2.1 bt369.2.2.2.2).bind fun t384 => (if t383 = t384 then ((impl_BucketNew.f bt375.1 bt375.2).bind fun bt385 => ((spec_BucketNew.f bt375.1 bt375.2).bind fun bt389 => (laws_FnBuckets.j0 k t339 t350 t356 (!(bt385.1 == bt389.1) || (!(bt385.2.1 == bt389.2.1) || (!(bt385.2.2.1 == bt389.2.2.1) || (!(bt385.2.2.2 == bt389.2.2.2))))) t335 t336 t337 t338 t341 t342 t343 t344 t346 t347 t348 t349 t352 t353 t354 t355))) else (laws_FnBuckets.j0 k t339 t350 t356 true t335 t336 t337 t338 t341 t342 t343 t344 t346 t347 t348 t349 t352 t353 t354 t355)))))))))))))) = some r := H
  have A8 := Aside0.mk A80
  clear A80
  replace H := Option.bind_eq_some_iff.mp H
  obtain ⟨⟨t364, t365, t366, t367⟩, A90, H⟩ := H
  replace H : ((spec_DrawMostIn.f k l0).bind fun bt369 => ((spec_DrawBucketNew.f k l0).bind fun bt375 => ((spec_Refill.f k t335 t336 t337 t338 t339).bind fun bt377 => (if (!(t341 == bt377.1) || (!(t342 == bt377.2.1) || (!(t343 == bt377.2.2.1) || (!(t344 == bt377.2.2.2))))) = true then (laws_FnBuckets.j0 k t339 t350 t356 true t335 t336 t337 t338 t341 t342 t343 t344 t346 t347 t348 t349 t352 t353 t354 t355) else (if (!(t352 == t358) || (!(t353 == t359) || (!(t354 == t360) || (!(t355 == t361))))) = true then (laws_FnBuckets.j0 k t339 t350 t356 true t335 t336 t337 t338 t341 t342 t343 t344 t346 t347 t348 t349 t352 t353 t354 t355) else (if (t356 != t362) = true then (laws_FnBuckets.j0 k t339 t350 t356 true t335 t336 t337 t338 t341 t342 t343 t344 t346 t347 t348 t349 t352 t353 t354 t355) else ((impl_BucketOk.f t364 t365 t366 t367).bind fun t381 => ((spec_BucketOk.f t364 t365 t366 t367).bind fun t382 => (if (t381 != t382) = true then (laws_FnBuckets.j0 k t339 t350 t356 true t335 t336 t337 t338 t341 t342 t343 t344 t346 t347 t348 t349 t352 t353 t354 t355) else ((impl_MostIn.f bt369.1 bt369.2.1 bt369.2.2.1 bt369.2.2.2.1 bt369.2.2.2.2).bind fun t383 => ((spec_MostIn.f bt369.1 bt369.2.1 bt369.2.2.1 bt369.2.2.2.1 bt369.2.2.2.2).bind fun t384 => (if t383 = t384 then ((impl_BucketNew.f bt375.1 bt375.2).bind fun bt385 => ((spec_BucketNew.f bt375.1 bt375.2).bind fun bt389 => (laws_FnBuckets.j0 k t339 t350 t356 (!(bt385.1 == bt389.1) || (!(bt385.2.1 == bt389.2.1) || (!(bt385.2.2.1 == bt389.2.2.1) || (!(bt385.2.2.2 == bt389.2.2.2))))) t335 t336 t337 t338 t341 t342 t343 t344 t346 t347 t348 t349 t352 t353 t354 t355))) else (laws_FnBuckets.j0 k t339 t350 t356 true t335 t336 t337 t338 t341 t342 t343 t344 t346 t347 t348 t349 t352 t353 t354 t355))))))))))))) = some r := H
  have A9 := Aside0.mk A90
  clear A90
  replace H := Option.bind_eq_some_iff.mp H
  obtain ⟨⟨t369, t370, t371, t372, t373⟩, A100, H⟩ := H
  replace H : ((spec_DrawBucketNew.f k l0).bind fun bt375 => ((spec_Refill.f k t335 t336 t337 t338 t339).bind fun bt377 => (if (!(t341 == bt377.1) || (!(t342 == bt377.2.1) || (!(t343 == bt377.2.2.1) || (!(t344 == bt377.2.2.2))))) = true then (laws_FnBuckets.j0 k t339 t350 t356 true t335 t336 t337 t338 t341 t342 t343 t344 t346 t347 t348 t349 t352 t353 t354 t355) else (if (!(t352 == t358) || (!(t353 == t359) || (!(t354 == t360) || (!(t355 == t361))))) = true then (laws_FnBuckets.j0 k t339 t350 t356 true t335 t336 t337 t338 t341 t342 t343 t344 t346 t347 t348 t349 t352 t353 t354 t355) else (if (t356 != t362) = true then (laws_FnBuckets.j0 k t339 t350 t356 true t335 t336 t337 t338 t341 t342 t343 t344 t346 t347 t348 t349 t352 t353 t354 t355) else ((impl_BucketOk.f t364 t365 t366 t367).bind fun t381 => ((spec_BucketOk.f t364 t365 t366 t367).bind fun t382 => (if (t381 != t382) = true then (laws_FnBuckets.j0 k t339 t350 t356 true t335 t336 t337 t338 t341 t342 t343 t344 t346 t347 t348 t349 t352 t353 t354 t355) else ((impl_MostIn.f t369 t370 t371 t372 t373).bind fun t383 => ((spec_MostIn.f t369 t370 t371 t372 t373).bind fun t384 => (if t383 = t384 then ((impl_BucketNew.f bt375.1 bt375.2).bind fun bt385 => ((spec_BucketNew.f bt375.1 bt375.2).bind fun bt389 => (laws_FnBuckets.j0 k t339 t350 t356 (!(bt385.1 == bt389.1) || (!(bt385.2.1 == bt389.2.1) || (!(bt385.2.2.1 == bt389.2.2.1) || (!(bt385.2.2.2 == bt389.2.2.2))))) t335 t336 t337 t338 t341 t342 t343 t344 t346 t347 t348 t349 t352 t353 t354 t355))) else (laws_FnBuckets.j0 k t339 t350 t356 true t335 t336 t337 t338 t341 t342 t343 t344 t346 t347 t348 t349 t352 t353 t354 t355)))))))))))) = some r := H
  have A10 := Aside0.mk A100
  clear A100
  replace H := Option.bind_eq_some_iff.mp H
  obtain ⟨⟨t375, t376⟩, A110, H⟩ := H
  replace H : ((spec_Refill.f k t335 t336 t337 t338 t339).bind fun bt377 => (if (!(t341 == bt377.1) || (!(t342 == bt377.2.1) || (!(t343 == bt377.2.2.1) || (!(t344 == bt377.2.2.2))))) = true then (laws_FnBuckets.j0 k t339 t350 t356 true t335 t336 t337 t338 t341 t342 t343 t344 t346 t347 t348 t349 t352 t353 t354 t355) else (if (!(t352 == t358) || (!(t353 == t359) || (!(t354 == t360) || (!(t355 == t361))))) = true then (laws_FnBuckets.j0 k t339 t350 t356 true t335 t336 t337 t338 t341 t342 t343 t344 t346 t347 t348 t349 t352 t353 t354 t355) else (if (t356 != t362) = true then (laws_FnBuckets.j0 k t339 t350 t356 true t335 t336 t337 t338 t341 t342 t343 t344 t346 t347 t348 t349 t352 t353 t354 t355) else ((impl_BucketOk.f t364 t365 t366 t367).bind fun t381 => ((spec_BucketOk.f t364 t365 t366 t367).bind fun t382 => (if (t381 != t382) = true then (laws_FnBuckets.j0 k t339 t350 t356 true t335 t336 t337 t338 t341 t342 t343 t344 t346 t347 t348 t349 t352 t353 t354 t355) else ((impl_MostIn.f t369 t370 t371 t372 t373).bind fun t383 => ((spec_MostIn.f t369 t370 t371 t372 t373).bind fun t384 => (if t383 = t384 then ((impl_BucketNew.f t375 t376).bind fun bt385 => ((spec_BucketNew.f t375 t376).bind fun bt389 => (laws_FnBuckets.j0 k t339 t350 t356 (!(bt385.1 == bt389.1) || (!(bt385.2.1 == bt389.2.1) || (!(bt385.2.2.1 == bt389.2.2.1) || (!(bt385.2.2.2 == bt389.2.2.2))))) t335 t336 t337 t338 t341 t342 t343 t344 t346 t347 t348 t349 t352 t353 t354 t355))) else (laws_FnBuckets.j0 k t339 t350 t356 true t335 t336 t337 t338 t341 t342 t343 t344 t346 t347 t348 t349 t352 t353 t354 t355))))))))))) = some r := H
  have A11 := Aside0.mk A110
  clear A110
  have HC12 := Aside0.mk H
  clear H
  go_enter Try.func12, Try.ntmps12
  go_upto_region 11 with (first | ((with_reducible refine gate_callee (f := 27) rfl ?_); refine goesL_ (some 19) rfl rfl Try.func27 (by kernel_rfl) rfl #[.slice A0 l0.length c0] rfl (by (try simp only [List.map_toArray, List.map_cons, List.map_nil]); first | done | rfl | (simp only [List.length_drop, List.length_take]; rfl)) ?_; (with_reducible refine (laws_big.calls _ _ l0 false _ ?side1 ?side2 A2.out).mono ?_); (case side1 => repeat (first | exact HR0.out | (with_reducible refine Kd.C_alloc ?_ _) | (with_reducible refine Kd.C_drewN ?_ _) | (with_reducible refine Kd.C_drew ?_))); (case side2 => exact HC0.out); rintro e w' ⟨rfl, ⟨nd, rfl⟩⟩; refine ⟨_, rfl, ?_⟩) | ((with_reducible refine gate_callee (f := 62) rfl ?_); refine goesL_ (some 22) rfl rfl Try.func62 (by kernel_rfl) rfl #[.slice A0 l0.length c0] rfl (by (try simp only [List.map_toArray, List.map_cons, List.map_nil]); first | done | rfl | (simp only [List.length_drop, List.length_take]; rfl)) ?_; (with_reducible refine (spec_DrawRefill.calls k _ _ l0 t335 t336 t337 t338 t339 _ ?side1 ?side2 A4.out).mono ?_); (case side1 => repeat (first | exact HR0.out | (with_reducible refine Kd.C_alloc ?_ _) | (with_reducible refine Kd.C_drewN ?_ _) | (with_reducible refine Kd.C_drew ?_))); (case side2 => exact HC0.out); rintro e w13 ⟨rfl, hb⟩; refine ⟨_, rfl, ?_⟩; have n0_ := Aside0.mk (below_step (by repeat (first | (with_reducible first | exact HB.out | apply below_alloc | apply pw_below_drewN | apply below_drew1) | exact HB.out)) hb); clear HB; have HB := n0_; clear n0_; (try clear hb); (try clear hb2); (try clear hk); (try clear hi)) | ((with_reducible refine gate_dst (N := 3) rfl ?_); refine box_event ?hg (N := 3) ?hd (cs := #[.int .i64 0, .int .i64 0, .int .i64 0, .int .i64 0]) (t := 31) ?hr ?_; (case hd => rfl); (case hg => rfl); (case hr => first | (go_simp; done) | (go_simp; rfl)); intro gb340 hg w14 hbox hb; have n0_ := Aside0.mk (below_step (by repeat (first | (with_reducible first | exact HB.out | apply below_alloc | apply pw_below_drewN | apply below_drew1) | exact HB.out)) hb); have n1_ := Aside0.mk (hbox); have n2_ := Aside0.mk ((by rw [hg]; exact (below_size (by repeat (first | (with_reducible first | exact HB.out | apply below_alloc | apply pw_below_drewN | apply below_drew1) | exact HB.out))) : w.heap.size ≤ gb340)); have n3_ := Aside0.mk ((by rw [hg]; exact (below_size (by repeat (first | (with_reducible first | exact HB.out | apply below_alloc | apply pw_below_drewN | apply below_drew1) | exact HB.out))) : w.heap.size ≤ gb340)); clear HB; have HB := n0_; have BK340 := n1_; have GW340 := n2_; have GE340 := n3_; clear n0_ n1_ n2_ n3_; clear hb hbox hg; have hcz15_0 : w14.cell? ⟨gb340, 0, none⟩ = some (.int .i64 0) := (bC BK340.out 0).trans rfl; have hcz15_1 : w14.cell? ⟨gb340, 1, none⟩ = some (.int .i64 0) := (bC BK340.out 1).trans rfl; have hcz15_2 : w14.cell? ⟨gb340, 2, none⟩ = some (.int .i64 0) := (bC BK340.out 2).trans rfl; have hcz15_3 : w14.cell? ⟨gb340, 3, none⟩ = some (.int .i64 0) := (bC BK340.out 3).trans rfl; have hfz15_0 := blk_frozen BK340.out 0; have hfz15_1 := blk_frozen BK340.out 1; have hfz15_2 := blk_frozen BK340.out 2; have hfz15_3 := blk_frozen BK340.out 3) | ((with_reducible refine gate_callee (f := 24) rfl ?_); refine goesL_ (some 27) rfl rfl Try.func24 (by kernel_rfl) rfl #[.agg #[.int .i64 t335, .int .i64 t336, .int .i64 t337, .int .i64 t338], .int .i64 t339] rfl (by (try simp only [List.map_toArray, List.map_cons, List.map_nil]); first | done | rfl | (simp only [List.length_drop, List.length_take]; rfl)) ?_; (with_reducible refine (impl_Refill.calls k t335 t336 t337 t338 t339 t341 t342 t343 t344 _ A5.out).mono ?_); rintro e w16 ⟨rfl, hb⟩; refine ⟨_, rfl, ?_⟩; have n0_ := Aside0.mk (bB (g := gb340) (o := .cells #[.int .i64 t335, .int .i64 t336, .int .i64 t337, .int .i64 t338] 31 (0, 0)) (by (with_reducible repeat (first | refine bN ?_ _ | refine bD ?_ | refine bA ?_ _)); refine blk_put (cs := #[.int .i64 t335, .int .i64 t336, .int .i64 t337, .int .i64 0]) ?_ 3 _ rfl; (with_reducible repeat (first | refine bN ?_ _ | refine bD ?_ | refine bA ?_ _)); refine blk_put (cs := #[.int .i64 t335, .int .i64 t336, .int .i64 0, .int .i64 0]) ?_ 2 _ rfl; (with_reducible repeat (first | refine bN ?_ _ | refine bD ?_ | refine bA ?_ _)); refine blk_put (cs := #[.int .i64 t335, .int .i64 0, .int .i64 0, .int .i64 0]) ?_ 1 _ rfl; (with_reducible repeat (first | refine bN ?_ _ | refine bD ?_ | refine bA ?_ _)); refine blk_put (cs := #[.int .i64 0, .int .i64 0, .int .i64 0, .int .i64 0]) ?_ 0 _ rfl; (with_reducible repeat (first | refine bN ?_ _ | refine bD ?_ | refine bA ?_ _)); exact BK340.out) hb); have n1_ := Aside0.mk (below_step (by repeat (first | (with_reducible first | exact HB.out | apply below_alloc | apply pw_below_drewN | apply below_drew1 | refine bS ?_ GE340.out) | exact HB.out)) hb); clear BK340; clear HB; have BK340 := n0_; have HB := n1_; clear n0_ n1_; (try clear hb); (try clear hb2); (try clear hk); (try clear hi)) | ((with_reducible refine gate_dst (N := 5) rfl ?_); refine box_event ?hg (N := 5) ?hd (cs := #[.int .i64 0, .int .i64 0, .int .i64 0, .int .i64 0]) (t := 31) ?hr ?_; (case hd => rfl); (case hg => rfl); (case hr => first | (go_simp; done) | (go_simp; rfl)); intro gb345 hg w17 hbox hb; have n0_ := Aside0.mk (bB (g := gb340) (o := .cells #[.int .i64 t335, .int .i64 t336, .int .i64 t337, .int .i64 t338] 31 (0, 0)) (by (with_reducible repeat (first | refine bN ?_ _ | refine bD ?_ | refine bA ?_ _)); exact BK340.out) hb); have n1_ := Aside0.mk (below_step (by repeat (first | (with_reducible first | exact HB.out | apply below_alloc | apply pw_below_drewN | apply below_drew1 | refine bS ?_ GE340.out) | exact HB.out)) hb); have n2_ := Aside0.mk (hbox); have n3_ := Aside0.mk ((by rw [hg]; exact (below_size (by repeat (first | (with_reducible first | exact HB.out | apply below_alloc | apply pw_below_drewN | apply below_drew1 | refine bS ?_ GE340.out) | exact HB.out))) : w.heap.size ≤ gb345)); have n4_ := Aside0.mk ((by rw [hg]; exact (below_size (by repeat (first | (with_reducible first | exact HB.out | apply below_alloc | apply pw_below_drewN | apply below_drew1 | refine bS ?_ GE340.out) | exact HB.out))) : w.heap.size ≤ gb345)); have n5_ := Aside0.mk ((by rw [hg]; exact Nat.ne_of_lt (blk_lt (g := gb340) (o := .cells #[.int .i64 t335, .int .i64 t336, .int .i64 t337, .int .i64 t338] 31 (0, 0)) (by (with_reducible repeat (first | refine bN ?_ _ | refine bD ?_ | refine bA ?_ _)); exact BK340.out)) : gb340 ≠ gb345)); have n6_ := Aside0.mk ((by rw [hg]; exact Nat.ne_of_gt (blk_lt (g := gb340) (o := .cells #[.int .i64 t335, .int .i64 t336, .int .i64 t337, .int .i64 t338] 31 (0, 0)) (by (with_reducible repeat (first | refine bN ?_ _ | refine bD ?_ | refine bA ?_ _)); exact BK340.out)) : gb345 ≠ gb340)); clear BK340; clear HB; have BK340 := n0_; have HB := n1_; have BK345 := n2_; have GW345 := n3_; have GE345 := n4_; have NB340_345 := n5_; have NB345_340 := n6_; clear n0_ n1_ n2_ n3_ n4_ n5_ n6_; clear hb hbox hg; have hnb18 := NB345_340.out; have hnc18 := NB340_345.out; have hcz19_0 : w17.cell? ⟨gb345, 0, none⟩ = some (.int .i64 0) := (bC BK345.out 0).trans rfl; have hcz19_1 : w17.cell? ⟨gb345, 1, none⟩ = some (.int .i64 0) := (bC BK345.out 1).trans rfl; have hcz19_2 : w17.cell? ⟨gb345, 2, none⟩ = some (.int .i64 0) := (bC BK345.out 2).trans rfl; have hcz19_3 : w17.cell? ⟨gb345, 3, none⟩ = some (.int .i64 0) := (bC BK345.out 3).trans rfl; have hfz19_0 := blk_frozen BK345.out 0; have hfz19_1 := blk_frozen BK345.out 1; have hfz19_2 := blk_frozen BK345.out 2; have hfz19_3 := blk_frozen BK345.out 3) | ((with_reducible refine gate_callee (f := 63) rfl ?_); refine goesL_ (some 30) rfl rfl Try.func63 (by kernel_rfl) rfl #[.slice A0 l0.length c0] rfl (by (try simp only [List.map_toArray, List.map_cons, List.map_nil]); first | done | rfl | (simp only [List.length_drop, List.length_take]; rfl)) ?_; (with_reducible refine (spec_DrawSpend.calls k _ _ l0 t346 t347 t348 t349 t350 _ ?side1 ?side2 A6.out).mono ?_); (case side1 => exact Kd.C_below HR0.out (by repeat (first | (with_reducible first | exact HB.out | apply below_alloc | apply pw_below_drewN | apply below_drew1 | refine bS ?_ GE340.out | refine bS ?_ GE345.out) | exact HB.out))); (case side2 => exact HC0.out); rintro e w20 ⟨rfl, hb⟩; refine ⟨_, rfl, ?_⟩; have n0_ := Aside0.mk (bB (g := gb340) (o := .cells #[.int .i64 t335, .int .i64 t336, .int .i64 t337, .int .i64 t338] 31 (0, 0)) (by (with_reducible repeat (first | refine bN ?_ _ | refine bD ?_ | refine bA ?_ _)); refine blk_far ?_ NB340_345.out _; (with_reducible repeat (first | refine bN ?_ _ | refine bD ?_ | refine bA ?_ _)); refine blk_far ?_ NB340_345.out _; (with_reducible repeat (first | refine bN ?_ _ | refine bD ?_ | refine bA ?_ _)); refine blk_far ?_ NB340_345.out _; (with_reducible repeat (first | refine bN ?_ _ | refine bD ?_ | refine bA ?_ _)); refine blk_far ?_ NB340_345.out _; (with_reducible repeat (first | refine bN ?_ _ | refine bD ?_ | refine bA ?_ _)); exact BK340.out) hb); have n1_ := Aside0.mk (bB (g := gb345) (o := .cells #[.int .i64 t341, .int .i64 t342, .int .i64 t343, .int .i64 t344] 31 (0, 0)) (by (with_reducible repeat (first | refine bN ?_ _ | refine bD ?_ | refine bA ?_ _)); refine blk_put (cs := #[.int .i64 t341, .int .i64 t342, .int .i64 t343, .int .i64 0]) ?_ 3 _ rfl; (with_reducible repeat (first | refine bN ?_ _ | refine bD ?_ | refine bA ?_ _)); refine blk_put (cs := #[.int .i64 t341, .int .i64 t342, .int .i64 0, .int .i64 0]) ?_ 2 _ rfl; (with_reducible repeat (first | refine bN ?_ _ | refine bD ?_ | refine bA ?_ _)); refine blk_put (cs := #[.int .i64 t341, .int .i64 0, .int .i64 0, .int .i64 0]) ?_ 1 _ rfl; (with_reducible repeat (first | refine bN ?_ _ | refine bD ?_ | refine bA ?_ _)); refine blk_put (cs := #[.int .i64 0, .int .i64 0, .int .i64 0, .int .i64 0]) ?_ 0 _ rfl; (with_reducible repeat (first | refine bN ?_ _ | refine bD ?_ | refine bA ?_ _)); exact BK345.out) hb); have n2_ := Aside0.mk (below_step (by repeat (first | (with_reducible first | exact HB.out | apply below_alloc | apply pw_below_drewN | apply below_drew1 | refine bS ?_ GE340.out | refine bS ?_ GE345.out) | exact HB.out)) hb); clear BK340; clear BK345; clear HB; have BK340 := n0_; have BK345 := n1_; have HB := n2_; clear n0_ n1_ n2_; (try clear hb); (try clear hb2); (try clear hk); (try clear hi)) | ((with_reducible refine gate_dst (N := 6) rfl ?_); refine box_event ?hg (N := 6) ?hd (cs := #[.int .i64 0, .int .i64 0, .int .i64 0, .int .i64 0]) (t := 31) ?hr ?_; (case hd => rfl); (case hg => rfl); (case hr => first | (go_simp; done) | (go_simp; rfl)); intro gb351 hg w21 hbox hb; have n0_ := Aside0.mk (bB (g := gb340) (o := .cells #[.int .i64 t335, .int .i64 t336, .int .i64 t337, .int .i64 t338] 31 (0, 0)) (by (with_reducible repeat (first | refine bN ?_ _ | refine bD ?_ | refine bA ?_ _)); exact BK340.out) hb); have n1_ := Aside0.mk (bB (g := gb345) (o := .cells #[.int .i64 t341, .int .i64 t342, .int .i64 t343, .int .i64 t344] 31 (0, 0)) (by (with_reducible repeat (first | refine bN ?_ _ | refine bD ?_ | refine bA ?_ _)); exact BK345.out) hb); have n2_ := Aside0.mk (below_step (by repeat (first | (with_reducible first | exact HB.out | apply below_alloc | apply pw_below_drewN | apply below_drew1 | refine bS ?_ GE340.out | refine bS ?_ GE345.out) | exact HB.out)) hb); have n3_ := Aside0.mk (hbox); have n4_ := Aside0.mk ((by rw [hg]; exact (below_size (by repeat (first | (with_reducible first | exact HB.out | apply below_alloc | apply pw_below_drewN | apply below_drew1 | refine bS ?_ GE340.out | refine bS ?_ GE345.out) | exact HB.out))) : w.heap.size ≤ gb351)); have n5_ := Aside0.mk ((by rw [hg]; exact (below_size (by repeat (first | (with_reducible first | exact HB.out | apply below_alloc | apply pw_below_drewN | apply below_drew1 | refine bS ?_ GE340.out | refine bS ?_ GE345.out) | exact HB.out))) : w.heap.size ≤ gb351)); have n6_ := Aside0.mk ((by rw [hg]; exact Nat.ne_of_lt (blk_lt (g := gb340) (o := .cells #[.int .i64 t335, .int .i64 t336, .int .i64 t337, .int .i64 t338] 31 (0, 0)) (by (with_reducible repeat (first | refine bN ?_ _ | refine bD ?_ | refine bA ?_ _)); exact BK340.out)) : gb340 ≠ gb351)); have n7_ := Aside0.mk ((by rw [hg]; exact Nat.ne_of_gt (blk_lt (g := gb340) (o := .cells #[.int .i64 t335, .int .i64 t336, .int .i64 t337, .int .i64 t338] 31 (0, 0)) (by (with_reducible repeat (first | refine bN ?_ _ | refine bD ?_ | refine bA ?_ _)); exact BK340.out)) : gb351 ≠ gb340)); have n8_ := Aside0.mk ((by rw [hg]; exact Nat.ne_of_lt (blk_lt (g := gb345) (o := .cells #[.int .i64 t341, .int .i64 t342, .int .i64 t343, .int .i64 t344] 31 (0, 0)) (by (with_reducible repeat (first | refine bN ?_ _ | refine bD ?_ | refine bA ?_ _)); exact BK345.out)) : gb345 ≠ gb351)); have n9_ := Aside0.mk ((by rw [hg]; exact Nat.ne_of_gt (blk_lt (g := gb345) (o := .cells #[.int .i64 t341, .int .i64 t342, .int .i64 t343, .int .i64 t344] 31 (0, 0)) (by (with_reducible repeat (first | refine bN ?_ _ | refine bD ?_ | refine bA ?_ _)); exact BK345.out)) : gb351 ≠ gb345)); clear BK340; clear BK345; clear HB; have BK340 := n0_; have BK345 := n1_; have HB := n2_; have BK351 := n3_; have GW351 := n4_; have GE351 := n5_; have NB340_351 := n6_; have NB351_340 := n7_; have NB345_351 := n8_; have NB351_345 := n9_; clear n0_ n1_ n2_ n3_ n4_ n5_ n6_ n7_ n8_ n9_; clear hb hbox hg; have hnb22 := NB351_340.out; have hnc22 := NB340_351.out; have hnb23 := NB351_345.out; have hnc23 := NB345_351.out; have hcz24_0 : w21.cell? ⟨gb351, 0, none⟩ = some (.int .i64 0) := (bC BK351.out 0).trans rfl; have hcz24_1 : w21.cell? ⟨gb351, 1, none⟩ = some (.int .i64 0) := (bC BK351.out 1).trans rfl; have hcz24_2 : w21.cell? ⟨gb351, 2, none⟩ = some (.int .i64 0) := (bC BK351.out 2).trans rfl; have hcz24_3 : w21.cell? ⟨gb351, 3, none⟩ = some (.int .i64 0) := (bC BK351.out 3).trans rfl; have hfz24_0 := blk_frozen BK351.out 0; have hfz24_1 := blk_frozen BK351.out 1; have hfz24_2 := blk_frozen BK351.out 2; have hfz24_3 := blk_frozen BK351.out 3) | ((with_reducible refine gate_callee (f := 21) rfl ?_); refine goesL_ (some 36) rfl rfl Try.func21 (by kernel_rfl) rfl #[.agg #[.int .i64 t346, .int .i64 t347, .int .i64 t348, .int .i64 t349], .int .i64 t350] rfl (by (try simp only [List.map_toArray, List.map_cons, List.map_nil]); first | done | rfl | (simp only [List.length_drop, List.length_take]; rfl)) ?_; (with_reducible refine (impl_Spend.calls t346 t347 t348 t349 t350 t352 t353 t354 t355 t356 _ A7.out).mono ?_); rintro e w25 ⟨rfl, hb⟩; refine ⟨_, rfl, ?_⟩; have n0_ := Aside0.mk (bB (g := gb340) (o := .cells #[.int .i64 t335, .int .i64 t336, .int .i64 t337, .int .i64 t338] 31 (0, 0)) (by (with_reducible repeat (first | refine bN ?_ _ | refine bD ?_ | refine bA ?_ _)); refine blk_far ?_ NB340_351.out _; (with_reducible repeat (first | refine bN ?_ _ | refine bD ?_ | refine bA ?_ _)); refine blk_far ?_ NB340_351.out _; (with_reducible repeat (first | refine bN ?_ _ | refine bD ?_ | refine bA ?_ _)); refine blk_far ?_ NB340_351.out _; (with_reducible repeat (first | refine bN ?_ _ | refine bD ?_ | refine bA ?_ _)); refine blk_far ?_ NB340_351.out _; (with_reducible repeat (first | refine bN ?_ _ | refine bD ?_ | refine bA ?_ _)); exact BK340.out) hb); have n1_ := Aside0.mk (bB (g := gb345) (o := .cells #[.int .i64 t341, .int .i64 t342, .int .i64 t343, .int .i64 t344] 31 (0, 0)) (by (with_reducible repeat (first | refine bN ?_ _ | refine bD ?_ | refine bA ?_ _)); refine blk_far ?_ NB345_351.out _; (with_reducible repeat (first | refine bN ?_ _ | refine bD ?_ | refine bA ?_ _)); refine blk_far ?_ NB345_351.out _; (with_reducible repeat (first | refine bN ?_ _ | refine bD ?_ | refine bA ?_ _)); refine blk_far ?_ NB345_351.out _; (with_reducible repeat (first | refine bN ?_ _ | refine bD ?_ | refine bA ?_ _)); refine blk_far ?_ NB345_351.out _; (with_reducible repeat (first | refine bN ?_ _ | refine bD ?_ | refine bA ?_ _)); exact BK345.out) hb); have n2_ := Aside0.mk (bB (g := gb351) (o := .cells #[.int .i64 t346, .int .i64 t347, .int .i64 t348, .int .i64 t349] 31 (0, 0)) (by (with_reducible repeat (first | refine bN ?_ _ | refine bD ?_ | refine bA ?_ _)); refine blk_put (cs := #[.int .i64 t346, .int .i64 t347, .int .i64 t348, .int .i64 0]) ?_ 3 _ rfl; (with_reducible repeat (first | refine bN ?_ _ | refine bD ?_ | refine bA ?_ _)); refine blk_put (cs := #[.int .i64 t346, .int .i64 t347, .int .i64 0, .int .i64 0]) ?_ 2 _ rfl; (with_reducible repeat (first | refine bN ?_ _ | refine bD ?_ | refine bA ?_ _)); refine blk_put (cs := #[.int .i64 t346, .int .i64 0, .int .i64 0, .int .i64 0]) ?_ 1 _ rfl; (with_reducible repeat (first | refine bN ?_ _ | refine bD ?_ | refine bA ?_ _)); refine blk_put (cs := #[.int .i64 0, .int .i64 0, .int .i64 0, .int .i64 0]) ?_ 0 _ rfl; (with_reducible repeat (first | refine bN ?_ _ | refine bD ?_ | refine bA ?_ _)); exact BK351.out) hb); have n3_ := Aside0.mk (below_step (by repeat (first | (with_reducible first | exact HB.out | apply below_alloc | apply pw_below_drewN | apply below_drew1 | refine bS ?_ GE340.out | refine bS ?_ GE345.out | refine bS ?_ GE351.out) | exact HB.out)) hb); clear BK340; clear BK345; clear BK351; clear HB; have BK340 := n0_; have BK345 := n1_; have BK351 := n2_; have HB := n3_; clear n0_ n1_ n2_ n3_; (try clear hb); (try clear hb2); (try clear hk); (try clear hi)) | ((with_reducible refine gate_dst (N := 8) rfl ?_); refine box_event ?hg (N := 8) ?hd (cs := #[.int .i64 0, .int .i64 0, .int .i64 0, .int .i64 0]) (t := 31) ?hr ?_; (case hd => rfl); (case hg => rfl); (case hr => first | (go_simp; done) | (go_simp; rfl)); intro gb357 hg w26 hbox hb; have n0_ := Aside0.mk (bB (g := gb340) (o := .cells #[.int .i64 t335, .int .i64 t336, .int .i64 t337, .int .i64 t338] 31 (0, 0)) (by (with_reducible repeat (first | refine bN ?_ _ | refine bD ?_ | refine bA ?_ _)); exact BK340.out) hb); have n1_ := Aside0.mk (bB (g := gb345) (o := .cells #[.int .i64 t341, .int .i64 t342, .int .i64 t343, .int .i64 t344] 31 (0, 0)) (by (with_reducible repeat (first | refine bN ?_ _ | refine bD ?_ | refine bA ?_ _)); exact BK345.out) hb); have n2_ := Aside0.mk (bB (g := gb351) (o := .cells #[.int .i64 t346, .int .i64 t347, .int .i64 t348, .int .i64 t349] 31 (0, 0)) (by (with_reducible repeat (first | refine bN ?_ _ | refine bD ?_ | refine bA ?_ _)); exact BK351.out) hb); have n3_ := Aside0.mk (below_step (by repeat (first | (with_reducible first | exact HB.out | apply below_alloc | apply pw_below_drewN | apply below_drew1 | refine bS ?_ GE340.out | refine bS ?_ GE345.out | refine bS ?_ GE351.out) | exact HB.out)) hb); have n4_ := Aside0.mk (hbox); have n5_ := Aside0.mk ((by rw [hg]; exact (below_size (by repeat (first | (with_reducible first | exact HB.out | apply below_alloc | apply pw_below_drewN | apply below_drew1 | refine bS ?_ GE340.out | refine bS ?_ GE345.out | refine bS ?_ GE351.out) | exact HB.out))) : w.heap.size ≤ gb357)); have n6_ := Aside0.mk ((by rw [hg]; exact (below_size (by repeat (first | (with_reducible first | exact HB.out | apply below_alloc | apply pw_below_drewN | apply below_drew1 | refine bS ?_ GE340.out | refine bS ?_ GE345.out | refine bS ?_ GE351.out) | exact HB.out))) : w.heap.size ≤ gb357)); have n7_ := Aside0.mk ((by rw [hg]; exact Nat.ne_of_lt (blk_lt (g := gb340) (o := .cells #[.int .i64 t335, .int .i64 t336, .int .i64 t337, .int .i64 t338] 31 (0, 0)) (by (with_reducible repeat (first | refine bN ?_ _ | refine bD ?_ | refine bA ?_ _)); exact BK340.out)) : gb340 ≠ gb357)); have n8_ := Aside0.mk ((by rw [hg]; exact Nat.ne_of_gt (blk_lt (g := gb340) (o := .cells #[.int .i64 t335, .int .i64 t336, .int .i64 t337, .int .i64 t338] 31 (0, 0)) (by (with_reducible repeat (first | refine bN ?_ _ | refine bD ?_ | refine bA ?_ _)); exact BK340.out)) : gb357 ≠ gb340)); have n9_ := Aside0.mk ((by rw [hg]; exact Nat.ne_of_lt (blk_lt (g := gb345) (o := .cells #[.int .i64 t341, .int .i64 t342, .int .i64 t343, .int .i64 t344] 31 (0, 0)) (by (with_reducible repeat (first | refine bN ?_ _ | refine bD ?_ | refine bA ?_ _)); exact BK345.out)) : gb345 ≠ gb357)); have n10_ := Aside0.mk ((by rw [hg]; exact Nat.ne_of_gt (blk_lt (g := gb345) (o := .cells #[.int .i64 t341, .int .i64 t342, .int .i64 t343, .int .i64 t344] 31 (0, 0)) (by (with_reducible repeat (first | refine bN ?_ _ | refine bD ?_ | refine bA ?_ _)); exact BK345.out)) : gb357 ≠ gb345)); have n11_ := Aside0.mk ((by rw [hg]; exact Nat.ne_of_lt (blk_lt (g := gb351) (o := .cells #[.int .i64 t346, .int .i64 t347, .int .i64 t348, .int .i64 t349] 31 (0, 0)) (by (with_reducible repeat (first | refine bN ?_ _ | refine bD ?_ | refine bA ?_ _)); exact BK351.out)) : gb351 ≠ gb357)); have n12_ := Aside0.mk ((by rw [hg]; exact Nat.ne_of_gt (blk_lt (g := gb351) (o := .cells #[.int .i64 t346, .int .i64 t347, .int .i64 t348, .int .i64 t349] 31 (0, 0)) (by (with_reducible repeat (first | refine bN ?_ _ | refine bD ?_ | refine bA ?_ _)); exact BK351.out)) : gb357 ≠ gb351)); clear BK340; clear BK345; clear BK351; clear HB; have BK340 := n0_; have BK345 := n1_; have BK351 := n2_; have HB := n3_; have BK357 := n4_; have GW357 := n5_; have GE357 := n6_; have NB340_357 := n7_; have NB357_340 := n8_; have NB345_357 := n9_; have NB357_345 := n10_; have NB351_357 := n11_; have NB357_351 := n12_; clear n0_ n1_ n2_ n3_ n4_ n5_ n6_ n7_ n8_ n9_ n10_ n11_ n12_; clear hb hbox hg; have hnb27 := NB357_340.out; have hnc27 := NB340_357.out; have hnb28 := NB357_345.out; have hnc28 := NB345_357.out; have hnb29 := NB357_351.out; have hnc29 := NB351_357.out; have hcz30_0 : w26.cell? ⟨gb357, 0, none⟩ = some (.int .i64 0) := (bC BK357.out 0).trans rfl; have hcz30_1 : w26.cell? ⟨gb357, 1, none⟩ = some (.int .i64 0) := (bC BK357.out 1).trans rfl; have hcz30_2 : w26.cell? ⟨gb357, 2, none⟩ = some (.int .i64 0) := (bC BK357.out 2).trans rfl; have hcz30_3 : w26.cell? ⟨gb357, 3, none⟩ = some (.int .i64 0) := (bC BK357.out 3).trans rfl; have hfz30_0 := blk_frozen BK357.out 0; have hfz30_1 := blk_frozen BK357.out 1; have hfz30_2 := blk_frozen BK357.out 2; have hfz30_3 := blk_frozen BK357.out 3; have hcz31_0 : w26.cell? ⟨gb351, 0, none⟩ = some (.int .i64 t346) := (bC BK351.out 0).trans rfl; have hcz31_1 : w26.cell? ⟨gb351, 1, none⟩ = some (.int .i64 t347) := (bC BK351.out 1).trans rfl; have hcz31_2 : w26.cell? ⟨gb351, 2, none⟩ = some (.int .i64 t348) := (bC BK351.out 2).trans rfl; have hcz31_3 : w26.cell? ⟨gb351, 3, none⟩ = some (.int .i64 t349) := (bC BK351.out 3).trans rfl; have hfz31_0 := blk_frozen BK351.out 0; have hfz31_1 := blk_frozen BK351.out 1; have hfz31_2 := blk_frozen BK351.out 2; have hfz31_3 := blk_frozen BK351.out 3) | ((with_reducible refine gate_callee (f := 19) rfl ?_); refine goesL_ (some 42) rfl rfl Try.func19 (by kernel_rfl) rfl #[.agg #[.int .i64 t346, .int .i64 t347, .int .i64 t348, .int .i64 t349], .int .i64 t350] rfl (by (try simp only [List.map_toArray, List.map_cons, List.map_nil]); first | done | rfl | (simp only [List.length_drop, List.length_take]; rfl)) ?_; (with_reducible refine (spec_Spend.calls t346 t347 t348 t349 t350 t358 t359 t360 t361 t362 _ A8.out).mono ?_); rintro e w32 ⟨rfl, hb⟩; refine ⟨_, rfl, ?_⟩; have n0_ := Aside0.mk (bB (g := gb340) (o := .cells #[.int .i64 t335, .int .i64 t336, .int .i64 t337, .int .i64 t338] 31 (0, 0)) (by (with_reducible repeat (first | refine bN ?_ _ | refine bD ?_ | refine bA ?_ _)); refine blk_far ?_ NB340_357.out _; (with_reducible repeat (first | refine bN ?_ _ | refine bD ?_ | refine bA ?_ _)); refine blk_far ?_ NB340_357.out _; (with_reducible repeat (first | refine bN ?_ _ | refine bD ?_ | refine bA ?_ _)); refine blk_far ?_ NB340_357.out _; (with_reducible repeat (first | refine bN ?_ _ | refine bD ?_ | refine bA ?_ _)); refine blk_far ?_ NB340_357.out _; (with_reducible repeat (first | refine bN ?_ _ | refine bD ?_ | refine bA ?_ _)); exact BK340.out) hb); have n1_ := Aside0.mk (bB (g := gb345) (o := .cells #[.int .i64 t341, .int .i64 t342, .int .i64 t343, .int .i64 t344] 31 (0, 0)) (by (with_reducible repeat (first | refine bN ?_ _ | refine bD ?_ | refine bA ?_ _)); refine blk_far ?_ NB345_357.out _; (with_reducible repeat (first | refine bN ?_ _ | refine bD ?_ | refine bA ?_ _)); refine blk_far ?_ NB345_357.out _; (with_reducible repeat (first | refine bN ?_ _ | refine bD ?_ | refine bA ?_ _)); refine blk_far ?_ NB345_357.out _; (with_reducible repeat (first | refine bN ?_ _ | refine bD ?_ | refine bA ?_ _)); refine blk_far ?_ NB345_357.out _; (with_reducible repeat (first | refine bN ?_ _ | refine bD ?_ | refine bA ?_ _)); exact BK345.out) hb); have n2_ := Aside0.mk (bB (g := gb351) (o := .cells #[.int .i64 t346, .int .i64 t347, .int .i64 t348, .int .i64 t349] 31 (0, 0)) (by (with_reducible repeat (first | refine bN ?_ _ | refine bD ?_ | refine bA ?_ _)); refine blk_far ?_ NB351_357.out _; (with_reducible repeat (first | refine bN ?_ _ | refine bD ?_ | refine bA ?_ _)); refine blk_far ?_ NB351_357.out _; (with_reducible repeat (first | refine bN ?_ _ | refine bD ?_ | refine bA ?_ _)); refine blk_far ?_ NB351_357.out _; (with_reducible repeat (first | refine bN ?_ _ | refine bD ?_ | refine bA ?_ _)); refine blk_far ?_ NB351_357.out _; (with_reducible repeat (first | refine bN ?_ _ | refine bD ?_ | refine bA ?_ _)); exact BK351.out) hb); have n3_ := Aside0.mk (bB (g := gb357) (o := .cells #[.int .i64 t352, .int .i64 t353, .int .i64 t354, .int .i64 t355] 31 (0, 0)) (by (with_reducible repeat (first | refine bN ?_ _ | refine bD ?_ | refine bA ?_ _)); refine blk_put (cs := #[.int .i64 t352, .int .i64 t353, .int .i64 t354, .int .i64 0]) ?_ 3 _ rfl; (with_reducible repeat (first | refine bN ?_ _ | refine bD ?_ | refine bA ?_ _)); refine blk_put (cs := #[.int .i64 t352, .int .i64 t353, .int .i64 0, .int .i64 0]) ?_ 2 _ rfl; (with_reducible repeat (first | refine bN ?_ _ | refine bD ?_ | refine bA ?_ _)); refine blk_put (cs := #[.int .i64 t352, .int .i64 0, .int .i64 0, .int .i64 0]) ?_ 1 _ rfl; (with_reducible repeat (first | refine bN ?_ _ | refine bD ?_ | refine bA ?_ _)); refine blk_put (cs := #[.int .i64 0, .int .i64 0, .int .i64 0, .int .i64 0]) ?_ 0 _ rfl; (with_reducible repeat (first | refine bN ?_ _ | refine bD ?_ | refine bA ?_ _)); exact BK357.out) hb); have n4_ := Aside0.mk (below_step (by repeat (first | (with_reducible first | exact HB.out | apply below_alloc | apply pw_below_drewN | apply below_drew1 | refine bS ?_ GE340.out | refine bS ?_ GE345.out | refine bS ?_ GE351.out | refine bS ?_ GE357.out) | exact HB.out)) hb); clear BK340; clear BK345; clear BK351; clear BK357; clear HB; have BK340 := n0_; have BK345 := n1_; have BK351 := n2_; have BK357 := n3_; have HB := n4_; clear n0_ n1_ n2_ n3_ n4_; (try clear hb); (try clear hb2); (try clear hk); (try clear hi)) | ((with_reducible refine gate_dst (N := 10) rfl ?_); refine box_event ?hg (N := 10) ?hd (cs := #[.int .i64 0, .int .i64 0, .int .i64 0, .int .i64 0]) (t := 31) ?hr ?_; (case hd => rfl); (case hg => rfl); (case hr => first | (go_simp; done) | (go_simp; rfl)); intro gb363 hg w33 hbox hb; have n0_ := Aside0.mk (bB (g := gb340) (o := .cells #[.int .i64 t335, .int .i64 t336, .int .i64 t337, .int .i64 t338] 31 (0, 0)) (by (with_reducible repeat (first | refine bN ?_ _ | refine bD ?_ | refine bA ?_ _)); exact BK340.out) hb); have n1_ := Aside0.mk (bB (g := gb345) (o := .cells #[.int .i64 t341, .int .i64 t342, .int .i64 t343, .int .i64 t344] 31 (0, 0)) (by (with_reducible repeat (first | refine bN ?_ _ | refine bD ?_ | refine bA ?_ _)); exact BK345.out) hb); have n2_ := Aside0.mk (bB (g := gb351) (o := .cells #[.int .i64 t346, .int .i64 t347, .int .i64 t348, .int .i64 t349] 31 (0, 0)) (by (with_reducible repeat (first | refine bN ?_ _ | refine bD ?_ | refine bA ?_ _)); exact BK351.out) hb); have n3_ := Aside0.mk (bB (g := gb357) (o := .cells #[.int .i64 t352, .int .i64 t353, .int .i64 t354, .int .i64 t355] 31 (0, 0)) (by (with_reducible repeat (first | refine bN ?_ _ | refine bD ?_ | refine bA ?_ _)); exact BK357.out) hb); have n4_ := Aside0.mk (below_step (by repeat (first | (with_reducible first | exact HB.out | apply below_alloc | apply pw_below_drewN | apply below_drew1 | refine bS ?_ GE340.out | refine bS ?_ GE345.out | refine bS ?_ GE351.out | refine bS ?_ GE357.out) | exact HB.out)) hb); have n5_ := Aside0.mk (hbox); have n6_ := Aside0.mk ((by rw [hg]; exact (below_size (by repeat (first | (with_reducible first | exact HB.out | apply below_alloc | apply pw_below_drewN | apply below_drew1 | refine bS ?_ GE340.out | refine bS ?_ GE345.out | refine bS ?_ GE351.out | refine bS ?_ GE357.out) | exact HB.out))) : w.heap.size ≤ gb363)); have n7_ := Aside0.mk ((by rw [hg]; exact (below_size (by repeat (first | (with_reducible first | exact HB.out | apply below_alloc | apply pw_below_drewN | apply below_drew1 | refine bS ?_ GE340.out | refine bS ?_ GE345.out | refine bS ?_ GE351.out | refine bS ?_ GE357.out) | exact HB.out))) : w.heap.size ≤ gb363)); have n8_ := Aside0.mk ((by rw [hg]; exact Nat.ne_of_lt (blk_lt (g := gb340) (o := .cells #[.int .i64 t335, .int .i64 t336, .int .i64 t337, .int .i64 t338] 31 (0, 0)) (by (with_reducible repeat (first | refine bN ?_ _ | refine bD ?_ | refine bA ?_ _)); exact BK340.out)) : gb340 ≠ gb363)); have n9_ := Aside0.mk ((by rw [hg]; exact Nat.ne_of_gt (blk_lt (g := gb340) (o := .cells #[.int .i64 t335, .int .i64 t336, .int .i64 t337, .int .i64 t338] 31 (0, 0)) (by (with_reducible repeat (first | refine bN ?_ _ | refine bD ?_ | refine bA ?_ _)); exact BK340.out)) : gb363 ≠ gb340)); have n10_ := Aside0.mk ((by rw [hg]; exact Nat.ne_of_lt (blk_lt (g := gb345) (o := .cells #[.int .i64 t341, .int .i64 t342, .int .i64 t343, .int .i64 t344] 31 (0, 0)) (by (with_reducible repeat (first | refine bN ?_ _ | refine bD ?_ | refine bA ?_ _)); exact BK345.out)) : gb345 ≠ gb363)); have n11_ := Aside0.mk ((by rw [hg]; exact Nat.ne_of_gt (blk_lt (g := gb345) (o := .cells #[.int .i64 t341, .int .i64 t342, .int .i64 t343, .int .i64 t344] 31 (0, 0)) (by (with_reducible repeat (first | refine bN ?_ _ | refine bD ?_ | refine bA ?_ _)); exact BK345.out)) : gb363 ≠ gb345)); have n12_ := Aside0.mk ((by rw [hg]; exact Nat.ne_of_lt (blk_lt (g := gb351) (o := .cells #[.int .i64 t346, .int .i64 t347, .int .i64 t348, .int .i64 t349] 31 (0, 0)) (by (with_reducible repeat (first | refine bN ?_ _ | refine bD ?_ | refine bA ?_ _)); exact BK351.out)) : gb351 ≠ gb363)); have n13_ := Aside0.mk ((by rw [hg]; exact Nat.ne_of_gt (blk_lt (g := gb351) (o := .cells #[.int .i64 t346, .int .i64 t347, .int .i64 t348, .int .i64 t349] 31 (0, 0)) (by (with_reducible repeat (first | refine bN ?_ _ | refine bD ?_ | refine bA ?_ _)); exact BK351.out)) : gb363 ≠ gb351)); have n14_ := Aside0.mk ((by rw [hg]; exact Nat.ne_of_lt (blk_lt (g := gb357) (o := .cells #[.int .i64 t352, .int .i64 t353, .int .i64 t354, .int .i64 t355] 31 (0, 0)) (by (with_reducible repeat (first | refine bN ?_ _ | refine bD ?_ | refine bA ?_ _)); exact BK357.out)) : gb357 ≠ gb363)); have n15_ := Aside0.mk ((by rw [hg]; exact Nat.ne_of_gt (blk_lt (g := gb357) (o := .cells #[.int .i64 t352, .int .i64 t353, .int .i64 t354, .int .i64 t355] 31 (0, 0)) (by (with_reducible repeat (first | refine bN ?_ _ | refine bD ?_ | refine bA ?_ _)); exact BK357.out)) : gb363 ≠ gb357)); clear BK340; clear BK345; clear BK351; clear BK357; clear HB; have BK340 := n0_; have BK345 := n1_; have BK351 := n2_; have BK357 := n3_; have HB := n4_; have BK363 := n5_; have GW363 := n6_; have GE363 := n7_; have NB340_363 := n8_; have NB363_340 := n9_; have NB345_363 := n10_; have NB363_345 := n11_; have NB351_363 := n12_; have NB363_351 := n13_; have NB357_363 := n14_; have NB363_357 := n15_; clear n0_ n1_ n2_ n3_ n4_ n5_ n6_ n7_ n8_ n9_ n10_ n11_ n12_ n13_ n14_ n15_; clear hb hbox hg; have hnb34 := NB363_340.out; have hnc34 := NB340_363.out; have hnb35 := NB363_345.out; have hnc35 := NB345_363.out; have hnb36 := NB363_351.out; have hnc36 := NB351_363.out; have hnb37 := NB363_357.out; have hnc37 := NB357_363.out; have hcz38_0 : w33.cell? ⟨gb363, 0, none⟩ = some (.int .i64 0) := (bC BK363.out 0).trans rfl; have hcz38_1 : w33.cell? ⟨gb363, 1, none⟩ = some (.int .i64 0) := (bC BK363.out 1).trans rfl; have hcz38_2 : w33.cell? ⟨gb363, 2, none⟩ = some (.int .i64 0) := (bC BK363.out 2).trans rfl; have hcz38_3 : w33.cell? ⟨gb363, 3, none⟩ = some (.int .i64 0) := (bC BK363.out 3).trans rfl; have hfz38_0 := blk_frozen BK363.out 0; have hfz38_1 := blk_frozen BK363.out 1; have hfz38_2 := blk_frozen BK363.out 2; have hfz38_3 := blk_frozen BK363.out 3) | ((with_reducible refine gate_callee (f := 64) rfl ?_); refine goesL_ (some 46) rfl rfl Try.func64 (by kernel_rfl) rfl #[.slice A0 l0.length c0] rfl (by (try simp only [List.map_toArray, List.map_cons, List.map_nil]); first | done | rfl | (simp only [List.length_drop, List.length_take]; rfl)) ?_; (with_reducible refine (spec_DrawBucketOk.calls k _ _ l0 t364 t365 t366 t367 _ ?side1 ?side2 A9.out).mono ?_); (case side1 => exact Kd.C_below HR0.out (by repeat (first | (with_reducible first | exact HB.out | apply below_alloc | apply pw_below_drewN | apply below_drew1 | refine bS ?_ GE340.out | refine bS ?_ GE345.out | refine bS ?_ GE351.out | refine bS ?_ GE357.out | refine bS ?_ GE363.out) | exact HB.out))); (case side2 => exact HC0.out); rintro e w39 ⟨rfl, hb⟩; refine ⟨_, rfl, ?_⟩; have n0_ := Aside0.mk (bB (g := gb340) (o := .cells #[.int .i64 t335, .int .i64 t336, .int .i64 t337, .int .i64 t338] 31 (0, 0)) (by (with_reducible repeat (first | refine bN ?_ _ | refine bD ?_ | refine bA ?_ _)); refine blk_far ?_ NB340_363.out _; (with_reducible repeat (first | refine bN ?_ _ | refine bD ?_ | refine bA ?_ _)); refine blk_far ?_ NB340_363.out _; (with_reducible repeat (first | refine bN ?_ _ | refine bD ?_ | refine bA ?_ _)); refine blk_far ?_ NB340_363.out _; (with_reducible repeat (first | refine bN ?_ _ | refine bD ?_ | refine bA ?_ _)); refine blk_far ?_ NB340_363.out _; (with_reducible repeat (first | refine bN ?_ _ | refine bD ?_ | refine bA ?_ _)); exact BK340.out) hb); have n1_ := Aside0.mk (bB (g := gb345) (o := .cells #[.int .i64 t341, .int .i64 t342, .int .i64 t343, .int .i64 t344] 31 (0, 0)) (by (with_reducible repeat (first | refine bN ?_ _ | refine bD ?_ | refine bA ?_ _)); refine blk_far ?_ NB345_363.out _; (with_reducible repeat (first | refine bN ?_ _ | refine bD ?_ | refine bA ?_ _)); refine blk_far ?_ NB345_363.out _; (with_reducible repeat (first | refine bN ?_ _ | refine bD ?_ | refine bA ?_ _)); refine blk_far ?_ NB345_363.out _; (with_reducible repeat (first | refine bN ?_ _ | refine bD ?_ | refine bA ?_ _)); refine blk_far ?_ NB345_363.out _; (with_reducible repeat (first | refine bN ?_ _ | refine bD ?_ | refine bA ?_ _)); exact BK345.out) hb); have n2_ := Aside0.mk (bB (g := gb351) (o := .cells #[.int .i64 t346, .int .i64 t347, .int .i64 t348, .int .i64 t349] 31 (0, 0)) (by (with_reducible repeat (first | refine bN ?_ _ | refine bD ?_ | refine bA ?_ _)); refine blk_far ?_ NB351_363.out _; (with_reducible repeat (first | refine bN ?_ _ | refine bD ?_ | refine bA ?_ _)); refine blk_far ?_ NB351_363.out _; (with_reducible repeat (first | refine bN ?_ _ | refine bD ?_ | refine bA ?_ _)); refine blk_far ?_ NB351_363.out _; (with_reducible repeat (first | refine bN ?_ _ | refine bD ?_ | refine bA ?_ _)); refine blk_far ?_ NB351_363.out _; (with_reducible repeat (first | refine bN ?_ _ | refine bD ?_ | refine bA ?_ _)); exact BK351.out) hb); have n3_ := Aside0.mk (bB (g := gb357) (o := .cells #[.int .i64 t352, .int .i64 t353, .int .i64 t354, .int .i64 t355] 31 (0, 0)) (by (with_reducible repeat (first | refine bN ?_ _ | refine bD ?_ | refine bA ?_ _)); refine blk_far ?_ NB357_363.out _; (with_reducible repeat (first | refine bN ?_ _ | refine bD ?_ | refine bA ?_ _)); refine blk_far ?_ NB357_363.out _; (with_reducible repeat (first | refine bN ?_ _ | refine bD ?_ | refine bA ?_ _)); refine blk_far ?_ NB357_363.out _; (with_reducible repeat (first | refine bN ?_ _ | refine bD ?_ | refine bA ?_ _)); refine blk_far ?_ NB357_363.out _; (with_reducible repeat (first | refine bN ?_ _ | refine bD ?_ | refine bA ?_ _)); exact BK357.out) hb); have n4_ := Aside0.mk (bB (g := gb363) (o := .cells #[.int .i64 t358, .int .i64 t359, .int .i64 t360, .int .i64 t361] 31 (0, 0)) (by (with_reducible repeat (first | refine bN ?_ _ | refine bD ?_ | refine bA ?_ _)); refine blk_put (cs := #[.int .i64 t358, .int .i64 t359, .int .i64 t360, .int .i64 0]) ?_ 3 _ rfl; (with_reducible repeat (first | refine bN ?_ _ | refine bD ?_ | refine bA ?_ _)); refine blk_put (cs := #[.int .i64 t358, .int .i64 t359, .int .i64 0, .int .i64 0]) ?_ 2 _ rfl; (with_reducible repeat (first | refine bN ?_ _ | refine bD ?_ | refine bA ?_ _)); refine blk_put (cs := #[.int .i64 t358, .int .i64 0, .int .i64 0, .int .i64 0]) ?_ 1 _ rfl; (with_reducible repeat (first | refine bN ?_ _ | refine bD ?_ | refine bA ?_ _)); refine blk_put (cs := #[.int .i64 0, .int .i64 0, .int .i64 0, .int .i64 0]) ?_ 0 _ rfl; (with_reducible repeat (first | refine bN ?_ _ | refine bD ?_ | refine bA ?_ _)); exact BK363.out) hb); have n5_ := Aside0.mk (below_step (by repeat (first | (with_reducible first | exact HB.out | apply below_alloc | apply pw_below_drewN | apply below_drew1 | refine bS ?_ GE340.out | refine bS ?_ GE345.out | refine bS ?_ GE351.out | refine bS ?_ GE357.out | refine bS ?_ GE363.out) | exact HB.out)) hb); clear BK340; clear BK345; clear BK351; clear BK357; clear BK363; clear HB; have BK340 := n0_; have BK345 := n1_; have BK351 := n2_; have BK357 := n3_; have BK363 := n4_; have HB := n5_; clear n0_ n1_ n2_ n3_ n4_ n5_; (try clear hb); (try clear hb2); (try clear hk); (try clear hi)) | ((with_reducible refine gate_dst (N := 12) rfl ?_); refine box_event ?hg (N := 12) ?hd (cs := #[.int .i64 0, .int .i64 0, .int .i64 0, .int .i64 0]) (t := 31) ?hr ?_; (case hd => rfl); (case hg => rfl); (case hr => first | (go_simp; done) | (go_simp; rfl)); intro gb368 hg w40 hbox hb; have n0_ := Aside0.mk (bB (g := gb340) (o := .cells #[.int .i64 t335, .int .i64 t336, .int .i64 t337, .int .i64 t338] 31 (0, 0)) (by (with_reducible repeat (first | refine bN ?_ _ | refine bD ?_ | refine bA ?_ _)); exact BK340.out) hb); have n1_ := Aside0.mk (bB (g := gb345) (o := .cells #[.int .i64 t341, .int .i64 t342, .int .i64 t343, .int .i64 t344] 31 (0, 0)) (by (with_reducible repeat (first | refine bN ?_ _ | refine bD ?_ | refine bA ?_ _)); exact BK345.out) hb); have n2_ := Aside0.mk (bB (g := gb351) (o := .cells #[.int .i64 t346, .int .i64 t347, .int .i64 t348, .int .i64 t349] 31 (0, 0)) (by (with_reducible repeat (first | refine bN ?_ _ | refine bD ?_ | refine bA ?_ _)); exact BK351.out) hb); have n3_ := Aside0.mk (bB (g := gb357) (o := .cells #[.int .i64 t352, .int .i64 t353, .int .i64 t354, .int .i64 t355] 31 (0, 0)) (by (with_reducible repeat (first | refine bN ?_ _ | refine bD ?_ | refine bA ?_ _)); exact BK357.out) hb); have n4_ := Aside0.mk (bB (g := gb363) (o := .cells #[.int .i64 t358, .int .i64 t359, .int .i64 t360, .int .i64 t361] 31 (0, 0)) (by (with_reducible repeat (first | refine bN ?_ _ | refine bD ?_ | refine bA ?_ _)); exact BK363.out) hb); have n5_ := Aside0.mk (below_step (by repeat (first | (with_reducible first | exact HB.out | apply below_alloc | apply pw_below_drewN | apply below_drew1 | refine bS ?_ GE340.out | refine bS ?_ GE345.out | refine bS ?_ GE351.out | refine bS ?_ GE357.out | refine bS ?_ GE363.out) | exact HB.out)) hb); have n6_ := Aside0.mk (hbox); have n7_ := Aside0.mk ((by rw [hg]; exact (below_size (by repeat (first | (with_reducible first | exact HB.out | apply below_alloc | apply pw_below_drewN | apply below_drew1 | refine bS ?_ GE340.out | refine bS ?_ GE345.out | refine bS ?_ GE351.out | refine bS ?_ GE357.out | refine bS ?_ GE363.out) | exact HB.out))) : w.heap.size ≤ gb368)); have n8_ := Aside0.mk ((by rw [hg]; exact (below_size (by repeat (first | (with_reducible first | exact HB.out | apply below_alloc | apply pw_below_drewN | apply below_drew1 | refine bS ?_ GE340.out | refine bS ?_ GE345.out | refine bS ?_ GE351.out | refine bS ?_ GE357.out | refine bS ?_ GE363.out) | exact HB.out))) : w.heap.size ≤ gb368)); have n9_ := Aside0.mk ((by rw [hg]; exact Nat.ne_of_lt (blk_lt (g := gb340) (o := .cells #[.int .i64 t335, .int .i64 t336, .int .i64 t337, .int .i64 t338] 31 (0, 0)) (by (with_reducible repeat (first | refine bN ?_ _ | refine bD ?_ | refine bA ?_ _)); exact BK340.out)) : gb340 ≠ gb368)); have n10_ := Aside0.mk ((by rw [hg]; exact Nat.ne_of_gt (blk_lt (g := gb340) (o := .cells #[.int .i64 t335, .int .i64 t336, .int .i64 t337, .int .i64 t338] 31 (0, 0)) (by (with_reducible repeat (first | refine bN ?_ _ | refine bD ?_ | refine bA ?_ _)); exact BK340.out)) : gb368 ≠ gb340)); have n11_ := Aside0.mk ((by rw [hg]; exact Nat.ne_of_lt (blk_lt (g := gb345) (o := .cells #[.int .i64 t341, .int .i64 t342, .int .i64 t343, .int .i64 t344] 31 (0, 0)) (by (with_reducible repeat (first | refine bN ?_ _ | refine bD ?_ | refine bA ?_ _)); exact BK345.out)) : gb345 ≠ gb368)); have n12_ := Aside0.mk ((by rw [hg]; exact Nat.ne_of_gt (blk_lt (g := gb345) (o := .cells #[.int .i64 t341, .int .i64 t342, .int .i64 t343, .int .i64 t344] 31 (0, 0)) (by (with_reducible repeat (first | refine bN ?_ _ | refine bD ?_ | refine bA ?_ _)); exact BK345.out)) : gb368 ≠ gb345)); have n13_ := Aside0.mk ((by rw [hg]; exact Nat.ne_of_lt (blk_lt (g := gb351) (o := .cells #[.int .i64 t346, .int .i64 t347, .int .i64 t348, .int .i64 t349] 31 (0, 0)) (by (with_reducible repeat (first | refine bN ?_ _ | refine bD ?_ | refine bA ?_ _)); exact BK351.out)) : gb351 ≠ gb368)); have n14_ := Aside0.mk ((by rw [hg]; exact Nat.ne_of_gt (blk_lt (g := gb351) (o := .cells #[.int .i64 t346, .int .i64 t347, .int .i64 t348, .int .i64 t349] 31 (0, 0)) (by (with_reducible repeat (first | refine bN ?_ _ | refine bD ?_ | refine bA ?_ _)); exact BK351.out)) : gb368 ≠ gb351)); have n15_ := Aside0.mk ((by rw [hg]; exact Nat.ne_of_lt (blk_lt (g := gb357) (o := .cells #[.int .i64 t352, .int .i64 t353, .int .i64 t354, .int .i64 t355] 31 (0, 0)) (by (with_reducible repeat (first | refine bN ?_ _ | refine bD ?_ | refine bA ?_ _)); exact BK357.out)) : gb357 ≠ gb368)); have n16_ := Aside0.mk ((by rw [hg]; exact Nat.ne_of_gt (blk_lt (g := gb357) (o := .cells #[.int .i64 t352, .int .i64 t353, .int .i64 t354, .int .i64 t355] 31 (0, 0)) (by (with_reducible repeat (first | refine bN ?_ _ | refine bD ?_ | refine bA ?_ _)); exact BK357.out)) : gb368 ≠ gb357)); have n17_ := Aside0.mk ((by rw [hg]; exact Nat.ne_of_lt (blk_lt (g := gb363) (o := .cells #[.int .i64 t358, .int .i64 t359, .int .i64 t360, .int .i64 t361] 31 (0, 0)) (by (with_reducible repeat (first | refine bN ?_ _ | refine bD ?_ | refine bA ?_ _)); exact BK363.out)) : gb363 ≠ gb368)); have n18_ := Aside0.mk ((by rw [hg]; exact Nat.ne_of_gt (blk_lt (g := gb363) (o := .cells #[.int .i64 t358, .int .i64 t359, .int .i64 t360, .int .i64 t361] 31 (0, 0)) (by (with_reducible repeat (first | refine bN ?_ _ | refine bD ?_ | refine bA ?_ _)); exact BK363.out)) : gb368 ≠ gb363)); clear BK340; clear BK345; clear BK351; clear BK357; clear BK363; clear HB; have BK340 := n0_; have BK345 := n1_; have BK351 := n2_; have BK357 := n3_; have BK363 := n4_; have HB := n5_; have BK368 := n6_; have GW368 := n7_; have GE368 := n8_; have NB340_368 := n9_; have NB368_340 := n10_; have NB345_368 := n11_; have NB368_345 := n12_; have NB351_368 := n13_; have NB368_351 := n14_; have NB357_368 := n15_; have NB368_357 := n16_; have NB363_368 := n17_; have NB368_363 := n18_; clear n0_ n1_ n2_ n3_ n4_ n5_ n6_ n7_ n8_ n9_ n10_ n11_ n12_ n13_ n14_ n15_ n16_ n17_ n18_; clear hb hbox hg; have hnb41 := NB368_340.out; have hnc41 := NB340_368.out; have hnb42 := NB368_345.out; have hnc42 := NB345_368.out; have hnb43 := NB368_351.out; have hnc43 := NB351_368.out; have hnb44 := NB368_357.out; have hnc44 := NB357_368.out; have hnb45 := NB368_363.out; have hnc45 := NB363_368.out; have hcz46_0 : w40.cell? ⟨gb368, 0, none⟩ = some (.int .i64 0) := (bC BK368.out 0).trans rfl; have hcz46_1 : w40.cell? ⟨gb368, 1, none⟩ = some (.int .i64 0) := (bC BK368.out 1).trans rfl; have hcz46_2 : w40.cell? ⟨gb368, 2, none⟩ = some (.int .i64 0) := (bC BK368.out 2).trans rfl; have hcz46_3 : w40.cell? ⟨gb368, 3, none⟩ = some (.int .i64 0) := (bC BK368.out 3).trans rfl; have hfz46_0 := blk_frozen BK368.out 0; have hfz46_1 := blk_frozen BK368.out 1; have hfz46_2 := blk_frozen BK368.out 2; have hfz46_3 := blk_frozen BK368.out 3) | ((with_reducible refine gate_callee (f := 65) rfl ?_); refine goesL_ (some 49) rfl rfl Try.func65 (by kernel_rfl) rfl #[.slice A0 l0.length c0] rfl (by (try simp only [List.map_toArray, List.map_cons, List.map_nil]); first | done | rfl | (simp only [List.length_drop, List.length_take]; rfl)) ?_; (with_reducible refine (spec_DrawMostIn.calls k _ _ l0 t369 t370 t371 t372 t373 _ ?side1 ?side2 A10.out).mono ?_); (case side1 => exact Kd.C_below HR0.out (by repeat (first | (with_reducible first | exact HB.out | apply below_alloc | apply pw_below_drewN | apply below_drew1 | refine bS ?_ GE340.out | refine bS ?_ GE345.out | refine bS ?_ GE351.out | refine bS ?_ GE357.out | refine bS ?_ GE363.out | refine bS ?_ GE368.out) | exact HB.out))); (case side2 => exact HC0.out); rintro e w47 ⟨rfl, hb⟩; refine ⟨_, rfl, ?_⟩; have n0_ := Aside0.mk (bB (g := gb340) (o := .cells #[.int .i64 t335, .int .i64 t336, .int .i64 t337, .int .i64 t338] 31 (0, 0)) (by (with_reducible repeat (first | refine bN ?_ _ | refine bD ?_ | refine bA ?_ _)); refine blk_far ?_ NB340_368.out _; (with_reducible repeat (first | refine bN ?_ _ | refine bD ?_ | refine bA ?_ _)); refine blk_far ?_ NB340_368.out _; (with_reducible repeat (first | refine bN ?_ _ | refine bD ?_ | refine bA ?_ _)); refine blk_far ?_ NB340_368.out _; (with_reducible repeat (first | refine bN ?_ _ | refine bD ?_ | refine bA ?_ _)); refine blk_far ?_ NB340_368.out _; (with_reducible repeat (first | refine bN ?_ _ | refine bD ?_ | refine bA ?_ _)); exact BK340.out) hb); have n1_ := Aside0.mk (bB (g := gb345) (o := .cells #[.int .i64 t341, .int .i64 t342, .int .i64 t343, .int .i64 t344] 31 (0, 0)) (by (with_reducible repeat (first | refine bN ?_ _ | refine bD ?_ | refine bA ?_ _)); refine blk_far ?_ NB345_368.out _; (with_reducible repeat (first | refine bN ?_ _ | refine bD ?_ | refine bA ?_ _)); refine blk_far ?_ NB345_368.out _; (with_reducible repeat (first | refine bN ?_ _ | refine bD ?_ | refine bA ?_ _)); refine blk_far ?_ NB345_368.out _; (with_reducible repeat (first | refine bN ?_ _ | refine bD ?_ | refine bA ?_ _)); refine blk_far ?_ NB345_368.out _; (with_reducible repeat (first | refine bN ?_ _ | refine bD ?_ | refine bA ?_ _)); exact BK345.out) hb); have n2_ := Aside0.mk (bB (g := gb351) (o := .cells #[.int .i64 t346, .int .i64 t347, .int .i64 t348, .int .i64 t349] 31 (0, 0)) (by (with_reducible repeat (first | refine bN ?_ _ | refine bD ?_ | refine bA ?_ _)); refine blk_far ?_ NB351_368.out _; (with_reducible repeat (first | refine bN ?_ _ | refine bD ?_ | refine bA ?_ _)); refine blk_far ?_ NB351_368.out _; (with_reducible repeat (first | refine bN ?_ _ | refine bD ?_ | refine bA ?_ _)); refine blk_far ?_ NB351_368.out _; (with_reducible repeat (first | refine bN ?_ _ | refine bD ?_ | refine bA ?_ _)); refine blk_far ?_ NB351_368.out _; (with_reducible repeat (first | refine bN ?_ _ | refine bD ?_ | refine bA ?_ _)); exact BK351.out) hb); have n3_ := Aside0.mk (bB (g := gb357) (o := .cells #[.int .i64 t352, .int .i64 t353, .int .i64 t354, .int .i64 t355] 31 (0, 0)) (by (with_reducible repeat (first | refine bN ?_ _ | refine bD ?_ | refine bA ?_ _)); refine blk_far ?_ NB357_368.out _; (with_reducible repeat (first | refine bN ?_ _ | refine bD ?_ | refine bA ?_ _)); refine blk_far ?_ NB357_368.out _; (with_reducible repeat (first | refine bN ?_ _ | refine bD ?_ | refine bA ?_ _)); refine blk_far ?_ NB357_368.out _; (with_reducible repeat (first | refine bN ?_ _ | refine bD ?_ | refine bA ?_ _)); refine blk_far ?_ NB357_368.out _; (with_reducible repeat (first | refine bN ?_ _ | refine bD ?_ | refine bA ?_ _)); exact BK357.out) hb); have n4_ := Aside0.mk (bB (g := gb363) (o := .cells #[.int .i64 t358, .int .i64 t359, .int .i64 t360, .int .i64 t361] 31 (0, 0)) (by (with_reducible repeat (first | refine bN ?_ _ | refine bD ?_ | refine bA ?_ _)); refine blk_far ?_ NB363_368.out _; (with_reducible repeat (first | refine bN ?_ _ | refine bD ?_ | refine bA ?_ _)); refine blk_far ?_ NB363_368.out _; (with_reducible repeat (first | refine bN ?_ _ | refine bD ?_ | refine bA ?_ _)); refine blk_far ?_ NB363_368.out _; (with_reducible repeat (first | refine bN ?_ _ | refine bD ?_ | refine bA ?_ _)); refine blk_far ?_ NB363_368.out _; (with_reducible repeat (first | refine bN ?_ _ | refine bD ?_ | refine bA ?_ _)); exact BK363.out) hb); have n5_ := Aside0.mk (bB (g := gb368) (o := .cells #[.int .i64 t364, .int .i64 t365, .int .i64 t366, .int .i64 t367] 31 (0, 0)) (by (with_reducible repeat (first | refine bN ?_ _ | refine bD ?_ | refine bA ?_ _)); refine blk_put (cs := #[.int .i64 t364, .int .i64 t365, .int .i64 t366, .int .i64 0]) ?_ 3 _ rfl; (with_reducible repeat (first | refine bN ?_ _ | refine bD ?_ | refine bA ?_ _)); refine blk_put (cs := #[.int .i64 t364, .int .i64 t365, .int .i64 0, .int .i64 0]) ?_ 2 _ rfl; (with_reducible repeat (first | refine bN ?_ _ | refine bD ?_ | refine bA ?_ _)); refine blk_put (cs := #[.int .i64 t364, .int .i64 0, .int .i64 0, .int .i64 0]) ?_ 1 _ rfl; (with_reducible repeat (first | refine bN ?_ _ | refine bD ?_ | refine bA ?_ _)); refine blk_put (cs := #[.int .i64 0, .int .i64 0, .int .i64 0, .int .i64 0]) ?_ 0 _ rfl; (with_reducible repeat (first | refine bN ?_ _ | refine bD ?_ | refine bA ?_ _)); exact BK368.out) hb); have n6_ := Aside0.mk (below_step (by repeat (first | (with_reducible first | exact HB.out | apply below_alloc | apply pw_below_drewN | apply below_drew1 | refine bS ?_ GE340.out | refine bS ?_ GE345.out | refine bS ?_ GE351.out | refine bS ?_ GE357.out | refine bS ?_ GE363.out | refine bS ?_ GE368.out) | exact HB.out)) hb); clear BK340; clear BK345; clear BK351; clear BK357; clear BK363; clear BK368; clear HB; have BK340 := n0_; have BK345 := n1_; have BK351 := n2_; have BK357 := n3_; have BK363 := n4_; have BK368 := n5_; have HB := n6_; clear n0_ n1_ n2_ n3_ n4_ n5_ n6_; (try clear hb); (try clear hb2); (try clear hk); (try clear hi)) | ((with_reducible refine gate_dst (N := 13) rfl ?_); refine box_event ?hg (N := 13) ?hd (cs := #[.int .i64 0, .int .i64 0, .int .i64 0, .int .i64 0]) (t := 31) ?hr ?_; (case hd => rfl); (case hg => rfl); (case hr => first | (go_simp; done) | (go_simp; rfl)); intro gb374 hg w48 hbox hb; have n0_ := Aside0.mk (bB (g := gb340) (o := .cells #[.int .i64 t335, .int .i64 t336, .int .i64 t337, .int .i64 t338] 31 (0, 0)) (by (with_reducible repeat (first | refine bN ?_ _ | refine bD ?_ | refine bA ?_ _)); exact BK340.out) hb); have n1_ := Aside0.mk (bB (g := gb345) (o := .cells #[.int .i64 t341, .int .i64 t342, .int .i64 t343, .int .i64 t344] 31 (0, 0)) (by (with_reducible repeat (first | refine bN ?_ _ | refine bD ?_ | refine bA ?_ _)); exact BK345.out) hb); have n2_ := Aside0.mk (bB (g := gb351) (o := .cells #[.int .i64 t346, .int .i64 t347, .int .i64 t348, .int .i64 t349] 31 (0, 0)) (by (with_reducible repeat (first | refine bN ?_ _ | refine bD ?_ | refine bA ?_ _)); exact BK351.out) hb); have n3_ := Aside0.mk (bB (g := gb357) (o := .cells #[.int .i64 t352, .int .i64 t353, .int .i64 t354, .int .i64 t355] 31 (0, 0)) (by (with_reducible repeat (first | refine bN ?_ _ | refine bD ?_ | refine bA ?_ _)); exact BK357.out) hb); have n4_ := Aside0.mk (bB (g := gb363) (o := .cells #[.int .i64 t358, .int .i64 t359, .int .i64 t360, .int .i64 t361] 31 (0, 0)) (by (with_reducible repeat (first | refine bN ?_ _ | refine bD ?_ | refine bA ?_ _)); exact BK363.out) hb); have n5_ := Aside0.mk (bB (g := gb368) (o := .cells #[.int .i64 t364, .int .i64 t365, .int .i64 t366, .int .i64 t367] 31 (0, 0)) (by (with_reducible repeat (first | refine bN ?_ _ | refine bD ?_ | refine bA ?_ _)); exact BK368.out) hb); have n6_ := Aside0.mk (below_step (by repeat (first | (with_reducible first | exact HB.out | apply below_alloc | apply pw_below_drewN | apply below_drew1 | refine bS ?_ GE340.out | refine bS ?_ GE345.out | refine bS ?_ GE351.out | refine bS ?_ GE357.out | refine bS ?_ GE363.out | refine bS ?_ GE368.out) | exact HB.out)) hb); have n7_ := Aside0.mk (hbox); have n8_ := Aside0.mk ((by rw [hg]; exact (below_size (by repeat (first | (with_reducible first | exact HB.out | apply below_alloc | apply pw_below_drewN | apply below_drew1 | refine bS ?_ GE340.out | refine bS ?_ GE345.out | refine bS ?_ GE351.out | refine bS ?_ GE357.out | refine bS ?_ GE363.out | refine bS ?_ GE368.out) | exact HB.out))) : w.heap.size ≤ gb374)); have n9_ := Aside0.mk ((by rw [hg]; exact (below_size (by repeat (first | (with_reducible first | exact HB.out | apply below_alloc | apply pw_below_drewN | apply below_drew1 | refine bS ?_ GE340.out | refine bS ?_ GE345.out | refine bS ?_ GE351.out | refine bS ?_ GE357.out | refine bS ?_ GE363.out | refine bS ?_ GE368.out) | exact HB.out))) : w.heap.size ≤ gb374)); have n10_ := Aside0.mk ((by rw [hg]; exact Nat.ne_of_lt (blk_lt (g := gb340) (o := .cells #[.int .i64 t335, .int .i64 t336, .int .i64 t337, .int .i64 t338] 31 (0, 0)) (by (with_reducible repeat (first | refine bN ?_ _ | refine bD ?_ | refine bA ?_ _)); exact BK340.out)) : gb340 ≠ gb374)); have n11_ := Aside0.mk ((by rw [hg]; exact Nat.ne_of_gt (blk_lt (g := gb340) (o := .cells #[.int .i64 t335, .int .i64 t336, .int .i64 t337, .int .i64 t338] 31 (0, 0)) (by (with_reducible repeat (first | refine bN ?_ _ | refine bD ?_ | refine bA ?_ _)); exact BK340.out)) : gb374 ≠ gb340)); have n12_ := Aside0.mk ((by rw [hg]; exact Nat.ne_of_lt (blk_lt (g := gb345) (o := .cells #[.int .i64 t341, .int .i64 t342, .int .i64 t343, .int .i64 t344] 31 (0, 0)) (by (with_reducible repeat (first | refine bN ?_ _ | refine bD ?_ | refine bA ?_ _)); exact BK345.out)) : gb345 ≠ gb374)); have n13_ := Aside0.mk ((by rw [hg]; exact Nat.ne_of_gt (blk_lt (g := gb345) (o := .cells #[.int .i64 t341, .int .i64 t342, .int .i64 t343, .int .i64 t344] 31 (0, 0)) (by (with_reducible repeat (first | refine bN ?_ _ | refine bD ?_ | refine bA ?_ _)); exact BK345.out)) : gb374 ≠ gb345)); have n14_ := Aside0.mk ((by rw [hg]; exact Nat.ne_of_lt (blk_lt (g := gb351) (o := .cells #[.int .i64 t346, .int .i64 t347, .int .i64 t348, .int .i64 t349] 31 (0, 0)) (by (with_reducible repeat (first | refine bN ?_ _ | refine bD ?_ | refine bA ?_ _)); exact BK351.out)) : gb351 ≠ gb374)); have n15_ := Aside0.mk ((by rw [hg]; exact Nat.ne_of_gt (blk_lt (g := gb351) (o := .cells #[.int .i64 t346, .int .i64 t347, .int .i64 t348, .int .i64 t349] 31 (0, 0)) (by (with_reducible repeat (first | refine bN ?_ _ | refine bD ?_ | refine bA ?_ _)); exact BK351.out)) : gb374 ≠ gb351)); have n16_ := Aside0.mk ((by rw [hg]; exact Nat.ne_of_lt (blk_lt (g := gb357) (o := .cells #[.int .i64 t352, .int .i64 t353, .int .i64 t354, .int .i64 t355] 31 (0, 0)) (by (with_reducible repeat (first | refine bN ?_ _ | refine bD ?_ | refine bA ?_ _)); exact BK357.out)) : gb357 ≠ gb374)); have n17_ := Aside0.mk ((by rw [hg]; exact Nat.ne_of_gt (blk_lt (g := gb357) (o := .cells #[.int .i64 t352, .int .i64 t353, .int .i64 t354, .int .i64 t355] 31 (0, 0)) (by (with_reducible repeat (first | refine bN ?_ _ | refine bD ?_ | refine bA ?_ _)); exact BK357.out)) : gb374 ≠ gb357)); have n18_ := Aside0.mk ((by rw [hg]; exact Nat.ne_of_lt (blk_lt (g := gb363) (o := .cells #[.int .i64 t358, .int .i64 t359, .int .i64 t360, .int .i64 t361] 31 (0, 0)) (by (with_reducible repeat (first | refine bN ?_ _ | refine bD ?_ | refine bA ?_ _)); exact BK363.out)) : gb363 ≠ gb374)); have n19_ := Aside0.mk ((by rw [hg]; exact Nat.ne_of_gt (blk_lt (g := gb363) (o := .cells #[.int .i64 t358, .int .i64 t359, .int .i64 t360, .int .i64 t361] 31 (0, 0)) (by (with_reducible repeat (first | refine bN ?_ _ | refine bD ?_ | refine bA ?_ _)); exact BK363.out)) : gb374 ≠ gb363)); have n20_ := Aside0.mk ((by rw [hg]; exact Nat.ne_of_lt (blk_lt (g := gb368) (o := .cells #[.int .i64 t364, .int .i64 t365, .int .i64 t366, .int .i64 t367] 31 (0, 0)) (by (with_reducible repeat (first | refine bN ?_ _ | refine bD ?_ | refine bA ?_ _)); exact BK368.out)) : gb368 ≠ gb374)); have n21_ := Aside0.mk ((by rw [hg]; exact Nat.ne_of_gt (blk_lt (g := gb368) (o := .cells #[.int .i64 t364, .int .i64 t365, .int .i64 t366, .int .i64 t367] 31 (0, 0)) (by (with_reducible repeat (first | refine bN ?_ _ | refine bD ?_ | refine bA ?_ _)); exact BK368.out)) : gb374 ≠ gb368)); clear BK340; clear BK345; clear BK351; clear BK357; clear BK363; clear BK368; clear HB; have BK340 := n0_; have BK345 := n1_; have BK351 := n2_; have BK357 := n3_; have BK363 := n4_; have BK368 := n5_; have HB := n6_; have BK374 := n7_; have GW374 := n8_; have GE374 := n9_; have NB340_374 := n10_; have NB374_340 := n11_; have NB345_374 := n12_; have NB374_345 := n13_; have NB351_374 := n14_; have NB374_351 := n15_; have NB357_374 := n16_; have NB374_357 := n17_; have NB363_374 := n18_; have NB374_363 := n19_; have NB368_374 := n20_; have NB374_368 := n21_; clear n0_ n1_ n2_ n3_ n4_ n5_ n6_ n7_ n8_ n9_ n10_ n11_ n12_ n13_ n14_ n15_ n16_ n17_ n18_ n19_ n20_ n21_; clear hb hbox hg; have hnb49 := NB374_340.out; have hnc49 := NB340_374.out; have hnb50 := NB374_345.out; have hnc50 := NB345_374.out; have hnb51 := NB374_351.out; have hnc51 := NB351_374.out; have hnb52 := NB374_357.out; have hnc52 := NB357_374.out; have hnb53 := NB374_363.out; have hnc53 := NB363_374.out; have hnb54 := NB374_368.out; have hnc54 := NB368_374.out; have hcz55_0 : w48.cell? ⟨gb374, 0, none⟩ = some (.int .i64 0) := (bC BK374.out 0).trans rfl; have hcz55_1 : w48.cell? ⟨gb374, 1, none⟩ = some (.int .i64 0) := (bC BK374.out 1).trans rfl; have hcz55_2 : w48.cell? ⟨gb374, 2, none⟩ = some (.int .i64 0) := (bC BK374.out 2).trans rfl; have hcz55_3 : w48.cell? ⟨gb374, 3, none⟩ = some (.int .i64 0) := (bC BK374.out 3).trans rfl; have hfz55_0 := blk_frozen BK374.out 0; have hfz55_1 := blk_frozen BK374.out 1; have hfz55_2 := blk_frozen BK374.out 2; have hfz55_3 := blk_frozen BK374.out 3) | ((with_reducible refine gate_callee (f := 66) rfl ?_); refine goesL_ (some 54) rfl rfl Try.func66 (by kernel_rfl) rfl #[.slice A0 l0.length c0] rfl (by (try simp only [List.map_toArray, List.map_cons, List.map_nil]); first | done | rfl | (simp only [List.length_drop, List.length_take]; rfl)) ?_; (with_reducible refine (spec_DrawBucketNew.calls k _ _ l0 t375 t376 _ ?side1 ?side2 A11.out).mono ?_); (case side1 => exact Kd.C_below HR0.out (by repeat (first | (with_reducible first | exact HB.out | apply below_alloc | apply pw_below_drewN | apply below_drew1 | refine bS ?_ GE340.out | refine bS ?_ GE345.out | refine bS ?_ GE351.out | refine bS ?_ GE357.out | refine bS ?_ GE363.out | refine bS ?_ GE368.out | refine bS ?_ GE374.out) | exact HB.out))); (case side2 => exact HC0.out); rintro e w56 ⟨rfl, hb⟩; refine ⟨_, rfl, ?_⟩; have n0_ := Aside0.mk (bB (g := gb340) (o := .cells #[.int .i64 t335, .int .i64 t336, .int .i64 t337, .int .i64 t338] 31 (0, 0)) (by (with_reducible repeat (first | refine bN ?_ _ | refine bD ?_ | refine bA ?_ _)); refine blk_far ?_ NB340_374.out _; (with_reducible repeat (first | refine bN ?_ _ | refine bD ?_ | refine bA ?_ _)); refine blk_far ?_ NB340_374.out _; (with_reducible repeat (first | refine bN ?_ _ | refine bD ?_ | refine bA ?_ _)); refine blk_far ?_ NB340_374.out _; (with_reducible repeat (first | refine bN ?_ _ | refine bD ?_ | refine bA ?_ _)); refine blk_far ?_ NB340_374.out _; (with_reducible repeat (first | refine bN ?_ _ | refine bD ?_ | refine bA ?_ _)); exact BK340.out) hb); have n1_ := Aside0.mk (bB (g := gb345) (o := .cells #[.int .i64 t341, .int .i64 t342, .int .i64 t343, .int .i64 t344] 31 (0, 0)) (by (with_reducible repeat (first | refine bN ?_ _ | refine bD ?_ | refine bA ?_ _)); refine blk_far ?_ NB345_374.out _; (with_reducible repeat (first | refine bN ?_ _ | refine bD ?_ | refine bA ?_ _)); refine blk_far ?_ NB345_374.out _; (with_reducible repeat (first | refine bN ?_ _ | refine bD ?_ | refine bA ?_ _)); refine blk_far ?_ NB345_374.out _; (with_reducible repeat (first | refine bN ?_ _ | refine bD ?_ | refine bA ?_ _)); refine blk_far ?_ NB345_374.out _; (with_reducible repeat (first | refine bN ?_ _ | refine bD ?_ | refine bA ?_ _)); exact BK345.out) hb); have n2_ := Aside0.mk (bB (g := gb351) (o := .cells #[.int .i64 t346, .int .i64 t347, .int .i64 t348, .int .i64 t349] 31 (0, 0)) (by (with_reducible repeat (first | refine bN ?_ _ | refine bD ?_ | refine bA ?_ _)); refine blk_far ?_ NB351_374.out _; (with_reducible repeat (first | refine bN ?_ _ | refine bD ?_ | refine bA ?_ _)); refine blk_far ?_ NB351_374.out _; (with_reducible repeat (first | refine bN ?_ _ | refine bD ?_ | refine bA ?_ _)); refine blk_far ?_ NB351_374.out _; (with_reducible repeat (first | refine bN ?_ _ | refine bD ?_ | refine bA ?_ _)); refine blk_far ?_ NB351_374.out _; (with_reducible repeat (first | refine bN ?_ _ | refine bD ?_ | refine bA ?_ _)); exact BK351.out) hb); have n3_ := Aside0.mk (bB (g := gb357) (o := .cells #[.int .i64 t352, .int .i64 t353, .int .i64 t354, .int .i64 t355] 31 (0, 0)) (by (with_reducible repeat (first | refine bN ?_ _ | refine bD ?_ | refine bA ?_ _)); refine blk_far ?_ NB357_374.out _; (with_reducible repeat (first | refine bN ?_ _ | refine bD ?_ | refine bA ?_ _)); refine blk_far ?_ NB357_374.out _; (with_reducible repeat (first | refine bN ?_ _ | refine bD ?_ | refine bA ?_ _)); refine blk_far ?_ NB357_374.out _; (with_reducible repeat (first | refine bN ?_ _ | refine bD ?_ | refine bA ?_ _)); refine blk_far ?_ NB357_374.out _; (with_reducible repeat (first | refine bN ?_ _ | refine bD ?_ | refine bA ?_ _)); exact BK357.out) hb); have n4_ := Aside0.mk (bB (g := gb363) (o := .cells #[.int .i64 t358, .int .i64 t359, .int .i64 t360, .int .i64 t361] 31 (0, 0)) (by (with_reducible repeat (first | refine bN ?_ _ | refine bD ?_ | refine bA ?_ _)); refine blk_far ?_ NB363_374.out _; (with_reducible repeat (first | refine bN ?_ _ | refine bD ?_ | refine bA ?_ _)); refine blk_far ?_ NB363_374.out _; (with_reducible repeat (first | refine bN ?_ _ | refine bD ?_ | refine bA ?_ _)); refine blk_far ?_ NB363_374.out _; (with_reducible repeat (first | refine bN ?_ _ | refine bD ?_ | refine bA ?_ _)); refine blk_far ?_ NB363_374.out _; (with_reducible repeat (first | refine bN ?_ _ | refine bD ?_ | refine bA ?_ _)); exact BK363.out) hb); have n5_ := Aside0.mk (bB (g := gb368) (o := .cells #[.int .i64 t364, .int .i64 t365, .int .i64 t366, .int .i64 t367] 31 (0, 0)) (by (with_reducible repeat (first | refine bN ?_ _ | refine bD ?_ | refine bA ?_ _)); refine blk_far ?_ NB368_374.out _; (with_reducible repeat (first | refine bN ?_ _ | refine bD ?_ | refine bA ?_ _)); refine blk_far ?_ NB368_374.out _; (with_reducible repeat (first | refine bN ?_ _ | refine bD ?_ | refine bA ?_ _)); refine blk_far ?_ NB368_374.out _; (with_reducible repeat (first | refine bN ?_ _ | refine bD ?_ | refine bA ?_ _)); refine blk_far ?_ NB368_374.out _; (with_reducible repeat (first | refine bN ?_ _ | refine bD ?_ | refine bA ?_ _)); exact BK368.out) hb); have n6_ := Aside0.mk (bB (g := gb374) (o := .cells #[.int .i64 t369, .int .i64 t370, .int .i64 t371, .int .i64 t372] 31 (0, 0)) (by (with_reducible repeat (first | refine bN ?_ _ | refine bD ?_ | refine bA ?_ _)); refine blk_put (cs := #[.int .i64 t369, .int .i64 t370, .int .i64 t371, .int .i64 0]) ?_ 3 _ rfl; (with_reducible repeat (first | refine bN ?_ _ | refine bD ?_ | refine bA ?_ _)); refine blk_put (cs := #[.int .i64 t369, .int .i64 t370, .int .i64 0, .int .i64 0]) ?_ 2 _ rfl; (with_reducible repeat (first | refine bN ?_ _ | refine bD ?_ | refine bA ?_ _)); refine blk_put (cs := #[.int .i64 t369, .int .i64 0, .int .i64 0, .int .i64 0]) ?_ 1 _ rfl; (with_reducible repeat (first | refine bN ?_ _ | refine bD ?_ | refine bA ?_ _)); refine blk_put (cs := #[.int .i64 0, .int .i64 0, .int .i64 0, .int .i64 0]) ?_ 0 _ rfl; (with_reducible repeat (first | refine bN ?_ _ | refine bD ?_ | refine bA ?_ _)); exact BK374.out) hb); have n7_ := Aside0.mk (below_step (by repeat (first | (with_reducible first | exact HB.out | apply below_alloc | apply pw_below_drewN | apply below_drew1 | refine bS ?_ GE340.out | refine bS ?_ GE345.out | refine bS ?_ GE351.out | refine bS ?_ GE357.out | refine bS ?_ GE363.out | refine bS ?_ GE368.out | refine bS ?_ GE374.out) | exact HB.out)) hb); clear BK340; clear BK345; clear BK351; clear BK357; clear BK363; clear BK368; clear BK374; clear HB; have BK340 := n0_; have BK345 := n1_; have BK351 := n2_; have BK357 := n3_; have BK363 := n4_; have BK368 := n5_; have BK374 := n6_; have HB := n7_; clear n0_ n1_ n2_ n3_ n4_ n5_ n6_ n7_; (try clear hb); (try clear hb2); (try clear hk); (try clear hi)))
  (try simp only [Act.put, List.setIfInBounds_toArray, List.set_cons_zero, List.set_cons_succ])
  go_cut [96] (fun v96 wc => ∃ (kq : Nat) (x96_11 : Bool), v96 = .bool x96_11 ∧ Aside0 (laws_FnBuckets.j0 kq t339 t350 t356 x96_11 t335 t336 t337 t338 t341 t342 t343 t344 t346 t347 t348 t349 t352 t353 t354 t355 = some r) ∧ Aside0 (kq ≤ k) ∧ Aside0 (wc.heap[gb340]? = some (.cells #[.int .i64 t335, .int .i64 t336, .int .i64 t337, .int .i64 t338] 31 (0, 0))) ∧ Aside0 (wc.heap[gb345]? = some (.cells #[.int .i64 t341, .int .i64 t342, .int .i64 t343, .int .i64 t344] 31 (0, 0))) ∧ Aside0 (wc.heap[gb351]? = some (.cells #[.int .i64 t346, .int .i64 t347, .int .i64 t348, .int .i64 t349] 31 (0, 0))) ∧ Aside0 (wc.heap[gb357]? = some (.cells #[.int .i64 t352, .int .i64 t353, .int .i64 t354, .int .i64 t355] 31 (0, 0))) ∧ Aside0 (wc.heap[gb363]? = some (.cells #[.int .i64 t358, .int .i64 t359, .int .i64 t360, .int .i64 t361] 31 (0, 0))) ∧ Aside0 (wc.heap[gb368]? = some (.cells #[.int .i64 t364, .int .i64 t365, .int .i64 t366, .int .i64 t367] 31 (0, 0))) ∧ Aside0 (wc.heap[gb374]? = some (.cells #[.int .i64 t369, .int .i64 t370, .int .i64 t371, .int .i64 t372] 31 (0, 0))) ∧ Aside0 (Below w.heap.size w wc))
  case first =>
   have H := HC12.out
   clear HC12
   replace H := Option.bind_eq_some_iff.mp H
   obtain ⟨⟨t377, t378, t379, t380⟩, A570, H⟩ := H
   replace H : (if (!(t341 == t377) || (!(t342 == t378) || (!(t343 == t379) || (!(t344 == t380))))) = true then (laws_FnBuckets.j0 k t339 t350 t356 true t335 t336 t337 t338 t341 t342 t343 t344 t346 t347 t348 t349 t352 t353 t354 t355) else (if (!(t352 == t358) || (!(t353 == t359) || (!(t354 == t360) || (!(t355 == t361))))) = true then (laws_FnBuckets.j0 k t339 t350 t356 true t335 t336 t337 t338 t341 t342 t343 t344 t346 t347 t348 t349 t352 t353 t354 t355) else (if (t356 != t362) = true then (laws_FnBuckets.j0 k t339 t350 t356 true t335 t336 t337 t338 t341 t342 t343 t344 t346 t347 t348 t349 t352 t353 t354 t355) else ((impl_BucketOk.f t364 t365 t366 t367).bind fun t381 => ((spec_BucketOk.f t364 t365 t366 t367).bind fun t382 => (if (t381 != t382) = true then (laws_FnBuckets.j0 k t339 t350 t356 true t335 t336 t337 t338 t341 t342 t343 t344 t346 t347 t348 t349 t352 t353 t354 t355) else ((impl_MostIn.f t369 t370 t371 t372 t373).bind fun t383 => ((spec_MostIn.f t369 t370 t371 t372 t373).bind fun t384 => (if t383 = t384 then ((impl_BucketNew.f t375 t376).bind fun bt385 => ((spec_BucketNew.f t375 t376).bind fun bt389 => (laws_FnBuckets.j0 k t339 t350 t356 (!(bt385.1 == bt389.1) || (!(bt385.2.1 == bt389.2.1) || (!(bt385.2.2.1 == bt389.2.2.1) || (!(bt385.2.2.2 == bt389.2.2.2))))) t335 t336 t337 t338 t341 t342 t343 t344 t346 t347 t348 t349 t352 t353 t354 t355))) else (laws_FnBuckets.j0 k t339 t350 t356 true t335 t336 t337 t338 t341 t342 t343 t344 t346 t347 t348 t349 t352 t353 t354 t355)))))))))) = some r := H
   have A57 := Aside0.mk A570
   clear A570
   by_cases c58 : (!(t341 == t377) || (!(t342 == t378) || (!(t343 == t379) || (!(t344 == t380))))) = true
   ·rw [if_pos c58] at H
    exact (laws_FnBuckets.j0_bad H hrt_.out).elim
   ·rw [if_neg c58] at H
    have c58b0 : (!(t341 == t377) || (!(t342 == t378) || (!(t343 == t379) || (!(t344 == t380))))) = false := by simpa using c58
    clear c58
    (first | rw [c58b0] | (simp only [i64_w, i32_w]; rw [c58b0]) | skip)
    by_cases c61 : (!(t352 == t358) || (!(t353 == t359) || (!(t354 == t360) || (!(t355 == t361))))) = true
    ·rw [if_pos c61] at H
     exact (laws_FnBuckets.j0_bad H hrt_.out).elim
    ·rw [if_neg c61] at H
     have c61b0 : (!(t352 == t358) || (!(t353 == t359) || (!(t354 == t360) || (!(t355 == t361))))) = false := by simpa using c61
     clear c61
     by_cases c64 : (t356 != t362) = true
     ·rw [if_pos c64] at H
      exact (laws_FnBuckets.j0_bad H hrt_.out).elim
     ·rw [if_neg c64] at H
      have c64b0 : (t356 != t362) = false := by simpa using c64
      (try (have c64b1 : decide (t356 = t362) = true := by simpa using c64))
      (try (have c64b2 : (t356 == t362) = true := by simpa using c64))
      clear c64
      replace H := Option.bind_eq_some_iff.mp H
      obtain ⟨t381, A670, H⟩ := H
      replace H : ((spec_BucketOk.f t364 t365 t366 t367).bind fun t382 => (if (t381 != t382) = true then (laws_FnBuckets.j0 k t339 t350 t356 true t335 t336 t337 t338 t341 t342 t343 t344 t346 t347 t348 t349 t352 t353 t354 t355) else ((impl_MostIn.f t369 t370 t371 t372 t373).bind fun t383 => ((spec_MostIn.f t369 t370 t371 t372 t373).bind fun t384 => (if t383 = t384 then ((impl_BucketNew.f t375 t376).bind fun bt385 => ((spec_BucketNew.f t375 t376).bind fun bt389 => (laws_FnBuckets.j0 k t339 t350 t356 (!(bt385.1 == bt389.1) || (!(bt385.2.1 == bt389.2.1) || (!(bt385.2.2.1 == bt389.2.2.1) || (!(bt385.2.2.2 == bt389.2.2.2))))) t335 t336 t337 t338 t341 t342 t343 t344 t346 t347 t348 t349 t352 t353 t354 t355))) else (laws_FnBuckets.j0 k t339 t350 t356 true t335 t336 t337 t338 t341 t342 t343 t344 t346 t347 t348 t349 t352 t353 t354 t355)))))) = some r := H
      have A67 := Aside0.mk A670
      clear A670
      replace H := Option.bind_eq_some_iff.mp H
      obtain ⟨t382, A680, H⟩ := H
      replace H : (if (t381 != t382) = true then (laws_FnBuckets.j0 k t339 t350 t356 true t335 t336 t337 t338 t341 t342 t343 t344 t346 t347 t348 t349 t352 t353 t354 t355) else ((impl_MostIn.f t369 t370 t371 t372 t373).bind fun t383 => ((spec_MostIn.f t369 t370 t371 t372 t373).bind fun t384 => (if t383 = t384 then ((impl_BucketNew.f t375 t376).bind fun bt385 => ((spec_BucketNew.f t375 t376).bind fun bt389 => (laws_FnBuckets.j0 k t339 t350 t356 (!(bt385.1 == bt389.1) || (!(bt385.2.1 == bt389.2.1) || (!(bt385.2.2.1 == bt389.2.2.1) || (!(bt385.2.2.2 == bt389.2.2.2))))) t335 t336 t337 t338 t341 t342 t343 t344 t346 t347 t348 t349 t352 t353 t354 t355))) else (laws_FnBuckets.j0 k t339 t350 t356 true t335 t336 t337 t338 t341 t342 t343 t344 t346 t347 t348 t349 t352 t353 t354 t355))))) = some r := H
      have A68 := Aside0.mk A680
      clear A680
      by_cases c69 : (t381 != t382) = true
      ·rw [if_pos c69] at H
       exact (laws_FnBuckets.j0_bad H hrt_.out).elim
      ·rw [if_neg c69] at H
       have c69b0 : (t381 != t382) = false := by simpa using c69
       (try (have c69b1 : decide (t381 = t382) = true := by simpa using c69))
       (try (have c69b2 : (t381 == t382) = true := by simpa using c69))
       clear c69
       replace H := Option.bind_eq_some_iff.mp H
       obtain ⟨t383, A740, H⟩ := H
       replace H : ((spec_MostIn.f t369 t370 t371 t372 t373).bind fun t384 => (if t383 = t384 then ((impl_BucketNew.f t375 t376).bind fun bt385 => ((spec_BucketNew.f t375 t376).bind fun bt389 => (laws_FnBuckets.j0 k t339 t350 t356 (!(bt385.1 == bt389.1) || (!(bt385.2.1 == bt389.2.1) || (!(bt385.2.2.1 == bt389.2.2.1) || (!(bt385.2.2.2 == bt389.2.2.2))))) t335 t336 t337 t338 t341 t342 t343 t344 t346 t347 t348 t349 t352 t353 t354 t355))) else (laws_FnBuckets.j0 k t339 t350 t356 true t335 t336 t337 t338 t341 t342 t343 t344 t346 t347 t348 t349 t352 t353 t354 t355))) = some r := H
       have A74 := Aside0.mk A740
       clear A740
       replace H := Option.bind_eq_some_iff.mp H
       obtain ⟨t384, A750, H⟩ := H
       replace H : (if t383 = t384 then ((impl_BucketNew.f t375 t376).bind fun bt385 => ((spec_BucketNew.f t375 t376).bind fun bt389 => (laws_FnBuckets.j0 k t339 t350 t356 (!(bt385.1 == bt389.1) || (!(bt385.2.1 == bt389.2.1) || (!(bt385.2.2.1 == bt389.2.2.1) || (!(bt385.2.2.2 == bt389.2.2.2))))) t335 t336 t337 t338 t341 t342 t343 t344 t346 t347 t348 t349 t352 t353 t354 t355))) else (laws_FnBuckets.j0 k t339 t350 t356 true t335 t336 t337 t338 t341 t342 t343 t344 t346 t347 t348 t349 t352 t353 t354 t355)) = some r := H
       have A75 := Aside0.mk A750
       clear A750
       by_cases c76 : t383 = t384
       ·rw [if_pos c76] at H
        have c76b0 : (t383 == t384) = true := beq_iff_eq.mpr c76
        have c76b1 : (t383 != t384) = false := bne_eq_false_iff_eq.mpr c76
        clear c76
        replace H := Option.bind_eq_some_iff.mp H
        obtain ⟨⟨t385, t386, t387, t388⟩, A770, H⟩ := H
        replace H : ((spec_BucketNew.f t375 t376).bind fun bt389 => (laws_FnBuckets.j0 k t339 t350 t356 (!(t385 == bt389.1) || (!(t386 == bt389.2.1) || (!(t387 == bt389.2.2.1) || (!(t388 == bt389.2.2.2))))) t335 t336 t337 t338 t341 t342 t343 t344 t346 t347 t348 t349 t352 t353 t354 t355)) = some r := H
        have A77 := Aside0.mk A770
        clear A770
        replace H := Option.bind_eq_some_iff.mp H
        obtain ⟨⟨t389, t390, t391, t392⟩, A780, H⟩ := H
        replace H : (laws_FnBuckets.j0 k t339 t350 t356 (!(t385 == t389) || (!(t386 == t390) || (!(t387 == t391) || (!(t388 == t392))))) t335 t336 t337 t338 t341 t342 t343 t344 t346 t347 t348 t349 t352 t353 t354 t355) = some r := H
        have A78 := Aside0.mk A780
        clear A780
        have H' := Aside0.mk H
        clear H
        try go_wp2
        have n0_ := Aside0.mk (bD BK340.out)
        have n1_ := Aside0.mk (bD BK345.out)
        have n2_ := Aside0.mk (bD BK351.out)
        have n3_ := Aside0.mk (bD BK357.out)
        have n4_ := Aside0.mk (bD BK363.out)
        have n5_ := Aside0.mk (bD BK368.out)
        have n6_ := Aside0.mk (bD BK374.out)
        have n7_ := Aside0.mk (below_drew1 HB.out)
        clear BK340 BK345 BK351 BK357 BK363 BK368 BK374
        clear HB
        have BK340 := n0_
        have BK345 := n1_
        have BK351 := n2_
        have BK357 := n3_
        have BK363 := n4_
        have BK368 := n5_
        have BK374 := n6_
        have HB := n7_
        clear n0_ n1_ n2_ n3_ n4_ n5_ n6_ n7_
        refine start_ (n := 40) (S := fun w' => w'.cell? ⟨gb345, 0, none⟩ = some (.int .i64 t341) ∧ w'.cell? ⟨gb345, 1, none⟩ = some (.int .i64 t342) ∧ w'.cell? ⟨gb345, 2, none⟩ = some (.int .i64 t343) ∧ w'.cell? ⟨gb345, 3, none⟩ = some (.int .i64 t344) ∧ w'.cell? ⟨gb340, 0, none⟩ = some (.int .i64 t335) ∧ w'.cell? ⟨gb340, 1, none⟩ = some (.int .i64 t336) ∧ w'.cell? ⟨gb340, 2, none⟩ = some (.int .i64 t337) ∧ w'.cell? ⟨gb340, 3, none⟩ = some (.int .i64 t338) ∧ w'.cell? ⟨gb357, 0, none⟩ = some (.int .i64 t352) ∧ w'.cell? ⟨gb357, 1, none⟩ = some (.int .i64 t353) ∧ w'.cell? ⟨gb357, 2, none⟩ = some (.int .i64 t354) ∧ w'.cell? ⟨gb357, 3, none⟩ = some (.int .i64 t355) ∧ w'.cell? ⟨gb363, 0, none⟩ = some (.int .i64 t358) ∧ w'.cell? ⟨gb363, 1, none⟩ = some (.int .i64 t359) ∧ w'.cell? ⟨gb363, 2, none⟩ = some (.int .i64 t360) ∧ w'.cell? ⟨gb363, 3, none⟩ = some (.int .i64 t361) ∧ w'.cell? ⟨gb368, 0, none⟩ = some (.int .i64 t364) ∧ w'.cell? ⟨gb368, 1, none⟩ = some (.int .i64 t365) ∧ w'.cell? ⟨gb368, 2, none⟩ = some (.int .i64 t366) ∧ w'.cell? ⟨gb368, 3, none⟩ = some (.int .i64 t367) ∧ w'.cell? ⟨gb374, 0, none⟩ = some (.int .i64 t369) ∧ w'.cell? ⟨gb374, 1, none⟩ = some (.int .i64 t370) ∧ w'.cell? ⟨gb374, 2, none⟩ = some (.int .i64 t371) ∧ w'.cell? ⟨gb374, 3, none⟩ = some (.int .i64 t372)) (ds := []) #[false, false, false, false, false, false, false, false, false, false, false, false, false, false, false, false, false, false, false, false, false, false, false, false, false, false, false, false, false, false, false, false, false, false, false, false, false, false, false, false] (by kernel_rfl) rfl rfl ⟨(bC BK345.out 0).trans rfl, (bC BK345.out 1).trans rfl, (bC BK345.out 2).trans rfl, (bC BK345.out 3).trans rfl, (bC BK340.out 0).trans rfl, (bC BK340.out 1).trans rfl, (bC BK340.out 2).trans rfl, (bC BK340.out 3).trans rfl, (bC BK357.out 0).trans rfl, (bC BK357.out 1).trans rfl, (bC BK357.out 2).trans rfl, (bC BK357.out 3).trans rfl, (bC BK363.out 0).trans rfl, (bC BK363.out 1).trans rfl, (bC BK363.out 2).trans rfl, (bC BK363.out 3).trans rfl, (bC BK368.out 0).trans rfl, (bC BK368.out 1).trans rfl, (bC BK368.out 2).trans rfl, (bC BK368.out 3).trans rfl, (bC BK374.out 0).trans rfl, (bC BK374.out 1).trans rfl, (bC BK374.out 2).trans rfl, (bC BK374.out 3).trans rfl⟩ (fun hHeld => ?_); refine with_tabW laws_FnBuckets.tab11 laws_FnBuckets.bits11 (fun HT_ HW_ => ?_)
        generalize w56.drew = w79 at BK340 BK345 BK351 BK357 BK363 BK368 BK374 HB hHeld ⊢
        refine pure_ (i := 2) (N := some 59) (v := ?_) (a' := ?_) (fB 40 4) rfl rfl (any_of HT_.out (by kernel_rfl)) (fun _ _ _ h => h) (Or.inl ⟨by rfl, ?_⟩) ?_ ?_
        rotate_left
        ·intro w'; go_simp; with_reducible rfl
        rotate_left
        ·simp only [Act.put, sA_, sB_, sC_, i64_w, i32_w]; rfl
        refine take_ (i := 0) (N := some 57) (v := ?_) (a' := ?_) (fB 40 5) rfl rfl (take_ofW HT_.out HW_.out (by kernel_rfl)) (fun _ _ _ h => h) (Or.inl ⟨by rfl, ?_⟩) hHeld ?_ ?_
        rotate_left
        ·rintro w' ⟨s0, s1, s2, s3, s4, s5, s6, s7, s8, s9, s10, s11, s12, s13, s14, s15, s16, s17, s18, s19, s20, s21, s22, s23⟩; go_simp; with_reducible rfl
        rotate_left
        ·simp only [Act.put, sA_, sB_, sC_, i64_w, i32_w]; rfl
        refine take_ (i := 1) (N := some 58) (v := ?_) (a' := ?_) (fB 40 7) rfl rfl (take_ofW HT_.out HW_.out (by kernel_rfl)) (fun _ _ _ h => h) (Or.inl ⟨by rfl, ?_⟩) hHeld ?_ ?_
        rotate_left
        ·rintro w' ⟨s0, s1, s2, s3, s4, s5, s6, s7, s8, s9, s10, s11, s12, s13, s14, s15, s16, s17, s18, s19, s20, s21, s22, s23⟩; go_simp; with_reducible rfl
        rotate_left
        ·simp only [Act.put, sA_, sB_, sC_, i64_w, i32_w]; rfl
        refine one_ (i := 3) (N := some 60) (fB 40 15) rfl rfl (one_of HT_.out (by kernel_rfl)) (by decide) (fun K hK => ?_)
        refine goes_ Try.func23 (by kernel_rfl) rfl #[.agg #[.int .i64 t335, .int .i64 t336, .int .i64 t337, .int .i64 t338], .int .i64 t339] (by rfl) rfl rfl (by (try simp only [List.map_toArray, List.map_cons, List.map_nil]); first | done | rfl | (simp only [List.length_drop, List.length_take]; rfl)) ?_
        with_reducible refine (spec_Refill.calls k t335 t336 t337 t338 t339 t377 t378 t379 t380 _ A57.out).mono ?_
        rintro e w80 ⟨rfl, hb⟩
        refine ⟨_, rfl, ?_⟩
        have n0_ := Aside0.mk (bB (g := gb340) (o := .cells #[.int .i64 t335, .int .i64 t336, .int .i64 t337, .int .i64 t338] 31 (0, 0)) (by (with_reducible repeat (first | refine bN ?_ _ | refine bD ?_ | refine bA ?_ _)); exact BK340.out) hb)
        have n1_ := Aside0.mk (bB (g := gb345) (o := .cells #[.int .i64 t341, .int .i64 t342, .int .i64 t343, .int .i64 t344] 31 (0, 0)) (by (with_reducible repeat (first | refine bN ?_ _ | refine bD ?_ | refine bA ?_ _)); exact BK345.out) hb)
        have n2_ := Aside0.mk (bB (g := gb351) (o := .cells #[.int .i64 t346, .int .i64 t347, .int .i64 t348, .int .i64 t349] 31 (0, 0)) (by (with_reducible repeat (first | refine bN ?_ _ | refine bD ?_ | refine bA ?_ _)); exact BK351.out) hb)
        have n3_ := Aside0.mk (bB (g := gb357) (o := .cells #[.int .i64 t352, .int .i64 t353, .int .i64 t354, .int .i64 t355] 31 (0, 0)) (by (with_reducible repeat (first | refine bN ?_ _ | refine bD ?_ | refine bA ?_ _)); exact BK357.out) hb)
        have n4_ := Aside0.mk (bB (g := gb363) (o := .cells #[.int .i64 t358, .int .i64 t359, .int .i64 t360, .int .i64 t361] 31 (0, 0)) (by (with_reducible repeat (first | refine bN ?_ _ | refine bD ?_ | refine bA ?_ _)); exact BK363.out) hb)
        have n5_ := Aside0.mk (bB (g := gb368) (o := .cells #[.int .i64 t364, .int .i64 t365, .int .i64 t366, .int .i64 t367] 31 (0, 0)) (by (with_reducible repeat (first | refine bN ?_ _ | refine bD ?_ | refine bA ?_ _)); exact BK368.out) hb)
        have n6_ := Aside0.mk (bB (g := gb374) (o := .cells #[.int .i64 t369, .int .i64 t370, .int .i64 t371, .int .i64 t372] 31 (0, 0)) (by (with_reducible repeat (first | refine bN ?_ _ | refine bD ?_ | refine bA ?_ _)); exact BK374.out) hb)
        have n7_ := Aside0.mk (below_step (by repeat (first | (with_reducible first | exact HB.out | apply below_alloc | apply pw_below_drewN | apply below_drew1 | refine bS ?_ GE340.out | refine bS ?_ GE345.out | refine bS ?_ GE351.out | refine bS ?_ GE357.out | refine bS ?_ GE363.out | refine bS ?_ GE368.out | refine bS ?_ GE374.out) | exact HB.out)) hb)
        clear BK340 BK345 BK351 BK357 BK363 BK368 BK374
        clear HB
        have BK340 := n0_
        have BK345 := n1_
        have BK351 := n2_
        have BK357 := n3_
        have BK363 := n4_
        have BK368 := n5_
        have BK374 := n6_
        have HB := n7_
        clear n0_ n1_ n2_ n3_ n4_ n5_ n6_ n7_
        (try clear hb)
        (try clear hb2)
        (try clear hk)
        (try clear hi)
        refine hK.out _ _ ⟨(bC BK345.out 0).trans rfl, (bC BK345.out 1).trans rfl, (bC BK345.out 2).trans rfl, (bC BK345.out 3).trans rfl, (bC BK340.out 0).trans rfl, (bC BK340.out 1).trans rfl, (bC BK340.out 2).trans rfl, (bC BK340.out 3).trans rfl, (bC BK357.out 0).trans rfl, (bC BK357.out 1).trans rfl, (bC BK357.out 2).trans rfl, (bC BK357.out 3).trans rfl, (bC BK363.out 0).trans rfl, (bC BK363.out 1).trans rfl, (bC BK363.out 2).trans rfl, (bC BK363.out 3).trans rfl, (bC BK368.out 0).trans rfl, (bC BK368.out 1).trans rfl, (bC BK368.out 2).trans rfl, (bC BK368.out 3).trans rfl, (bC BK374.out 0).trans rfl, (bC BK374.out 1).trans rfl, (bC BK374.out 2).trans rfl, (bC BK374.out 3).trans rfl⟩ (fun hHeld => ?_)
        clear hK K
        refine norm_ (a' := ?_) ?_ ?_
        rotate_left
        ·show Act.put _ (some 60) _ = _
         simp only [Act.put, sA_, sB_, sC_, i64_w, i32_w]
         rfl
        refine pure_ (i := 4) (N := some 61) (v := ?_) (a' := ?_) (fB 40 31) rfl rfl (any_of HT_.out (by kernel_rfl)) (fun _ _ _ h => h) (Or.inl ⟨by rfl, ?_⟩) ?_ ?_
        rotate_left
        ·intro w'; go_simp; with_reducible rfl
        rotate_left
        ·simp only [Act.put, sA_, sB_, sC_, i64_w, i32_w]; rfl
        refine pure_ (i := 5) (N := some 62) (v := ?_) (a' := ?_) (fB 40 63) rfl rfl (any_of HT_.out (by kernel_rfl)) (fun _ _ _ h => h) (Or.inl ⟨by rfl, ?_⟩) ?_ ?_
        rotate_left
        ·intro w'; go_simp; with_reducible rfl
        rotate_left
        ·simp only [Act.put, sA_, sB_, sC_, i64_w, i32_w]; rfl
        refine take_ (i := 6) (N := some 63) (v := ?_) (a' := ?_) (fB 40 127) rfl rfl (take_ofW HT_.out HW_.out (by kernel_rfl)) (fun _ _ _ h => h) (Or.inl ⟨by rfl, ?_⟩) hHeld ?_ ?_
        rotate_left
        ·rintro w' ⟨s0, s1, s2, s3, s4, s5, s6, s7, s8, s9, s10, s11, s12, s13, s14, s15, s16, s17, s18, s19, s20, s21, s22, s23⟩; go_simp; with_reducible rfl
        rotate_left
        ·simp only [Act.put, sA_, sB_, sC_, i64_w, i32_w]; rfl
        refine take_ (i := 7) (N := some 64) (v := ?_) (a' := ?_) (fB 40 255) rfl rfl (take_ofW HT_.out HW_.out (by kernel_rfl)) (fun _ _ _ h => h) (Or.inl ⟨by rfl, ?_⟩) hHeld ?_ ?_
        rotate_left
        ·rintro w' ⟨s0, s1, s2, s3, s4, s5, s6, s7, s8, s9, s10, s11, s12, s13, s14, s15, s16, s17, s18, s19, s20, s21, s22, s23⟩; go_simp; with_reducible rfl
        rotate_left
        ·simp only [Act.put, sA_, sB_, sC_, i64_w, i32_w]; rfl
        refine pure_ (i := 8) (N := some 65) (v := ?_) (a' := ?_) (fB 40 511) rfl rfl (any_of HT_.out (by kernel_rfl)) (fun _ _ _ h => h) (Or.inl ⟨by rfl, ?_⟩) ?_ ?_
        rotate_left
        ·intro w'; go_simp; with_reducible rfl
        rotate_left
        ·simp only [Act.put, sA_, sB_, sC_, i64_w, i32_w]; rfl
        refine pure_ (i := 9) (N := some 66) (v := ?_) (a' := ?_) (fB 40 1023) rfl rfl (any_of HT_.out (by kernel_rfl)) (fun _ _ _ h => h) (Or.inl ⟨by rfl, ?_⟩) ?_ ?_
        rotate_left
        ·intro w'; go_simp; with_reducible rfl
        rotate_left
        ·simp only [Act.put, sA_, sB_, sC_, i64_w, i32_w]; rfl
        refine pure_ (i := 10) (N := some 67) (v := ?_) (a' := ?_) (fB 40 2047) rfl rfl (any_of HT_.out (by kernel_rfl)) (fun _ _ _ h => h) (Or.inl ⟨by rfl, ?_⟩) ?_ ?_
        rotate_left
        ·intro w'; go_simp; with_reducible rfl
        rotate_left
        ·simp only [Act.put, sA_, sB_, sC_, i64_w, i32_w]; rfl
        refine pure_ (i := 11) (N := some 68) (v := ?_) (a' := ?_) (fB 40 4095) rfl rfl (any_of HT_.out (by kernel_rfl)) (fun _ _ _ h => h) (Or.inl ⟨by rfl, ?_⟩) ?_ ?_
        rotate_left
        ·intro w'; go_simp; with_reducible rfl
        rotate_left
        ·simp only [Act.put, sA_, sB_, sC_, i64_w, i32_w]; rfl
        refine pure_ (i := 12) (N := some 69) (v := ?_) (a' := ?_) (fB 40 8191) rfl rfl (any_of HT_.out (by kernel_rfl)) (fun _ _ _ h => h) (Or.inl ⟨by rfl, ?_⟩) ?_ ?_
        rotate_left
        ·intro w'; go_simp; with_reducible rfl
        rotate_left
        ·simp only [Act.put, sA_, sB_, sC_, i64_w, i32_w]; rfl
        refine pure_ (i := 13) (N := some 70) (v := ?_) (a' := ?_) (fB 40 16383) rfl rfl (any_of HT_.out (by kernel_rfl)) (fun _ _ _ h => h) (Or.inl ⟨by rfl, ?_⟩) ?_ ?_
        rotate_left
        ·intro w'; go_simp; with_reducible rfl
        rotate_left
        ·simp only [Act.put, sA_, sB_, sC_, i64_w, i32_w]; rfl
        refine pure_ (i := 14) (N := some 71) (v := ?_) (a' := ?_) (fB 40 32767) rfl rfl (any_of HT_.out (by kernel_rfl)) (fun _ _ _ h => h) (Or.inl ⟨by rfl, ?_⟩) ?_ ?_
        rotate_left
        ·intro w'; go_simp; with_reducible rfl
        rotate_left
        ·simp only [Act.put, sA_, sB_, sC_, i64_w, i32_w]; rfl
        refine pure_ (i := 15) (N := some 72) (v := ?_) (a' := ?_) (fB 40 65535) rfl rfl (any_of HT_.out (by kernel_rfl)) (fun _ _ _ h => h) (Or.inl ⟨by rfl, ?_⟩) ?_ ?_
        rotate_left
        ·intro w'; go_simp; with_reducible rfl
        rotate_left
        ·simp only [Act.put, sA_, sB_, sC_, i64_w, i32_w]; rfl
        refine take_ (i := 16) (N := some 73) (v := ?_) (a' := ?_) (fB 40 131071) rfl rfl (take_ofW HT_.out HW_.out (by kernel_rfl)) (fun _ _ _ h => h) (Or.inl ⟨by rfl, ?_⟩) hHeld ?_ ?_
        rotate_left
        ·rintro w' ⟨s0, s1, s2, s3, s4, s5, s6, s7, s8, s9, s10, s11, s12, s13, s14, s15, s16, s17, s18, s19, s20, s21, s22, s23⟩; go_simp; with_reducible rfl
        rotate_left
        ·simp only [Act.put, sA_, sB_, sC_, i64_w, i32_w]; rfl
        refine take_ (i := 18) (N := some 75) (v := ?_) (a' := ?_) (fB 40 393215) rfl rfl (take_ofW HT_.out HW_.out (by kernel_rfl)) (fun _ _ _ h => h) (Or.inl ⟨by rfl, ?_⟩) hHeld ?_ ?_
        rotate_left
        ·rintro w' ⟨s0, s1, s2, s3, s4, s5, s6, s7, s8, s9, s10, s11, s12, s13, s14, s15, s16, s17, s18, s19, s20, s21, s22, s23⟩; go_simp; with_reducible rfl
        rotate_left
        ·simp only [Act.put, sA_, sB_, sC_, i64_w, i32_w]; rfl
        refine one_ (i := 17) (N := some 74) (fB 40 524287) rfl rfl (one_of HT_.out (by kernel_rfl)) (by decide) (fun K hK => ?_)
        refine goes_ Try.func67 (by kernel_rfl) rfl #[.agg #[.int .i64 t364, .int .i64 t365, .int .i64 t366, .int .i64 t367]] (by rfl) rfl rfl (by (try simp only [List.map_toArray, List.map_cons, List.map_nil]); first | done | rfl | (simp only [List.length_drop, List.length_take]; rfl)) ?_
        with_reducible refine (impl_BucketOk.calls t364 t365 t366 t367 t381 _ A67.out).mono ?_
        rintro e w81 ⟨rfl, hb⟩
        refine ⟨_, rfl, ?_⟩
        have n0_ := Aside0.mk (bB (g := gb340) (o := .cells #[.int .i64 t335, .int .i64 t336, .int .i64 t337, .int .i64 t338] 31 (0, 0)) (by (with_reducible repeat (first | refine bN ?_ _ | refine bD ?_ | refine bA ?_ _)); exact BK340.out) hb)
        have n1_ := Aside0.mk (bB (g := gb345) (o := .cells #[.int .i64 t341, .int .i64 t342, .int .i64 t343, .int .i64 t344] 31 (0, 0)) (by (with_reducible repeat (first | refine bN ?_ _ | refine bD ?_ | refine bA ?_ _)); exact BK345.out) hb)
        have n2_ := Aside0.mk (bB (g := gb351) (o := .cells #[.int .i64 t346, .int .i64 t347, .int .i64 t348, .int .i64 t349] 31 (0, 0)) (by (with_reducible repeat (first | refine bN ?_ _ | refine bD ?_ | refine bA ?_ _)); exact BK351.out) hb)
        have n3_ := Aside0.mk (bB (g := gb357) (o := .cells #[.int .i64 t352, .int .i64 t353, .int .i64 t354, .int .i64 t355] 31 (0, 0)) (by (with_reducible repeat (first | refine bN ?_ _ | refine bD ?_ | refine bA ?_ _)); exact BK357.out) hb)
        have n4_ := Aside0.mk (bB (g := gb363) (o := .cells #[.int .i64 t358, .int .i64 t359, .int .i64 t360, .int .i64 t361] 31 (0, 0)) (by (with_reducible repeat (first | refine bN ?_ _ | refine bD ?_ | refine bA ?_ _)); exact BK363.out) hb)
        have n5_ := Aside0.mk (bB (g := gb368) (o := .cells #[.int .i64 t364, .int .i64 t365, .int .i64 t366, .int .i64 t367] 31 (0, 0)) (by (with_reducible repeat (first | refine bN ?_ _ | refine bD ?_ | refine bA ?_ _)); exact BK368.out) hb)
        have n6_ := Aside0.mk (bB (g := gb374) (o := .cells #[.int .i64 t369, .int .i64 t370, .int .i64 t371, .int .i64 t372] 31 (0, 0)) (by (with_reducible repeat (first | refine bN ?_ _ | refine bD ?_ | refine bA ?_ _)); exact BK374.out) hb)
        have n7_ := Aside0.mk (below_step (by repeat (first | (with_reducible first | exact HB.out | apply below_alloc | apply pw_below_drewN | apply below_drew1 | refine bS ?_ GE340.out | refine bS ?_ GE345.out | refine bS ?_ GE351.out | refine bS ?_ GE357.out | refine bS ?_ GE363.out | refine bS ?_ GE368.out | refine bS ?_ GE374.out) | exact HB.out)) hb)
        clear BK340 BK345 BK351 BK357 BK363 BK368 BK374
        clear HB
        have BK340 := n0_
        have BK345 := n1_
        have BK351 := n2_
        have BK357 := n3_
        have BK363 := n4_
        have BK368 := n5_
        have BK374 := n6_
        have HB := n7_
        clear n0_ n1_ n2_ n3_ n4_ n5_ n6_ n7_
        (try clear hb)
        (try clear hb2)
        (try clear hk)
        (try clear hi)
        refine hK.out _ _ ⟨(bC BK345.out 0).trans rfl, (bC BK345.out 1).trans rfl, (bC BK345.out 2).trans rfl, (bC BK345.out 3).trans rfl, (bC BK340.out 0).trans rfl, (bC BK340.out 1).trans rfl, (bC BK340.out 2).trans rfl, (bC BK340.out 3).trans rfl, (bC BK357.out 0).trans rfl, (bC BK357.out 1).trans rfl, (bC BK357.out 2).trans rfl, (bC BK357.out 3).trans rfl, (bC BK363.out 0).trans rfl, (bC BK363.out 1).trans rfl, (bC BK363.out 2).trans rfl, (bC BK363.out 3).trans rfl, (bC BK368.out 0).trans rfl, (bC BK368.out 1).trans rfl, (bC BK368.out 2).trans rfl, (bC BK368.out 3).trans rfl, (bC BK374.out 0).trans rfl, (bC BK374.out 1).trans rfl, (bC BK374.out 2).trans rfl, (bC BK374.out 3).trans rfl⟩ (fun hHeld => ?_)
        clear hK K
        refine norm_ (a' := ?_) ?_ ?_
        rotate_left
        ·show Act.put _ (some 74) _ = _
         simp only [Act.put, sA_, sB_, sC_, i64_w, i32_w]
         rfl
        refine one_ (i := 19) (N := some 76) (fB 40 1048575) rfl rfl (one_of HT_.out (by kernel_rfl)) (by decide) (fun K hK => ?_)
        refine goes_ Try.func68 (by kernel_rfl) rfl #[.agg #[.int .i64 t364, .int .i64 t365, .int .i64 t366, .int .i64 t367]] (by rfl) rfl rfl (by (try simp only [List.map_toArray, List.map_cons, List.map_nil]); first | done | rfl | (simp only [List.length_drop, List.length_take]; rfl)) ?_
        with_reducible refine (spec_BucketOk.calls t364 t365 t366 t367 t382 _ A68.out).mono ?_
        rintro e w82 ⟨rfl, hb⟩
        refine ⟨_, rfl, ?_⟩
        have n0_ := Aside0.mk (bB (g := gb340) (o := .cells #[.int .i64 t335, .int .i64 t336, .int .i64 t337, .int .i64 t338] 31 (0, 0)) (by (with_reducible repeat (first | refine bN ?_ _ | refine bD ?_ | refine bA ?_ _)); exact BK340.out) hb)
        have n1_ := Aside0.mk (bB (g := gb345) (o := .cells #[.int .i64 t341, .int .i64 t342, .int .i64 t343, .int .i64 t344] 31 (0, 0)) (by (with_reducible repeat (first | refine bN ?_ _ | refine bD ?_ | refine bA ?_ _)); exact BK345.out) hb)
        have n2_ := Aside0.mk (bB (g := gb351) (o := .cells #[.int .i64 t346, .int .i64 t347, .int .i64 t348, .int .i64 t349] 31 (0, 0)) (by (with_reducible repeat (first | refine bN ?_ _ | refine bD ?_ | refine bA ?_ _)); exact BK351.out) hb)
        have n3_ := Aside0.mk (bB (g := gb357) (o := .cells #[.int .i64 t352, .int .i64 t353, .int .i64 t354, .int .i64 t355] 31 (0, 0)) (by (with_reducible repeat (first | refine bN ?_ _ | refine bD ?_ | refine bA ?_ _)); exact BK357.out) hb)
        have n4_ := Aside0.mk (bB (g := gb363) (o := .cells #[.int .i64 t358, .int .i64 t359, .int .i64 t360, .int .i64 t361] 31 (0, 0)) (by (with_reducible repeat (first | refine bN ?_ _ | refine bD ?_ | refine bA ?_ _)); exact BK363.out) hb)
        have n5_ := Aside0.mk (bB (g := gb368) (o := .cells #[.int .i64 t364, .int .i64 t365, .int .i64 t366, .int .i64 t367] 31 (0, 0)) (by (with_reducible repeat (first | refine bN ?_ _ | refine bD ?_ | refine bA ?_ _)); exact BK368.out) hb)
        have n6_ := Aside0.mk (bB (g := gb374) (o := .cells #[.int .i64 t369, .int .i64 t370, .int .i64 t371, .int .i64 t372] 31 (0, 0)) (by (with_reducible repeat (first | refine bN ?_ _ | refine bD ?_ | refine bA ?_ _)); exact BK374.out) hb)
        have n7_ := Aside0.mk (below_step (by repeat (first | (with_reducible first | exact HB.out | apply below_alloc | apply pw_below_drewN | apply below_drew1 | refine bS ?_ GE340.out | refine bS ?_ GE345.out | refine bS ?_ GE351.out | refine bS ?_ GE357.out | refine bS ?_ GE363.out | refine bS ?_ GE368.out | refine bS ?_ GE374.out) | exact HB.out)) hb)
        clear BK340 BK345 BK351 BK357 BK363 BK368 BK374
        clear HB
        have BK340 := n0_
        have BK345 := n1_
        have BK351 := n2_
        have BK357 := n3_
        have BK363 := n4_
        have BK368 := n5_
        have BK374 := n6_
        have HB := n7_
        clear n0_ n1_ n2_ n3_ n4_ n5_ n6_ n7_
        (try clear hb)
        (try clear hb2)
        (try clear hk)
        (try clear hi)
        refine hK.out _ _ ⟨(bC BK345.out 0).trans rfl, (bC BK345.out 1).trans rfl, (bC BK345.out 2).trans rfl, (bC BK345.out 3).trans rfl, (bC BK340.out 0).trans rfl, (bC BK340.out 1).trans rfl, (bC BK340.out 2).trans rfl, (bC BK340.out 3).trans rfl, (bC BK357.out 0).trans rfl, (bC BK357.out 1).trans rfl, (bC BK357.out 2).trans rfl, (bC BK357.out 3).trans rfl, (bC BK363.out 0).trans rfl, (bC BK363.out 1).trans rfl, (bC BK363.out 2).trans rfl, (bC BK363.out 3).trans rfl, (bC BK368.out 0).trans rfl, (bC BK368.out 1).trans rfl, (bC BK368.out 2).trans rfl, (bC BK368.out 3).trans rfl, (bC BK374.out 0).trans rfl, (bC BK374.out 1).trans rfl, (bC BK374.out 2).trans rfl, (bC BK374.out 3).trans rfl⟩ (fun hHeld => ?_)
        clear hK K
        refine norm_ (a' := ?_) ?_ ?_
        rotate_left
        ·show Act.put _ (some 76) _ = _
         simp only [Act.put, sA_, sB_, sC_, i64_w, i32_w]
         rfl
        refine pure_ (i := 20) (N := some 77) (v := ?_) (a' := ?_) (fB 40 2097151) rfl rfl (any_of HT_.out (by kernel_rfl)) (fun _ _ _ h => h) (Or.inl ⟨by rfl, ?_⟩) ?_ ?_
        rotate_left
        ·intro w'; go_simp; with_reducible rfl
        rotate_left
        ·simp only [Act.put, sA_, sB_, sC_, i64_w, i32_w]; rfl
        refine pure_ (i := 21) (N := some 78) (v := ?_) (a' := ?_) (fB 40 4194303) rfl rfl (any_of HT_.out (by kernel_rfl)) (fun _ _ _ h => h) (Or.inl ⟨by rfl, ?_⟩) ?_ ?_
        rotate_left
        ·intro w'; go_simp; with_reducible rfl
        rotate_left
        ·simp only [Act.put, sA_, sB_, sC_, i64_w, i32_w]; rfl
        refine pure_ (i := 22) (N := some 79) (v := ?_) (a' := ?_) (fB 40 8388607) rfl rfl (any_of HT_.out (by kernel_rfl)) (fun _ _ _ h => h) (Or.inl ⟨by rfl, ?_⟩) ?_ ?_
        rotate_left
        ·intro w'; go_simp; with_reducible rfl
        rotate_left
        ·simp only [Act.put, sA_, sB_, sC_, i64_w, i32_w]; rfl
        refine pure_ (i := 24) (N := some 81) (v := ?_) (a' := ?_) (fB 40 25165823) rfl rfl (any_of HT_.out (by kernel_rfl)) (fun _ _ _ h => h) (Or.inl ⟨by rfl, ?_⟩) ?_ ?_
        rotate_left
        ·intro w'; go_simp; with_reducible rfl
        rotate_left
        ·simp only [Act.put, sA_, sB_, sC_, i64_w, i32_w]; rfl
        refine pure_ (i := 27) (N := some 84) (v := ?_) (a' := ?_) (fB 40 159383551) rfl rfl (any_of HT_.out (by kernel_rfl)) (fun _ _ _ h => h) (Or.inl ⟨by rfl, ?_⟩) ?_ ?_
        rotate_left
        ·intro w'; go_simp; with_reducible rfl
        rotate_left
        ·simp only [Act.put, sA_, sB_, sC_, i64_w, i32_w]; rfl
        refine take_ (i := 23) (N := some 80) (v := ?_) (a' := ?_) (fB 40 167772159) rfl rfl (take_ofW HT_.out HW_.out (by kernel_rfl)) (fun _ _ _ h => h) (Or.inl ⟨by rfl, ?_⟩) hHeld ?_ ?_
        rotate_left
        ·rintro w' ⟨s0, s1, s2, s3, s4, s5, s6, s7, s8, s9, s10, s11, s12, s13, s14, s15, s16, s17, s18, s19, s20, s21, s22, s23⟩; go_simp; with_reducible rfl
        rotate_left
        ·simp only [Act.put, sA_, sB_, sC_, i64_w, i32_w]; rfl
        refine take_ (i := 26) (N := some 83) (v := ?_) (a' := ?_) (fB 40 234881023) rfl rfl (take_ofW HT_.out HW_.out (by kernel_rfl)) (fun _ _ _ h => h) (Or.inl ⟨by rfl, ?_⟩) hHeld ?_ ?_
        rotate_left
        ·rintro w' ⟨s0, s1, s2, s3, s4, s5, s6, s7, s8, s9, s10, s11, s12, s13, s14, s15, s16, s17, s18, s19, s20, s21, s22, s23⟩; go_simp; with_reducible rfl
        rotate_left
        ·simp only [Act.put, sA_, sB_, sC_, i64_w, i32_w]; rfl
        refine one_ (i := 25) (N := some 82) (fB 40 268435455) rfl rfl (one_of HT_.out (by kernel_rfl)) (by decide) (fun K hK => ?_)
        refine goes_ Try.func69 (by kernel_rfl) rfl #[.agg #[.int .i64 t369, .int .i64 t370, .int .i64 t371, .int .i64 t372], .int .i64 t373] (by rfl) rfl rfl (by (try simp only [List.map_toArray, List.map_cons, List.map_nil]); first | done | rfl | (simp only [List.length_drop, List.length_take]; rfl)) ?_
        with_reducible refine (impl_MostIn.calls t369 t370 t371 t372 t373 t383 _ A74.out).mono ?_
        rintro e w83 ⟨rfl, hb⟩
        refine ⟨_, rfl, ?_⟩
        have n0_ := Aside0.mk (bB (g := gb340) (o := .cells #[.int .i64 t335, .int .i64 t336, .int .i64 t337, .int .i64 t338] 31 (0, 0)) (by (with_reducible repeat (first | refine bN ?_ _ | refine bD ?_ | refine bA ?_ _)); exact BK340.out) hb)
        have n1_ := Aside0.mk (bB (g := gb345) (o := .cells #[.int .i64 t341, .int .i64 t342, .int .i64 t343, .int .i64 t344] 31 (0, 0)) (by (with_reducible repeat (first | refine bN ?_ _ | refine bD ?_ | refine bA ?_ _)); exact BK345.out) hb)
        have n2_ := Aside0.mk (bB (g := gb351) (o := .cells #[.int .i64 t346, .int .i64 t347, .int .i64 t348, .int .i64 t349] 31 (0, 0)) (by (with_reducible repeat (first | refine bN ?_ _ | refine bD ?_ | refine bA ?_ _)); exact BK351.out) hb)
        have n3_ := Aside0.mk (bB (g := gb357) (o := .cells #[.int .i64 t352, .int .i64 t353, .int .i64 t354, .int .i64 t355] 31 (0, 0)) (by (with_reducible repeat (first | refine bN ?_ _ | refine bD ?_ | refine bA ?_ _)); exact BK357.out) hb)
        have n4_ := Aside0.mk (bB (g := gb363) (o := .cells #[.int .i64 t358, .int .i64 t359, .int .i64 t360, .int .i64 t361] 31 (0, 0)) (by (with_reducible repeat (first | refine bN ?_ _ | refine bD ?_ | refine bA ?_ _)); exact BK363.out) hb)
        have n5_ := Aside0.mk (bB (g := gb368) (o := .cells #[.int .i64 t364, .int .i64 t365, .int .i64 t366, .int .i64 t367] 31 (0, 0)) (by (with_reducible repeat (first | refine bN ?_ _ | refine bD ?_ | refine bA ?_ _)); exact BK368.out) hb)
        have n6_ := Aside0.mk (bB (g := gb374) (o := .cells #[.int .i64 t369, .int .i64 t370, .int .i64 t371, .int .i64 t372] 31 (0, 0)) (by (with_reducible repeat (first | refine bN ?_ _ | refine bD ?_ | refine bA ?_ _)); exact BK374.out) hb)
        have n7_ := Aside0.mk (below_step (by repeat (first | (with_reducible first | exact HB.out | apply below_alloc | apply pw_below_drewN | apply below_drew1 | refine bS ?_ GE340.out | refine bS ?_ GE345.out | refine bS ?_ GE351.out | refine bS ?_ GE357.out | refine bS ?_ GE363.out | refine bS ?_ GE368.out | refine bS ?_ GE374.out) | exact HB.out)) hb)
        clear BK340 BK345 BK351 BK357 BK363 BK368 BK374
        clear HB
        have BK340 := n0_
        have BK345 := n1_
        have BK351 := n2_
        have BK357 := n3_
        have BK363 := n4_
        have BK368 := n5_
        have BK374 := n6_
        have HB := n7_
        clear n0_ n1_ n2_ n3_ n4_ n5_ n6_ n7_
        (try clear hb)
        (try clear hb2)
        (try clear hk)
        (try clear hi)
        refine hK.out _ _ ⟨(bC BK345.out 0).trans rfl, (bC BK345.out 1).trans rfl, (bC BK345.out 2).trans rfl, (bC BK345.out 3).trans rfl, (bC BK340.out 0).trans rfl, (bC BK340.out 1).trans rfl, (bC BK340.out 2).trans rfl, (bC BK340.out 3).trans rfl, (bC BK357.out 0).trans rfl, (bC BK357.out 1).trans rfl, (bC BK357.out 2).trans rfl, (bC BK357.out 3).trans rfl, (bC BK363.out 0).trans rfl, (bC BK363.out 1).trans rfl, (bC BK363.out 2).trans rfl, (bC BK363.out 3).trans rfl, (bC BK368.out 0).trans rfl, (bC BK368.out 1).trans rfl, (bC BK368.out 2).trans rfl, (bC BK368.out 3).trans rfl, (bC BK374.out 0).trans rfl, (bC BK374.out 1).trans rfl, (bC BK374.out 2).trans rfl, (bC BK374.out 3).trans rfl⟩ (fun hHeld => ?_)
        clear hK K
        refine norm_ (a' := ?_) ?_ ?_
        rotate_left
        ·show Act.put _ (some 82) _ = _
         simp only [Act.put, sA_, sB_, sC_, i64_w, i32_w]
         rfl
        refine one_ (i := 28) (N := some 85) (fB 40 536870911) rfl rfl (one_of HT_.out (by kernel_rfl)) (by decide) (fun K hK => ?_)
        refine goes_ Try.func70 (by kernel_rfl) rfl #[.agg #[.int .i64 t369, .int .i64 t370, .int .i64 t371, .int .i64 t372], .int .i64 t373] (by rfl) rfl rfl (by (try simp only [List.map_toArray, List.map_cons, List.map_nil]); first | done | rfl | (simp only [List.length_drop, List.length_take]; rfl)) ?_
        with_reducible refine (spec_MostIn.calls t369 t370 t371 t372 t373 t384 _ A75.out).mono ?_
        rintro e w84 ⟨rfl, hb⟩
        refine ⟨_, rfl, ?_⟩
        have n0_ := Aside0.mk (bB (g := gb340) (o := .cells #[.int .i64 t335, .int .i64 t336, .int .i64 t337, .int .i64 t338] 31 (0, 0)) (by (with_reducible repeat (first | refine bN ?_ _ | refine bD ?_ | refine bA ?_ _)); exact BK340.out) hb)
        have n1_ := Aside0.mk (bB (g := gb345) (o := .cells #[.int .i64 t341, .int .i64 t342, .int .i64 t343, .int .i64 t344] 31 (0, 0)) (by (with_reducible repeat (first | refine bN ?_ _ | refine bD ?_ | refine bA ?_ _)); exact BK345.out) hb)
        have n2_ := Aside0.mk (bB (g := gb351) (o := .cells #[.int .i64 t346, .int .i64 t347, .int .i64 t348, .int .i64 t349] 31 (0, 0)) (by (with_reducible repeat (first | refine bN ?_ _ | refine bD ?_ | refine bA ?_ _)); exact BK351.out) hb)
        have n3_ := Aside0.mk (bB (g := gb357) (o := .cells #[.int .i64 t352, .int .i64 t353, .int .i64 t354, .int .i64 t355] 31 (0, 0)) (by (with_reducible repeat (first | refine bN ?_ _ | refine bD ?_ | refine bA ?_ _)); exact BK357.out) hb)
        have n4_ := Aside0.mk (bB (g := gb363) (o := .cells #[.int .i64 t358, .int .i64 t359, .int .i64 t360, .int .i64 t361] 31 (0, 0)) (by (with_reducible repeat (first | refine bN ?_ _ | refine bD ?_ | refine bA ?_ _)); exact BK363.out) hb)
        have n5_ := Aside0.mk (bB (g := gb368) (o := .cells #[.int .i64 t364, .int .i64 t365, .int .i64 t366, .int .i64 t367] 31 (0, 0)) (by (with_reducible repeat (first | refine bN ?_ _ | refine bD ?_ | refine bA ?_ _)); exact BK368.out) hb)
        have n6_ := Aside0.mk (bB (g := gb374) (o := .cells #[.int .i64 t369, .int .i64 t370, .int .i64 t371, .int .i64 t372] 31 (0, 0)) (by (with_reducible repeat (first | refine bN ?_ _ | refine bD ?_ | refine bA ?_ _)); exact BK374.out) hb)
        have n7_ := Aside0.mk (below_step (by repeat (first | (with_reducible first | exact HB.out | apply below_alloc | apply pw_below_drewN | apply below_drew1 | refine bS ?_ GE340.out | refine bS ?_ GE345.out | refine bS ?_ GE351.out | refine bS ?_ GE357.out | refine bS ?_ GE363.out | refine bS ?_ GE368.out | refine bS ?_ GE374.out) | exact HB.out)) hb)
        clear BK340 BK345 BK351 BK357 BK363 BK368 BK374
        clear HB
        have BK340 := n0_
        have BK345 := n1_
        have BK351 := n2_
        have BK357 := n3_
        have BK363 := n4_
        have BK368 := n5_
        have BK374 := n6_
        have HB := n7_
        clear n0_ n1_ n2_ n3_ n4_ n5_ n6_ n7_
        (try clear hb)
        (try clear hb2)
        (try clear hk)
        (try clear hi)
        refine hK.out _ _ ⟨(bC BK345.out 0).trans rfl, (bC BK345.out 1).trans rfl, (bC BK345.out 2).trans rfl, (bC BK345.out 3).trans rfl, (bC BK340.out 0).trans rfl, (bC BK340.out 1).trans rfl, (bC BK340.out 2).trans rfl, (bC BK340.out 3).trans rfl, (bC BK357.out 0).trans rfl, (bC BK357.out 1).trans rfl, (bC BK357.out 2).trans rfl, (bC BK357.out 3).trans rfl, (bC BK363.out 0).trans rfl, (bC BK363.out 1).trans rfl, (bC BK363.out 2).trans rfl, (bC BK363.out 3).trans rfl, (bC BK368.out 0).trans rfl, (bC BK368.out 1).trans rfl, (bC BK368.out 2).trans rfl, (bC BK368.out 3).trans rfl, (bC BK374.out 0).trans rfl, (bC BK374.out 1).trans rfl, (bC BK374.out 2).trans rfl, (bC BK374.out 3).trans rfl⟩ (fun hHeld => ?_)
        clear hK K
        refine norm_ (a' := ?_) ?_ ?_
        rotate_left
        ·show Act.put _ (some 85) _ = _
         simp only [Act.put, sA_, sB_, sC_, i64_w, i32_w]
         rfl
        refine pure_ (i := 29) (N := some 86) (v := ?_) (a' := ?_) (fB 40 1073741823) rfl rfl (any_of HT_.out (by kernel_rfl)) (fun _ _ _ h => h) (Or.inl ⟨by rfl, ?_⟩) ?_ ?_
        rotate_left
        ·intro w'; go_simp; with_reducible rfl
        rotate_left
        ·simp only [Act.put, sA_, sB_, sC_, i64_w, i32_w]; rfl
        refine pure_ (i := 30) (N := some 87) (v := ?_) (a' := ?_) (fB 40 2147483647) rfl rfl (any_of HT_.out (by kernel_rfl)) (fun _ _ _ h => h) (Or.inl ⟨by rfl, ?_⟩) ?_ ?_
        rotate_left
        ·intro w'; go_simp; with_reducible rfl
        rotate_left
        ·simp only [Act.put, sA_, sB_, sC_, i64_w, i32_w]; rfl
        refine pure_ (i := 31) (N := some 88) (v := ?_) (a' := ?_) (fB 40 4294967295) rfl rfl (any_of HT_.out (by kernel_rfl)) (fun _ _ _ h => h) (Or.inl ⟨by rfl, ?_⟩) ?_ ?_
        rotate_left
        ·intro w'; go_simp; with_reducible rfl
        rotate_left
        ·simp only [Act.put, sA_, sB_, sC_, i64_w, i32_w]; rfl
        refine pure_ (i := 32) (N := some 89) (v := ?_) (a' := ?_) (fB 40 8589934591) rfl rfl (any_of HT_.out (by kernel_rfl)) (fun _ _ _ h => h) (Or.inl ⟨by rfl, ?_⟩) ?_ ?_
        rotate_left
        ·intro w'; go_simp; with_reducible rfl
        rotate_left
        ·simp only [Act.put, sA_, sB_, sC_, i64_w, i32_w]; rfl
        refine pure_ (i := 33) (N := some 90) (v := ?_) (a' := ?_) (fB 40 17179869183) rfl rfl (any_of HT_.out (by kernel_rfl)) (fun _ _ _ h => h) (Or.inl ⟨by rfl, ?_⟩) ?_ ?_
        rotate_left
        ·intro w'; go_simp; with_reducible rfl
        rotate_left
        ·simp only [Act.put, sA_, sB_, sC_, i64_w, i32_w]; rfl
        refine pure_ (i := 35) (N := some 92) (v := ?_) (a' := ?_) (fB 40 51539607551) rfl rfl (any_of HT_.out (by kernel_rfl)) (fun _ _ _ h => h) (Or.inl ⟨by rfl, ?_⟩) ?_ ?_
        rotate_left
        ·intro w'; go_simp; with_reducible rfl
        rotate_left
        ·simp only [Act.put, sA_, sB_, sC_, i64_w, i32_w]; rfl
        refine pure_ (i := 36) (N := some 93) (v := ?_) (a' := ?_) (fB 40 120259084287) rfl rfl (any_of HT_.out (by kernel_rfl)) (fun _ _ _ h => h) (Or.inl ⟨by rfl, ?_⟩) ?_ ?_
        rotate_left
        ·intro w'; go_simp; with_reducible rfl
        rotate_left
        ·simp only [Act.put, sA_, sB_, sC_, i64_w, i32_w]; rfl
        refine one_ (i := 34) (N := some 91) (fB 40 137438953471) rfl rfl (one_of HT_.out (by kernel_rfl)) (by decide) (fun K hK => ?_)
        refine goes_ Try.func71 (by kernel_rfl) rfl #[.int .i64 t375, .int .i64 t376] (by rfl) rfl rfl (by (try simp only [List.map_toArray, List.map_cons, List.map_nil]); first | done | rfl | (simp only [List.length_drop, List.length_take]; rfl)) ?_
        with_reducible refine (impl_BucketNew.calls t375 t376 t385 t386 t387 t388 _ A77.out).mono ?_
        rintro e w85 ⟨rfl, hb⟩
        refine ⟨_, rfl, ?_⟩
        have n0_ := Aside0.mk (bB (g := gb340) (o := .cells #[.int .i64 t335, .int .i64 t336, .int .i64 t337, .int .i64 t338] 31 (0, 0)) (by (with_reducible repeat (first | refine bN ?_ _ | refine bD ?_ | refine bA ?_ _)); exact BK340.out) hb)
        have n1_ := Aside0.mk (bB (g := gb345) (o := .cells #[.int .i64 t341, .int .i64 t342, .int .i64 t343, .int .i64 t344] 31 (0, 0)) (by (with_reducible repeat (first | refine bN ?_ _ | refine bD ?_ | refine bA ?_ _)); exact BK345.out) hb)
        have n2_ := Aside0.mk (bB (g := gb351) (o := .cells #[.int .i64 t346, .int .i64 t347, .int .i64 t348, .int .i64 t349] 31 (0, 0)) (by (with_reducible repeat (first | refine bN ?_ _ | refine bD ?_ | refine bA ?_ _)); exact BK351.out) hb)
        have n3_ := Aside0.mk (bB (g := gb357) (o := .cells #[.int .i64 t352, .int .i64 t353, .int .i64 t354, .int .i64 t355] 31 (0, 0)) (by (with_reducible repeat (first | refine bN ?_ _ | refine bD ?_ | refine bA ?_ _)); exact BK357.out) hb)
        have n4_ := Aside0.mk (bB (g := gb363) (o := .cells #[.int .i64 t358, .int .i64 t359, .int .i64 t360, .int .i64 t361] 31 (0, 0)) (by (with_reducible repeat (first | refine bN ?_ _ | refine bD ?_ | refine bA ?_ _)); exact BK363.out) hb)
        have n5_ := Aside0.mk (bB (g := gb368) (o := .cells #[.int .i64 t364, .int .i64 t365, .int .i64 t366, .int .i64 t367] 31 (0, 0)) (by (with_reducible repeat (first | refine bN ?_ _ | refine bD ?_ | refine bA ?_ _)); exact BK368.out) hb)
        have n6_ := Aside0.mk (bB (g := gb374) (o := .cells #[.int .i64 t369, .int .i64 t370, .int .i64 t371, .int .i64 t372] 31 (0, 0)) (by (with_reducible repeat (first | refine bN ?_ _ | refine bD ?_ | refine bA ?_ _)); exact BK374.out) hb)
        have n7_ := Aside0.mk (below_step (by repeat (first | (with_reducible first | exact HB.out | apply below_alloc | apply pw_below_drewN | apply below_drew1 | refine bS ?_ GE340.out | refine bS ?_ GE345.out | refine bS ?_ GE351.out | refine bS ?_ GE357.out | refine bS ?_ GE363.out | refine bS ?_ GE368.out | refine bS ?_ GE374.out) | exact HB.out)) hb)
        clear BK340 BK345 BK351 BK357 BK363 BK368 BK374
        clear HB
        have BK340 := n0_
        have BK345 := n1_
        have BK351 := n2_
        have BK357 := n3_
        have BK363 := n4_
        have BK368 := n5_
        have BK374 := n6_
        have HB := n7_
        clear n0_ n1_ n2_ n3_ n4_ n5_ n6_ n7_
        (try clear hb)
        (try clear hb2)
        (try clear hk)
        (try clear hi)
        refine hK.out _ _ ⟨(bC BK345.out 0).trans rfl, (bC BK345.out 1).trans rfl, (bC BK345.out 2).trans rfl, (bC BK345.out 3).trans rfl, (bC BK340.out 0).trans rfl, (bC BK340.out 1).trans rfl, (bC BK340.out 2).trans rfl, (bC BK340.out 3).trans rfl, (bC BK357.out 0).trans rfl, (bC BK357.out 1).trans rfl, (bC BK357.out 2).trans rfl, (bC BK357.out 3).trans rfl, (bC BK363.out 0).trans rfl, (bC BK363.out 1).trans rfl, (bC BK363.out 2).trans rfl, (bC BK363.out 3).trans rfl, (bC BK368.out 0).trans rfl, (bC BK368.out 1).trans rfl, (bC BK368.out 2).trans rfl, (bC BK368.out 3).trans rfl, (bC BK374.out 0).trans rfl, (bC BK374.out 1).trans rfl, (bC BK374.out 2).trans rfl, (bC BK374.out 3).trans rfl⟩ (fun hHeld => ?_)
        clear hK K
        refine norm_ (a' := ?_) ?_ ?_
        rotate_left
        ·show Act.put _ (some 91) _ = _
         simp only [Act.put, sA_, sB_, sC_, i64_w, i32_w]
         rfl
        refine one_ (i := 37) (N := some 94) (fB 40 274877906943) rfl rfl (one_of HT_.out (by kernel_rfl)) (by decide) (fun K hK => ?_)
        refine goes_ Try.func72 (by kernel_rfl) rfl #[.int .i64 t375, .int .i64 t376] (by rfl) rfl rfl (by (try simp only [List.map_toArray, List.map_cons, List.map_nil]); first | done | rfl | (simp only [List.length_drop, List.length_take]; rfl)) ?_
        with_reducible refine (spec_BucketNew.calls t375 t376 t389 t390 t391 t392 _ A78.out).mono ?_
        rintro e w86 ⟨rfl, hb⟩
        refine ⟨_, rfl, ?_⟩
        have n0_ := Aside0.mk (bB (g := gb340) (o := .cells #[.int .i64 t335, .int .i64 t336, .int .i64 t337, .int .i64 t338] 31 (0, 0)) (by (with_reducible repeat (first | refine bN ?_ _ | refine bD ?_ | refine bA ?_ _)); exact BK340.out) hb)
        have n1_ := Aside0.mk (bB (g := gb345) (o := .cells #[.int .i64 t341, .int .i64 t342, .int .i64 t343, .int .i64 t344] 31 (0, 0)) (by (with_reducible repeat (first | refine bN ?_ _ | refine bD ?_ | refine bA ?_ _)); exact BK345.out) hb)
        have n2_ := Aside0.mk (bB (g := gb351) (o := .cells #[.int .i64 t346, .int .i64 t347, .int .i64 t348, .int .i64 t349] 31 (0, 0)) (by (with_reducible repeat (first | refine bN ?_ _ | refine bD ?_ | refine bA ?_ _)); exact BK351.out) hb)
        have n3_ := Aside0.mk (bB (g := gb357) (o := .cells #[.int .i64 t352, .int .i64 t353, .int .i64 t354, .int .i64 t355] 31 (0, 0)) (by (with_reducible repeat (first | refine bN ?_ _ | refine bD ?_ | refine bA ?_ _)); exact BK357.out) hb)
        have n4_ := Aside0.mk (bB (g := gb363) (o := .cells #[.int .i64 t358, .int .i64 t359, .int .i64 t360, .int .i64 t361] 31 (0, 0)) (by (with_reducible repeat (first | refine bN ?_ _ | refine bD ?_ | refine bA ?_ _)); exact BK363.out) hb)
        have n5_ := Aside0.mk (bB (g := gb368) (o := .cells #[.int .i64 t364, .int .i64 t365, .int .i64 t366, .int .i64 t367] 31 (0, 0)) (by (with_reducible repeat (first | refine bN ?_ _ | refine bD ?_ | refine bA ?_ _)); exact BK368.out) hb)
        have n6_ := Aside0.mk (bB (g := gb374) (o := .cells #[.int .i64 t369, .int .i64 t370, .int .i64 t371, .int .i64 t372] 31 (0, 0)) (by (with_reducible repeat (first | refine bN ?_ _ | refine bD ?_ | refine bA ?_ _)); exact BK374.out) hb)
        have n7_ := Aside0.mk (below_step (by repeat (first | (with_reducible first | exact HB.out | apply below_alloc | apply pw_below_drewN | apply below_drew1 | refine bS ?_ GE340.out | refine bS ?_ GE345.out | refine bS ?_ GE351.out | refine bS ?_ GE357.out | refine bS ?_ GE363.out | refine bS ?_ GE368.out | refine bS ?_ GE374.out) | exact HB.out)) hb)
        clear BK340 BK345 BK351 BK357 BK363 BK368 BK374
        clear HB
        have BK340 := n0_
        have BK345 := n1_
        have BK351 := n2_
        have BK357 := n3_
        have BK363 := n4_
        have BK368 := n5_
        have BK374 := n6_
        have HB := n7_
        clear n0_ n1_ n2_ n3_ n4_ n5_ n6_ n7_
        (try clear hb)
        (try clear hb2)
        (try clear hk)
        (try clear hi)
        refine hK.out _ _ ⟨(bC BK345.out 0).trans rfl, (bC BK345.out 1).trans rfl, (bC BK345.out 2).trans rfl, (bC BK345.out 3).trans rfl, (bC BK340.out 0).trans rfl, (bC BK340.out 1).trans rfl, (bC BK340.out 2).trans rfl, (bC BK340.out 3).trans rfl, (bC BK357.out 0).trans rfl, (bC BK357.out 1).trans rfl, (bC BK357.out 2).trans rfl, (bC BK357.out 3).trans rfl, (bC BK363.out 0).trans rfl, (bC BK363.out 1).trans rfl, (bC BK363.out 2).trans rfl, (bC BK363.out 3).trans rfl, (bC BK368.out 0).trans rfl, (bC BK368.out 1).trans rfl, (bC BK368.out 2).trans rfl, (bC BK368.out 3).trans rfl, (bC BK374.out 0).trans rfl, (bC BK374.out 1).trans rfl, (bC BK374.out 2).trans rfl, (bC BK374.out 3).trans rfl⟩ (fun hHeld => ?_)
        clear hK K
        refine norm_ (a' := ?_) ?_ ?_
        rotate_left
        ·show Act.put _ (some 94) _ = _
         simp only [Act.put, sA_, sB_, sC_, i64_w, i32_w]
         rfl
        refine pure_ (i := 38) (N := some 95) (v := ?_) (a' := ?_) (fB 40 549755813887) rfl rfl (any_of HT_.out (by kernel_rfl)) (fun _ _ _ h => h) (Or.inl ⟨by rfl, ?_⟩) ?_ ?_
        rotate_left
        ·intro w'; go_simp; with_reducible rfl
        rotate_left
        ·simp only [Act.put, sA_, sB_, sC_, i64_w, i32_w]; rfl
        refine pure_ (i := 39) (N := some 96) (v := ?_) (a' := ?_) (fB 40 1099511627775) rfl rfl (any_of HT_.out (by kernel_rfl)) (fun _ _ _ h => h) (Or.inl ⟨by rfl, ?_⟩) ?_ ?_
        rotate_left
        ·intro w'; go_simp; with_reducible rfl
        rotate_left
        ·simp only [Act.put, sA_, sB_, sC_, i64_w, i32_w]; rfl
        refine done_ (done_of HT_.out (by kernel_rfl)) ?_
        try go_wp2
        go_meet
        case rel => exact ⟨_, ((!(t385 == t389) || (!(t386 == t390) || (!(t387 == t391) || (!(t388 == t392)))))), (by first | rfl | (simp; done) | (simp [*]; done)), H', ⟨by first | omega | exact Nat.le_refl _⟩, ⟨by (with_reducible repeat (first | refine bN ?_ _ | refine bD ?_ | refine bA ?_ _)); exact BK340.out⟩, ⟨by (with_reducible repeat (first | refine bN ?_ _ | refine bD ?_ | refine bA ?_ _)); exact BK345.out⟩, ⟨by (with_reducible repeat (first | refine bN ?_ _ | refine bD ?_ | refine bA ?_ _)); exact BK351.out⟩, ⟨by (with_reducible repeat (first | refine bN ?_ _ | refine bD ?_ | refine bA ?_ _)); exact BK357.out⟩, ⟨by (with_reducible repeat (first | refine bN ?_ _ | refine bD ?_ | refine bA ?_ _)); exact BK363.out⟩, ⟨by (with_reducible repeat (first | refine bN ?_ _ | refine bD ?_ | refine bA ?_ _)); exact BK368.out⟩, ⟨by (with_reducible repeat (first | refine bN ?_ _ | refine bD ?_ | refine bA ?_ _)); exact BK374.out⟩, ⟨by repeat (first | (with_reducible first | exact HB.out | apply below_alloc | apply pw_below_drewN | apply below_drew1 | refine bS ?_ GE340.out | refine bS ?_ GE345.out | refine bS ?_ GE351.out | refine bS ?_ GE357.out | refine bS ?_ GE363.out | refine bS ?_ GE368.out | refine bS ?_ GE374.out) | exact HB.out)⟩⟩
       ·rw [if_neg c76] at H
        exact (laws_FnBuckets.j0_bad H hrt_.out).elim
  case rest =>
   clear HC12
   try clear c2
   try clear p2
   try clear c6
   try clear c7
   try clear c23
   try clear c67
   try clear c68
   try clear c69
   try clear c70
   try clear c71
   try clear c72
   try clear c76
   try clear c76b0
   try clear c76b1
   obtain ⟨kq, x96_11, rfl, HA, HJ11, BK340, BK345, BK351, BK357, BK363, BK368, BK374, HB⟩ := hcut
   cases kq with
   | zero => exact absurd HA.out (by simp [laws_FnBuckets.j0])
   | succ kj11 =>
    have H := HA.out
    clear HA
    simp only [laws_FnBuckets.j0] at H
    by_cases c93 : x96_11 = true
    ·subst c93
     have H1 : (some false) = some r := by rw [if_pos rfl] at H; exact H
     clear H
     have H := H1
     clear H1
     exact absurd ((Option.some.inj H).trans hrt_.out) (by decide)
    ·replace c93 := Bool.eq_false_iff.mpr c93
     subst c93
     have H1 : ((impl_BucketOk.f t335 t336 t337 t338).bind fun t393 => (if t393 = true then (if t356 = true then ((impl_BucketOk.f t352 t353 t354 t355).bind fun t394 => (if t394 = true then (if (wrap64 (t354 + t350)) = t348 then (laws_FnBuckets.j1 kj11 t339 false t335 t336 t337 t338 t341 t342 t343 t344) else (laws_FnBuckets.j1 kj11 t339 true t335 t336 t337 t338 t341 t342 t343 t344)) else (laws_FnBuckets.j1 kj11 t339 true t335 t336 t337 t338 t341 t342 t343 t344))) else (laws_FnBuckets.j1 kj11 t339 (!(t352 == t346) || (!(t353 == t347) || (!(t354 == t348) || (!(t355 == t349))))) t335 t336 t337 t338 t341 t342 t343 t344)) else (some (t341 == t335 && (t342 == t336 && (t343 == t337 && (t344 == t338))))))) = some r := by rw [if_neg (show ¬ (false = true) by decide)] at H; exact H
     clear H
     have H := H1
     clear H1
     replace H := Option.bind_eq_some_iff.mp H
     obtain ⟨t393, A940, H⟩ := H
     replace H : (if t393 = true then (if t356 = true then ((impl_BucketOk.f t352 t353 t354 t355).bind fun t394 => (if t394 = true then (if (wrap64 (t354 + t350)) = t348 then (laws_FnBuckets.j1 kj11 t339 false t335 t336 t337 t338 t341 t342 t343 t344) else (laws_FnBuckets.j1 kj11 t339 true t335 t336 t337 t338 t341 t342 t343 t344)) else (laws_FnBuckets.j1 kj11 t339 true t335 t336 t337 t338 t341 t342 t343 t344))) else (laws_FnBuckets.j1 kj11 t339 (!(t352 == t346) || (!(t353 == t347) || (!(t354 == t348) || (!(t355 == t349))))) t335 t336 t337 t338 t341 t342 t343 t344)) else (some (t341 == t335 && (t342 == t336 && (t343 == t337 && (t344 == t338)))))) = some r := H
     have A94 := Aside0.mk A940
     clear A940
     by_cases c95 : t393 = true
     ·subst c95
      have H1 : (if t356 = true then ((impl_BucketOk.f t352 t353 t354 t355).bind fun t394 => (if t394 = true then (if (wrap64 (t354 + t350)) = t348 then (laws_FnBuckets.j1 kj11 t339 false t335 t336 t337 t338 t341 t342 t343 t344) else (laws_FnBuckets.j1 kj11 t339 true t335 t336 t337 t338 t341 t342 t343 t344)) else (laws_FnBuckets.j1 kj11 t339 true t335 t336 t337 t338 t341 t342 t343 t344))) else (laws_FnBuckets.j1 kj11 t339 (!(t352 == t346) || (!(t353 == t347) || (!(t354 == t348) || (!(t355 == t349))))) t335 t336 t337 t338 t341 t342 t343 t344)) = some r := by rw [if_pos rfl] at H; exact H
      clear H
      have H := H1
      clear H1
      have HC96 := Aside0.mk H
      clear H
      have hnb97 := NB340_345.out
      have hnc97 := NB345_340.out
      have hnb98 := NB340_351.out
      have hnc98 := NB351_340.out
      have hnb99 := NB340_357.out
      have hnc99 := NB357_340.out
      have hnb100 := NB340_363.out
      have hnc100 := NB363_340.out
      have hnb101 := NB340_368.out
      have hnc101 := NB368_340.out
      have hnb102 := NB340_374.out
      have hnc102 := NB374_340.out
      have hcz103_0 : wc.cell? ⟨gb340, 0, none⟩ = some (.int .i64 t335) := (bC BK340.out 0).trans rfl
      have hcz103_1 : wc.cell? ⟨gb340, 1, none⟩ = some (.int .i64 t336) := (bC BK340.out 1).trans rfl
      have hcz103_2 : wc.cell? ⟨gb340, 2, none⟩ = some (.int .i64 t337) := (bC BK340.out 2).trans rfl
      have hcz103_3 : wc.cell? ⟨gb340, 3, none⟩ = some (.int .i64 t338) := (bC BK340.out 3).trans rfl
      have hfz103_0 := blk_frozen BK340.out 0
      have hfz103_1 := blk_frozen BK340.out 1
      have hfz103_2 := blk_frozen BK340.out 2
      have hfz103_3 := blk_frozen BK340.out 3
      go_upto_region 15 with (first | ((with_reducible refine gate_callee (f := 67) rfl ?_); refine goesL_ (some 98) rfl rfl Try.func67 (by kernel_rfl) rfl #[.agg #[.int .i64 t335, .int .i64 t336, .int .i64 t337, .int .i64 t338]] rfl (by (try simp only [List.map_toArray, List.map_cons, List.map_nil]); first | done | rfl | (simp only [List.length_drop, List.length_take]; rfl)) ?_; (with_reducible refine (impl_BucketOk.calls t335 t336 t337 t338 true _ A94.out).mono ?_); rintro e w104 ⟨rfl, hb⟩; refine ⟨_, rfl, ?_⟩; have n0_ := Aside0.mk (bB (g := gb340) (o := .cells #[.int .i64 t335, .int .i64 t336, .int .i64 t337, .int .i64 t338] 31 (0, 0)) (by (with_reducible repeat (first | refine bN ?_ _ | refine bD ?_ | refine bA ?_ _)); exact BK340.out) hb); have n1_ := Aside0.mk (bB (g := gb345) (o := .cells #[.int .i64 t341, .int .i64 t342, .int .i64 t343, .int .i64 t344] 31 (0, 0)) (by (with_reducible repeat (first | refine bN ?_ _ | refine bD ?_ | refine bA ?_ _)); exact BK345.out) hb); have n2_ := Aside0.mk (bB (g := gb351) (o := .cells #[.int .i64 t346, .int .i64 t347, .int .i64 t348, .int .i64 t349] 31 (0, 0)) (by (with_reducible repeat (first | refine bN ?_ _ | refine bD ?_ | refine bA ?_ _)); exact BK351.out) hb); have n3_ := Aside0.mk (bB (g := gb357) (o := .cells #[.int .i64 t352, .int .i64 t353, .int .i64 t354, .int .i64 t355] 31 (0, 0)) (by (with_reducible repeat (first | refine bN ?_ _ | refine bD ?_ | refine bA ?_ _)); exact BK357.out) hb); have n4_ := Aside0.mk (bB (g := gb363) (o := .cells #[.int .i64 t358, .int .i64 t359, .int .i64 t360, .int .i64 t361] 31 (0, 0)) (by (with_reducible repeat (first | refine bN ?_ _ | refine bD ?_ | refine bA ?_ _)); exact BK363.out) hb); have n5_ := Aside0.mk (bB (g := gb368) (o := .cells #[.int .i64 t364, .int .i64 t365, .int .i64 t366, .int .i64 t367] 31 (0, 0)) (by (with_reducible repeat (first | refine bN ?_ _ | refine bD ?_ | refine bA ?_ _)); exact BK368.out) hb); have n6_ := Aside0.mk (bB (g := gb374) (o := .cells #[.int .i64 t369, .int .i64 t370, .int .i64 t371, .int .i64 t372] 31 (0, 0)) (by (with_reducible repeat (first | refine bN ?_ _ | refine bD ?_ | refine bA ?_ _)); exact BK374.out) hb); have n7_ := Aside0.mk (below_step (by repeat (first | (with_reducible first | exact HB.out | apply below_alloc | apply pw_below_drewN | apply below_drew1 | refine bS ?_ GE340.out | refine bS ?_ GE345.out | refine bS ?_ GE351.out | refine bS ?_ GE357.out | refine bS ?_ GE363.out | refine bS ?_ GE368.out | refine bS ?_ GE374.out) | exact HB.out)) hb); clear BK340; clear BK345; clear BK351; clear BK357; clear BK363; clear BK368; clear BK374; clear HB; have BK340 := n0_; have BK345 := n1_; have BK351 := n2_; have BK357 := n3_; have BK363 := n4_; have BK368 := n5_; have BK374 := n6_; have HB := n7_; clear n0_ n1_ n2_ n3_ n4_ n5_ n6_ n7_; (try clear hb); (try clear hb2); (try clear hk); (try clear hi)))
      (try simp only [Act.put, List.setIfInBounds_toArray, List.set_cons_zero, List.set_cons_succ])
      go_cut [126] (fun v126 wc => ∃ (kq : Nat) (x126_95 : Bool), v126 = .bool x126_95 ∧ Aside0 (laws_FnBuckets.j1 kq t339 x126_95 t335 t336 t337 t338 t341 t342 t343 t344 = some r) ∧ Aside0 (kq ≤ kj11) ∧ Aside0 (wc.heap[gb340]? = some (.cells #[.int .i64 t335, .int .i64 t336, .int .i64 t337, .int .i64 t338] 31 (0, 0))) ∧ Aside0 (wc.heap[gb345]? = some (.cells #[.int .i64 t341, .int .i64 t342, .int .i64 t343, .int .i64 t344] 31 (0, 0))) ∧ Aside0 (wc.heap[gb351]? = some (.cells #[.int .i64 t346, .int .i64 t347, .int .i64 t348, .int .i64 t349] 31 (0, 0))) ∧ Aside0 (wc.heap[gb357]? = some (.cells #[.int .i64 t352, .int .i64 t353, .int .i64 t354, .int .i64 t355] 31 (0, 0))) ∧ Aside0 (wc.heap[gb363]? = some (.cells #[.int .i64 t358, .int .i64 t359, .int .i64 t360, .int .i64 t361] 31 (0, 0))) ∧ Aside0 (wc.heap[gb368]? = some (.cells #[.int .i64 t364, .int .i64 t365, .int .i64 t366, .int .i64 t367] 31 (0, 0))) ∧ Aside0 (wc.heap[gb374]? = some (.cells #[.int .i64 t369, .int .i64 t370, .int .i64 t371, .int .i64 t372] 31 (0, 0))) ∧ Aside0 (Below w.heap.size w wc))
      case first =>
       have H := HC96.out
       clear HC96
       by_cases c105 : t356 = true
       ·subst c105
        have H1 : ((impl_BucketOk.f t352 t353 t354 t355).bind fun t394 => (if t394 = true then (if (wrap64 (t354 + t350)) = t348 then (laws_FnBuckets.j1 kj11 t339 false t335 t336 t337 t338 t341 t342 t343 t344) else (laws_FnBuckets.j1 kj11 t339 true t335 t336 t337 t338 t341 t342 t343 t344)) else (laws_FnBuckets.j1 kj11 t339 true t335 t336 t337 t338 t341 t342 t343 t344))) = some r := by rw [if_pos rfl] at H; exact H
        clear H
        have H := H1
        clear H1
        replace H := Option.bind_eq_some_iff.mp H
        obtain ⟨t394, A1060, H⟩ := H
        replace H : (if t394 = true then (if (wrap64 (t354 + t350)) = t348 then (laws_FnBuckets.j1 kj11 t339 false t335 t336 t337 t338 t341 t342 t343 t344) else (laws_FnBuckets.j1 kj11 t339 true t335 t336 t337 t338 t341 t342 t343 t344)) else (laws_FnBuckets.j1 kj11 t339 true t335 t336 t337 t338 t341 t342 t343 t344)) = some r := H
        have A106 := Aside0.mk A1060
        clear A1060
        by_cases c107 : t394 = true
        ·subst c107
         have H1 : (if (wrap64 (t354 + t350)) = t348 then (laws_FnBuckets.j1 kj11 t339 false t335 t336 t337 t338 t341 t342 t343 t344) else (laws_FnBuckets.j1 kj11 t339 true t335 t336 t337 t338 t341 t342 t343 t344)) = some r := by rw [if_pos rfl] at H; exact H
         clear H
         have H := H1
         clear H1
         by_cases c108 : (wrap64 (t354 + t350)) = t348
         ·rw [if_pos c108] at H
          have c108b0 : ((wrap64 (t354 + t350)) == t348) = true := beq_iff_eq.mpr c108
          have c108b1 : ((wrap64 (t354 + t350)) != t348) = false := bne_eq_false_iff_eq.mpr c108
          clear c108
          (first | rw [c108b0] | (simp only [i64_w, i32_w]; rw [c108b0]) | skip)
          have H' := Aside0.mk H
          clear H
          have hnb109 := NB357_340.out
          have hnc109 := NB340_357.out
          have hnb110 := NB357_345.out
          have hnc110 := NB345_357.out
          have hnb111 := NB357_351.out
          have hnc111 := NB351_357.out
          have hnb112 := NB357_363.out
          have hnc112 := NB363_357.out
          have hnb113 := NB357_368.out
          have hnc113 := NB368_357.out
          have hnb114 := NB357_374.out
          have hnc114 := NB374_357.out
          have hcz115_0 : w104.cell? ⟨gb357, 0, none⟩ = some (.int .i64 t352) := (bC BK357.out 0).trans rfl
          have hcz115_1 : w104.cell? ⟨gb357, 1, none⟩ = some (.int .i64 t353) := (bC BK357.out 1).trans rfl
          have hcz115_2 : w104.cell? ⟨gb357, 2, none⟩ = some (.int .i64 t354) := (bC BK357.out 2).trans rfl
          have hcz115_3 : w104.cell? ⟨gb357, 3, none⟩ = some (.int .i64 t355) := (bC BK357.out 3).trans rfl
          have hfz115_0 := blk_frozen BK357.out 0
          have hfz115_1 := blk_frozen BK357.out 1
          have hfz115_2 := blk_frozen BK357.out 2
          have hfz115_3 := blk_frozen BK357.out 3
          go_wp2_with (first | (go_at_call 67; (with_reducible refine (impl_BucketOk.calls t352 t353 t354 t355 true _ A106.out).mono ?_); rintro e w116 ⟨rfl, hb⟩; have n0_ := Aside0.mk (bB (g := gb340) (o := .cells #[.int .i64 t335, .int .i64 t336, .int .i64 t337, .int .i64 t338] 31 (0, 0)) (by (with_reducible repeat (first | refine bN ?_ _ | refine bD ?_ | refine bA ?_ _)); exact BK340.out) hb); have n1_ := Aside0.mk (bB (g := gb345) (o := .cells #[.int .i64 t341, .int .i64 t342, .int .i64 t343, .int .i64 t344] 31 (0, 0)) (by (with_reducible repeat (first | refine bN ?_ _ | refine bD ?_ | refine bA ?_ _)); exact BK345.out) hb); have n2_ := Aside0.mk (bB (g := gb351) (o := .cells #[.int .i64 t346, .int .i64 t347, .int .i64 t348, .int .i64 t349] 31 (0, 0)) (by (with_reducible repeat (first | refine bN ?_ _ | refine bD ?_ | refine bA ?_ _)); exact BK351.out) hb); have n3_ := Aside0.mk (bB (g := gb357) (o := .cells #[.int .i64 t352, .int .i64 t353, .int .i64 t354, .int .i64 t355] 31 (0, 0)) (by (with_reducible repeat (first | refine bN ?_ _ | refine bD ?_ | refine bA ?_ _)); exact BK357.out) hb); have n4_ := Aside0.mk (bB (g := gb363) (o := .cells #[.int .i64 t358, .int .i64 t359, .int .i64 t360, .int .i64 t361] 31 (0, 0)) (by (with_reducible repeat (first | refine bN ?_ _ | refine bD ?_ | refine bA ?_ _)); exact BK363.out) hb); have n5_ := Aside0.mk (bB (g := gb368) (o := .cells #[.int .i64 t364, .int .i64 t365, .int .i64 t366, .int .i64 t367] 31 (0, 0)) (by (with_reducible repeat (first | refine bN ?_ _ | refine bD ?_ | refine bA ?_ _)); exact BK368.out) hb); have n6_ := Aside0.mk (bB (g := gb374) (o := .cells #[.int .i64 t369, .int .i64 t370, .int .i64 t371, .int .i64 t372] 31 (0, 0)) (by (with_reducible repeat (first | refine bN ?_ _ | refine bD ?_ | refine bA ?_ _)); exact BK374.out) hb); have n7_ := Aside0.mk (below_step (by repeat (first | (with_reducible first | exact HB.out | apply below_alloc | apply pw_below_drewN | apply below_drew1 | refine bS ?_ GE340.out | refine bS ?_ GE345.out | refine bS ?_ GE351.out | refine bS ?_ GE357.out | refine bS ?_ GE363.out | refine bS ?_ GE368.out | refine bS ?_ GE374.out) | exact HB.out)) hb); clear BK340; clear BK345; clear BK351; clear BK357; clear BK363; clear BK368; clear BK374; clear HB; have BK340 := n0_; have BK345 := n1_; have BK351 := n2_; have BK357 := n3_; have BK363 := n4_; have BK368 := n5_; have BK374 := n6_; have HB := n7_; clear n0_ n1_ n2_ n3_ n4_ n5_ n6_ n7_; (try clear hb); (try clear hb2); (try clear hk); (try clear hi); have hcz117_0 : w116.cell? ⟨gb357, 0, none⟩ = some (.int .i64 t352) := (bC BK357.out 0).trans rfl; have hcz117_1 : w116.cell? ⟨gb357, 1, none⟩ = some (.int .i64 t353) := (bC BK357.out 1).trans rfl; have hcz117_2 : w116.cell? ⟨gb357, 2, none⟩ = some (.int .i64 t354) := (bC BK357.out 2).trans rfl; have hcz117_3 : w116.cell? ⟨gb357, 3, none⟩ = some (.int .i64 t355) := (bC BK357.out 3).trans rfl; have hfz117_0 := blk_frozen BK357.out 0; have hfz117_1 := blk_frozen BK357.out 1; have hfz117_2 := blk_frozen BK357.out 2; have hfz117_3 := blk_frozen BK357.out 3; have hnb118 := NB351_340.out; have hnc118 := NB340_351.out; have hnb119 := NB351_345.out; have hnc119 := NB345_351.out; have hnb120 := NB351_363.out; have hnc120 := NB363_351.out; have hnb121 := NB351_368.out; have hnc121 := NB368_351.out; have hnb122 := NB351_374.out; have hnc122 := NB374_351.out; have hcz123_0 : w116.cell? ⟨gb351, 0, none⟩ = some (.int .i64 t346) := (bC BK351.out 0).trans rfl; have hcz123_1 : w116.cell? ⟨gb351, 1, none⟩ = some (.int .i64 t347) := (bC BK351.out 1).trans rfl; have hcz123_2 : w116.cell? ⟨gb351, 2, none⟩ = some (.int .i64 t348) := (bC BK351.out 2).trans rfl; have hcz123_3 : w116.cell? ⟨gb351, 3, none⟩ = some (.int .i64 t349) := (bC BK351.out 3).trans rfl; have hfz123_0 := blk_frozen BK351.out 0; have hfz123_1 := blk_frozen BK351.out 1; have hfz123_2 := blk_frozen BK351.out 2; have hfz123_3 := blk_frozen BK351.out 3))
          go_meet
          case rel => exact ⟨_, (false), (by first | rfl | (simp; done) | (simp [*]; done)), H', ⟨by have := HJ11.out; first | omega | exact Nat.le_refl _⟩, ⟨by (with_reducible repeat (first | refine bN ?_ _ | refine bD ?_ | refine bA ?_ _)); exact BK340.out⟩, ⟨by (with_reducible repeat (first | refine bN ?_ _ | refine bD ?_ | refine bA ?_ _)); exact BK345.out⟩, ⟨by (with_reducible repeat (first | refine bN ?_ _ | refine bD ?_ | refine bA ?_ _)); exact BK351.out⟩, ⟨by (with_reducible repeat (first | refine bN ?_ _ | refine bD ?_ | refine bA ?_ _)); exact BK357.out⟩, ⟨by (with_reducible repeat (first | refine bN ?_ _ | refine bD ?_ | refine bA ?_ _)); exact BK363.out⟩, ⟨by (with_reducible repeat (first | refine bN ?_ _ | refine bD ?_ | refine bA ?_ _)); exact BK368.out⟩, ⟨by (with_reducible repeat (first | refine bN ?_ _ | refine bD ?_ | refine bA ?_ _)); exact BK374.out⟩, ⟨by repeat (first | (with_reducible first | exact HB.out | apply below_alloc | apply pw_below_drewN | apply below_drew1 | refine bS ?_ GE340.out | refine bS ?_ GE345.out | refine bS ?_ GE351.out | refine bS ?_ GE357.out | refine bS ?_ GE363.out | refine bS ?_ GE368.out | refine bS ?_ GE374.out) | exact HB.out)⟩⟩
         ·rw [if_neg c108] at H
          have c108b0 : ((wrap64 (t354 + t350)) == t348) = false := beq_eq_false_iff_ne.mpr c108
          have c108b1 : ((wrap64 (t354 + t350)) != t348) = true := bne_iff_ne.mpr c108
          (first | rw [c108b0] | (simp only [i64_w, i32_w]; rw [c108b0]) | skip)
          have H' := Aside0.mk H
          clear H
          have hnb124 := NB357_340.out
          have hnc124 := NB340_357.out
          have hnb125 := NB357_345.out
          have hnc125 := NB345_357.out
          have hnb126 := NB357_351.out
          have hnc126 := NB351_357.out
          have hnb127 := NB357_363.out
          have hnc127 := NB363_357.out
          have hnb128 := NB357_368.out
          have hnc128 := NB368_357.out
          have hnb129 := NB357_374.out
          have hnc129 := NB374_357.out
          have hcz130_0 : w104.cell? ⟨gb357, 0, none⟩ = some (.int .i64 t352) := (bC BK357.out 0).trans rfl
          have hcz130_1 : w104.cell? ⟨gb357, 1, none⟩ = some (.int .i64 t353) := (bC BK357.out 1).trans rfl
          have hcz130_2 : w104.cell? ⟨gb357, 2, none⟩ = some (.int .i64 t354) := (bC BK357.out 2).trans rfl
          have hcz130_3 : w104.cell? ⟨gb357, 3, none⟩ = some (.int .i64 t355) := (bC BK357.out 3).trans rfl
          have hfz130_0 := blk_frozen BK357.out 0
          have hfz130_1 := blk_frozen BK357.out 1
          have hfz130_2 := blk_frozen BK357.out 2
          have hfz130_3 := blk_frozen BK357.out 3
          go_wp2_with (first | (go_at_call 67; (with_reducible refine (impl_BucketOk.calls t352 t353 t354 t355 true _ A106.out).mono ?_); rintro e w131 ⟨rfl, hb⟩; have n0_ := Aside0.mk (bB (g := gb340) (o := .cells #[.int .i64 t335, .int .i64 t336, .int .i64 t337, .int .i64 t338] 31 (0, 0)) (by (with_reducible repeat (first | refine bN ?_ _ | refine bD ?_ | refine bA ?_ _)); exact BK340.out) hb); have n1_ := Aside0.mk (bB (g := gb345) (o := .cells #[.int .i64 t341, .int .i64 t342, .int .i64 t343, .int .i64 t344] 31 (0, 0)) (by (with_reducible repeat (first | refine bN ?_ _ | refine bD ?_ | refine bA ?_ _)); exact BK345.out) hb); have n2_ := Aside0.mk (bB (g := gb351) (o := .cells #[.int .i64 t346, .int .i64 t347, .int .i64 t348, .int .i64 t349] 31 (0, 0)) (by (with_reducible repeat (first | refine bN ?_ _ | refine bD ?_ | refine bA ?_ _)); exact BK351.out) hb); have n3_ := Aside0.mk (bB (g := gb357) (o := .cells #[.int .i64 t352, .int .i64 t353, .int .i64 t354, .int .i64 t355] 31 (0, 0)) (by (with_reducible repeat (first | refine bN ?_ _ | refine bD ?_ | refine bA ?_ _)); exact BK357.out) hb); have n4_ := Aside0.mk (bB (g := gb363) (o := .cells #[.int .i64 t358, .int .i64 t359, .int .i64 t360, .int .i64 t361] 31 (0, 0)) (by (with_reducible repeat (first | refine bN ?_ _ | refine bD ?_ | refine bA ?_ _)); exact BK363.out) hb); have n5_ := Aside0.mk (bB (g := gb368) (o := .cells #[.int .i64 t364, .int .i64 t365, .int .i64 t366, .int .i64 t367] 31 (0, 0)) (by (with_reducible repeat (first | refine bN ?_ _ | refine bD ?_ | refine bA ?_ _)); exact BK368.out) hb); have n6_ := Aside0.mk (bB (g := gb374) (o := .cells #[.int .i64 t369, .int .i64 t370, .int .i64 t371, .int .i64 t372] 31 (0, 0)) (by (with_reducible repeat (first | refine bN ?_ _ | refine bD ?_ | refine bA ?_ _)); exact BK374.out) hb); have n7_ := Aside0.mk (below_step (by repeat (first | (with_reducible first | exact HB.out | apply below_alloc | apply pw_below_drewN | apply below_drew1 | refine bS ?_ GE340.out | refine bS ?_ GE345.out | refine bS ?_ GE351.out | refine bS ?_ GE357.out | refine bS ?_ GE363.out | refine bS ?_ GE368.out | refine bS ?_ GE374.out) | exact HB.out)) hb); clear BK340; clear BK345; clear BK351; clear BK357; clear BK363; clear BK368; clear BK374; clear HB; have BK340 := n0_; have BK345 := n1_; have BK351 := n2_; have BK357 := n3_; have BK363 := n4_; have BK368 := n5_; have BK374 := n6_; have HB := n7_; clear n0_ n1_ n2_ n3_ n4_ n5_ n6_ n7_; (try clear hb); (try clear hb2); (try clear hk); (try clear hi); have hcz132_0 : w131.cell? ⟨gb357, 0, none⟩ = some (.int .i64 t352) := (bC BK357.out 0).trans rfl; have hcz132_1 : w131.cell? ⟨gb357, 1, none⟩ = some (.int .i64 t353) := (bC BK357.out 1).trans rfl; have hcz132_2 : w131.cell? ⟨gb357, 2, none⟩ = some (.int .i64 t354) := (bC BK357.out 2).trans rfl; have hcz132_3 : w131.cell? ⟨gb357, 3, none⟩ = some (.int .i64 t355) := (bC BK357.out 3).trans rfl; have hfz132_0 := blk_frozen BK357.out 0; have hfz132_1 := blk_frozen BK357.out 1; have hfz132_2 := blk_frozen BK357.out 2; have hfz132_3 := blk_frozen BK357.out 3; have hnb133 := NB351_340.out; have hnc133 := NB340_351.out; have hnb134 := NB351_345.out; have hnc134 := NB345_351.out; have hnb135 := NB351_363.out; have hnc135 := NB363_351.out; have hnb136 := NB351_368.out; have hnc136 := NB368_351.out; have hnb137 := NB351_374.out; have hnc137 := NB374_351.out; have hcz138_0 : w131.cell? ⟨gb351, 0, none⟩ = some (.int .i64 t346) := (bC BK351.out 0).trans rfl; have hcz138_1 : w131.cell? ⟨gb351, 1, none⟩ = some (.int .i64 t347) := (bC BK351.out 1).trans rfl; have hcz138_2 : w131.cell? ⟨gb351, 2, none⟩ = some (.int .i64 t348) := (bC BK351.out 2).trans rfl; have hcz138_3 : w131.cell? ⟨gb351, 3, none⟩ = some (.int .i64 t349) := (bC BK351.out 3).trans rfl; have hfz138_0 := blk_frozen BK351.out 0; have hfz138_1 := blk_frozen BK351.out 1; have hfz138_2 := blk_frozen BK351.out 2; have hfz138_3 := blk_frozen BK351.out 3))
          go_meet
          case rel => exact ⟨_, (true), (by first | rfl | (simp; done) | (simp [*]; done)), H', ⟨by have := HJ11.out; first | omega | exact Nat.le_refl _⟩, ⟨by (with_reducible repeat (first | refine bN ?_ _ | refine bD ?_ | refine bA ?_ _)); exact BK340.out⟩, ⟨by (with_reducible repeat (first | refine bN ?_ _ | refine bD ?_ | refine bA ?_ _)); exact BK345.out⟩, ⟨by (with_reducible repeat (first | refine bN ?_ _ | refine bD ?_ | refine bA ?_ _)); exact BK351.out⟩, ⟨by (with_reducible repeat (first | refine bN ?_ _ | refine bD ?_ | refine bA ?_ _)); exact BK357.out⟩, ⟨by (with_reducible repeat (first | refine bN ?_ _ | refine bD ?_ | refine bA ?_ _)); exact BK363.out⟩, ⟨by (with_reducible repeat (first | refine bN ?_ _ | refine bD ?_ | refine bA ?_ _)); exact BK368.out⟩, ⟨by (with_reducible repeat (first | refine bN ?_ _ | refine bD ?_ | refine bA ?_ _)); exact BK374.out⟩, ⟨by repeat (first | (with_reducible first | exact HB.out | apply below_alloc | apply pw_below_drewN | apply below_drew1 | refine bS ?_ GE340.out | refine bS ?_ GE345.out | refine bS ?_ GE351.out | refine bS ?_ GE357.out | refine bS ?_ GE363.out | refine bS ?_ GE368.out | refine bS ?_ GE374.out) | exact HB.out)⟩⟩
        ·replace c107 := Bool.eq_false_iff.mpr c107
         subst c107
         have H1 : (laws_FnBuckets.j1 kj11 t339 true t335 t336 t337 t338 t341 t342 t343 t344) = some r := by rw [if_neg (show ¬ (false = true) by decide)] at H; exact H
         clear H
         have H := H1
         clear H1
         have H' := Aside0.mk H
         clear H
         have hnb139 := NB357_340.out
         have hnc139 := NB340_357.out
         have hnb140 := NB357_345.out
         have hnc140 := NB345_357.out
         have hnb141 := NB357_351.out
         have hnc141 := NB351_357.out
         have hnb142 := NB357_363.out
         have hnc142 := NB363_357.out
         have hnb143 := NB357_368.out
         have hnc143 := NB368_357.out
         have hnb144 := NB357_374.out
         have hnc144 := NB374_357.out
         have hcz145_0 : w104.cell? ⟨gb357, 0, none⟩ = some (.int .i64 t352) := (bC BK357.out 0).trans rfl
         have hcz145_1 : w104.cell? ⟨gb357, 1, none⟩ = some (.int .i64 t353) := (bC BK357.out 1).trans rfl
         have hcz145_2 : w104.cell? ⟨gb357, 2, none⟩ = some (.int .i64 t354) := (bC BK357.out 2).trans rfl
         have hcz145_3 : w104.cell? ⟨gb357, 3, none⟩ = some (.int .i64 t355) := (bC BK357.out 3).trans rfl
         have hfz145_0 := blk_frozen BK357.out 0
         have hfz145_1 := blk_frozen BK357.out 1
         have hfz145_2 := blk_frozen BK357.out 2
         have hfz145_3 := blk_frozen BK357.out 3
         go_wp2_with (first | (go_at_call 67; (with_reducible refine (impl_BucketOk.calls t352 t353 t354 t355 false _ A106.out).mono ?_); rintro e w146 ⟨rfl, hb⟩; have n0_ := Aside0.mk (bB (g := gb340) (o := .cells #[.int .i64 t335, .int .i64 t336, .int .i64 t337, .int .i64 t338] 31 (0, 0)) (by (with_reducible repeat (first | refine bN ?_ _ | refine bD ?_ | refine bA ?_ _)); exact BK340.out) hb); have n1_ := Aside0.mk (bB (g := gb345) (o := .cells #[.int .i64 t341, .int .i64 t342, .int .i64 t343, .int .i64 t344] 31 (0, 0)) (by (with_reducible repeat (first | refine bN ?_ _ | refine bD ?_ | refine bA ?_ _)); exact BK345.out) hb); have n2_ := Aside0.mk (bB (g := gb351) (o := .cells #[.int .i64 t346, .int .i64 t347, .int .i64 t348, .int .i64 t349] 31 (0, 0)) (by (with_reducible repeat (first | refine bN ?_ _ | refine bD ?_ | refine bA ?_ _)); exact BK351.out) hb); have n3_ := Aside0.mk (bB (g := gb357) (o := .cells #[.int .i64 t352, .int .i64 t353, .int .i64 t354, .int .i64 t355] 31 (0, 0)) (by (with_reducible repeat (first | refine bN ?_ _ | refine bD ?_ | refine bA ?_ _)); exact BK357.out) hb); have n4_ := Aside0.mk (bB (g := gb363) (o := .cells #[.int .i64 t358, .int .i64 t359, .int .i64 t360, .int .i64 t361] 31 (0, 0)) (by (with_reducible repeat (first | refine bN ?_ _ | refine bD ?_ | refine bA ?_ _)); exact BK363.out) hb); have n5_ := Aside0.mk (bB (g := gb368) (o := .cells #[.int .i64 t364, .int .i64 t365, .int .i64 t366, .int .i64 t367] 31 (0, 0)) (by (with_reducible repeat (first | refine bN ?_ _ | refine bD ?_ | refine bA ?_ _)); exact BK368.out) hb); have n6_ := Aside0.mk (bB (g := gb374) (o := .cells #[.int .i64 t369, .int .i64 t370, .int .i64 t371, .int .i64 t372] 31 (0, 0)) (by (with_reducible repeat (first | refine bN ?_ _ | refine bD ?_ | refine bA ?_ _)); exact BK374.out) hb); have n7_ := Aside0.mk (below_step (by repeat (first | (with_reducible first | exact HB.out | apply below_alloc | apply pw_below_drewN | apply below_drew1 | refine bS ?_ GE340.out | refine bS ?_ GE345.out | refine bS ?_ GE351.out | refine bS ?_ GE357.out | refine bS ?_ GE363.out | refine bS ?_ GE368.out | refine bS ?_ GE374.out) | exact HB.out)) hb); clear BK340; clear BK345; clear BK351; clear BK357; clear BK363; clear BK368; clear BK374; clear HB; have BK340 := n0_; have BK345 := n1_; have BK351 := n2_; have BK357 := n3_; have BK363 := n4_; have BK368 := n5_; have BK374 := n6_; have HB := n7_; clear n0_ n1_ n2_ n3_ n4_ n5_ n6_ n7_; (try clear hb); (try clear hb2); (try clear hk); (try clear hi)))
         go_meet
         case rel => exact ⟨_, (true), (by first | rfl | (simp; done) | (simp [*]; done)), H', ⟨by have := HJ11.out; first | omega | exact Nat.le_refl _⟩, ⟨by (with_reducible repeat (first | refine bN ?_ _ | refine bD ?_ | refine bA ?_ _)); exact BK340.out⟩, ⟨by (with_reducible repeat (first | refine bN ?_ _ | refine bD ?_ | refine bA ?_ _)); exact BK345.out⟩, ⟨by (with_reducible repeat (first | refine bN ?_ _ | refine bD ?_ | refine bA ?_ _)); exact BK351.out⟩, ⟨by (with_reducible repeat (first | refine bN ?_ _ | refine bD ?_ | refine bA ?_ _)); exact BK357.out⟩, ⟨by (with_reducible repeat (first | refine bN ?_ _ | refine bD ?_ | refine bA ?_ _)); exact BK363.out⟩, ⟨by (with_reducible repeat (first | refine bN ?_ _ | refine bD ?_ | refine bA ?_ _)); exact BK368.out⟩, ⟨by (with_reducible repeat (first | refine bN ?_ _ | refine bD ?_ | refine bA ?_ _)); exact BK374.out⟩, ⟨by repeat (first | (with_reducible first | exact HB.out | apply below_alloc | apply pw_below_drewN | apply below_drew1 | refine bS ?_ GE340.out | refine bS ?_ GE345.out | refine bS ?_ GE351.out | refine bS ?_ GE357.out | refine bS ?_ GE363.out | refine bS ?_ GE368.out | refine bS ?_ GE374.out) | exact HB.out)⟩⟩
       ·replace c105 := Bool.eq_false_iff.mpr c105
        subst c105
        have H1 : (laws_FnBuckets.j1 kj11 t339 (!(t352 == t346) || (!(t353 == t347) || (!(t354 == t348) || (!(t355 == t349))))) t335 t336 t337 t338 t341 t342 t343 t344) = some r := by rw [if_neg (show ¬ (false = true) by decide)] at H; exact H
        clear H
        have H := H1
        clear H1
        have H' := Aside0.mk H
        clear H
        have hnb147 := NB357_340.out
        have hnc147 := NB340_357.out
        have hnb148 := NB357_345.out
        have hnc148 := NB345_357.out
        have hnb149 := NB357_351.out
        have hnc149 := NB351_357.out
        have hnb150 := NB357_363.out
        have hnc150 := NB363_357.out
        have hnb151 := NB357_368.out
        have hnc151 := NB368_357.out
        have hnb152 := NB357_374.out
        have hnc152 := NB374_357.out
        have hcz153_0 : w104.cell? ⟨gb357, 0, none⟩ = some (.int .i64 t352) := (bC BK357.out 0).trans rfl
        have hcz153_1 : w104.cell? ⟨gb357, 1, none⟩ = some (.int .i64 t353) := (bC BK357.out 1).trans rfl
        have hcz153_2 : w104.cell? ⟨gb357, 2, none⟩ = some (.int .i64 t354) := (bC BK357.out 2).trans rfl
        have hcz153_3 : w104.cell? ⟨gb357, 3, none⟩ = some (.int .i64 t355) := (bC BK357.out 3).trans rfl
        have hfz153_0 := blk_frozen BK357.out 0
        have hfz153_1 := blk_frozen BK357.out 1
        have hfz153_2 := blk_frozen BK357.out 2
        have hfz153_3 := blk_frozen BK357.out 3
        have hnb154 := NB351_340.out
        have hnc154 := NB340_351.out
        have hnb155 := NB351_345.out
        have hnc155 := NB345_351.out
        have hnb156 := NB351_363.out
        have hnc156 := NB363_351.out
        have hnb157 := NB351_368.out
        have hnc157 := NB368_351.out
        have hnb158 := NB351_374.out
        have hnc158 := NB374_351.out
        have hcz159_0 : w104.cell? ⟨gb351, 0, none⟩ = some (.int .i64 t346) := (bC BK351.out 0).trans rfl
        have hcz159_1 : w104.cell? ⟨gb351, 1, none⟩ = some (.int .i64 t347) := (bC BK351.out 1).trans rfl
        have hcz159_2 : w104.cell? ⟨gb351, 2, none⟩ = some (.int .i64 t348) := (bC BK351.out 2).trans rfl
        have hcz159_3 : w104.cell? ⟨gb351, 3, none⟩ = some (.int .i64 t349) := (bC BK351.out 3).trans rfl
        have hfz159_0 := blk_frozen BK351.out 0
        have hfz159_1 := blk_frozen BK351.out 1
        have hfz159_2 := blk_frozen BK351.out 2
        have hfz159_3 := blk_frozen BK351.out 3
        go_wp2
        go_meet
        case rel => exact ⟨_, ((!(t352 == t346) || (!(t353 == t347) || (!(t354 == t348) || (!(t355 == t349)))))), (by first | rfl | (simp; done) | (simp [*]; done)), H', ⟨by have := HJ11.out; first | omega | exact Nat.le_refl _⟩, ⟨by (with_reducible repeat (first | refine bN ?_ _ | refine bD ?_ | refine bA ?_ _)); exact BK340.out⟩, ⟨by (with_reducible repeat (first | refine bN ?_ _ | refine bD ?_ | refine bA ?_ _)); exact BK345.out⟩, ⟨by (with_reducible repeat (first | refine bN ?_ _ | refine bD ?_ | refine bA ?_ _)); exact BK351.out⟩, ⟨by (with_reducible repeat (first | refine bN ?_ _ | refine bD ?_ | refine bA ?_ _)); exact BK357.out⟩, ⟨by (with_reducible repeat (first | refine bN ?_ _ | refine bD ?_ | refine bA ?_ _)); exact BK363.out⟩, ⟨by (with_reducible repeat (first | refine bN ?_ _ | refine bD ?_ | refine bA ?_ _)); exact BK368.out⟩, ⟨by (with_reducible repeat (first | refine bN ?_ _ | refine bD ?_ | refine bA ?_ _)); exact BK374.out⟩, ⟨by repeat (first | (with_reducible first | exact HB.out | apply below_alloc | apply pw_below_drewN | apply below_drew1 | refine bS ?_ GE340.out | refine bS ?_ GE345.out | refine bS ?_ GE351.out | refine bS ?_ GE357.out | refine bS ?_ GE363.out | refine bS ?_ GE368.out | refine bS ?_ GE374.out) | exact HB.out)⟩⟩
      case rest =>
       clear HC96
       try clear c1
       try clear c2
       try clear p2
       try clear c6
       try clear p6
       try clear c7
       try clear c9
       try clear c10
       try clear c11
       try clear c12
       try clear c13
       try clear c14
       try clear c15
       try clear c23
       try clear p64
       try clear c67
       try clear c68
       try clear c69
       try clear c70
       try clear c71
       try clear c72
       try clear c76
       try clear c76b0
       try clear c76b1
       try clear c93
       try clear c95
       try clear c97
       try clear c98
       try clear c99
       try clear c100
       try clear c101
       try clear c102
       try clear c105
       try clear c107
       try clear c108
       try clear c108b0
       try clear c108b1
       try clear c109
       try clear c110
       try clear c111
       try clear c112
       try clear c113
       try clear c114
       try clear c118
       try clear c119
       try clear c120
       try clear c121
       try clear c122
       try clear c124
       try clear c125
       try clear c126
       try clear c127
       try clear c128
       try clear c129
       try clear c133
       try clear c134
       try clear c135
       try clear c136
       try clear c137
       try clear c139
       try clear c140
       try clear c141
       try clear c142
       try clear c143
       try clear c144
       try clear c147
       try clear c148
       try clear c149
       try clear c150
       try clear c151
       try clear c152
       try clear c154
       try clear c155
       try clear c156
       try clear c157
       try clear c158
       try clear hcz103_0
       try clear hcz103_1
       try clear hcz103_2
       try clear hcz103_3
       try clear hcz115_0
       try clear hcz115_1
       try clear hcz115_2
       try clear hcz115_3
       try clear hcz117_0
       try clear hcz117_1
       try clear hcz117_2
       try clear hcz117_3
       try clear hcz123_0
       try clear hcz123_1
       try clear hcz123_2
       try clear hcz123_3
       try clear hcz130_0
       try clear hcz130_1
       try clear hcz130_2
       try clear hcz130_3
       try clear hcz132_0
       try clear hcz132_1
       try clear hcz132_2
       try clear hcz132_3
       try clear hcz138_0
       try clear hcz138_1
       try clear hcz138_2
       try clear hcz138_3
       try clear hcz145_0
       try clear hcz145_1
       try clear hcz145_2
       try clear hcz145_3
       try clear hcz153_0
       try clear hcz153_1
       try clear hcz153_2
       try clear hcz153_3
       try clear hcz159_0
       try clear hcz159_1
       try clear hcz159_2
       try clear hcz159_3
       try clear hfz103_0
       try clear hfz103_1
       try clear hfz103_2
       try clear hfz103_3
       try clear hfz115_0
       try clear hfz115_1
       try clear hfz115_2
       try clear hfz115_3
       try clear hfz117_0
       try clear hfz117_1
       try clear hfz117_2
       try clear hfz117_3
       try clear hfz123_0
       try clear hfz123_1
       try clear hfz123_2
       try clear hfz123_3
       try clear hfz130_0
       try clear hfz130_1
       try clear hfz130_2
       try clear hfz130_3
       try clear hfz132_0
       try clear hfz132_1
       try clear hfz132_2
       try clear hfz132_3
       try clear hfz138_0
       try clear hfz138_1
       try clear hfz138_2
       try clear hfz138_3
       try clear hfz145_0
       try clear hfz145_1
       try clear hfz145_2
       try clear hfz145_3
       try clear hfz153_0
       try clear hfz153_1
       try clear hfz153_2
       try clear hfz153_3
       try clear hfz159_0
       try clear hfz159_1
       try clear hfz159_2
       try clear hfz159_3
       try clear p2
       obtain ⟨kq, x126_95, rfl, HA, HJ95, BK340, BK345, BK351, BK357, BK363, BK368, BK374, HB⟩ := hcut
       cases kq with
       | zero => exact absurd HA.out (by simp [laws_FnBuckets.j1])
       | succ kj95 =>
        have H := HA.out
        clear HA
        simp only [laws_FnBuckets.j1] at H
        by_cases c160 : x126_95 = true
        ·subst c160
         have H1 : (some false) = some r := by rw [if_pos rfl] at H; exact H
         clear H
         have H := H1
         clear H1
         exact absurd ((Option.some.inj H).trans hrt_.out) (by decide)
        ·replace c160 := Bool.eq_false_iff.mpr c160
         subst c160
         have H1 : ((impl_BucketOk.f t341 t342 t343 t344).bind fun t395 => (if t395 = true then (if t343 ≥ t337 then (if t339 < t338 then (some true) else (if t339 > 2147483647 then (some true) else (if t344 = t339 then ((impl_Refill.f kj95 t335 t336 t337 t338 (wrap64 (t338 + (wrap64 (Int.tdiv (wrap64 (t339 - t338)) 2))))).bind fun bt396 => ((impl_Refill.f kj95 bt396.1 bt396.2.1 bt396.2.2.1 bt396.2.2.2 t339).bind fun bt400 => (if (bt400.1 == t341 && (bt400.2.1 == t342 && (bt400.2.2.1 == t343 && (bt400.2.2.2 == t344)))) = true then ((impl_MostIn.f t335 t336 t337 t338 (wrap64 (t339 - t338))).bind fun t404 => (some (decide (t343 ≤ t404)))) else (some false)))) else (some false)))) else (some false)) else (some false))) = some r := by rw [if_neg (show ¬ (false = true) by decide)] at H; exact H
         clear H
         have H := H1
         clear H1
         replace H := Option.bind_eq_some_iff.mp H
         obtain ⟨t395, A1610, H⟩ := H
         replace H : (if t395 = true then (if t343 ≥ t337 then (if t339 < t338 then (some true) else (if t339 > 2147483647 then (some true) else (if t344 = t339 then ((impl_Refill.f kj95 t335 t336 t337 t338 (wrap64 (t338 + (wrap64 (Int.tdiv (wrap64 (t339 - t338)) 2))))).bind fun bt396 => ((impl_Refill.f kj95 bt396.1 bt396.2.1 bt396.2.2.1 bt396.2.2.2 t339).bind fun bt400 => (if (bt400.1 == t341 && (bt400.2.1 == t342 && (bt400.2.2.1 == t343 && (bt400.2.2.2 == t344)))) = true then ((impl_MostIn.f t335 t336 t337 t338 (wrap64 (t339 - t338))).bind fun t404 => (some (decide (t343 ≤ t404)))) else (some false)))) else (some false)))) else (some false)) else (some false)) = some r := H
         have A161 := Aside0.mk A1610
         clear A1610
         by_cases c162 : t395 = true
         ·subst c162
          have H1 : (if t343 ≥ t337 then (if t339 < t338 then (some true) else (if t339 > 2147483647 then (some true) else (if t344 = t339 then ((impl_Refill.f kj95 t335 t336 t337 t338 (wrap64 (t338 + (wrap64 (Int.tdiv (wrap64 (t339 - t338)) 2))))).bind fun bt396 => ((impl_Refill.f kj95 bt396.1 bt396.2.1 bt396.2.2.1 bt396.2.2.2 t339).bind fun bt400 => (if (bt400.1 == t341 && (bt400.2.1 == t342 && (bt400.2.2.1 == t343 && (bt400.2.2.2 == t344)))) = true then ((impl_MostIn.f t335 t336 t337 t338 (wrap64 (t339 - t338))).bind fun t404 => (some (decide (t343 ≤ t404)))) else (some false)))) else (some false)))) else (some false)) = some r := by rw [if_pos rfl] at H; exact H
          clear H
          have H := H1
          clear H1
          by_cases c163 : t343 ≥ t337
          ·rw [if_pos c163] at H
           have c163b0 : decide (t337 ≤ t343) = true := decide_eq_true c163
           clear c163
           by_cases c164 : t339 < t338
           ·rw [if_pos c164] at H
            have c164b0 : decide (t339 < t338) = true := decide_eq_true c164
            clear c164
            obtain rfl := Option.some.inj H
            have hnb165 := NB340_345.out
            have hnc165 := NB345_340.out
            have hnb166 := NB340_351.out
            have hnc166 := NB351_340.out
            have hnb167 := NB340_357.out
            have hnc167 := NB357_340.out
            have hnb168 := NB340_363.out
            have hnc168 := NB363_340.out
            have hnb169 := NB340_368.out
            have hnc169 := NB368_340.out
            have hnb170 := NB340_374.out
            have hnc170 := NB374_340.out
            have hcz171_0 : wc.cell? ⟨gb340, 0, none⟩ = some (.int .i64 t335) := (bC BK340.out 0).trans rfl
            have hcz171_1 : wc.cell? ⟨gb340, 1, none⟩ = some (.int .i64 t336) := (bC BK340.out 1).trans rfl
            have hcz171_2 : wc.cell? ⟨gb340, 2, none⟩ = some (.int .i64 t337) := (bC BK340.out 2).trans rfl
            have hcz171_3 : wc.cell? ⟨gb340, 3, none⟩ = some (.int .i64 t338) := (bC BK340.out 3).trans rfl
            have hfz171_0 := blk_frozen BK340.out 0
            have hfz171_1 := blk_frozen BK340.out 1
            have hfz171_2 := blk_frozen BK340.out 2
            have hfz171_3 := blk_frozen BK340.out 3
            try go_wp2
            have n0_ := Aside0.mk (bD BK340.out)
            have n1_ := Aside0.mk (bD BK345.out)
            have n2_ := Aside0.mk (bD BK351.out)
            have n3_ := Aside0.mk (bD BK357.out)
            have n4_ := Aside0.mk (bD BK363.out)
            have n5_ := Aside0.mk (bD BK368.out)
            have n6_ := Aside0.mk (bD BK374.out)
            have n7_ := Aside0.mk (below_drew1 HB.out)
            clear BK340 BK345 BK351 BK357 BK363 BK368 BK374
            clear HB
            have BK340 := n0_
            have BK345 := n1_
            have BK351 := n2_
            have BK357 := n3_
            have BK363 := n4_
            have BK368 := n5_
            have BK374 := n6_
            have HB := n7_
            clear n0_ n1_ n2_ n3_ n4_ n5_ n6_ n7_
            refine start_ (n := 46) (S := fun w' => w'.cell? ⟨gb345, 0, none⟩ = some (.int .i64 t341) ∧ w'.cell? ⟨gb345, 1, none⟩ = some (.int .i64 t342) ∧ w'.cell? ⟨gb345, 2, none⟩ = some (.int .i64 t343) ∧ w'.cell? ⟨gb345, 3, none⟩ = some (.int .i64 t344) ∧ w'.cell? ⟨gb340, 0, none⟩ = some (.int .i64 t335) ∧ w'.cell? ⟨gb340, 1, none⟩ = some (.int .i64 t336) ∧ w'.cell? ⟨gb340, 2, none⟩ = some (.int .i64 t337) ∧ w'.cell? ⟨gb340, 3, none⟩ = some (.int .i64 t338)) (ds := []) #[false, false, false, false, false, false, false, false, false, false, false, false, false, false, false, false, false, false, false, false, false, false, false, false, false, false, false, false, false, false, false, false, false, false, false, false, false, false, false, false, false, false, false, false, false, false] (by kernel_rfl) rfl rfl ⟨(bC BK345.out 0).trans rfl, (bC BK345.out 1).trans rfl, (bC BK345.out 2).trans rfl, (bC BK345.out 3).trans rfl, (bC BK340.out 0).trans rfl, (bC BK340.out 1).trans rfl, (bC BK340.out 2).trans rfl, (bC BK340.out 3).trans rfl⟩ (fun hHeld => ?_); refine with_tabW laws_FnBuckets.tab18 laws_FnBuckets.bits18 (fun HT_ HW_ => ?_)
            generalize wc.drew = w172 at BK340 BK345 BK351 BK357 BK363 BK368 BK374 HB hHeld ⊢
            refine take_ (i := 0) (N := some 135) (v := ?_) (a' := ?_) (fB 46 1) rfl rfl (take_ofW HT_.out HW_.out (by kernel_rfl)) (fun _ _ _ h => h) (Or.inl ⟨by rfl, ?_⟩) hHeld ?_ ?_
            rotate_left
            ·rintro w' ⟨s0, s1, s2, s3, s4, s5, s6, s7⟩; go_simp; with_reducible rfl
            rotate_left
            ·simp only [Act.put, sA_, sB_, sC_, i64_w, i32_w]; rfl
            refine one_ (i := 1) (N := some 136) (fB 46 3) rfl rfl (one_of HT_.out (by kernel_rfl)) (by decide) (fun K hK => ?_)
            refine goes_ Try.func67 (by kernel_rfl) rfl #[.agg #[.int .i64 t341, .int .i64 t342, .int .i64 t343, .int .i64 t344]] (by rfl) rfl rfl (by (try simp only [List.map_toArray, List.map_cons, List.map_nil]); first | done | rfl | (simp only [List.length_drop, List.length_take]; rfl)) ?_
            with_reducible refine (impl_BucketOk.calls t341 t342 t343 t344 true _ A161.out).mono ?_
            rintro e w173 ⟨rfl, hb⟩
            refine ⟨_, rfl, ?_⟩
            have n0_ := Aside0.mk (bB (g := gb340) (o := .cells #[.int .i64 t335, .int .i64 t336, .int .i64 t337, .int .i64 t338] 31 (0, 0)) (by (with_reducible repeat (first | refine bN ?_ _ | refine bD ?_ | refine bA ?_ _)); exact BK340.out) hb)
            have n1_ := Aside0.mk (bB (g := gb345) (o := .cells #[.int .i64 t341, .int .i64 t342, .int .i64 t343, .int .i64 t344] 31 (0, 0)) (by (with_reducible repeat (first | refine bN ?_ _ | refine bD ?_ | refine bA ?_ _)); exact BK345.out) hb)
            have n2_ := Aside0.mk (bB (g := gb351) (o := .cells #[.int .i64 t346, .int .i64 t347, .int .i64 t348, .int .i64 t349] 31 (0, 0)) (by (with_reducible repeat (first | refine bN ?_ _ | refine bD ?_ | refine bA ?_ _)); exact BK351.out) hb)
            have n3_ := Aside0.mk (bB (g := gb357) (o := .cells #[.int .i64 t352, .int .i64 t353, .int .i64 t354, .int .i64 t355] 31 (0, 0)) (by (with_reducible repeat (first | refine bN ?_ _ | refine bD ?_ | refine bA ?_ _)); exact BK357.out) hb)
            have n4_ := Aside0.mk (bB (g := gb363) (o := .cells #[.int .i64 t358, .int .i64 t359, .int .i64 t360, .int .i64 t361] 31 (0, 0)) (by (with_reducible repeat (first | refine bN ?_ _ | refine bD ?_ | refine bA ?_ _)); exact BK363.out) hb)
            have n5_ := Aside0.mk (bB (g := gb368) (o := .cells #[.int .i64 t364, .int .i64 t365, .int .i64 t366, .int .i64 t367] 31 (0, 0)) (by (with_reducible repeat (first | refine bN ?_ _ | refine bD ?_ | refine bA ?_ _)); exact BK368.out) hb)
            have n6_ := Aside0.mk (bB (g := gb374) (o := .cells #[.int .i64 t369, .int .i64 t370, .int .i64 t371, .int .i64 t372] 31 (0, 0)) (by (with_reducible repeat (first | refine bN ?_ _ | refine bD ?_ | refine bA ?_ _)); exact BK374.out) hb)
            have n7_ := Aside0.mk (below_step (by repeat (first | (with_reducible first | exact HB.out | apply below_alloc | apply pw_below_drewN | apply below_drew1 | refine bS ?_ GE340.out | refine bS ?_ GE345.out | refine bS ?_ GE351.out | refine bS ?_ GE357.out | refine bS ?_ GE363.out | refine bS ?_ GE368.out | refine bS ?_ GE374.out) | exact HB.out)) hb)
            clear BK340 BK345 BK351 BK357 BK363 BK368 BK374
            clear HB
            have BK340 := n0_
            have BK345 := n1_
            have BK351 := n2_
            have BK357 := n3_
            have BK363 := n4_
            have BK368 := n5_
            have BK374 := n6_
            have HB := n7_
            clear n0_ n1_ n2_ n3_ n4_ n5_ n6_ n7_
            (try clear hb)
            (try clear hb2)
            (try clear hk)
            (try clear hi)
            refine hK.out _ _ ⟨(bC BK345.out 0).trans rfl, (bC BK345.out 1).trans rfl, (bC BK345.out 2).trans rfl, (bC BK345.out 3).trans rfl, (bC BK340.out 0).trans rfl, (bC BK340.out 1).trans rfl, (bC BK340.out 2).trans rfl, (bC BK340.out 3).trans rfl⟩ (fun hHeld => ?_)
            clear hK K
            refine norm_ (a' := ?_) ?_ ?_
            rotate_left
            ·show Act.put _ (some 136) _ = _
             simp only [Act.put, sA_, sB_, sC_, i64_w, i32_w]
             rfl
            refine pure_ (i := 2) (N := some 137) (v := ?_) (a' := ?_) (fB 46 7) rfl rfl (any_of HT_.out (by kernel_rfl)) (fun _ _ _ h => h) (Or.inl ⟨by rfl, ?_⟩) ?_ ?_
            rotate_left
            ·intro w'; go_simp; with_reducible rfl
            rotate_left
            ·simp only [Act.put, sA_, sB_, sC_, i64_w, i32_w]; rfl
            refine pure_ (i := 3) (N := some 138) (v := ?_) (a' := ?_) (fB 46 15) rfl rfl (any_of HT_.out (by kernel_rfl)) (fun _ _ _ h => h) (Or.inl ⟨by rfl, ?_⟩) ?_ ?_
            rotate_left
            ·intro w'; go_simp; with_reducible rfl
            rotate_left
            ·simp only [Act.put, sA_, sB_, sC_, i64_w, i32_w]; rfl
            refine pure_ (i := 5) (N := some 140) (v := ?_) (a' := ?_) (fB 46 47) rfl rfl (any_of HT_.out (by kernel_rfl)) (fun _ _ _ h => h) (Or.inl ⟨by rfl, ?_⟩) ?_ ?_
            rotate_left
            ·intro w'; go_simp; with_reducible rfl
            rotate_left
            ·simp only [Act.put, sA_, sB_, sC_, i64_w, i32_w]; rfl
            refine take_ (i := 4) (N := some 139) (v := ?_) (a' := ?_) (fB 46 63) rfl rfl (take_ofW HT_.out HW_.out (by kernel_rfl)) (fun _ _ _ h => h) (Or.inl ⟨by rfl, ?_⟩) hHeld ?_ ?_
            rotate_left
            ·rintro w' ⟨s0, s1, s2, s3, s4, s5, s6, s7⟩; go_simp; with_reducible rfl
            rotate_left
            ·simp only [Act.put, sA_, sB_, sC_, i64_w, i32_w]; rfl
            refine take_ (i := 6) (N := some 141) (v := ?_) (a' := ?_) (fB 46 127) rfl rfl (take_ofW HT_.out HW_.out (by kernel_rfl)) (fun _ _ _ h => h) (Or.inl ⟨by rfl, ?_⟩) hHeld ?_ ?_
            rotate_left
            ·rintro w' ⟨s0, s1, s2, s3, s4, s5, s6, s7⟩; go_simp; with_reducible rfl
            rotate_left
            ·simp only [Act.put, sA_, sB_, sC_, i64_w, i32_w]; rfl
            refine pure_ (i := 7) (N := some 142) (v := ?_) (a' := ?_) (fB 46 255) rfl rfl (any_of HT_.out (by kernel_rfl)) (fun _ _ _ h => h) (Or.inl ⟨by rfl, ?_⟩) ?_ ?_
            rotate_left
            ·intro w'; go_simp; with_reducible rfl
            rotate_left
            ·simp only [Act.put, sA_, sB_, sC_, i64_w, i32_w]; rfl
            refine pure_ (i := 8) (N := some 143) (v := ?_) (a' := ?_) (fB 46 511) rfl rfl (any_of HT_.out (by kernel_rfl)) (fun _ _ _ h => h) (Or.inl ⟨by rfl, ?_⟩) ?_ ?_
            rotate_left
            ·intro w'; go_simp; with_reducible rfl
            rotate_left
            ·simp only [Act.put, sA_, sB_, sC_, i64_w, i32_w]; rfl
            refine pure_ (i := 9) (N := some 144) (v := ?_) (a' := ?_) (fB 46 1023) rfl rfl (any_of HT_.out (by kernel_rfl)) (fun _ _ _ h => h) (Or.inl ⟨by rfl, ?_⟩) ?_ ?_
            rotate_left
            ·intro w'; go_simp; with_reducible rfl
            rotate_left
            ·simp only [Act.put, sA_, sB_, sC_, i64_w, i32_w]; rfl
            refine pure_ (i := 10) (N := some 145) (v := ?_) (a' := ?_) (fB 46 2047) rfl rfl (any_of HT_.out (by kernel_rfl)) (fun _ _ _ h => h) (Or.inl ⟨by rfl, ?_⟩) ?_ ?_
            rotate_left
            ·intro w'; go_simp; with_reducible rfl
            rotate_left
            ·simp only [Act.put, sA_, sB_, sC_, i64_w, i32_w]; rfl
            refine pure_ (i := 11) (N := some 146) (v := ?_) (a' := ?_) (fB 46 4095) rfl rfl (any_of HT_.out (by kernel_rfl)) (fun _ _ _ h => h) (Or.inl ⟨by rfl, ?_⟩) ?_ ?_
            rotate_left
            ·intro w'; go_simp; with_reducible rfl
            rotate_left
            ·simp only [Act.put, sA_, sB_, sC_, i64_w, i32_w]; rfl
            refine take_ (i := 12) (N := some 147) (v := ?_) (a' := ?_) (fB 46 8191) rfl rfl (take_ofW HT_.out HW_.out (by kernel_rfl)) (fun _ _ _ h => h) (Or.inl ⟨by rfl, ?_⟩) hHeld ?_ ?_
            rotate_left
            ·rintro w' ⟨s0, s1, s2, s3, s4, s5, s6, s7⟩; go_simp; with_reducible rfl
            rotate_left
            ·simp only [Act.put, sA_, sB_, sC_, i64_w, i32_w]; rfl
            refine pure_ (i := 13) (N := some 148) (v := ?_) (a' := ?_) (fB 46 16383) rfl rfl (any_of HT_.out (by kernel_rfl)) (fun _ _ _ h => h) (Or.inl ⟨by rfl, ?_⟩) ?_ ?_
            rotate_left
            ·intro w'; go_simp; with_reducible rfl
            rotate_left
            ·simp only [Act.put, sA_, sB_, sC_, i64_w, i32_w]; rfl
            refine pure_ (i := 14) (N := some 149) (v := ?_) (a' := ?_) (fB 46 32767) rfl rfl (any_of HT_.out (by kernel_rfl)) (fun _ _ _ h => h) (Or.inl ⟨by rfl, ?_⟩) ?_ ?_
            rotate_left
            ·intro w'; go_simp; with_reducible rfl
            rotate_left
            ·simp only [Act.put, sA_, sB_, sC_, i64_w, i32_w]; rfl
            refine pure_ (i := 15) (N := some 150) (v := undef) (a' := ?_) (fB 46 65535) rfl rfl (any_of HT_.out (by kernel_rfl)) (fun _ _ _ h => h) (Or.inr ⟨by rfl, rfl⟩) ?_ ?_
            rotate_left
            ·simp only [Act.put, sA_, sB_, sC_, i64_w, i32_w]; rfl
            refine pure_ (i := 16) (N := some 151) (v := undef) (a' := ?_) (fB 46 131071) rfl rfl (any_of HT_.out (by kernel_rfl)) (fun _ _ _ h => h) (Or.inr ⟨by rfl, rfl⟩) ?_ ?_
            rotate_left
            ·simp only [Act.put, sA_, sB_, sC_, i64_w, i32_w]; rfl
            refine pure_ (i := 17) (N := some 152) (v := ?_) (a' := ?_) (fB 46 262143) rfl rfl (any_of HT_.out (by kernel_rfl)) (fun _ _ _ h => h) (Or.inl ⟨by rfl, ?_⟩) ?_ ?_
            rotate_left
            ·intro w'; go_simp; with_reducible rfl
            rotate_left
            ·simp only [Act.put, sA_, sB_, sC_, i64_w, i32_w]; rfl
            refine pure_ (i := 18) (N := some 153) (v := ?_) (a' := ?_) (fB 46 524287) rfl rfl (any_of HT_.out (by kernel_rfl)) (fun _ _ _ h => h) (Or.inl ⟨by rfl, ?_⟩) ?_ ?_
            rotate_left
            ·intro w'; go_simp; with_reducible rfl
            rotate_left
            ·simp only [Act.put, sA_, sB_, sC_, i64_w, i32_w]; rfl
            refine pure_ (i := 19) (N := some 154) (v := undef) (a' := ?_) (fB 46 1048575) rfl rfl (any_of HT_.out (by kernel_rfl)) (fun _ _ _ h => h) (Or.inr ⟨by rfl, rfl⟩) ?_ ?_
            rotate_left
            ·simp only [Act.put, sA_, sB_, sC_, i64_w, i32_w]; rfl
            refine pure_ (i := 20) (N := some 155) (v := undef) (a' := ?_) (fB 46 2097151) rfl rfl (any_of HT_.out (by kernel_rfl)) (fun _ _ _ h => h) (Or.inr ⟨by rfl, rfl⟩) ?_ ?_
            rotate_left
            ·simp only [Act.put, sA_, sB_, sC_, i64_w, i32_w]; rfl
            refine pure_ (i := 21) (N := some 156) (v := undef) (a' := ?_) (fB 46 4194303) rfl rfl (any_of HT_.out (by kernel_rfl)) (fun _ _ _ h => h) (Or.inr ⟨by rfl, rfl⟩) ?_ ?_
            rotate_left
            ·simp only [Act.put, sA_, sB_, sC_, i64_w, i32_w]; rfl
            refine pure_ (i := 22) (N := some 157) (v := undef) (a' := ?_) (fB 46 8388607) rfl rfl (any_of HT_.out (by kernel_rfl)) (fun _ _ _ h => h) (Or.inr ⟨by rfl, rfl⟩) ?_ ?_
            rotate_left
            ·simp only [Act.put, sA_, sB_, sC_, i64_w, i32_w]; rfl
            refine pure_ (i := 23) (N := some 158) (v := undef) (a' := ?_) (fB 46 16777215) rfl rfl (any_of HT_.out (by kernel_rfl)) (fun _ _ _ h => h) (Or.inr ⟨by rfl, rfl⟩) ?_ ?_
            rotate_left
            ·simp only [Act.put, sA_, sB_, sC_, i64_w, i32_w]; rfl
            refine pure_ (i := 24) (N := some 159) (v := undef) (a' := ?_) (fB 46 33554431) rfl rfl (any_of HT_.out (by kernel_rfl)) (fun _ _ _ h => h) (Or.inr ⟨by rfl, rfl⟩) ?_ ?_
            rotate_left
            ·simp only [Act.put, sA_, sB_, sC_, i64_w, i32_w]; rfl
            refine pure_ (i := 25) (N := some 160) (v := undef) (a' := ?_) (fB 46 67108863) rfl rfl (any_of HT_.out (by kernel_rfl)) (fun _ _ _ h => h) (Or.inr ⟨by rfl, rfl⟩) ?_ ?_
            rotate_left
            ·simp only [Act.put, sA_, sB_, sC_, i64_w, i32_w]; rfl
            refine pure_ (i := 26) (N := some 161) (v := undef) (a' := ?_) (fB 46 134217727) rfl rfl (any_of HT_.out (by kernel_rfl)) (fun _ _ _ h => h) (Or.inr ⟨by rfl, rfl⟩) ?_ ?_
            rotate_left
            ·simp only [Act.put, sA_, sB_, sC_, i64_w, i32_w]; rfl
            refine pure_ (i := 27) (N := some 162) (v := undef) (a' := ?_) (fB 46 268435455) rfl rfl (any_of HT_.out (by kernel_rfl)) (fun _ _ _ h => h) (Or.inr ⟨by rfl, rfl⟩) ?_ ?_
            rotate_left
            ·simp only [Act.put, sA_, sB_, sC_, i64_w, i32_w]; rfl
            refine pure_ (i := 28) (N := some 163) (v := undef) (a' := ?_) (fB 46 536870911) rfl rfl (any_of HT_.out (by kernel_rfl)) (fun _ _ _ h => h) (Or.inr ⟨by rfl, rfl⟩) ?_ ?_
            rotate_left
            ·simp only [Act.put, sA_, sB_, sC_, i64_w, i32_w]; rfl
            refine pure_ (i := 29) (N := some 164) (v := undef) (a' := ?_) (fB 46 1073741823) rfl rfl (any_of HT_.out (by kernel_rfl)) (fun _ _ _ h => h) (Or.inr ⟨by rfl, rfl⟩) ?_ ?_
            rotate_left
            ·simp only [Act.put, sA_, sB_, sC_, i64_w, i32_w]; rfl
            refine pure_ (i := 30) (N := some 165) (v := undef) (a' := ?_) (fB 46 2147483647) rfl rfl (any_of HT_.out (by kernel_rfl)) (fun _ _ _ h => h) (Or.inr ⟨by rfl, rfl⟩) ?_ ?_
            rotate_left
            ·simp only [Act.put, sA_, sB_, sC_, i64_w, i32_w]; rfl
            refine pure_ (i := 31) (N := some 166) (v := undef) (a' := ?_) (fB 46 4294967295) rfl rfl (any_of HT_.out (by kernel_rfl)) (fun _ _ _ h => h) (Or.inr ⟨by rfl, rfl⟩) ?_ ?_
            rotate_left
            ·simp only [Act.put, sA_, sB_, sC_, i64_w, i32_w]; rfl
            refine pure_ (i := 32) (N := some 167) (v := undef) (a' := ?_) (fB 46 8589934591) rfl rfl (any_of HT_.out (by kernel_rfl)) (fun _ _ _ h => h) (Or.inr ⟨by rfl, rfl⟩) ?_ ?_
            rotate_left
            ·simp only [Act.put, sA_, sB_, sC_, i64_w, i32_w]; rfl
            refine pure_ (i := 33) (N := some 168) (v := undef) (a' := ?_) (fB 46 17179869183) rfl rfl (any_of HT_.out (by kernel_rfl)) (fun _ _ _ h => h) (Or.inr ⟨by rfl, rfl⟩) ?_ ?_
            rotate_left
            ·simp only [Act.put, sA_, sB_, sC_, i64_w, i32_w]; rfl
            refine pure_ (i := 34) (N := some 169) (v := undef) (a' := ?_) (fB 46 34359738367) rfl rfl (any_of HT_.out (by kernel_rfl)) (fun _ _ _ h => h) (Or.inr ⟨by rfl, rfl⟩) ?_ ?_
            rotate_left
            ·simp only [Act.put, sA_, sB_, sC_, i64_w, i32_w]; rfl
            refine pure_ (i := 35) (N := some 170) (v := undef) (a' := ?_) (fB 46 68719476735) rfl rfl (any_of HT_.out (by kernel_rfl)) (fun _ _ _ h => h) (Or.inr ⟨by rfl, rfl⟩) ?_ ?_
            rotate_left
            ·simp only [Act.put, sA_, sB_, sC_, i64_w, i32_w]; rfl
            refine pure_ (i := 36) (N := some 171) (v := undef) (a' := ?_) (fB 46 137438953471) rfl rfl (any_of HT_.out (by kernel_rfl)) (fun _ _ _ h => h) (Or.inr ⟨by rfl, rfl⟩) ?_ ?_
            rotate_left
            ·simp only [Act.put, sA_, sB_, sC_, i64_w, i32_w]; rfl
            refine pure_ (i := 37) (N := some 172) (v := undef) (a' := ?_) (fB 46 274877906943) rfl rfl (any_of HT_.out (by kernel_rfl)) (fun _ _ _ h => h) (Or.inr ⟨by rfl, rfl⟩) ?_ ?_
            rotate_left
            ·simp only [Act.put, sA_, sB_, sC_, i64_w, i32_w]; rfl
            refine pure_ (i := 38) (N := some 173) (v := undef) (a' := ?_) (fB 46 549755813887) rfl rfl (any_of HT_.out (by kernel_rfl)) (fun _ _ _ h => h) (Or.inr ⟨by rfl, rfl⟩) ?_ ?_
            rotate_left
            ·simp only [Act.put, sA_, sB_, sC_, i64_w, i32_w]; rfl
            refine pure_ (i := 39) (N := some 174) (v := undef) (a' := ?_) (fB 46 1099511627775) rfl rfl (any_of HT_.out (by kernel_rfl)) (fun _ _ _ h => h) (Or.inr ⟨by rfl, rfl⟩) ?_ ?_
            rotate_left
            ·simp only [Act.put, sA_, sB_, sC_, i64_w, i32_w]; rfl
            refine pure_ (i := 40) (N := some 175) (v := undef) (a' := ?_) (fB 46 2199023255551) rfl rfl (any_of HT_.out (by kernel_rfl)) (fun _ _ _ h => h) (Or.inr ⟨by rfl, rfl⟩) ?_ ?_
            rotate_left
            ·simp only [Act.put, sA_, sB_, sC_, i64_w, i32_w]; rfl
            refine pure_ (i := 41) (N := some 176) (v := undef) (a' := ?_) (fB 46 4398046511103) rfl rfl (any_of HT_.out (by kernel_rfl)) (fun _ _ _ h => h) (Or.inr ⟨by rfl, rfl⟩) ?_ ?_
            rotate_left
            ·simp only [Act.put, sA_, sB_, sC_, i64_w, i32_w]; rfl
            refine pure_ (i := 42) (N := some 177) (v := undef) (a' := ?_) (fB 46 8796093022207) rfl rfl (any_of HT_.out (by kernel_rfl)) (fun _ _ _ h => h) (Or.inr ⟨by rfl, rfl⟩) ?_ ?_
            rotate_left
            ·simp only [Act.put, sA_, sB_, sC_, i64_w, i32_w]; rfl
            refine pure_ (i := 43) (N := some 178) (v := ?_) (a' := ?_) (fB 46 17592186044415) rfl rfl (any_of HT_.out (by kernel_rfl)) (fun _ _ _ h => h) (Or.inl ⟨by rfl, ?_⟩) ?_ ?_
            rotate_left
            ·intro w'; go_simp; with_reducible rfl
            rotate_left
            ·simp only [Act.put, sA_, sB_, sC_, i64_w, i32_w]; rfl
            refine pure_ (i := 44) (N := some 179) (v := ?_) (a' := ?_) (fB 46 35184372088831) rfl rfl (any_of HT_.out (by kernel_rfl)) (fun _ _ _ h => h) (Or.inl ⟨by rfl, ?_⟩) ?_ ?_
            rotate_left
            ·intro w'; go_simp; with_reducible rfl
            rotate_left
            ·simp only [Act.put, sA_, sB_, sC_, i64_w, i32_w]; rfl
            refine pure_ (i := 45) (N := some 2) (v := ?_) (a' := ?_) (fB 46 70368744177663) rfl rfl (any_of HT_.out (by kernel_rfl)) (fun _ _ _ h => h) (Or.inl ⟨by rfl, ?_⟩) ?_ ?_
            rotate_left
            ·intro w'; go_simp; with_reducible rfl
            rotate_left
            ·simp only [Act.put, sA_, sB_, sC_, i64_w, i32_w]; rfl
            refine done_ (done_of HT_.out (by kernel_rfl)) ?_
            try go_wp2
            go_ret
            exact ⟨by first | rfl | (simp [errW_none, errW_some] <;> rfl) | (simp [*, errW_none, errW_some] <;> rfl), by repeat (first | (with_reducible first | exact HB.out | apply below_alloc | apply pw_below_drewN | apply below_drew1 | refine bS ?_ GE340.out | refine bS ?_ GE345.out | refine bS ?_ GE351.out | refine bS ?_ GE357.out | refine bS ?_ GE363.out | refine bS ?_ GE368.out | refine bS ?_ GE374.out) | exact HB.out)⟩
           ·rw [if_neg c164] at H
            have c164b0 : decide (t339 < t338) = false := decide_eq_false c164
            clear c164
            by_cases c174 : t339 > 2147483647
            ·rw [if_pos c174] at H
             have c174b0 : decide (2147483647 < t339) = true := decide_eq_true c174
             clear c174
             obtain rfl := Option.some.inj H
             have hnb175 := NB340_345.out
             have hnc175 := NB345_340.out
             have hnb176 := NB340_351.out
             have hnc176 := NB351_340.out
             have hnb177 := NB340_357.out
             have hnc177 := NB357_340.out
             have hnb178 := NB340_363.out
             have hnc178 := NB363_340.out
             have hnb179 := NB340_368.out
             have hnc179 := NB368_340.out
             have hnb180 := NB340_374.out
             have hnc180 := NB374_340.out
             have hcz181_0 : wc.cell? ⟨gb340, 0, none⟩ = some (.int .i64 t335) := (bC BK340.out 0).trans rfl
             have hcz181_1 : wc.cell? ⟨gb340, 1, none⟩ = some (.int .i64 t336) := (bC BK340.out 1).trans rfl
             have hcz181_2 : wc.cell? ⟨gb340, 2, none⟩ = some (.int .i64 t337) := (bC BK340.out 2).trans rfl
             have hcz181_3 : wc.cell? ⟨gb340, 3, none⟩ = some (.int .i64 t338) := (bC BK340.out 3).trans rfl
             have hfz181_0 := blk_frozen BK340.out 0
             have hfz181_1 := blk_frozen BK340.out 1
             have hfz181_2 := blk_frozen BK340.out 2
             have hfz181_3 := blk_frozen BK340.out 3
             try go_wp2
             have n0_ := Aside0.mk (bD BK340.out)
             have n1_ := Aside0.mk (bD BK345.out)
             have n2_ := Aside0.mk (bD BK351.out)
             have n3_ := Aside0.mk (bD BK357.out)
             have n4_ := Aside0.mk (bD BK363.out)
             have n5_ := Aside0.mk (bD BK368.out)
             have n6_ := Aside0.mk (bD BK374.out)
             have n7_ := Aside0.mk (below_drew1 HB.out)
             clear BK340 BK345 BK351 BK357 BK363 BK368 BK374
             clear HB
             have BK340 := n0_
             have BK345 := n1_
             have BK351 := n2_
             have BK357 := n3_
             have BK363 := n4_
             have BK368 := n5_
             have BK374 := n6_
             have HB := n7_
             clear n0_ n1_ n2_ n3_ n4_ n5_ n6_ n7_
             refine start_ (n := 46) (S := fun w' => w'.cell? ⟨gb345, 0, none⟩ = some (.int .i64 t341) ∧ w'.cell? ⟨gb345, 1, none⟩ = some (.int .i64 t342) ∧ w'.cell? ⟨gb345, 2, none⟩ = some (.int .i64 t343) ∧ w'.cell? ⟨gb345, 3, none⟩ = some (.int .i64 t344) ∧ w'.cell? ⟨gb340, 0, none⟩ = some (.int .i64 t335) ∧ w'.cell? ⟨gb340, 1, none⟩ = some (.int .i64 t336) ∧ w'.cell? ⟨gb340, 2, none⟩ = some (.int .i64 t337) ∧ w'.cell? ⟨gb340, 3, none⟩ = some (.int .i64 t338)) (ds := []) #[false, false, false, false, false, false, false, false, false, false, false, false, false, false, false, false, false, false, false, false, false, false, false, false, false, false, false, false, false, false, false, false, false, false, false, false, false, false, false, false, false, false, false, false, false, false] (by kernel_rfl) rfl rfl ⟨(bC BK345.out 0).trans rfl, (bC BK345.out 1).trans rfl, (bC BK345.out 2).trans rfl, (bC BK345.out 3).trans rfl, (bC BK340.out 0).trans rfl, (bC BK340.out 1).trans rfl, (bC BK340.out 2).trans rfl, (bC BK340.out 3).trans rfl⟩ (fun hHeld => ?_); refine with_tabW laws_FnBuckets.tab18 laws_FnBuckets.bits18 (fun HT_ HW_ => ?_)
             generalize wc.drew = w182 at BK340 BK345 BK351 BK357 BK363 BK368 BK374 HB hHeld ⊢
             refine take_ (i := 0) (N := some 135) (v := ?_) (a' := ?_) (fB 46 1) rfl rfl (take_ofW HT_.out HW_.out (by kernel_rfl)) (fun _ _ _ h => h) (Or.inl ⟨by rfl, ?_⟩) hHeld ?_ ?_
             rotate_left
             ·rintro w' ⟨s0, s1, s2, s3, s4, s5, s6, s7⟩; go_simp; with_reducible rfl
             rotate_left
             ·simp only [Act.put, sA_, sB_, sC_, i64_w, i32_w]; rfl
             refine one_ (i := 1) (N := some 136) (fB 46 3) rfl rfl (one_of HT_.out (by kernel_rfl)) (by decide) (fun K hK => ?_)
             refine goes_ Try.func67 (by kernel_rfl) rfl #[.agg #[.int .i64 t341, .int .i64 t342, .int .i64 t343, .int .i64 t344]] (by rfl) rfl rfl (by (try simp only [List.map_toArray, List.map_cons, List.map_nil]); first | done | rfl | (simp only [List.length_drop, List.length_take]; rfl)) ?_
             with_reducible refine (impl_BucketOk.calls t341 t342 t343 t344 true _ A161.out).mono ?_
             rintro e w183 ⟨rfl, hb⟩
             refine ⟨_, rfl, ?_⟩
             have n0_ := Aside0.mk (bB (g := gb340) (o := .cells #[.int .i64 t335, .int .i64 t336, .int .i64 t337, .int .i64 t338] 31 (0, 0)) (by (with_reducible repeat (first | refine bN ?_ _ | refine bD ?_ | refine bA ?_ _)); exact BK340.out) hb)
             have n1_ := Aside0.mk (bB (g := gb345) (o := .cells #[.int .i64 t341, .int .i64 t342, .int .i64 t343, .int .i64 t344] 31 (0, 0)) (by (with_reducible repeat (first | refine bN ?_ _ | refine bD ?_ | refine bA ?_ _)); exact BK345.out) hb)
             have n2_ := Aside0.mk (bB (g := gb351) (o := .cells #[.int .i64 t346, .int .i64 t347, .int .i64 t348, .int .i64 t349] 31 (0, 0)) (by (with_reducible repeat (first | refine bN ?_ _ | refine bD ?_ | refine bA ?_ _)); exact BK351.out) hb)
             have n3_ := Aside0.mk (bB (g := gb357) (o := .cells #[.int .i64 t352, .int .i64 t353, .int .i64 t354, .int .i64 t355] 31 (0, 0)) (by (with_reducible repeat (first | refine bN ?_ _ | refine bD ?_ | refine bA ?_ _)); exact BK357.out) hb)
             have n4_ := Aside0.mk (bB (g := gb363) (o := .cells #[.int .i64 t358, .int .i64 t359, .int .i64 t360, .int .i64 t361] 31 (0, 0)) (by (with_reducible repeat (first | refine bN ?_ _ | refine bD ?_ | refine bA ?_ _)); exact BK363.out) hb)
             have n5_ := Aside0.mk (bB (g := gb368) (o := .cells #[.int .i64 t364, .int .i64 t365, .int .i64 t366, .int .i64 t367] 31 (0, 0)) (by (with_reducible repeat (first | refine bN ?_ _ | refine bD ?_ | refine bA ?_ _)); exact BK368.out) hb)
             have n6_ := Aside0.mk (bB (g := gb374) (o := .cells #[.int .i64 t369, .int .i64 t370, .int .i64 t371, .int .i64 t372] 31 (0, 0)) (by (with_reducible repeat (first | refine bN ?_ _ | refine bD ?_ | refine bA ?_ _)); exact BK374.out) hb)
             have n7_ := Aside0.mk (below_step (by repeat (first | (with_reducible first | exact HB.out | apply below_alloc | apply pw_below_drewN | apply below_drew1 | refine bS ?_ GE340.out | refine bS ?_ GE345.out | refine bS ?_ GE351.out | refine bS ?_ GE357.out | refine bS ?_ GE363.out | refine bS ?_ GE368.out | refine bS ?_ GE374.out) | exact HB.out)) hb)
             clear BK340 BK345 BK351 BK357 BK363 BK368 BK374
             clear HB
             have BK340 := n0_
             have BK345 := n1_
             have BK351 := n2_
             have BK357 := n3_
             have BK363 := n4_
             have BK368 := n5_
             have BK374 := n6_
             have HB := n7_
             clear n0_ n1_ n2_ n3_ n4_ n5_ n6_ n7_
             (try clear hb)
             (try clear hb2)
             (try clear hk)
             (try clear hi)
             refine hK.out _ _ ⟨(bC BK345.out 0).trans rfl, (bC BK345.out 1).trans rfl, (bC BK345.out 2).trans rfl, (bC BK345.out 3).trans rfl, (bC BK340.out 0).trans rfl, (bC BK340.out 1).trans rfl, (bC BK340.out 2).trans rfl, (bC BK340.out 3).trans rfl⟩ (fun hHeld => ?_)
             clear hK K
             refine norm_ (a' := ?_) ?_ ?_
             rotate_left
             ·show Act.put _ (some 136) _ = _
              simp only [Act.put, sA_, sB_, sC_, i64_w, i32_w]
              rfl
             refine pure_ (i := 2) (N := some 137) (v := ?_) (a' := ?_) (fB 46 7) rfl rfl (any_of HT_.out (by kernel_rfl)) (fun _ _ _ h => h) (Or.inl ⟨by rfl, ?_⟩) ?_ ?_
             rotate_left
             ·intro w'; go_simp; with_reducible rfl
             rotate_left
             ·simp only [Act.put, sA_, sB_, sC_, i64_w, i32_w]; rfl
             refine pure_ (i := 3) (N := some 138) (v := ?_) (a' := ?_) (fB 46 15) rfl rfl (any_of HT_.out (by kernel_rfl)) (fun _ _ _ h => h) (Or.inl ⟨by rfl, ?_⟩) ?_ ?_
             rotate_left
             ·intro w'; go_simp; with_reducible rfl
             rotate_left
             ·simp only [Act.put, sA_, sB_, sC_, i64_w, i32_w]; rfl
             refine pure_ (i := 5) (N := some 140) (v := ?_) (a' := ?_) (fB 46 47) rfl rfl (any_of HT_.out (by kernel_rfl)) (fun _ _ _ h => h) (Or.inl ⟨by rfl, ?_⟩) ?_ ?_
             rotate_left
             ·intro w'; go_simp; with_reducible rfl
             rotate_left
             ·simp only [Act.put, sA_, sB_, sC_, i64_w, i32_w]; rfl
             refine take_ (i := 4) (N := some 139) (v := ?_) (a' := ?_) (fB 46 63) rfl rfl (take_ofW HT_.out HW_.out (by kernel_rfl)) (fun _ _ _ h => h) (Or.inl ⟨by rfl, ?_⟩) hHeld ?_ ?_
             rotate_left
             ·rintro w' ⟨s0, s1, s2, s3, s4, s5, s6, s7⟩; go_simp; with_reducible rfl
             rotate_left
             ·simp only [Act.put, sA_, sB_, sC_, i64_w, i32_w]; rfl
             refine take_ (i := 6) (N := some 141) (v := ?_) (a' := ?_) (fB 46 127) rfl rfl (take_ofW HT_.out HW_.out (by kernel_rfl)) (fun _ _ _ h => h) (Or.inl ⟨by rfl, ?_⟩) hHeld ?_ ?_
             rotate_left
             ·rintro w' ⟨s0, s1, s2, s3, s4, s5, s6, s7⟩; go_simp; with_reducible rfl
             rotate_left
             ·simp only [Act.put, sA_, sB_, sC_, i64_w, i32_w]; rfl
             refine pure_ (i := 7) (N := some 142) (v := ?_) (a' := ?_) (fB 46 255) rfl rfl (any_of HT_.out (by kernel_rfl)) (fun _ _ _ h => h) (Or.inl ⟨by rfl, ?_⟩) ?_ ?_
             rotate_left
             ·intro w'; go_simp; with_reducible rfl
             rotate_left
             ·simp only [Act.put, sA_, sB_, sC_, i64_w, i32_w]; rfl
             refine pure_ (i := 8) (N := some 143) (v := ?_) (a' := ?_) (fB 46 511) rfl rfl (any_of HT_.out (by kernel_rfl)) (fun _ _ _ h => h) (Or.inl ⟨by rfl, ?_⟩) ?_ ?_
             rotate_left
             ·intro w'; go_simp; with_reducible rfl
             rotate_left
             ·simp only [Act.put, sA_, sB_, sC_, i64_w, i32_w]; rfl
             refine pure_ (i := 9) (N := some 144) (v := ?_) (a' := ?_) (fB 46 1023) rfl rfl (any_of HT_.out (by kernel_rfl)) (fun _ _ _ h => h) (Or.inl ⟨by rfl, ?_⟩) ?_ ?_
             rotate_left
             ·intro w'; go_simp; with_reducible rfl
             rotate_left
             ·simp only [Act.put, sA_, sB_, sC_, i64_w, i32_w]; rfl
             refine pure_ (i := 10) (N := some 145) (v := ?_) (a' := ?_) (fB 46 2047) rfl rfl (any_of HT_.out (by kernel_rfl)) (fun _ _ _ h => h) (Or.inl ⟨by rfl, ?_⟩) ?_ ?_
             rotate_left
             ·intro w'; go_simp; with_reducible rfl
             rotate_left
             ·simp only [Act.put, sA_, sB_, sC_, i64_w, i32_w]; rfl
             refine pure_ (i := 11) (N := some 146) (v := ?_) (a' := ?_) (fB 46 4095) rfl rfl (any_of HT_.out (by kernel_rfl)) (fun _ _ _ h => h) (Or.inl ⟨by rfl, ?_⟩) ?_ ?_
             rotate_left
             ·intro w'; go_simp; with_reducible rfl
             rotate_left
             ·simp only [Act.put, sA_, sB_, sC_, i64_w, i32_w]; rfl
             refine take_ (i := 12) (N := some 147) (v := ?_) (a' := ?_) (fB 46 8191) rfl rfl (take_ofW HT_.out HW_.out (by kernel_rfl)) (fun _ _ _ h => h) (Or.inl ⟨by rfl, ?_⟩) hHeld ?_ ?_
             rotate_left
             ·rintro w' ⟨s0, s1, s2, s3, s4, s5, s6, s7⟩; go_simp; with_reducible rfl
             rotate_left
             ·simp only [Act.put, sA_, sB_, sC_, i64_w, i32_w]; rfl
             refine pure_ (i := 13) (N := some 148) (v := ?_) (a' := ?_) (fB 46 16383) rfl rfl (any_of HT_.out (by kernel_rfl)) (fun _ _ _ h => h) (Or.inl ⟨by rfl, ?_⟩) ?_ ?_
             rotate_left
             ·intro w'; go_simp; with_reducible rfl
             rotate_left
             ·simp only [Act.put, sA_, sB_, sC_, i64_w, i32_w]; rfl
             refine pure_ (i := 14) (N := some 149) (v := ?_) (a' := ?_) (fB 46 32767) rfl rfl (any_of HT_.out (by kernel_rfl)) (fun _ _ _ h => h) (Or.inl ⟨by rfl, ?_⟩) ?_ ?_
             rotate_left
             ·intro w'; go_simp; with_reducible rfl
             rotate_left
             ·simp only [Act.put, sA_, sB_, sC_, i64_w, i32_w]; rfl
             refine pure_ (i := 15) (N := some 150) (v := ?_) (a' := ?_) (fB 46 65535) rfl rfl (any_of HT_.out (by kernel_rfl)) (fun _ _ _ h => h) (Or.inl ⟨by rfl, ?_⟩) ?_ ?_
             rotate_left
             ·intro w'; go_simp; with_reducible rfl
             rotate_left
             ·simp only [Act.put, sA_, sB_, sC_, i64_w, i32_w]; rfl
             refine pure_ (i := 16) (N := some 151) (v := ?_) (a' := ?_) (fB 46 131071) rfl rfl (any_of HT_.out (by kernel_rfl)) (fun _ _ _ h => h) (Or.inl ⟨by rfl, ?_⟩) ?_ ?_
             rotate_left
             ·intro w'; go_simp; with_reducible rfl
             rotate_left
             ·simp only [Act.put, sA_, sB_, sC_, i64_w, i32_w]; rfl
             refine pure_ (i := 17) (N := some 152) (v := ?_) (a' := ?_) (fB 46 262143) rfl rfl (any_of HT_.out (by kernel_rfl)) (fun _ _ _ h => h) (Or.inl ⟨by rfl, ?_⟩) ?_ ?_
             rotate_left
             ·intro w'; go_simp; with_reducible rfl
             rotate_left
             ·simp only [Act.put, sA_, sB_, sC_, i64_w, i32_w]; rfl
             refine pure_ (i := 18) (N := some 153) (v := ?_) (a' := ?_) (fB 46 524287) rfl rfl (any_of HT_.out (by kernel_rfl)) (fun _ _ _ h => h) (Or.inl ⟨by rfl, ?_⟩) ?_ ?_
             rotate_left
             ·intro w'; go_simp; with_reducible rfl
             rotate_left
             ·simp only [Act.put, sA_, sB_, sC_, i64_w, i32_w]; rfl
             refine pure_ (i := 19) (N := some 154) (v := undef) (a' := ?_) (fB 46 1048575) rfl rfl (any_of HT_.out (by kernel_rfl)) (fun _ _ _ h => h) (Or.inr ⟨by rfl, rfl⟩) ?_ ?_
             rotate_left
             ·simp only [Act.put, sA_, sB_, sC_, i64_w, i32_w]; rfl
             refine pure_ (i := 20) (N := some 155) (v := undef) (a' := ?_) (fB 46 2097151) rfl rfl (any_of HT_.out (by kernel_rfl)) (fun _ _ _ h => h) (Or.inr ⟨by rfl, rfl⟩) ?_ ?_
             rotate_left
             ·simp only [Act.put, sA_, sB_, sC_, i64_w, i32_w]; rfl
             refine pure_ (i := 21) (N := some 156) (v := undef) (a' := ?_) (fB 46 4194303) rfl rfl (any_of HT_.out (by kernel_rfl)) (fun _ _ _ h => h) (Or.inr ⟨by rfl, rfl⟩) ?_ ?_
             rotate_left
             ·simp only [Act.put, sA_, sB_, sC_, i64_w, i32_w]; rfl
             refine pure_ (i := 22) (N := some 157) (v := undef) (a' := ?_) (fB 46 8388607) rfl rfl (any_of HT_.out (by kernel_rfl)) (fun _ _ _ h => h) (Or.inr ⟨by rfl, rfl⟩) ?_ ?_
             rotate_left
             ·simp only [Act.put, sA_, sB_, sC_, i64_w, i32_w]; rfl
             refine pure_ (i := 23) (N := some 158) (v := undef) (a' := ?_) (fB 46 16777215) rfl rfl (any_of HT_.out (by kernel_rfl)) (fun _ _ _ h => h) (Or.inr ⟨by rfl, rfl⟩) ?_ ?_
             rotate_left
             ·simp only [Act.put, sA_, sB_, sC_, i64_w, i32_w]; rfl
             refine pure_ (i := 24) (N := some 159) (v := undef) (a' := ?_) (fB 46 33554431) rfl rfl (any_of HT_.out (by kernel_rfl)) (fun _ _ _ h => h) (Or.inr ⟨by rfl, rfl⟩) ?_ ?_
             rotate_left
             ·simp only [Act.put, sA_, sB_, sC_, i64_w, i32_w]; rfl
             refine pure_ (i := 25) (N := some 160) (v := undef) (a' := ?_) (fB 46 67108863) rfl rfl (any_of HT_.out (by kernel_rfl)) (fun _ _ _ h => h) (Or.inr ⟨by rfl, rfl⟩) ?_ ?_
             rotate_left
             ·simp only [Act.put, sA_, sB_, sC_, i64_w, i32_w]; rfl
             refine pure_ (i := 26) (N := some 161) (v := undef) (a' := ?_) (fB 46 134217727) rfl rfl (any_of HT_.out (by kernel_rfl)) (fun _ _ _ h => h) (Or.inr ⟨by rfl, rfl⟩) ?_ ?_
             rotate_left
             ·simp only [Act.put, sA_, sB_, sC_, i64_w, i32_w]; rfl
             refine pure_ (i := 27) (N := some 162) (v := undef) (a' := ?_) (fB 46 268435455) rfl rfl (any_of HT_.out (by kernel_rfl)) (fun _ _ _ h => h) (Or.inr ⟨by rfl, rfl⟩) ?_ ?_
             rotate_left
             ·simp only [Act.put, sA_, sB_, sC_, i64_w, i32_w]; rfl
             refine pure_ (i := 28) (N := some 163) (v := undef) (a' := ?_) (fB 46 536870911) rfl rfl (any_of HT_.out (by kernel_rfl)) (fun _ _ _ h => h) (Or.inr ⟨by rfl, rfl⟩) ?_ ?_
             rotate_left
             ·simp only [Act.put, sA_, sB_, sC_, i64_w, i32_w]; rfl
             refine pure_ (i := 29) (N := some 164) (v := undef) (a' := ?_) (fB 46 1073741823) rfl rfl (any_of HT_.out (by kernel_rfl)) (fun _ _ _ h => h) (Or.inr ⟨by rfl, rfl⟩) ?_ ?_
             rotate_left
             ·simp only [Act.put, sA_, sB_, sC_, i64_w, i32_w]; rfl
             refine pure_ (i := 30) (N := some 165) (v := undef) (a' := ?_) (fB 46 2147483647) rfl rfl (any_of HT_.out (by kernel_rfl)) (fun _ _ _ h => h) (Or.inr ⟨by rfl, rfl⟩) ?_ ?_
             rotate_left
             ·simp only [Act.put, sA_, sB_, sC_, i64_w, i32_w]; rfl
             refine pure_ (i := 31) (N := some 166) (v := undef) (a' := ?_) (fB 46 4294967295) rfl rfl (any_of HT_.out (by kernel_rfl)) (fun _ _ _ h => h) (Or.inr ⟨by rfl, rfl⟩) ?_ ?_
             rotate_left
             ·simp only [Act.put, sA_, sB_, sC_, i64_w, i32_w]; rfl
             refine pure_ (i := 32) (N := some 167) (v := undef) (a' := ?_) (fB 46 8589934591) rfl rfl (any_of HT_.out (by kernel_rfl)) (fun _ _ _ h => h) (Or.inr ⟨by rfl, rfl⟩) ?_ ?_
             rotate_left
             ·simp only [Act.put, sA_, sB_, sC_, i64_w, i32_w]; rfl
             refine pure_ (i := 33) (N := some 168) (v := undef) (a' := ?_) (fB 46 17179869183) rfl rfl (any_of HT_.out (by kernel_rfl)) (fun _ _ _ h => h) (Or.inr ⟨by rfl, rfl⟩) ?_ ?_
             rotate_left
             ·simp only [Act.put, sA_, sB_, sC_, i64_w, i32_w]; rfl
             refine pure_ (i := 34) (N := some 169) (v := undef) (a' := ?_) (fB 46 34359738367) rfl rfl (any_of HT_.out (by kernel_rfl)) (fun _ _ _ h => h) (Or.inr ⟨by rfl, rfl⟩) ?_ ?_
             rotate_left
             ·simp only [Act.put, sA_, sB_, sC_, i64_w, i32_w]; rfl
             refine pure_ (i := 35) (N := some 170) (v := undef) (a' := ?_) (fB 46 68719476735) rfl rfl (any_of HT_.out (by kernel_rfl)) (fun _ _ _ h => h) (Or.inr ⟨by rfl, rfl⟩) ?_ ?_
             rotate_left
             ·simp only [Act.put, sA_, sB_, sC_, i64_w, i32_w]; rfl
             refine pure_ (i := 36) (N := some 171) (v := undef) (a' := ?_) (fB 46 137438953471) rfl rfl (any_of HT_.out (by kernel_rfl)) (fun _ _ _ h => h) (Or.inr ⟨by rfl, rfl⟩) ?_ ?_
             rotate_left
             ·simp only [Act.put, sA_, sB_, sC_, i64_w, i32_w]; rfl
             refine pure_ (i := 37) (N := some 172) (v := undef) (a' := ?_) (fB 46 274877906943) rfl rfl (any_of HT_.out (by kernel_rfl)) (fun _ _ _ h => h) (Or.inr ⟨by rfl, rfl⟩) ?_ ?_
             rotate_left
             ·simp only [Act.put, sA_, sB_, sC_, i64_w, i32_w]; rfl
             refine pure_ (i := 38) (N := some 173) (v := undef) (a' := ?_) (fB 46 549755813887) rfl rfl (any_of HT_.out (by kernel_rfl)) (fun _ _ _ h => h) (Or.inr ⟨by rfl, rfl⟩) ?_ ?_
             rotate_left
             ·simp only [Act.put, sA_, sB_, sC_, i64_w, i32_w]; rfl
             refine pure_ (i := 39) (N := some 174) (v := undef) (a' := ?_) (fB 46 1099511627775) rfl rfl (any_of HT_.out (by kernel_rfl)) (fun _ _ _ h => h) (Or.inr ⟨by rfl, rfl⟩) ?_ ?_
             rotate_left
             ·simp only [Act.put, sA_, sB_, sC_, i64_w, i32_w]; rfl
             refine pure_ (i := 40) (N := some 175) (v := undef) (a' := ?_) (fB 46 2199023255551) rfl rfl (any_of HT_.out (by kernel_rfl)) (fun _ _ _ h => h) (Or.inr ⟨by rfl, rfl⟩) ?_ ?_
             rotate_left
             ·simp only [Act.put, sA_, sB_, sC_, i64_w, i32_w]; rfl
             refine pure_ (i := 41) (N := some 176) (v := undef) (a' := ?_) (fB 46 4398046511103) rfl rfl (any_of HT_.out (by kernel_rfl)) (fun _ _ _ h => h) (Or.inr ⟨by rfl, rfl⟩) ?_ ?_
             rotate_left
             ·simp only [Act.put, sA_, sB_, sC_, i64_w, i32_w]; rfl
             refine pure_ (i := 42) (N := some 177) (v := undef) (a' := ?_) (fB 46 8796093022207) rfl rfl (any_of HT_.out (by kernel_rfl)) (fun _ _ _ h => h) (Or.inr ⟨by rfl, rfl⟩) ?_ ?_
             rotate_left
             ·simp only [Act.put, sA_, sB_, sC_, i64_w, i32_w]; rfl
             refine pure_ (i := 43) (N := some 178) (v := ?_) (a' := ?_) (fB 46 17592186044415) rfl rfl (any_of HT_.out (by kernel_rfl)) (fun _ _ _ h => h) (Or.inl ⟨by rfl, ?_⟩) ?_ ?_
             rotate_left
             ·intro w'; go_simp; with_reducible rfl
             rotate_left
             ·simp only [Act.put, sA_, sB_, sC_, i64_w, i32_w]; rfl
             refine pure_ (i := 44) (N := some 179) (v := ?_) (a' := ?_) (fB 46 35184372088831) rfl rfl (any_of HT_.out (by kernel_rfl)) (fun _ _ _ h => h) (Or.inl ⟨by rfl, ?_⟩) ?_ ?_
             rotate_left
             ·intro w'; go_simp; with_reducible rfl
             rotate_left
             ·simp only [Act.put, sA_, sB_, sC_, i64_w, i32_w]; rfl
             refine pure_ (i := 45) (N := some 2) (v := ?_) (a' := ?_) (fB 46 70368744177663) rfl rfl (any_of HT_.out (by kernel_rfl)) (fun _ _ _ h => h) (Or.inl ⟨by rfl, ?_⟩) ?_ ?_
             rotate_left
             ·intro w'; go_simp; with_reducible rfl
             rotate_left
             ·simp only [Act.put, sA_, sB_, sC_, i64_w, i32_w]; rfl
             refine done_ (done_of HT_.out (by kernel_rfl)) ?_
             try go_wp2
             go_ret
             exact ⟨by first | rfl | (simp [errW_none, errW_some] <;> rfl) | (simp [*, errW_none, errW_some] <;> rfl), by repeat (first | (with_reducible first | exact HB.out | apply below_alloc | apply pw_below_drewN | apply below_drew1 | refine bS ?_ GE340.out | refine bS ?_ GE345.out | refine bS ?_ GE351.out | refine bS ?_ GE357.out | refine bS ?_ GE363.out | refine bS ?_ GE368.out | refine bS ?_ GE374.out) | exact HB.out)⟩
            ·rw [if_neg c174] at H
             have c174b0 : decide (2147483647 < t339) = false := decide_eq_false c174
             clear c174
             by_cases c184 : t344 = t339
             ·rw [if_pos c184] at H
              have c184b0 : (t344 == t339) = true := beq_iff_eq.mpr c184
              have c184b1 : (t344 != t339) = false := bne_eq_false_iff_eq.mpr c184
              clear c184
              replace H := Option.bind_eq_some_iff.mp H
              obtain ⟨⟨t396, t397, t398, t399⟩, A1850, H⟩ := H
              replace H : ((impl_Refill.f kj95 t396 t397 t398 t399 t339).bind fun bt400 => (if (bt400.1 == t341 && (bt400.2.1 == t342 && (bt400.2.2.1 == t343 && (bt400.2.2.2 == t344)))) = true then ((impl_MostIn.f t335 t336 t337 t338 (wrap64 (t339 - t338))).bind fun t404 => (some (decide (t343 ≤ t404)))) else (some false))) = some r := H
              have A185 := Aside0.mk A1850
              clear A1850
              replace H := Option.bind_eq_some_iff.mp H
              obtain ⟨⟨t400, t401, t402, t403⟩, A1860, H⟩ := H
              replace H : (if (t400 == t341 && (t401 == t342 && (t402 == t343 && (t403 == t344)))) = true then ((impl_MostIn.f t335 t336 t337 t338 (wrap64 (t339 - t338))).bind fun t404 => (some (decide (t343 ≤ t404)))) else (some false)) = some r := H
              have A186 := Aside0.mk A1860
              clear A1860
              by_cases c187 : (t400 == t341 && (t401 == t342 && (t402 == t343 && (t403 == t344)))) = true
              ·rw [if_pos c187] at H
               have c187b0 : (t400 == t341 && (t401 == t342 && (t402 == t343 && (t403 == t344)))) = true := c187
               (try (have c187b1 : decide (t400 = t341 && (t401 == t342 && (t402 == t343 && (t403 == t344)))) = true := by simpa using c187))
               (try (have c187b2 : (t400 == t341 && (t401 == t342 && (t402 == t343 && (t403 == t344)))) = true := by simpa using c187))
               clear c187
               replace H := Option.bind_eq_some_iff.mp H
               obtain ⟨t404, A1880, H⟩ := H
               replace H : (some (decide (t343 ≤ t404))) = some r := H
               have A188 := Aside0.mk A1880
               clear A1880
               obtain rfl := Option.some.inj H
               have hnb189 := NB340_345.out
               have hnc189 := NB345_340.out
               have hnb190 := NB340_351.out
               have hnc190 := NB351_340.out
               have hnb191 := NB340_357.out
               have hnc191 := NB357_340.out
               have hnb192 := NB340_363.out
               have hnc192 := NB363_340.out
               have hnb193 := NB340_368.out
               have hnc193 := NB368_340.out
               have hnb194 := NB340_374.out
               have hnc194 := NB374_340.out
               have hcz195_0 : wc.cell? ⟨gb340, 0, none⟩ = some (.int .i64 t335) := (bC BK340.out 0).trans rfl
               have hcz195_1 : wc.cell? ⟨gb340, 1, none⟩ = some (.int .i64 t336) := (bC BK340.out 1).trans rfl
               have hcz195_2 : wc.cell? ⟨gb340, 2, none⟩ = some (.int .i64 t337) := (bC BK340.out 2).trans rfl
               have hcz195_3 : wc.cell? ⟨gb340, 3, none⟩ = some (.int .i64 t338) := (bC BK340.out 3).trans rfl
               have hfz195_0 := blk_frozen BK340.out 0
               have hfz195_1 := blk_frozen BK340.out 1
               have hfz195_2 := blk_frozen BK340.out 2
               have hfz195_3 := blk_frozen BK340.out 3
               try go_wp2
               have n0_ := Aside0.mk (bD BK340.out)
               have n1_ := Aside0.mk (bD BK345.out)
               have n2_ := Aside0.mk (bD BK351.out)
               have n3_ := Aside0.mk (bD BK357.out)
               have n4_ := Aside0.mk (bD BK363.out)
               have n5_ := Aside0.mk (bD BK368.out)
               have n6_ := Aside0.mk (bD BK374.out)
               have n7_ := Aside0.mk (below_drew1 HB.out)
               clear BK340 BK345 BK351 BK357 BK363 BK368 BK374
               clear HB
               have BK340 := n0_
               have BK345 := n1_
               have BK351 := n2_
               have BK357 := n3_
               have BK363 := n4_
               have BK368 := n5_
               have BK374 := n6_
               have HB := n7_
               clear n0_ n1_ n2_ n3_ n4_ n5_ n6_ n7_
               refine start_ (n := 46) (S := fun w' => w'.cell? ⟨gb345, 0, none⟩ = some (.int .i64 t341) ∧ w'.cell? ⟨gb345, 1, none⟩ = some (.int .i64 t342) ∧ w'.cell? ⟨gb345, 2, none⟩ = some (.int .i64 t343) ∧ w'.cell? ⟨gb345, 3, none⟩ = some (.int .i64 t344) ∧ w'.cell? ⟨gb340, 0, none⟩ = some (.int .i64 t335) ∧ w'.cell? ⟨gb340, 1, none⟩ = some (.int .i64 t336) ∧ w'.cell? ⟨gb340, 2, none⟩ = some (.int .i64 t337) ∧ w'.cell? ⟨gb340, 3, none⟩ = some (.int .i64 t338)) (ds := []) #[false, false, false, false, false, false, false, false, false, false, false, false, false, false, false, false, false, false, false, false, false, false, false, false, false, false, false, false, false, false, false, false, false, false, false, false, false, false, false, false, false, false, false, false, false, false] (by kernel_rfl) rfl rfl ⟨(bC BK345.out 0).trans rfl, (bC BK345.out 1).trans rfl, (bC BK345.out 2).trans rfl, (bC BK345.out 3).trans rfl, (bC BK340.out 0).trans rfl, (bC BK340.out 1).trans rfl, (bC BK340.out 2).trans rfl, (bC BK340.out 3).trans rfl⟩ (fun hHeld => ?_); refine with_tabW laws_FnBuckets.tab18 laws_FnBuckets.bits18 (fun HT_ HW_ => ?_)
               generalize wc.drew = w196 at BK340 BK345 BK351 BK357 BK363 BK368 BK374 HB hHeld ⊢
               refine take_ (i := 0) (N := some 135) (v := ?_) (a' := ?_) (fB 46 1) rfl rfl (take_ofW HT_.out HW_.out (by kernel_rfl)) (fun _ _ _ h => h) (Or.inl ⟨by rfl, ?_⟩) hHeld ?_ ?_
               rotate_left
               ·rintro w' ⟨s0, s1, s2, s3, s4, s5, s6, s7⟩; go_simp; with_reducible rfl
               rotate_left
               ·simp only [Act.put, sA_, sB_, sC_, i64_w, i32_w]; rfl
               refine one_ (i := 1) (N := some 136) (fB 46 3) rfl rfl (one_of HT_.out (by kernel_rfl)) (by decide) (fun K hK => ?_)
               refine goes_ Try.func67 (by kernel_rfl) rfl #[.agg #[.int .i64 t341, .int .i64 t342, .int .i64 t343, .int .i64 t344]] (by rfl) rfl rfl (by (try simp only [List.map_toArray, List.map_cons, List.map_nil]); first | done | rfl | (simp only [List.length_drop, List.length_take]; rfl)) ?_
               with_reducible refine (impl_BucketOk.calls t341 t342 t343 t344 true _ A161.out).mono ?_
               rintro e w197 ⟨rfl, hb⟩
               refine ⟨_, rfl, ?_⟩
               have n0_ := Aside0.mk (bB (g := gb340) (o := .cells #[.int .i64 t335, .int .i64 t336, .int .i64 t337, .int .i64 t338] 31 (0, 0)) (by (with_reducible repeat (first | refine bN ?_ _ | refine bD ?_ | refine bA ?_ _)); exact BK340.out) hb)
               have n1_ := Aside0.mk (bB (g := gb345) (o := .cells #[.int .i64 t341, .int .i64 t342, .int .i64 t343, .int .i64 t344] 31 (0, 0)) (by (with_reducible repeat (first | refine bN ?_ _ | refine bD ?_ | refine bA ?_ _)); exact BK345.out) hb)
               have n2_ := Aside0.mk (bB (g := gb351) (o := .cells #[.int .i64 t346, .int .i64 t347, .int .i64 t348, .int .i64 t349] 31 (0, 0)) (by (with_reducible repeat (first | refine bN ?_ _ | refine bD ?_ | refine bA ?_ _)); exact BK351.out) hb)
               have n3_ := Aside0.mk (bB (g := gb357) (o := .cells #[.int .i64 t352, .int .i64 t353, .int .i64 t354, .int .i64 t355] 31 (0, 0)) (by (with_reducible repeat (first | refine bN ?_ _ | refine bD ?_ | refine bA ?_ _)); exact BK357.out) hb)
               have n4_ := Aside0.mk (bB (g := gb363) (o := .cells #[.int .i64 t358, .int .i64 t359, .int .i64 t360, .int .i64 t361] 31 (0, 0)) (by (with_reducible repeat (first | refine bN ?_ _ | refine bD ?_ | refine bA ?_ _)); exact BK363.out) hb)
               have n5_ := Aside0.mk (bB (g := gb368) (o := .cells #[.int .i64 t364, .int .i64 t365, .int .i64 t366, .int .i64 t367] 31 (0, 0)) (by (with_reducible repeat (first | refine bN ?_ _ | refine bD ?_ | refine bA ?_ _)); exact BK368.out) hb)
               have n6_ := Aside0.mk (bB (g := gb374) (o := .cells #[.int .i64 t369, .int .i64 t370, .int .i64 t371, .int .i64 t372] 31 (0, 0)) (by (with_reducible repeat (first | refine bN ?_ _ | refine bD ?_ | refine bA ?_ _)); exact BK374.out) hb)
               have n7_ := Aside0.mk (below_step (by repeat (first | (with_reducible first | exact HB.out | apply below_alloc | apply pw_below_drewN | apply below_drew1 | refine bS ?_ GE340.out | refine bS ?_ GE345.out | refine bS ?_ GE351.out | refine bS ?_ GE357.out | refine bS ?_ GE363.out | refine bS ?_ GE368.out | refine bS ?_ GE374.out) | exact HB.out)) hb)
               clear BK340 BK345 BK351 BK357 BK363 BK368 BK374
               clear HB
               have BK340 := n0_
               have BK345 := n1_
               have BK351 := n2_
               have BK357 := n3_
               have BK363 := n4_
               have BK368 := n5_
               have BK374 := n6_
               have HB := n7_
               clear n0_ n1_ n2_ n3_ n4_ n5_ n6_ n7_
               (try clear hb)
               (try clear hb2)
               (try clear hk)
               (try clear hi)
               refine hK.out _ _ ⟨(bC BK345.out 0).trans rfl, (bC BK345.out 1).trans rfl, (bC BK345.out 2).trans rfl, (bC BK345.out 3).trans rfl, (bC BK340.out 0).trans rfl, (bC BK340.out 1).trans rfl, (bC BK340.out 2).trans rfl, (bC BK340.out 3).trans rfl⟩ (fun hHeld => ?_)
               clear hK K
               refine norm_ (a' := ?_) ?_ ?_
               rotate_left
               ·show Act.put _ (some 136) _ = _
                simp only [Act.put, sA_, sB_, sC_, i64_w, i32_w]
                rfl
               refine pure_ (i := 2) (N := some 137) (v := ?_) (a' := ?_) (fB 46 7) rfl rfl (any_of HT_.out (by kernel_rfl)) (fun _ _ _ h => h) (Or.inl ⟨by rfl, ?_⟩) ?_ ?_
               rotate_left
               ·intro w'; go_simp; with_reducible rfl
               rotate_left
               ·simp only [Act.put, sA_, sB_, sC_, i64_w, i32_w]; rfl
               refine pure_ (i := 3) (N := some 138) (v := ?_) (a' := ?_) (fB 46 15) rfl rfl (any_of HT_.out (by kernel_rfl)) (fun _ _ _ h => h) (Or.inl ⟨by rfl, ?_⟩) ?_ ?_
               rotate_left
               ·intro w'; go_simp; with_reducible rfl
               rotate_left
               ·simp only [Act.put, sA_, sB_, sC_, i64_w, i32_w]; rfl
               refine pure_ (i := 5) (N := some 140) (v := ?_) (a' := ?_) (fB 46 47) rfl rfl (any_of HT_.out (by kernel_rfl)) (fun _ _ _ h => h) (Or.inl ⟨by rfl, ?_⟩) ?_ ?_
               rotate_left
               ·intro w'; go_simp; with_reducible rfl
               rotate_left
               ·simp only [Act.put, sA_, sB_, sC_, i64_w, i32_w]; rfl
               refine take_ (i := 4) (N := some 139) (v := ?_) (a' := ?_) (fB 46 63) rfl rfl (take_ofW HT_.out HW_.out (by kernel_rfl)) (fun _ _ _ h => h) (Or.inl ⟨by rfl, ?_⟩) hHeld ?_ ?_
               rotate_left
               ·rintro w' ⟨s0, s1, s2, s3, s4, s5, s6, s7⟩; go_simp; with_reducible rfl
               rotate_left
               ·simp only [Act.put, sA_, sB_, sC_, i64_w, i32_w]; rfl
               refine take_ (i := 6) (N := some 141) (v := ?_) (a' := ?_) (fB 46 127) rfl rfl (take_ofW HT_.out HW_.out (by kernel_rfl)) (fun _ _ _ h => h) (Or.inl ⟨by rfl, ?_⟩) hHeld ?_ ?_
               rotate_left
               ·rintro w' ⟨s0, s1, s2, s3, s4, s5, s6, s7⟩; go_simp; with_reducible rfl
               rotate_left
               ·simp only [Act.put, sA_, sB_, sC_, i64_w, i32_w]; rfl
               refine pure_ (i := 7) (N := some 142) (v := ?_) (a' := ?_) (fB 46 255) rfl rfl (any_of HT_.out (by kernel_rfl)) (fun _ _ _ h => h) (Or.inl ⟨by rfl, ?_⟩) ?_ ?_
               rotate_left
               ·intro w'; go_simp; with_reducible rfl
               rotate_left
               ·simp only [Act.put, sA_, sB_, sC_, i64_w, i32_w]; rfl
               refine pure_ (i := 8) (N := some 143) (v := ?_) (a' := ?_) (fB 46 511) rfl rfl (any_of HT_.out (by kernel_rfl)) (fun _ _ _ h => h) (Or.inl ⟨by rfl, ?_⟩) ?_ ?_
               rotate_left
               ·intro w'; go_simp; with_reducible rfl
               rotate_left
               ·simp only [Act.put, sA_, sB_, sC_, i64_w, i32_w]; rfl
               refine pure_ (i := 9) (N := some 144) (v := ?_) (a' := ?_) (fB 46 1023) rfl rfl (any_of HT_.out (by kernel_rfl)) (fun _ _ _ h => h) (Or.inl ⟨by rfl, ?_⟩) ?_ ?_
               rotate_left
               ·intro w'; go_simp; with_reducible rfl
               rotate_left
               ·simp only [Act.put, sA_, sB_, sC_, i64_w, i32_w]; rfl
               refine pure_ (i := 10) (N := some 145) (v := ?_) (a' := ?_) (fB 46 2047) rfl rfl (any_of HT_.out (by kernel_rfl)) (fun _ _ _ h => h) (Or.inl ⟨by rfl, ?_⟩) ?_ ?_
               rotate_left
               ·intro w'; go_simp; with_reducible rfl
               rotate_left
               ·simp only [Act.put, sA_, sB_, sC_, i64_w, i32_w]; rfl
               refine pure_ (i := 11) (N := some 146) (v := ?_) (a' := ?_) (fB 46 4095) rfl rfl (any_of HT_.out (by kernel_rfl)) (fun _ _ _ h => h) (Or.inl ⟨by rfl, ?_⟩) ?_ ?_
               rotate_left
               ·intro w'; go_simp; with_reducible rfl
               rotate_left
               ·simp only [Act.put, sA_, sB_, sC_, i64_w, i32_w]; rfl
               refine take_ (i := 12) (N := some 147) (v := ?_) (a' := ?_) (fB 46 8191) rfl rfl (take_ofW HT_.out HW_.out (by kernel_rfl)) (fun _ _ _ h => h) (Or.inl ⟨by rfl, ?_⟩) hHeld ?_ ?_
               rotate_left
               ·rintro w' ⟨s0, s1, s2, s3, s4, s5, s6, s7⟩; go_simp; with_reducible rfl
               rotate_left
               ·simp only [Act.put, sA_, sB_, sC_, i64_w, i32_w]; rfl
               refine pure_ (i := 13) (N := some 148) (v := ?_) (a' := ?_) (fB 46 16383) rfl rfl (any_of HT_.out (by kernel_rfl)) (fun _ _ _ h => h) (Or.inl ⟨by rfl, ?_⟩) ?_ ?_
               rotate_left
               ·intro w'; go_simp; with_reducible rfl
               rotate_left
               ·simp only [Act.put, sA_, sB_, sC_, i64_w, i32_w]; rfl
               refine pure_ (i := 14) (N := some 149) (v := ?_) (a' := ?_) (fB 46 32767) rfl rfl (any_of HT_.out (by kernel_rfl)) (fun _ _ _ h => h) (Or.inl ⟨by rfl, ?_⟩) ?_ ?_
               rotate_left
               ·intro w'; go_simp; with_reducible rfl
               rotate_left
               ·simp only [Act.put, sA_, sB_, sC_, i64_w, i32_w]; rfl
               refine pure_ (i := 15) (N := some 150) (v := ?_) (a' := ?_) (fB 46 65535) rfl rfl (any_of HT_.out (by kernel_rfl)) (fun _ _ _ h => h) (Or.inl ⟨by rfl, ?_⟩) ?_ ?_
               rotate_left
               ·intro w'; go_simp; with_reducible rfl
               rotate_left
               ·simp only [Act.put, sA_, sB_, sC_, i64_w, i32_w]; rfl
               refine pure_ (i := 16) (N := some 151) (v := ?_) (a' := ?_) (fB 46 131071) rfl rfl (any_of HT_.out (by kernel_rfl)) (fun _ _ _ h => h) (Or.inl ⟨by rfl, ?_⟩) ?_ ?_
               rotate_left
               ·intro w'; go_simp; with_reducible rfl
               rotate_left
               ·simp only [Act.put, sA_, sB_, sC_, i64_w, i32_w]; rfl
               refine pure_ (i := 17) (N := some 152) (v := ?_) (a' := ?_) (fB 46 262143) rfl rfl (any_of HT_.out (by kernel_rfl)) (fun _ _ _ h => h) (Or.inl ⟨by rfl, ?_⟩) ?_ ?_
               rotate_left
               ·intro w'; go_simp; with_reducible rfl
               rotate_left
               ·simp only [Act.put, sA_, sB_, sC_, i64_w, i32_w]; rfl
               refine pure_ (i := 18) (N := some 153) (v := ?_) (a' := ?_) (fB 46 524287) rfl rfl (any_of HT_.out (by kernel_rfl)) (fun _ _ _ h => h) (Or.inl ⟨by rfl, ?_⟩) ?_ ?_
               rotate_left
               ·intro w'; go_simp; with_reducible rfl
               rotate_left
               ·simp only [Act.put, sA_, sB_, sC_, i64_w, i32_w]; rfl
               refine pure_ (i := 19) (N := some 154) (v := ?_) (a' := ?_) (fB 46 1048575) rfl rfl (any_of HT_.out (by kernel_rfl)) (fun _ _ _ h => h) (Or.inl ⟨by rfl, ?_⟩) ?_ ?_
               rotate_left
               ·intro w'; go_simp; with_reducible rfl
               rotate_left
               ·simp only [Act.put, sA_, sB_, sC_, i64_w, i32_w]; rfl
               refine pure_ (i := 21) (N := some 156) (v := ?_) (a' := ?_) (fB 46 3145727) rfl rfl (any_of HT_.out (by kernel_rfl)) (fun _ _ _ h => h) (Or.inl ⟨by rfl, ?_⟩) ?_ ?_
               rotate_left
               ·intro w'; go_simp; with_reducible rfl
               rotate_left
               ·simp only [Act.put, sA_, sB_, sC_, i64_w, i32_w]; rfl
               refine take_ (i := 20) (N := some 155) (v := ?_) (a' := ?_) (fB 46 4194303) rfl rfl (take_ofW HT_.out HW_.out (by kernel_rfl)) (fun _ _ _ h => h) (Or.inl ⟨by rfl, ?_⟩) hHeld ?_ ?_
               rotate_left
               ·rintro w' ⟨s0, s1, s2, s3, s4, s5, s6, s7⟩; go_simp; with_reducible rfl
               rotate_left
               ·simp only [Act.put, sA_, sB_, sC_, i64_w, i32_w]; rfl
               refine pure_ (i := 22) (N := some 157) (v := ?_) (a' := ?_) (fB 46 8388607) rfl rfl (any_of HT_.out (by kernel_rfl)) (fun _ _ _ h => h) (Or.inl ⟨by rfl, ?_⟩) ?_ ?_
               rotate_left
               ·intro w'; go_simp; with_reducible rfl
               rotate_left
               ·simp only [Act.put, sA_, sB_, sC_, i64_w, i32_w]; rfl
               refine pure_ (i := 23) (N := some 158) (v := ?_) (a' := ?_) (fB 46 16777215) rfl rfl (any_of HT_.out (by kernel_rfl)) (fun _ _ _ h => h) (Or.inl ⟨by rfl, ?_⟩) ?_ ?_
               rotate_left
               ·intro w'; go_simp; with_reducible rfl
               rotate_left
               ·simp only [Act.put, sA_, sB_, sC_, i64_w, i32_w]; rfl
               refine pure_ (i := 25) (N := some 160) (v := ?_) (a' := ?_) (fB 46 50331647) rfl rfl (any_of HT_.out (by kernel_rfl)) (fun _ _ _ h => h) (Or.inl ⟨by rfl, ?_⟩) ?_ ?_
               rotate_left
               ·intro w'; go_simp; with_reducible rfl
               rotate_left
               ·simp only [Act.put, sA_, sB_, sC_, i64_w, i32_w]; rfl
               refine pure_ (i := 27) (N := some 162) (v := ?_) (a' := ?_) (fB 46 184549375) rfl rfl (any_of HT_.out (by kernel_rfl)) (fun _ _ _ h => h) (Or.inl ⟨by rfl, ?_⟩) ?_ ?_
               rotate_left
               ·intro w'; go_simp; with_reducible rfl
               rotate_left
               ·simp only [Act.put, sA_, sB_, sC_, i64_w, i32_w]; rfl
               refine take_ (i := 24) (N := some 159) (v := ?_) (a' := ?_) (fB 46 201326591) rfl rfl (take_ofW HT_.out HW_.out (by kernel_rfl)) (fun _ _ _ h => h) (Or.inl ⟨by rfl, ?_⟩) hHeld ?_ ?_
               rotate_left
               ·rintro w' ⟨s0, s1, s2, s3, s4, s5, s6, s7⟩; go_simp; with_reducible rfl
               rotate_left
               ·simp only [Act.put, sA_, sB_, sC_, i64_w, i32_w]; rfl
               refine take_ (i := 29) (N := some 164) (v := ?_) (a' := ?_) (fB 46 738197503) rfl rfl (take_ofW HT_.out HW_.out (by kernel_rfl)) (fun _ _ _ h => h) (Or.inl ⟨by rfl, ?_⟩) hHeld ?_ ?_
               rotate_left
               ·rintro w' ⟨s0, s1, s2, s3, s4, s5, s6, s7⟩; go_simp; with_reducible rfl
               rotate_left
               ·simp only [Act.put, sA_, sB_, sC_, i64_w, i32_w]; rfl
               refine one_ (i := 26) (N := some 161) (fB 46 805306367) rfl rfl (one_of HT_.out (by kernel_rfl)) (by decide) (fun K hK => ?_)
               refine goes_ Try.func24 (by kernel_rfl) rfl #[.agg #[.int .i64 t335, .int .i64 t336, .int .i64 t337, .int .i64 t338], .int .i64 (wrap64 (t338 + (wrap64 (Int.tdiv (wrap64 (t339 - t338)) 2))))] (by rfl) rfl rfl (by (try simp only [List.map_toArray, List.map_cons, List.map_nil]); first | done | rfl | (simp only [List.length_drop, List.length_take]; rfl)) ?_
               with_reducible refine (impl_Refill.calls kj95 t335 t336 t337 t338 (wrap64 (t338 + (wrap64 (Int.tdiv (wrap64 (t339 - t338)) 2)))) t396 t397 t398 t399 _ A185.out).mono ?_
               rintro e w198 ⟨rfl, hb⟩
               refine ⟨_, rfl, ?_⟩
               have n0_ := Aside0.mk (bB (g := gb340) (o := .cells #[.int .i64 t335, .int .i64 t336, .int .i64 t337, .int .i64 t338] 31 (0, 0)) (by (with_reducible repeat (first | refine bN ?_ _ | refine bD ?_ | refine bA ?_ _)); exact BK340.out) hb)
               have n1_ := Aside0.mk (bB (g := gb345) (o := .cells #[.int .i64 t341, .int .i64 t342, .int .i64 t343, .int .i64 t344] 31 (0, 0)) (by (with_reducible repeat (first | refine bN ?_ _ | refine bD ?_ | refine bA ?_ _)); exact BK345.out) hb)
               have n2_ := Aside0.mk (bB (g := gb351) (o := .cells #[.int .i64 t346, .int .i64 t347, .int .i64 t348, .int .i64 t349] 31 (0, 0)) (by (with_reducible repeat (first | refine bN ?_ _ | refine bD ?_ | refine bA ?_ _)); exact BK351.out) hb)
               have n3_ := Aside0.mk (bB (g := gb357) (o := .cells #[.int .i64 t352, .int .i64 t353, .int .i64 t354, .int .i64 t355] 31 (0, 0)) (by (with_reducible repeat (first | refine bN ?_ _ | refine bD ?_ | refine bA ?_ _)); exact BK357.out) hb)
               have n4_ := Aside0.mk (bB (g := gb363) (o := .cells #[.int .i64 t358, .int .i64 t359, .int .i64 t360, .int .i64 t361] 31 (0, 0)) (by (with_reducible repeat (first | refine bN ?_ _ | refine bD ?_ | refine bA ?_ _)); exact BK363.out) hb)
               have n5_ := Aside0.mk (bB (g := gb368) (o := .cells #[.int .i64 t364, .int .i64 t365, .int .i64 t366, .int .i64 t367] 31 (0, 0)) (by (with_reducible repeat (first | refine bN ?_ _ | refine bD ?_ | refine bA ?_ _)); exact BK368.out) hb)
               have n6_ := Aside0.mk (bB (g := gb374) (o := .cells #[.int .i64 t369, .int .i64 t370, .int .i64 t371, .int .i64 t372] 31 (0, 0)) (by (with_reducible repeat (first | refine bN ?_ _ | refine bD ?_ | refine bA ?_ _)); exact BK374.out) hb)
               have n7_ := Aside0.mk (below_step (by repeat (first | (with_reducible first | exact HB.out | apply below_alloc | apply pw_below_drewN | apply below_drew1 | refine bS ?_ GE340.out | refine bS ?_ GE345.out | refine bS ?_ GE351.out | refine bS ?_ GE357.out | refine bS ?_ GE363.out | refine bS ?_ GE368.out | refine bS ?_ GE374.out) | exact HB.out)) hb)
               clear BK340 BK345 BK351 BK357 BK363 BK368 BK374
               clear HB
               have BK340 := n0_
               have BK345 := n1_
               have BK351 := n2_
               have BK357 := n3_
               have BK363 := n4_
               have BK368 := n5_
               have BK374 := n6_
               have HB := n7_
               clear n0_ n1_ n2_ n3_ n4_ n5_ n6_ n7_
               (try clear hb)
               (try clear hb2)
               (try clear hk)
               (try clear hi)
               refine hK.out _ _ ⟨(bC BK345.out 0).trans rfl, (bC BK345.out 1).trans rfl, (bC BK345.out 2).trans rfl, (bC BK345.out 3).trans rfl, (bC BK340.out 0).trans rfl, (bC BK340.out 1).trans rfl, (bC BK340.out 2).trans rfl, (bC BK340.out 3).trans rfl⟩ (fun hHeld => ?_)
               clear hK K
               refine norm_ (a' := ?_) ?_ ?_
               rotate_left
               ·show Act.put _ (some 161) _ = _
                simp only [Act.put, sA_, sB_, sC_, i64_w, i32_w]
                rfl
               refine one_ (i := 28) (N := some 163) (fB 46 1073741823) rfl rfl (one_of HT_.out (by kernel_rfl)) (by decide) (fun K hK => ?_)
               refine goes_ Try.func24 (by kernel_rfl) rfl #[.agg #[.int .i64 t396, .int .i64 t397, .int .i64 t398, .int .i64 t399], .int .i64 t339] (by rfl) rfl rfl (by (try simp only [List.map_toArray, List.map_cons, List.map_nil]); first | done | rfl | (simp only [List.length_drop, List.length_take]; rfl)) ?_
               with_reducible refine (impl_Refill.calls kj95 t396 t397 t398 t399 t339 t400 t401 t402 t403 _ A186.out).mono ?_
               rintro e w199 ⟨rfl, hb⟩
               refine ⟨_, rfl, ?_⟩
               have n0_ := Aside0.mk (bB (g := gb340) (o := .cells #[.int .i64 t335, .int .i64 t336, .int .i64 t337, .int .i64 t338] 31 (0, 0)) (by (with_reducible repeat (first | refine bN ?_ _ | refine bD ?_ | refine bA ?_ _)); exact BK340.out) hb)
               have n1_ := Aside0.mk (bB (g := gb345) (o := .cells #[.int .i64 t341, .int .i64 t342, .int .i64 t343, .int .i64 t344] 31 (0, 0)) (by (with_reducible repeat (first | refine bN ?_ _ | refine bD ?_ | refine bA ?_ _)); exact BK345.out) hb)
               have n2_ := Aside0.mk (bB (g := gb351) (o := .cells #[.int .i64 t346, .int .i64 t347, .int .i64 t348, .int .i64 t349] 31 (0, 0)) (by (with_reducible repeat (first | refine bN ?_ _ | refine bD ?_ | refine bA ?_ _)); exact BK351.out) hb)
               have n3_ := Aside0.mk (bB (g := gb357) (o := .cells #[.int .i64 t352, .int .i64 t353, .int .i64 t354, .int .i64 t355] 31 (0, 0)) (by (with_reducible repeat (first | refine bN ?_ _ | refine bD ?_ | refine bA ?_ _)); exact BK357.out) hb)
               have n4_ := Aside0.mk (bB (g := gb363) (o := .cells #[.int .i64 t358, .int .i64 t359, .int .i64 t360, .int .i64 t361] 31 (0, 0)) (by (with_reducible repeat (first | refine bN ?_ _ | refine bD ?_ | refine bA ?_ _)); exact BK363.out) hb)
               have n5_ := Aside0.mk (bB (g := gb368) (o := .cells #[.int .i64 t364, .int .i64 t365, .int .i64 t366, .int .i64 t367] 31 (0, 0)) (by (with_reducible repeat (first | refine bN ?_ _ | refine bD ?_ | refine bA ?_ _)); exact BK368.out) hb)
               have n6_ := Aside0.mk (bB (g := gb374) (o := .cells #[.int .i64 t369, .int .i64 t370, .int .i64 t371, .int .i64 t372] 31 (0, 0)) (by (with_reducible repeat (first | refine bN ?_ _ | refine bD ?_ | refine bA ?_ _)); exact BK374.out) hb)
               have n7_ := Aside0.mk (below_step (by repeat (first | (with_reducible first | exact HB.out | apply below_alloc | apply pw_below_drewN | apply below_drew1 | refine bS ?_ GE340.out | refine bS ?_ GE345.out | refine bS ?_ GE351.out | refine bS ?_ GE357.out | refine bS ?_ GE363.out | refine bS ?_ GE368.out | refine bS ?_ GE374.out) | exact HB.out)) hb)
               clear BK340 BK345 BK351 BK357 BK363 BK368 BK374
               clear HB
               have BK340 := n0_
               have BK345 := n1_
               have BK351 := n2_
               have BK357 := n3_
               have BK363 := n4_
               have BK368 := n5_
               have BK374 := n6_
               have HB := n7_
               clear n0_ n1_ n2_ n3_ n4_ n5_ n6_ n7_
               (try clear hb)
               (try clear hb2)
               (try clear hk)
               (try clear hi)
               refine hK.out _ _ ⟨(bC BK345.out 0).trans rfl, (bC BK345.out 1).trans rfl, (bC BK345.out 2).trans rfl, (bC BK345.out 3).trans rfl, (bC BK340.out 0).trans rfl, (bC BK340.out 1).trans rfl, (bC BK340.out 2).trans rfl, (bC BK340.out 3).trans rfl⟩ (fun hHeld => ?_)
               clear hK K
               refine norm_ (a' := ?_) ?_ ?_
               rotate_left
               ·show Act.put _ (some 163) _ = _
                simp only [Act.put, sA_, sB_, sC_, i64_w, i32_w]
                rfl
               refine pure_ (i := 30) (N := some 165) (v := ?_) (a' := ?_) (fB 46 2147483647) rfl rfl (any_of HT_.out (by kernel_rfl)) (fun _ _ _ h => h) (Or.inl ⟨by rfl, ?_⟩) ?_ ?_
               rotate_left
               ·intro w'; go_simp; with_reducible rfl
               rotate_left
               ·simp only [Act.put, sA_, sB_, sC_, i64_w, i32_w]; rfl
               refine pure_ (i := 31) (N := some 166) (v := ?_) (a' := ?_) (fB 46 4294967295) rfl rfl (any_of HT_.out (by kernel_rfl)) (fun _ _ _ h => h) (Or.inl ⟨by rfl, ?_⟩) ?_ ?_
               rotate_left
               ·intro w'; go_simp; with_reducible rfl
               rotate_left
               ·simp only [Act.put, sA_, sB_, sC_, i64_w, i32_w]; rfl
               refine pure_ (i := 32) (N := some 167) (v := ?_) (a' := ?_) (fB 46 8589934591) rfl rfl (any_of HT_.out (by kernel_rfl)) (fun _ _ _ h => h) (Or.inl ⟨by rfl, ?_⟩) ?_ ?_
               rotate_left
               ·intro w'; go_simp; with_reducible rfl
               rotate_left
               ·simp only [Act.put, sA_, sB_, sC_, i64_w, i32_w]; rfl
               refine pure_ (i := 33) (N := some 168) (v := ?_) (a' := ?_) (fB 46 17179869183) rfl rfl (any_of HT_.out (by kernel_rfl)) (fun _ _ _ h => h) (Or.inl ⟨by rfl, ?_⟩) ?_ ?_
               rotate_left
               ·intro w'; go_simp; with_reducible rfl
               rotate_left
               ·simp only [Act.put, sA_, sB_, sC_, i64_w, i32_w]; rfl
               refine pure_ (i := 36) (N := some 171) (v := ?_) (a' := ?_) (fB 46 85899345919) rfl rfl (any_of HT_.out (by kernel_rfl)) (fun _ _ _ h => h) (Or.inl ⟨by rfl, ?_⟩) ?_ ?_
               rotate_left
               ·intro w'; go_simp; with_reducible rfl
               rotate_left
               ·simp only [Act.put, sA_, sB_, sC_, i64_w, i32_w]; rfl
               refine pure_ (i := 37) (N := some 172) (v := ?_) (a' := ?_) (fB 46 223338299391) rfl rfl (any_of HT_.out (by kernel_rfl)) (fun _ _ _ h => h) (Or.inl ⟨by rfl, ?_⟩) ?_ ?_
               rotate_left
               ·intro w'; go_simp; with_reducible rfl
               rotate_left
               ·simp only [Act.put, sA_, sB_, sC_, i64_w, i32_w]; rfl
               refine take_ (i := 34) (N := some 169) (v := ?_) (a' := ?_) (fB 46 240518168575) rfl rfl (take_ofW HT_.out HW_.out (by kernel_rfl)) (fun _ _ _ h => h) (Or.inl ⟨by rfl, ?_⟩) hHeld ?_ ?_
               rotate_left
               ·rintro w' ⟨s0, s1, s2, s3, s4, s5, s6, s7⟩; go_simp; with_reducible rfl
               rotate_left
               ·simp only [Act.put, sA_, sB_, sC_, i64_w, i32_w]; rfl
               refine take_ (i := 35) (N := some 170) (v := ?_) (a' := ?_) (fB 46 274877906943) rfl rfl (take_ofW HT_.out HW_.out (by kernel_rfl)) (fun _ _ _ h => h) (Or.inl ⟨by rfl, ?_⟩) hHeld ?_ ?_
               rotate_left
               ·rintro w' ⟨s0, s1, s2, s3, s4, s5, s6, s7⟩; go_simp; with_reducible rfl
               rotate_left
               ·simp only [Act.put, sA_, sB_, sC_, i64_w, i32_w]; rfl
               refine take_ (i := 38) (N := some 173) (v := ?_) (a' := ?_) (fB 46 549755813887) rfl rfl (take_ofW HT_.out HW_.out (by kernel_rfl)) (fun _ _ _ h => h) (Or.inl ⟨by rfl, ?_⟩) hHeld ?_ ?_
               rotate_left
               ·rintro w' ⟨s0, s1, s2, s3, s4, s5, s6, s7⟩; go_simp; with_reducible rfl
               rotate_left
               ·simp only [Act.put, sA_, sB_, sC_, i64_w, i32_w]; rfl
               refine pure_ (i := 39) (N := some 174) (v := ?_) (a' := ?_) (fB 46 1099511627775) rfl rfl (any_of HT_.out (by kernel_rfl)) (fun _ _ _ h => h) (Or.inl ⟨by rfl, ?_⟩) ?_ ?_
               rotate_left
               ·intro w'; go_simp; with_reducible rfl
               rotate_left
               ·simp only [Act.put, sA_, sB_, sC_, i64_w, i32_w]; rfl
               refine one_ (i := 40) (N := some 175) (fB 46 2199023255551) rfl rfl (one_of HT_.out (by kernel_rfl)) (by decide) (fun K hK => ?_)
               refine goes_ Try.func69 (by kernel_rfl) rfl #[.agg #[.int .i64 t335, .int .i64 t336, .int .i64 t337, .int .i64 t338], .int .i64 (wrap64 (t339 - t338))] (by rfl) rfl rfl (by (try simp only [List.map_toArray, List.map_cons, List.map_nil]); first | done | rfl | (simp only [List.length_drop, List.length_take]; rfl)) ?_
               with_reducible refine (impl_MostIn.calls t335 t336 t337 t338 (wrap64 (t339 - t338)) t404 _ A188.out).mono ?_
               rintro e w200 ⟨rfl, hb⟩
               refine ⟨_, rfl, ?_⟩
               have n0_ := Aside0.mk (bB (g := gb340) (o := .cells #[.int .i64 t335, .int .i64 t336, .int .i64 t337, .int .i64 t338] 31 (0, 0)) (by (with_reducible repeat (first | refine bN ?_ _ | refine bD ?_ | refine bA ?_ _)); exact BK340.out) hb)
               have n1_ := Aside0.mk (bB (g := gb345) (o := .cells #[.int .i64 t341, .int .i64 t342, .int .i64 t343, .int .i64 t344] 31 (0, 0)) (by (with_reducible repeat (first | refine bN ?_ _ | refine bD ?_ | refine bA ?_ _)); exact BK345.out) hb)
               have n2_ := Aside0.mk (bB (g := gb351) (o := .cells #[.int .i64 t346, .int .i64 t347, .int .i64 t348, .int .i64 t349] 31 (0, 0)) (by (with_reducible repeat (first | refine bN ?_ _ | refine bD ?_ | refine bA ?_ _)); exact BK351.out) hb)
               have n3_ := Aside0.mk (bB (g := gb357) (o := .cells #[.int .i64 t352, .int .i64 t353, .int .i64 t354, .int .i64 t355] 31 (0, 0)) (by (with_reducible repeat (first | refine bN ?_ _ | refine bD ?_ | refine bA ?_ _)); exact BK357.out) hb)
               have n4_ := Aside0.mk (bB (g := gb363) (o := .cells #[.int .i64 t358, .int .i64 t359, .int .i64 t360, .int .i64 t361] 31 (0, 0)) (by (with_reducible repeat (first | refine bN ?_ _ | refine bD ?_ | refine bA ?_ _)); exact BK363.out) hb)
               have n5_ := Aside0.mk (bB (g := gb368) (o := .cells #[.int .i64 t364, .int .i64 t365, .int .i64 t366, .int .i64 t367] 31 (0, 0)) (by (with_reducible repeat (first | refine bN ?_ _ | refine bD ?_ | refine bA ?_ _)); exact BK368.out) hb)
               have n6_ := Aside0.mk (bB (g := gb374) (o := .cells #[.int .i64 t369, .int .i64 t370, .int .i64 t371, .int .i64 t372] 31 (0, 0)) (by (with_reducible repeat (first | refine bN ?_ _ | refine bD ?_ | refine bA ?_ _)); exact BK374.out) hb)
               have n7_ := Aside0.mk (below_step (by repeat (first | (with_reducible first | exact HB.out | apply below_alloc | apply pw_below_drewN | apply below_drew1 | refine bS ?_ GE340.out | refine bS ?_ GE345.out | refine bS ?_ GE351.out | refine bS ?_ GE357.out | refine bS ?_ GE363.out | refine bS ?_ GE368.out | refine bS ?_ GE374.out) | exact HB.out)) hb)
               clear BK340 BK345 BK351 BK357 BK363 BK368 BK374
               clear HB
               have BK340 := n0_
               have BK345 := n1_
               have BK351 := n2_
               have BK357 := n3_
               have BK363 := n4_
               have BK368 := n5_
               have BK374 := n6_
               have HB := n7_
               clear n0_ n1_ n2_ n3_ n4_ n5_ n6_ n7_
               (try clear hb)
               (try clear hb2)
               (try clear hk)
               (try clear hi)
               refine hK.out _ _ ⟨(bC BK345.out 0).trans rfl, (bC BK345.out 1).trans rfl, (bC BK345.out 2).trans rfl, (bC BK345.out 3).trans rfl, (bC BK340.out 0).trans rfl, (bC BK340.out 1).trans rfl, (bC BK340.out 2).trans rfl, (bC BK340.out 3).trans rfl⟩ (fun hHeld => ?_)
               clear hK K
               refine norm_ (a' := ?_) ?_ ?_
               rotate_left
               ·show Act.put _ (some 175) _ = _
                simp only [Act.put, sA_, sB_, sC_, i64_w, i32_w]
                rfl
               refine pure_ (i := 41) (N := some 176) (v := ?_) (a' := ?_) (fB 46 4398046511103) rfl rfl (any_of HT_.out (by kernel_rfl)) (fun _ _ _ h => h) (Or.inl ⟨by rfl, ?_⟩) ?_ ?_
               rotate_left
               ·intro w'; go_simp; with_reducible rfl
               rotate_left
               ·simp only [Act.put, sA_, sB_, sC_, i64_w, i32_w]; rfl
               refine pure_ (i := 42) (N := some 177) (v := ?_) (a' := ?_) (fB 46 8796093022207) rfl rfl (any_of HT_.out (by kernel_rfl)) (fun _ _ _ h => h) (Or.inl ⟨by rfl, ?_⟩) ?_ ?_
               rotate_left
               ·intro w'; go_simp; with_reducible rfl
               rotate_left
               ·simp only [Act.put, sA_, sB_, sC_, i64_w, i32_w]; rfl
               refine pure_ (i := 43) (N := some 178) (v := ?_) (a' := ?_) (fB 46 17592186044415) rfl rfl (any_of HT_.out (by kernel_rfl)) (fun _ _ _ h => h) (Or.inl ⟨by rfl, ?_⟩) ?_ ?_
               rotate_left
               ·intro w'; go_simp; with_reducible rfl
               rotate_left
               ·simp only [Act.put, sA_, sB_, sC_, i64_w, i32_w]; rfl
               refine pure_ (i := 44) (N := some 179) (v := ?_) (a' := ?_) (fB 46 35184372088831) rfl rfl (any_of HT_.out (by kernel_rfl)) (fun _ _ _ h => h) (Or.inl ⟨by rfl, ?_⟩) ?_ ?_
               rotate_left
               ·intro w'; go_simp; with_reducible rfl
               rotate_left
               ·simp only [Act.put, sA_, sB_, sC_, i64_w, i32_w]; rfl
               refine pure_ (i := 45) (N := some 2) (v := ?_) (a' := ?_) (fB 46 70368744177663) rfl rfl (any_of HT_.out (by kernel_rfl)) (fun _ _ _ h => h) (Or.inl ⟨by rfl, ?_⟩) ?_ ?_
               rotate_left
               ·intro w'; go_simp; with_reducible rfl
               rotate_left
               ·simp only [Act.put, sA_, sB_, sC_, i64_w, i32_w]; rfl
               refine done_ (done_of HT_.out (by kernel_rfl)) ?_
               try go_wp2
               go_ret
               exact ⟨by first | rfl | (simp [errW_none, errW_some] <;> rfl) | (simp [*, errW_none, errW_some] <;> rfl), by repeat (first | (with_reducible first | exact HB.out | apply below_alloc | apply pw_below_drewN | apply below_drew1 | refine bS ?_ GE340.out | refine bS ?_ GE345.out | refine bS ?_ GE351.out | refine bS ?_ GE357.out | refine bS ?_ GE363.out | refine bS ?_ GE368.out | refine bS ?_ GE374.out) | exact HB.out)⟩
              ·rw [if_neg c187] at H
               have c187b0 : (t400 == t341 && (t401 == t342 && (t402 == t343 && (t403 == t344)))) = false := by simpa using c187
               (try (have c187b1 : decide (t400 = t341 && (t401 == t342 && (t402 == t343 && (t403 == t344)))) = false := by simpa using c187))
               (try (have c187b2 : (t400 == t341 && (t401 == t342 && (t402 == t343 && (t403 == t344)))) = false := by simpa using c187))
               (try (have c187b3 : ¬ (t400 = t341 && (t401 == t342 && (t402 == t343 && (t403 == t344)))) := by simpa using c187))
               clear c187
               exact absurd ((Option.some.inj H).trans hrt_.out) (by decide)
             ·rw [if_neg c184] at H
              have c184b0 : (t344 == t339) = false := beq_eq_false_iff_ne.mpr c184
              have c184b1 : (t344 != t339) = true := bne_iff_ne.mpr c184
              exact absurd ((Option.some.inj H).trans hrt_.out) (by decide)
          ·rw [if_neg c163] at H
           have c163b0 : decide (t337 ≤ t343) = false := decide_eq_false c163
           clear c163
           exact absurd ((Option.some.inj H).trans hrt_.out) (by decide)
         ·replace c162 := Bool.eq_false_iff.mpr c162
          subst c162
          have H1 : (some false) = some r := by rw [if_neg (show ¬ (false = true) by decide)] at H; exact H
          clear H
          have H := H1
          clear H1
          exact absurd ((Option.some.inj H).trans hrt_.out) (by decide)
     ·replace c95 := Bool.eq_false_iff.mpr c95
      subst c95
      have H1 : (some (t341 == t335 && (t342 == t336 && (t343 == t337 && (t344 == t338))))) = some r := by rw [if_neg (show ¬ (false = true) by decide)] at H; exact H
      clear H
      have H := H1
      clear H1
      obtain rfl := Option.some.inj H
      have hnb201 := NB340_345.out
      have hnc201 := NB345_340.out
      have hnb202 := NB340_351.out
      have hnc202 := NB351_340.out
      have hnb203 := NB340_357.out
      have hnc203 := NB357_340.out
      have hnb204 := NB340_363.out
      have hnc204 := NB363_340.out
      have hnb205 := NB340_368.out
      have hnc205 := NB368_340.out
      have hnb206 := NB340_374.out
      have hnc206 := NB374_340.out
      have hcz207_0 : wc.cell? ⟨gb340, 0, none⟩ = some (.int .i64 t335) := (bC BK340.out 0).trans rfl
      have hcz207_1 : wc.cell? ⟨gb340, 1, none⟩ = some (.int .i64 t336) := (bC BK340.out 1).trans rfl
      have hcz207_2 : wc.cell? ⟨gb340, 2, none⟩ = some (.int .i64 t337) := (bC BK340.out 2).trans rfl
      have hcz207_3 : wc.cell? ⟨gb340, 3, none⟩ = some (.int .i64 t338) := (bC BK340.out 3).trans rfl
      have hfz207_0 := blk_frozen BK340.out 0
      have hfz207_1 := blk_frozen BK340.out 1
      have hfz207_2 := blk_frozen BK340.out 2
      have hfz207_3 := blk_frozen BK340.out 3
      go_wp2_with (first | ((with_reducible refine gate_callee (f := 67) rfl ?_); refine goesL_ (some 98) rfl rfl Try.func67 (by kernel_rfl) rfl #[.agg #[.int .i64 t335, .int .i64 t336, .int .i64 t337, .int .i64 t338]] rfl (by (try simp only [List.map_toArray, List.map_cons, List.map_nil]); first | done | rfl | (simp only [List.length_drop, List.length_take]; rfl)) ?_; (with_reducible refine (impl_BucketOk.calls t335 t336 t337 t338 false _ A94.out).mono ?_); rintro e w208 ⟨rfl, hb⟩; refine ⟨_, rfl, ?_⟩; have n0_ := Aside0.mk (bB (g := gb340) (o := .cells #[.int .i64 t335, .int .i64 t336, .int .i64 t337, .int .i64 t338] 31 (0, 0)) (by (with_reducible repeat (first | refine bN ?_ _ | refine bD ?_ | refine bA ?_ _)); exact BK340.out) hb); have n1_ := Aside0.mk (bB (g := gb345) (o := .cells #[.int .i64 t341, .int .i64 t342, .int .i64 t343, .int .i64 t344] 31 (0, 0)) (by (with_reducible repeat (first | refine bN ?_ _ | refine bD ?_ | refine bA ?_ _)); exact BK345.out) hb); have n2_ := Aside0.mk (bB (g := gb351) (o := .cells #[.int .i64 t346, .int .i64 t347, .int .i64 t348, .int .i64 t349] 31 (0, 0)) (by (with_reducible repeat (first | refine bN ?_ _ | refine bD ?_ | refine bA ?_ _)); exact BK351.out) hb); have n3_ := Aside0.mk (bB (g := gb357) (o := .cells #[.int .i64 t352, .int .i64 t353, .int .i64 t354, .int .i64 t355] 31 (0, 0)) (by (with_reducible repeat (first | refine bN ?_ _ | refine bD ?_ | refine bA ?_ _)); exact BK357.out) hb); have n4_ := Aside0.mk (bB (g := gb363) (o := .cells #[.int .i64 t358, .int .i64 t359, .int .i64 t360, .int .i64 t361] 31 (0, 0)) (by (with_reducible repeat (first | refine bN ?_ _ | refine bD ?_ | refine bA ?_ _)); exact BK363.out) hb); have n5_ := Aside0.mk (bB (g := gb368) (o := .cells #[.int .i64 t364, .int .i64 t365, .int .i64 t366, .int .i64 t367] 31 (0, 0)) (by (with_reducible repeat (first | refine bN ?_ _ | refine bD ?_ | refine bA ?_ _)); exact BK368.out) hb); have n6_ := Aside0.mk (bB (g := gb374) (o := .cells #[.int .i64 t369, .int .i64 t370, .int .i64 t371, .int .i64 t372] 31 (0, 0)) (by (with_reducible repeat (first | refine bN ?_ _ | refine bD ?_ | refine bA ?_ _)); exact BK374.out) hb); have n7_ := Aside0.mk (below_step (by repeat (first | (with_reducible first | exact HB.out | apply below_alloc | apply pw_below_drewN | apply below_drew1 | refine bS ?_ GE340.out | refine bS ?_ GE345.out | refine bS ?_ GE351.out | refine bS ?_ GE357.out | refine bS ?_ GE363.out | refine bS ?_ GE368.out | refine bS ?_ GE374.out) | exact HB.out)) hb); clear BK340; clear BK345; clear BK351; clear BK357; clear BK363; clear BK368; clear BK374; clear HB; have BK340 := n0_; have BK345 := n1_; have BK351 := n2_; have BK357 := n3_; have BK363 := n4_; have BK368 := n5_; have BK374 := n6_; have HB := n7_; clear n0_ n1_ n2_ n3_ n4_ n5_ n6_ n7_; (try clear hb); (try clear hb2); (try clear hk); (try clear hi); have hnb209 := NB345_351.out; have hnc209 := NB351_345.out; have hnb210 := NB345_357.out; have hnc210 := NB357_345.out; have hnb211 := NB345_363.out; have hnc211 := NB363_345.out; have hnb212 := NB345_368.out; have hnc212 := NB368_345.out; have hnb213 := NB345_374.out; have hnc213 := NB374_345.out; have hcz214_0 : w208.cell? ⟨gb345, 0, none⟩ = some (.int .i64 t341) := (bC BK345.out 0).trans rfl; have hcz214_1 : w208.cell? ⟨gb345, 1, none⟩ = some (.int .i64 t342) := (bC BK345.out 1).trans rfl; have hcz214_2 : w208.cell? ⟨gb345, 2, none⟩ = some (.int .i64 t343) := (bC BK345.out 2).trans rfl; have hcz214_3 : w208.cell? ⟨gb345, 3, none⟩ = some (.int .i64 t344) := (bC BK345.out 3).trans rfl; have hfz214_0 := blk_frozen BK345.out 0; have hfz214_1 := blk_frozen BK345.out 1; have hfz214_2 := blk_frozen BK345.out 2; have hfz214_3 := blk_frozen BK345.out 3; have hcz215_0 : w208.cell? ⟨gb340, 0, none⟩ = some (.int .i64 t335) := (bC BK340.out 0).trans rfl; have hcz215_1 : w208.cell? ⟨gb340, 1, none⟩ = some (.int .i64 t336) := (bC BK340.out 1).trans rfl; have hcz215_2 : w208.cell? ⟨gb340, 2, none⟩ = some (.int .i64 t337) := (bC BK340.out 2).trans rfl; have hcz215_3 : w208.cell? ⟨gb340, 3, none⟩ = some (.int .i64 t338) := (bC BK340.out 3).trans rfl; have hfz215_0 := blk_frozen BK340.out 0; have hfz215_1 := blk_frozen BK340.out 1; have hfz215_2 := blk_frozen BK340.out 2; have hfz215_3 := blk_frozen BK340.out 3))
      go_ret
      exact ⟨by first | rfl | (simp [errW_none, errW_some] <;> rfl) | (simp [*, errW_none, errW_some] <;> rfl), by repeat (first | (with_reducible first | exact HB.out | apply below_alloc | apply pw_below_drewN | apply below_drew1 | refine bS ?_ GE340.out | refine bS ?_ GE345.out | refine bS ?_ GE351.out | refine bS ?_ GE357.out | refine bS ?_ GE363.out | refine bS ?_ GE368.out | refine bS ?_ GE374.out) | exact HB.out)⟩

end Go.Proofs.Yteiabkojcfjldaa.QFnBuckets
