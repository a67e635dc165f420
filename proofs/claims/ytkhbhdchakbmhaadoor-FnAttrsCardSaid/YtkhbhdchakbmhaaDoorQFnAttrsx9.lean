/- What the Go functions that the law FnAttrs reaches answer: each as a Lean function, with its walk. Written by a program of this session. Conditions: those that each theorem names. -/
import Derived.Test.YtkhbhdchakbmhaaDoorQFnAttrsx0
import Derived.Test.YtkhbhdchakbmhaaDoorQFnAttrsx1
import Derived.Test.YtkhbhdchakbmhaaDoorQFnAttrsx2
import Derived.Test.YtkhbhdchakbmhaaDoorQFnAttrsx3
import Derived.Test.YtkhbhdchakbmhaaDoorQFnAttrsx4
import Derived.Test.YtkhbhdchakbmhaaDoorQFnAttrsx5
import Derived.Test.YtkhbhdchakbmhaaDoorQFnAttrsx6
import Derived.Test.YtkhbhdchakbmhaaDoorQFnAttrsx7
import Derived.Test.YtkhbhdchakbmhaaDoorQFnAttrsx8
namespace Go.Proofs.YtkhbhdchakbmhaaDoor.QFnAttrs
open Go.RowKit Go.Proofs.YtkhbhdchakbmhaaDoorW.PrintWords Go.Proofs.YtkhbhdchakbmhaaDoorW.PrintLast Go.Proofs.YtkhbhdchakbmhaaDoorW.PrintMore
attribute [local go_sem] max2_int min2_int max_two min_two max_three min_three max_four min_four   -- for this text's walks alone
set_option linter.unusedVariables false
set_option linter.unusedSimpArgs false

attribute [local go_sem high] eqA28
open Go.Proofs.YtkhbhdchakbmhaaDoorW.PrintWords renaming blk_drewN → bN, blk_drew → bD, blk_alloc → bA, blk_cell → bC, blk_below → bB, below_set → bS
theorem sA_ {α : Type} (xs : List α) (i : Nat) (a : α) : xs.toArray.setIfInBounds i a = (xs.set i a).toArray := List.setIfInBounds_toArray xs i a
theorem sB_ {α : Type} (x : α) (xs : List α) (a : α) : (x :: xs).set 0 a = a :: xs := List.set_cons_zero
theorem sC_ {α : Type} (x : α) (xs : List α) (i : Nat) (a : α) : (x :: xs).set (i + 1) a = x :: xs.set i a := List.set_cons_succ
def fB (n m : Nat) : Array Bool := ((List.range n).map fun i => m.testBit i).toArray
/-! ### laws_FnAttrs: function 7 -/
def laws_FnAttrs.j0 : Nat → ByteArray → Bool → Bool → ByteArray → Bool → Int → ByteArray → ByteArray → Bool → Int → ByteArray → Option (Bool)
 | 0, _, _, _, _, _, _, _, _, _, _, _ => none
 | k + 1, x6, x8, x69, x384000, x384001, x384002, x384003, x397000, x397001, x397002, x397003 => if x69 = true then (some false) else ((impl_AttrText.f k x384000 x384001 x384002 x384003).bind fun t411 => ((impl_AttrOk.f k x384000 x384001 x384002 x384003).bind fun t412 => (if ((t411.toList != ([] : List UInt8)) == t412) = true then (if x8 = true then (if x397000.toList = x6.toList then ((impl_AttrSize.f x384000 x384001 x384002 x384003).bind fun t413 => (some (decide (t413 ≥ (x384000.size : Int))))) else (some false)) else ((impl_AttrSize.f x384000 x384001 x384002 x384003).bind fun t414 => (some (decide (t414 ≥ (x384000.size : Int)))))) else (some false))))
def laws_FnAttrs.f (k : Nat) (l0 : List Int) : Option (Bool) := (laws_big.f l0).bind fun t378 => (if t378 = true then (some true) else ((spec_DrawAttrOk.f k l0).bind fun bt379 => ((spec_DrawAttrsOk.f k l0).bind fun t384 => ((spec_DrawFindAttr.f k l0).bind fun bt387 => ((impl_FindAttr.f k bt387.1 bt387.2).bind fun bt391 => ((spec_FindAttr.f k bt387.1 bt387.2).bind fun bt397 => ((impl_AttrOk.f k bt379.1 bt379.2.1 bt379.2.2.1 bt379.2.2.2).bind fun t403 => ((spec_AttrOk.f k bt379.1 bt379.2.1 bt379.2.2.1 bt379.2.2.2).bind fun t404 => (if (t403 != t404) = true then (laws_FnAttrs.j0 k bt387.2 bt391.2.2.2.2 true bt379.1 bt379.2.1 bt379.2.2.1 bt379.2.2.2 bt391.1 bt391.2.1 bt391.2.2.1 bt391.2.2.2.1) else ((impl_AttrsOk.f k t384).bind fun t405 => ((spec_AttrsOk.f k t384).bind fun t406 => (if (t405 != t406) = true then (laws_FnAttrs.j0 k bt387.2 bt391.2.2.2.2 true bt379.1 bt379.2.1 bt379.2.2.1 bt379.2.2.2 bt391.1 bt391.2.1 bt391.2.2.1 bt391.2.2.2.1) else (if (!(bt391.1.toList == bt397.1.toList) || (!(bt391.2.1 == bt397.2.1) || (!(bt391.2.2.1 == bt397.2.2.1) || (!(bt391.2.2.2.1.toList == bt397.2.2.2.1.toList))))) = true then (laws_FnAttrs.j0 k bt387.2 bt391.2.2.2.2 true bt379.1 bt379.2.1 bt379.2.2.1 bt379.2.2.2 bt391.1 bt391.2.1 bt391.2.2.1 bt391.2.2.2.1) else (if (bt391.2.2.2.2 != bt397.2.2.2.2) = true then (laws_FnAttrs.j0 k bt387.2 bt391.2.2.2.2 true bt379.1 bt379.2.1 bt379.2.2.1 bt379.2.2.2 bt391.1 bt391.2.1 bt391.2.2.1 bt391.2.2.2.1) else ((impl_AttrSize.f bt379.1 bt379.2.1 bt379.2.2.1 bt379.2.2.2).bind fun t407 => ((spec_AttrSize.f bt379.1 bt379.2.1 bt379.2.2.1 bt379.2.2.2).bind fun t408 => (if t407 = t408 then ((impl_AttrText.f k bt379.1 bt379.2.1 bt379.2.2.1 bt379.2.2.2).bind fun t409 => ((spec_AttrText.f k bt379.1 bt379.2.1 bt379.2.2.1 bt379.2.2.2).bind fun t410 => (laws_FnAttrs.j0 k bt387.2 bt391.2.2.2.2 (t409.toList != t410.toList) bt379.1 bt379.2.1 bt379.2.2.1 bt379.2.2.2 bt391.1 bt391.2.1 bt391.2.2.1 bt391.2.2.2.1))) else (laws_FnAttrs.j0 k bt387.2 bt391.2.2.2.2 true bt379.1 bt379.2.1 bt379.2.2.1 bt379.2.2.2 bt391.1 bt391.2.1 bt391.2.2.1 bt391.2.2.2.1))))))))))))))))))
theorem laws_FnAttrs.mono_l : ∀ k, (∀ y0 y1 y2 y3 y4 y5 y6 y7 y8 y9 y10, LeO (laws_FnAttrs.j0 k y0 y1 y2 y3 y4 y5 y6 y7 y8 y9 y10) (laws_FnAttrs.j0 (k + 1) y0 y1 y2 y3 y4 y5 y6 y7 y8 y9 y10))
 | 0 => fun _ _ _ _ _ _ _ _ _ _ _ r h => by simp [laws_FnAttrs.j0] at h
 | k + 1 => by
  have ih0 := laws_FnAttrs.mono_l k
  ·intro y0 y1 y2 y3 y4 y5 y6 y7 y8 y9 y10
   unfold laws_FnAttrs.j0
   repeat' first
   | (with_reducible exact ih0 _ _ _ _ _ _ _ _ _ _ _)
   | (with_reducible exact impl_AttrOk.mono _ _ _ _ _)
   | (with_reducible exact impl_AttrText.mono _ _ _ _ _)
   | (with_reducible exact impl_AttrsOk.mono _ _)
   | (with_reducible exact impl_FindAttr.mono _ _ _)
   | (with_reducible exact spec_AttrOk.mono _ _ _ _ _)
   | (with_reducible exact spec_AttrText.mono _ _ _ _ _)
   | (with_reducible exact spec_AttrsOk.mono _ _)
   | (with_reducible exact spec_DrawAttrOk.mono _ _)
   | (with_reducible exact spec_DrawAttrsOk.mono _ _)
   | (with_reducible exact spec_DrawFindAttr.mono _ _)
   | (with_reducible exact spec_FindAttr.mono _ _ _)
   | (with_reducible exact LeO.refl _)
   | (with_reducible exact LeO.none _)
   | (with_reducible refine LeO.ite ?_ ?_)
   | (with_reducible refine LeO.bind ?_ (fun _ => ?_))
   | exact ih0 _ _ _ _ _ _ _ _ _ _ _
   | exact impl_AttrOk.mono _ _ _ _ _
   | exact impl_AttrText.mono _ _ _ _ _
   | exact impl_AttrsOk.mono _ _
   | exact impl_FindAttr.mono _ _ _
   | exact spec_AttrOk.mono _ _ _ _ _
   | exact spec_AttrText.mono _ _ _ _ _
   | exact spec_AttrsOk.mono _ _
   | exact spec_DrawAttrOk.mono _ _
   | exact spec_DrawAttrsOk.mono _ _
   | exact spec_DrawFindAttr.mono _ _
   | exact spec_FindAttr.mono _ _ _
   | exact LeO.none _
   | refine LeO.ite ?_ ?_
   | refine LeO.bind ?_ (fun _ => ?_)
theorem laws_FnAttrs.mono : ∀ a0 k, LeO (laws_FnAttrs.f k a0) (laws_FnAttrs.f (k + 1) a0) := by
 intro a0 k
 have ih0 := laws_FnAttrs.mono_l k
 unfold laws_FnAttrs.f
 repeat' first
   | (with_reducible exact ih0 _ _ _ _ _ _ _ _ _ _ _)
   | (with_reducible exact impl_AttrOk.mono _ _ _ _ _)
   | (with_reducible exact impl_AttrText.mono _ _ _ _ _)
   | (with_reducible exact impl_AttrsOk.mono _ _)
   | (with_reducible exact impl_FindAttr.mono _ _ _)
   | (with_reducible exact spec_AttrOk.mono _ _ _ _ _)
   | (with_reducible exact spec_AttrText.mono _ _ _ _ _)
   | (with_reducible exact spec_AttrsOk.mono _ _)
   | (with_reducible exact spec_DrawAttrOk.mono _ _)
   | (with_reducible exact spec_DrawAttrsOk.mono _ _)
   | (with_reducible exact spec_DrawFindAttr.mono _ _)
   | (with_reducible exact spec_FindAttr.mono _ _ _)
   | (with_reducible exact LeO.refl _)
   | (with_reducible exact LeO.none _)
   | (with_reducible refine LeO.ite ?_ ?_)
   | (with_reducible refine LeO.bind ?_ (fun _ => ?_))
   | exact ih0 _ _ _ _ _ _ _ _ _ _ _
   | exact impl_AttrOk.mono _ _ _ _ _
   | exact impl_AttrText.mono _ _ _ _ _
   | exact impl_AttrsOk.mono _ _
   | exact impl_FindAttr.mono _ _ _
   | exact spec_AttrOk.mono _ _ _ _ _
   | exact spec_AttrText.mono _ _ _ _ _
   | exact spec_AttrsOk.mono _ _
   | exact spec_DrawAttrOk.mono _ _
   | exact spec_DrawAttrsOk.mono _ _
   | exact spec_DrawFindAttr.mono _ _
   | exact spec_FindAttr.mono _ _ _
   | exact LeO.none _
   | refine LeO.ite ?_ ?_
   | refine LeO.bind ?_ (fun _ => ?_)
def laws_FnAttrs.T8 : Bool × List (List Nat × List Nat) := (true, [([], []), ([0], [0]), ([], []), ([2, 1], [2]), ([1, 3], [1, 3]), ([4, 3], [4]), ([5], [5]), ([6, 5, 5], [5, 6]), ([5], [5]), ([8, 7, 5], [5, 8]), ([7, 9, 5], [5, 7, 9]), ([5, 10], [5, 10]), ([11, 9], [11]), ([12], [12]), ([12], [12]), ([13, 14, 12], [12, 13, 14]), ([12, 15], [12, 15]), ([16, 12], [16]), ([17], [17]), ([17], [17]), ([18, 19, 17], [17, 18, 19]), ([17, 20], [17, 20]), ([21, 17], [21]), ([22], [22]), ([23, 22, 22], [22, 23]), ([22], [22]), ([25, 24, 22], [22, 25]), ([24, 26, 22], [22, 24, 26]), ([22, 27], [22, 27]), ([28, 26], [28]), ([29], [29]), ([30, 29, 29], [29, 30]), ([29], [29]), ([32, 31, 29], [29, 32]), ([31, 33, 29], [29, 31, 33]), ([29, 34], [29, 34])])
def laws_FnAttrs.B8 : List Nat := [0, 1, 0, 7, 15, 31, 63, 127, 63, 511, 1023, 2047, 4095, 8191, 8191, 32767, 65535, 131071, 262143, 262143, 1048575, 2097151, 4194303, 8388607, 16777215, 8388607, 67108863, 134217727, 268435455, 536870911, 1073741823, 2147483647, 1073741823, 8589934591, 17179869183, 34359738367]
theorem laws_FnAttrs.tab8 : rtab .any (opsOf Tryd.f7 8) = laws_FnAttrs.T8 := by kernel_rfl
theorem laws_FnAttrs.bits8 : waitsOk laws_FnAttrs.T8.2 laws_FnAttrs.B8 = true := by kernel_rfl
def laws_FnAttrs.T10 : Bool × List (List Nat × List Nat) := (true, [([], []), ([0], [0]), ([1], [1]), ([], []), ([3, 1], [3]), ([2, 4], [2, 4]), ([5, 4], [5]), ([6], [6]), ([7, 6], [6, 7]), ([8, 6, 6], [6, 8]), ([9], [9]), ([10, 9], [9, 10]), ([9], [9]), ([11, 12, 9], [9, 11, 12]), ([9, 13, 6], [6, 9, 13]), ([6, 14], [6, 14]), ([15, 9], [15]), ([16], [16]), ([17, 16, 16], [16, 17]), ([16], [16]), ([19, 16], [16, 19]), ([20, 16], [16, 20]), ([18, 21, 16], [16, 18, 21]), ([16, 22], [16, 22]), ([23, 18, 0, 1, 2, 3, 4, 5, 6, 7, 8, 9, 10, 11, 12, 13, 14, 15, 16, 17, 18, 19, 20, 21, 22, 23], [23])])
def laws_FnAttrs.B10 : List Nat := [0, 1, 3, 0, 11, 31, 63, 127, 255, 511, 1023, 2047, 1023, 8191, 16383, 32767, 65535, 131071, 262143, 131071, 655359, 1703935, 4194303, 8388607, 16777215]
theorem laws_FnAttrs.tab10 : rtab .any (opsOf Tryd.f7 10) = laws_FnAttrs.T10 := by kernel_rfl
theorem laws_FnAttrs.bits10 : waitsOk laws_FnAttrs.T10.2 laws_FnAttrs.B10 = true := by kernel_rfl
theorem laws_FnAttrs.j0_bad {k : Nat} {y0 : ByteArray} {y1 : Bool} {y3 : ByteArray} {y4 : Bool} {y5 : Int} {y6 : ByteArray} {y7 : ByteArray} {y8 : Bool} {y9 : Int} {y10 : ByteArray} {r : Bool} (h : laws_FnAttrs.j0 k y0 y1 true y3 y4 y5 y6 y7 y8 y9 y10 = some r) (hr : r = true) : False := by
 cases k with
 | zero => simp [laws_FnAttrs.j0] at h
 | succ k =>
  simp only [laws_FnAttrs.j0, if_true] at h
  subst hr
  simp at h
set_option maxHeartbeats 8000000 in
set_option maxRecDepth 100000 in
theorem laws_FnAttrs.calls (k : Nat) (A0 : Option Addr) (c0 : Nat) (l0 : List Int) (r : Bool) (w : World) (hr0 : Kd.C (Kd.int .u8) w A0 l0.length l0) (hc0 : l0.length ≤ c0) (hrt_ : Aside0 (r = true)) (htab_ : Lib.TabIs Tryd.prog w "internal/strconv.uint64pow10" .u64 Lib.pow10Tab) (h : laws_FnAttrs.f k l0 = some r) :
  Calls Tryd.prog 7 #[.slice A0 l0.length c0] w fun e w' => e = .returned (.bool r) ∧ Below w.heap.size w w' := by
 have HTAB := Aside0.mk htab_
 clear htab_
 have hu28 := Tryd.underlying28
 have HR0 := Aside0.mk hr0
 have HC0 := Aside0.mk hc0
 clear hr0 hc0
 have HB := Aside0.mk (Below.refl w.heap.size w)
 have H : ((laws_big.f l0).bind fun t378 => (if t378 = true then (some true) else ((spec_DrawAttrOk.f k l0).bind fun bt379 => ((spec_DrawAttrsOk.f k l0).bind fun t384 => ((spec_DrawFindAttr.f k l0).bind fun bt387 => ((impl_FindAttr.f k bt387.1 bt387.2).bind fun bt391 => ((spec_FindAttr.f k bt387.1 bt387.2).bind fun bt397 => ((impl_AttrOk.f k bt379.1 bt379.2.1 bt379.2.2.1 bt379.2.2.2).bind fun t403 => ((spec_AttrOk.f k bt379.1 bt379.2.1 bt379.2.2.1 bt379.2.2.2).bind fun t404 => (if (t403 != t404) = true then (laws_FnAttrs.j0 k bt387.2 bt391.2.2.2.2 true bt379.1 bt379.2.1 bt379.2.2.1 bt379.2.2.2 bt391.1 bt391.2.1 bt391.2.2.1 bt391.2.2.2.1) else ((impl_AttrsOk.f k t384).bind fun t405 => ((spec_AttrsOk.f k t384).bind fun t406 => (if (t405 != t406) = true then (laws_FnAttrs.j0 k bt387.2 bt391.2.2.2.2 true bt379.1 bt379.2.1 bt379.2.2.1 bt379.2.2.2 bt391.1 bt391.2.1 bt391.2.2.1 bt391.2.2.2.1) else (if (!(bt391.1.toList == bt397.1.toList) || (!(bt391.2.1 == bt397.2.1) || (!(bt391.2.2.1 == bt397.2.2.1) || (!(bt391.2.2.2.1.toList == bt397.2.2.2.1.toList))))) = true then (laws_FnAttrs.j0 k bt387.2 bt391.2.2.2.2 true bt379.1 bt379.2.1 bt379.2.2.1 bt379.2.2.2 bt391.1 bt391.2.1 bt391.2.2.1 bt391.2.2.2.1) else (if (bt391.2.2.2.2 != bt397.2.2.2.2) = true then (laws_FnAttrs.j0 k bt387.2 bt391.2.2.2.2 true bt379.1 bt379.2.1 bt379.2.2.1 bt379.2.2.2 bt391.1 bt391.2.1 bt391.2.2.1 bt391.2.2.2.1) else ((impl_AttrSize.f bt379.1 bt379.2.1 bt379.2.2.1 bt379.2.2.2).bind fun t407 => ((spec_AttrSize.f bt379.1 bt379.2.1 bt379.2.2.1 bt379.2.2.2).bind fun t408 => (if t407 = t408 then ((impl_AttrText.f k bt379.1 bt379.2.1 bt379.2.2.1 bt379.2.2.2).bind fun t409 => ((spec_AttrText.f k bt379.1 bt379.2.1 bt379.2.2.1 bt379.2.2.2).bind fun t410 => (laws_FnAttrs.j0 k bt387.2 bt391.2.2.2.2 (t409.toList != t410.toList) bt379.1 bt379.2.1 bt379.2.2.1 bt379.2.2.2 bt391.1 bt391.2.1 bt391.2.2.1 bt391.2.2.2.1))) else (laws_FnAttrs.j0 k bt387.2 bt391.2.2.2.2 true bt379.1 bt379.2.1 bt379.2.2.1 bt379.2.2.2 bt391.1 bt391.2.1 bt391.2.2.1 bt391.2.2.2.1))))))))))))))))))) = some r := h
 clear h
 replace H := Option.bind_eq_some_iff.mp H
 obtain ⟨t378, A20, H⟩ := H
 replace H : (if t378 = true then (some true) else ((spec_DrawAttrOk.f k l0).bind fun bt379 => ((spec_DrawAttrsOk.f k l0).bind fun t384 => ((spec_DrawFindAttr.f k l0).bind fun bt387 => ((impl_FindAttr.f k bt387.1 bt387.2).bind fun bt391 => ((spec_FindAttr.f k bt387.1 bt387.2).bind fun bt397 => ((impl_AttrOk.f k bt379.1 bt379.2.1 bt379.2.2.1 bt379.2.2.2).bind fun t403 => ((spec_AttrOk.f k bt379.1 bt379.2.1 bt379.2.2.1 bt379.2.2.2).bind fun t404 => (if (t403 != t404) = true then (laws_FnAttrs.j0 k bt387.2 bt391.2.2.2.2 true bt379.1 bt379.2.1 bt379.2.2.1 bt379.2.2.2 bt391.1 bt391.2.1 bt391.2.2.1 bt391.2.2.2.1) else ((impl_AttrsOk.f k t384).bind fun t405 => ((spec_AttrsOk.f k t384).bind fun t406 => (if (t405 != t406) = true then (laws_FnAttrs.j0 k bt387.2 bt391.2.2.2.2 true bt379.1 bt379.2.1 bt379.2.2.1 bt379.2.2.2 bt391.1 bt391.2.1 bt391.2.2.1 bt391.2.2.2.1) else (if (!(bt391.1.toList == bt397.1.toList) || (!(bt391.2.1 == bt397.2.1) || (!(bt391.2.2.1 == bt397.2.2.1) || (!(bt391.2.2.2.1.toList == bt397.2.2.2.1.toList))))) = true then (laws_FnAttrs.j0 k bt387.2 bt391.2.2.2.2 true bt379.1 bt379.2.1 bt379.2.2.1 bt379.2.2.2 bt391.1 bt391.2.1 bt391.2.2.1 bt391.2.2.2.1) else (if (bt391.2.2.2.2 != bt397.2.2.2.2) = true then (laws_FnAttrs.j0 k bt387.2 bt391.2.2.2.2 true bt379.1 bt379.2.1 bt379.2.2.1 bt379.2.2.2 bt391.1 bt391.2.1 bt391.2.2.1 bt391.2.2.2.1) else ((impl_AttrSize.f bt379.1 bt379.2.1 bt379.2.2.1 bt379.2.2.2).bind fun t407 => ((spec_AttrSize.f bt379.1 bt379.2.1 bt379.2.2.1 bt379.2.2.2).bind fun t408 => (if t407 = t408 then ((impl_AttrText.f k bt379.1 bt379.2.1 bt379.2.2.1 bt379.2.2.2).bind fun t409 => ((spec_AttrText.f k bt379.1 bt379.2.1 bt379.2.2.1 bt379.2.2.2).bind fun t410 => (laws_FnAttrs.j0 k bt387.2 bt391.2.2.2.2 (t409.toList != t410.toList) bt379.1 bt379.2.1 bt379.2.2.1 bt379.2.2.2 bt391.1 bt391.2.1 bt391.2.2.1 bt391.2.2.2.1))) else (laws_FnAttrs.j0 k bt387.2 bt391.2.2.2.2 true bt379.1 bt379.2.1 bt379.2.2.1 bt379.2.2.2 bt391.1 bt391.2.1 bt391.2.2.1 bt391.2.2.2.1)))))))))))))))))) = some r := H
 have A2 := Aside0.mk A20
 clear A20
 by_cases c3 : t378 = true
 ·subst c3
  have H1 : (some true) = some r := by rw [if_pos rfl] at H; exact H
  clear H
  have H := H1
  clear H1
  obtain rfl := Option.some.inj H
  go_enter Tryd.func7, Tryd.ntmps7
  go_wp2_with (first | ((with_reducible refine gate_callee (f := 23) rfl ?_); refine goesL_ (some 12) rfl rfl Tryd.func23 (by kernel_rfl) rfl #[.slice A0 l0.length c0] rfl (by (try simp only [List.map_toArray, List.map_cons, List.map_nil]); first | done | rfl | (simp only [List.length_drop, List.length_take]; rfl)) ?_; (with_reducible refine (laws_big.calls _ _ l0 true _ ?side1 ?side2 A2.out).mono ?_); (case side1 => repeat (first | exact HR0.out | (with_reducible refine Kd.C_alloc ?_ _) | (with_reducible refine Kd.C_drewN ?_ _) | (with_reducible refine Kd.C_drew ?_))); (case side2 => exact HC0.out); rintro e w' ⟨rfl, ⟨nd, rfl⟩⟩; refine ⟨_, rfl, ?_⟩))
  go_ret
  exact ⟨by first | rfl | (simp [errW_none, errW_some] <;> rfl) | (simp [*, errW_none, errW_some] <;> rfl), by repeat (first | (with_reducible first | exact HB.out | apply below_alloc | apply pw_below_drewN | apply below_drew1) | exact HB.out)⟩
 ·replace c3 := Bool.eq_false_iff.mpr c3
  subst c3
  have H1 : ((spec_DrawAttrOk.f k l0).bind fun bt379 => ((spec_DrawAttrsOk.f k l0).bind fun t384 => ((spec_DrawFindAttr.f k l0).bind fun bt387 => ((impl_FindAttr.f k bt387.1 bt387.2).bind fun bt391 => ((spec_FindAttr.f k bt387.1 bt387.2).bind fun bt397 => ((impl_AttrOk.f k bt379.1 bt379.2.1 bt379.2.2.1 bt379.2.2.2).bind fun t403 => ((spec_AttrOk.f k bt379.1 bt379.2.1 bt379.2.2.1 bt379.2.2.2).bind fun t404 => (if (t403 != t404) = true then (laws_FnAttrs.j0 k bt387.2 bt391.2.2.2.2 true bt379.1 bt379.2.1 bt379.2.2.1 bt379.2.2.2 bt391.1 bt391.2.1 bt391.2.2.1 bt391.2.2.2.1) else ((impl_AttrsOk.f k t384).bind fun t405 => ((spec_AttrsOk.f k t384).bind fun t406 => (if (t405 != t406) = true then (laws_FnAttrs.j0 k bt387.2 bt391.2.2.2.2 true bt379.1 bt379.2.1 bt379.2.2.1 bt379.2.2.2 bt391.1 bt391.2.1 bt391.2.2.1 bt391.2.2.2.1) else (if (!(bt391.1.toList == bt397.1.toList) || (!(bt391.2.1 == bt397.2.1) || (!(bt391.2.2.1 == bt397.2.2.1) || (!(bt391.2.2.2.1.toList == bt397.2.2.2.1.toList))))) = true then (laws_FnAttrs.j0 k bt387.2 bt391.2.2.2.2 true bt379.1 bt379.2.1 bt379.2.2.1 bt379.2.2.2 bt391.1 bt391.2.1 bt391.2.2.1 bt391.2.2.2.1) else (if (bt391.2.2.2.2 != bt397.2.2.2.2) = true then (laws_FnAttrs.j0 k bt387.2 bt391.2.2.2.2 true bt379.1 bt379.2.1 bt379.2.2.1 bt379.2.2.2 bt391.1 bt391.2.1 bt391.2.2.1 bt391.2.2.2.1) else ((impl_AttrSize.f bt379.1 bt379.2.1 bt379.2.2.1 bt379.2.2.2).bind fun t407 => ((spec_AttrSize.f bt379.1 bt379.2.1 bt379.2.2.1 bt379.2.2.2).bind fun t408 => (if t407 = t408 then ((impl_AttrText.f k bt379.1 bt379.2.1 bt379.2.2.1 bt379.2.2.2).bind fun t409 => ((spec_AttrText.f k bt379.1 bt379.2.1 bt379.2.2.1 bt379.2.2.2).bind fun t410 => (laws_FnAttrs.j0 k bt387.2 bt391.2.2.2.2 (t409.toList != t410.toList) bt379.1 bt379.2.1 bt379.2.2.1 bt379.2.2.2 bt391.1 bt391.2.1 bt391.2.2.1 bt391.2.2.2.1))) else (laws_FnAttrs.j0 k bt387.2 bt391.2.2.2.2 true bt379.1 bt379.2.1 bt379.2.2.1 bt379.2.2.2 bt391.1 bt391.2.1 bt391.2.2.1 bt391.2.2.2.1))))))))))))))))) = some r := by rw [if_neg (show ¬ (false = true) by decide)] at H; exact H
  clear H
  have H := H1
  clear H1
  replace H := Option.bind_eq_some_iff.mp H
  obtain ⟨⟨t379, t380, t381, t382⟩, A40, H⟩ := H
  replace H : ((spec_DrawAttrsOk.f k l0).bind fun t384 => ((spec_DrawFindAttr.f k l0).bind fun bt387 => ((impl_FindAttr.f k bt387.1 bt387.2).bind fun bt391 => ((spec_FindAttr.f k bt387.1 bt387.2).bind fun bt397 => ((impl_AttrOk.f k t379 t380 t381 t382).bind fun t403 => ((spec_AttrOk.f k t379 t380 t381 t382).bind fun t404 => (if (t403 != t404) = true then (laws_FnAttrs.j0 k bt387.2 bt391.2.2.2.2 true t379 t380 t381 t382 bt391.1 bt391.2.1 bt391.2.2.1 bt391.2.2.2.1) else ((impl_AttrsOk.f k t384).bind fun t405 => ((spec_AttrsOk.f k t384).bind fun t406 => (if (t405 != t406) = true then (laws_FnAttrs.j0 k bt387.2 bt391.2.2.2.2 true t379 t380 t381 t382 bt391.1 bt391.2.1 bt391.2.2.1 bt391.2.2.2.1) else (if (!(bt391.1.toList == bt397.1.toList) || (!(bt391.2.1 == bt397.2.1) || (!(bt391.2.2.1 == bt397.2.2.1) || (!(bt391.2.2.2.1.toList == bt397.2.2.2.1.toList))))) = true then (laws_FnAttrs.j0 k bt387.2 bt391.2.2.2.2 true t379 t380 t381 t382 bt391.1 bt391.2.1 bt391.2.2.1 bt391.2.2.2.1) else (if (bt391.2.2.2.2 != bt397.2.2.2.2) = true then (laws_FnAttrs.j0 k bt387.2 bt391.2.2.2.2 true t379 t380 t381 t382 bt391.1 bt391.2.1 bt391.2.2.1 bt391.2.2.2.1) else ((impl_AttrSize.f t379 t380 t381 t382).bind fun t407 => ((spec_AttrSize.f t379 t380 t381 t382).bind fun t408 => (if t407 = t408 then ((impl_AttrText.f k t379 t380 t381 t382).bind fun t409 => ((spec_AttrText.f k t379 t380 t381 t382).bind fun t410 => (laws_FnAttrs.j0 k bt387.2 bt391.2.2.2.2 (t409.toList != t410.toList) t379 t380 t381 t382 bt391.1 bt391.2.1 bt391.2.2.1 bt391.2.2.2.1))) else (laws_FnAttrs.j0 k bt387.2 bt391.2.2.2.2 true t379 t380 t381 t382 bt391.1 bt391.2.1 bt391.2.2.1 bt391.2.2.2.1)))))))))))))))) = some r := H
  have A4 := Aside0.mk A40
  clear A40
  replace H := Option.bind_eq_some_iff.mp H
  obtain ⟨t384, A50, H⟩ := H
  replace H : ((spec_DrawFindAttr.f k l0).bind fun bt387 => ((impl_FindAttr.f k bt387.1 bt387.2).bind fun bt391 => ((spec_FindAttr.f k bt387.1 bt387.2).bind fun bt397 => ((impl_AttrOk.f k t379 t380 t381 t382).bind fun t403 => ((spec_AttrOk.f k t379 t380 t381 t382).bind fun t404 => (if (t403 != t404) = true then (laws_FnAttrs.j0 k bt387.2 bt391.2.2.2.2 true t379 t380 t381 t382 bt391.1 bt391.2.1 bt391.2.2.1 bt391.2.2.2.1) else ((impl_AttrsOk.f k t384).bind fun t405 => ((spec_AttrsOk.f k t384).bind fun t406 => (if (t405 != t406) = true then (laws_FnAttrs.j0 k bt387.2 bt391.2.2.2.2 true t379 t380 t381 t382 bt391.1 bt391.2.1 bt391.2.2.1 bt391.2.2.2.1) else (if (!(bt391.1.toList == bt397.1.toList) || (!(bt391.2.1 == bt397.2.1) || (!(bt391.2.2.1 == bt397.2.2.1) || (!(bt391.2.2.2.1.toList == bt397.2.2.2.1.toList))))) = true then (laws_FnAttrs.j0 k bt387.2 bt391.2.2.2.2 true t379 t380 t381 t382 bt391.1 bt391.2.1 bt391.2.2.1 bt391.2.2.2.1) else (if (bt391.2.2.2.2 != bt397.2.2.2.2) = true then (laws_FnAttrs.j0 k bt387.2 bt391.2.2.2.2 true t379 t380 t381 t382 bt391.1 bt391.2.1 bt391.2.2.1 bt391.2.2.2.1) else ((impl_AttrSize.f t379 t380 t381 t382).bind fun t407 => ((spec_AttrSize.f t379 t380 t381 t382).bind fun t408 => (if t407 = t408 then ((impl_AttrText.f k t379 t380 t381 t382).bind fun t409 => ((spec_AttrText.f k t379 t380 t381 t382).bind fun t410 => (laws_FnAttrs.j0 k bt387.2 bt391.2.2.2.2 (t409.toList != t410.toList) t379 t380 t381 t382 bt391.1 bt391.2.1 bt391.2.2.1 bt391.2.2.2.1))) else (laws_FnAttrs.j0 k bt387.2 bt391.2.2.2.2 true t379 t380 t381 t382 bt391.1 bt391.2.1 bt391.2.2.1 bt391.2.2.2.1))))))))))))))) = some r := H
  have A5 := Aside0.mk A50
  clear A50
  replace H := Option.bind_eq_some_iff.mp H
  obtain ⟨⟨t387, t388⟩, A60, H⟩ := H
  replace H : ((impl_FindAttr.f k t387 t388).bind fun bt391 => ((spec_FindAttr.f k t387 t388).bind fun bt397 => ((impl_AttrOk.f k t379 t380 t381 t382).bind fun t403 => ((spec_AttrOk.f k t379 t380 t381 t382).bind fun t404 => (if (t403 != t404) = true then (laws_FnAttrs.j0 k t388 bt391.2.2.2.2 true t379 t380 t381 t382 bt391.1 bt391.2.1 bt391.2.2.1 bt391.2.2.2.1) else ((impl_AttrsOk.f k t384).bind fun t405 => ((spec_AttrsOk.f k t384).bind fun t406 => (if (t405 != t406) = true then (laws_FnAttrs.j0 k t388 bt391.2.2.2.2 true t379 t380 t381 t382 bt391.1 bt391.2.1 bt391.2.2.1 bt391.2.2.2.1) else (if (!(bt391.1.toList == bt397.1.toList) || (!(bt391.2.1 == bt397.2.1) || (!(bt391.2.2.1 == bt397.2.2.1) || (!(bt391.2.2.2.1.toList == bt397.2.2.2.1.toList))))) = true then (laws_FnAttrs.j0 k t388 bt391.2.2.2.2 true t379 t380 t381 t382 bt391.1 bt391.2.1 bt391.2.2.1 bt391.2.2.2.1) else (if (bt391.2.2.2.2 != bt397.2.2.2.2) = true then (laws_FnAttrs.j0 k t388 bt391.2.2.2.2 true t379 t380 t381 t382 bt391.1 bt391.2.1 bt391.2.2.1 bt391.2.2.2.1) else ((impl_AttrSize.f t379 t380 t381 t382).bind fun t407 => ((spec_AttrSize.f t379 t380 t381 t382).bind fun t408 => (if t407 = t408 then ((impl_AttrText.f k t379 t380 t381 t382).bind fun t409 => ((spec_AttrText.f k t379 t380 t381 t382).bind fun t410 => (laws_FnAttrs.j0 k t388 bt391.2.2.2.2 (t409.toList != t410.toList) t379 t380 t381 t382 bt391.1 bt391.2.1 bt391.2.2.1 bt391.2.2.2.1))) else (laws_FnAttrs.j0 k t388 bt391.2.2.2.2 true t379 t380 t381 t382 bt391.1 bt391.2.1 bt391.2.2.1 bt391.2.2.2.1)))))))))))))) = some r := H
  have A6 := Aside0.mk A60
  clear A60
  replace H := Option.bind_eq_some_iff.mp H
  obtain ⟨⟨t391, t392, t393, t394, t395⟩, A70, H⟩ := H
  replace H : ((spec_FindAttr.f k t387 t388).bind fun bt397 => ((impl_AttrOk.f k t379 t380 t381 t382).bind fun t403 => ((spec_AttrOk.f k t379 t380 t381 t382).bind fun t404 => (if (t403 != t404) = true then (laws_FnAttrs.j0 k t388 t395 true t379 t380 t381 t382 t391 t392 t393 t394) else ((impl_AttrsOk.f k t384).bind fun t405 => ((spec_AttrsOk.f k t384).bind fun t406 => (if (t405 != t406) = true then (laws_FnAttrs.j0 k t388 t395 true t379 t380 t381 t382 t391 t392 t393 t394) else (if (!(t391.toList == bt397.1.toList) || (!(t392 == bt397.2.1) || (!(t393 == bt397.2.2.1) || (!(t394.toList == bt397.2.2.2.1.toList))))) = true then (laws_FnAttrs.j0 k t388 t395 true t379 t380 t381 t382 t391 t392 t393 t394) else (if (t395 != bt397.2.2.2.2) = true then (laws_FnAttrs.j0 k t388 t395 true t379 t380 t381 t382 t391 t392 t393 t394) else ((impl_AttrSize.f t379 t380 t381 t382).bind fun t407 => ((spec_AttrSize.f t379 t380 t381 t382).bind fun t408 => (if t407 = t408 then ((impl_AttrText.f k t379 t380 t381 t382).bind fun t409 => ((spec_AttrText.f k t379 t380 t381 t382).bind fun t410 => (laws_FnAttrs.j0 k t388 t395 (t409.toList != t410.toList) t379 t380 t381 t382 t391 t392 t393 t394))) else (laws_FnAttrs.j0 k t388 t395 true t379 t380 t381 t382 t391 t392 t393 t394))))))))))))) = some r := H
  have A7 := Aside0.mk A70
  clear A70
  replace H := Option.bind_eq_some_iff.mp H
  obtain ⟨⟨t397, t398, t399, t400, t401⟩, A80, H⟩ := H
  replace H : ((impl_AttrOk.f k t379 t380 t381 t382).bind fun t403 => ((spec_AttrOk.f k t379 t380 t381 t382).bind fun t404 => (if (t403 != t404) = true then (laws_FnAttrs.j0 k t388 t395 true t379 t380 t381 t382 t391 t392 t393 t394) else ((impl_AttrsOk.f k t384).bind fun t405 => ((spec_AttrsOk.f k t384).bind fun t406 => (if (t405 != t406) = true then (laws_FnAttrs.j0 k t388 t395 true t379 t380 t381 t382 t391 t392 t393 t394) else (if (!(t391.toList == t397.toList) || (!(t392 == t398) || (!(t393 == t399) || (!(t394.toList == t400.toList))))) = true then (laws_FnAttrs.j0 k t388 t395 true t379 t380 t381 t382 t391 t392 t393 t394) else (if (t395 != t401) = true then (laws_FnAttrs.j0 k t388 t395 true t379 t380 t381 t382 t391 t392 t393 t394) else ((impl_AttrSize.f t379 t380 t381 t382).bind fun t407 => ((spec_AttrSize.f t379 t380 t381 t382).bind fun t408 => (if t407 = t408 then ((impl_AttrText.f k t379 t380 t381 t382).bind fun t409 => ((spec_AttrText.f k t379 t380 t381 t382).bind fun t410 => (laws_FnAttrs.j0 k t388 t395 (t409.toList != t410.toList) t379 t380 t381 t382 t391 t392 t393 t394))) else (laws_FnAttrs.j0 k t388 t395 true t379 t380 t381 t382 t391 t392 t393 t394)))))))))))) = some r := H
  have A8 := Aside0.mk A80
  clear A80
  have HC9 := Aside0.mk H
  clear H
  go_enter Tryd.func7, Tryd.ntmps7
  go_upto_region 8 with (first | ((with_reducible refine gate_callee (f := 23) rfl ?_); refine goesL_ (some 12) rfl rfl Tryd.func23 (by kernel_rfl) rfl #[.slice A0 l0.length c0] rfl (by (try simp only [List.map_toArray, List.map_cons, List.map_nil]); first | done | rfl | (simp only [List.length_drop, List.length_take]; rfl)) ?_; (with_reducible refine (laws_big.calls _ _ l0 false _ ?side1 ?side2 A2.out).mono ?_); (case side1 => repeat (first | exact HR0.out | (with_reducible refine Kd.C_alloc ?_ _) | (with_reducible refine Kd.C_drewN ?_ _) | (with_reducible refine Kd.C_drew ?_))); (case side2 => exact HC0.out); rintro e w' ⟨rfl, ⟨nd, rfl⟩⟩; refine ⟨_, rfl, ?_⟩) | ((with_reducible refine gate_callee (f := 24) rfl ?_); refine goesL_ (some 14) rfl rfl Tryd.func24 (by kernel_rfl) rfl #[.slice A0 l0.length c0] rfl (by (try simp only [List.map_toArray, List.map_cons, List.map_nil]); first | done | rfl | (simp only [List.length_drop, List.length_take]; rfl)) ?_; (with_reducible refine (spec_DrawAttrOk.calls k _ _ l0 t379 t380 t381 t382 _ ?side1 ?side2 A4.out).mono ?_); (case side1 => repeat (first | exact HR0.out | (with_reducible refine Kd.C_alloc ?_ _) | (with_reducible refine Kd.C_drewN ?_ _) | (with_reducible refine Kd.C_drew ?_))); (case side2 => exact HC0.out); rintro e w10 ⟨rfl, hb⟩; refine ⟨_, rfl, ?_⟩; have n0_ := Aside0.mk (below_step (by repeat (first | (with_reducible first | exact HB.out | apply below_alloc | apply pw_below_drewN | apply below_drew1) | exact HB.out)) hb); clear HB; have HB := n0_; clear n0_; (try clear hb); (try clear hb2); (try clear hk); (try clear hi)) | ((with_reducible refine gate_dst (N := 3) rfl ?_); (try (refine gate_guard (by rfl) ?_; dsimp only)); refine box_event ?hg (N := 3) ?hd (cs := #[.string (⟨#[]⟩ : ByteArray), .bool false, .int .i64 0, .string (⟨#[]⟩ : ByteArray)]) (t := 28) ?hr ?_; (case hd => rfl); (case hg => rfl); (case hr => first | (go_simp; done) | (go_simp; rfl)); intro gb383 hg w11 hbox hb; have n0_ := Aside0.mk (below_step (by repeat (first | (with_reducible first | exact HB.out | apply below_alloc | apply pw_below_drewN | apply below_drew1) | exact HB.out)) hb); have n1_ := Aside0.mk (hbox); have n2_ := Aside0.mk ((by rw [hg]; exact (below_size (by repeat (first | (with_reducible first | exact HB.out | apply below_alloc | apply pw_below_drewN | apply below_drew1) | exact HB.out))) : w.heap.size ≤ gb383)); have n3_ := Aside0.mk ((by rw [hg]; exact (below_size (by repeat (first | (with_reducible first | exact HB.out | apply below_alloc | apply pw_below_drewN | apply below_drew1) | exact HB.out))) : w.heap.size ≤ gb383)); clear HB; have HB := n0_; have BK383 := n1_; have GW383 := n2_; have GE383 := n3_; clear n0_ n1_ n2_ n3_; clear hb hbox hg; have hcz12_0 : w11.cell? ⟨gb383, 0, none⟩ = some (.string (⟨#[]⟩ : ByteArray)) := (bC BK383.out 0).trans rfl; have hcz12_1 : w11.cell? ⟨gb383, 1, none⟩ = some (.bool false) := (bC BK383.out 1).trans rfl; have hcz12_2 : w11.cell? ⟨gb383, 2, none⟩ = some (.int .i64 0) := (bC BK383.out 2).trans rfl; have hcz12_3 : w11.cell? ⟨gb383, 3, none⟩ = some (.string (⟨#[]⟩ : ByteArray)) := (bC BK383.out 3).trans rfl; have hfz12_0 := blk_frozen BK383.out 0; have hfz12_1 := blk_frozen BK383.out 1; have hfz12_2 := blk_frozen BK383.out 2; have hfz12_3 := blk_frozen BK383.out 3) | ((with_reducible refine gate_callee (f := 25) rfl ?_); refine goesL_ (some 16) rfl rfl Tryd.func25 (by kernel_rfl) rfl #[.slice A0 l0.length c0] rfl (by (try simp only [List.map_toArray, List.map_cons, List.map_nil]); first | done | rfl | (simp only [List.length_drop, List.length_take]; rfl)) ?_; (with_reducible refine (spec_DrawAttrsOk.calls k _ _ l0 t384 _ ?side1 ?side2 A5.out).mono ?_); (case side1 => exact Kd.C_below HR0.out (by repeat (first | (with_reducible first | exact HB.out | apply below_alloc | apply pw_below_drewN | apply below_drew1 | refine bS ?_ GE383.out) | exact HB.out))); (case side2 => exact HC0.out); rintro e w13 ⟨v385, rfl, ho0, hb⟩; refine ⟨_, rfl, ?_⟩; have n0_ := Aside0.mk (Kd.R_lower (Kd.R_newB ho0 (g := gb383) (o := .cells #[.string t379, .bool t380, .int .i64 t381, .string t382] 28 (0, 0)) (by (with_reducible repeat (first | refine bN ?_ _ | refine bD ?_ | refine bA ?_ _)); refine blk_put (cs := #[.string t379, .bool t380, .int .i64 t381, .string (⟨#[]⟩ : ByteArray)]) ?_ 3 _ rfl; (with_reducible repeat (first | refine bN ?_ _ | refine bD ?_ | refine bA ?_ _)); refine blk_put (cs := #[.string t379, .bool t380, .int .i64 0, .string (⟨#[]⟩ : ByteArray)]) ?_ 2 _ rfl; (with_reducible repeat (first | refine bN ?_ _ | refine bD ?_ | refine bA ?_ _)); refine blk_put (cs := #[.string t379, .bool false, .int .i64 0, .string (⟨#[]⟩ : ByteArray)]) ?_ 1 _ rfl; (with_reducible repeat (first | refine bN ?_ _ | refine bD ?_ | refine bA ?_ _)); refine blk_put (cs := #[.string (⟨#[]⟩ : ByteArray), .bool false, .int .i64 0, .string (⟨#[]⟩ : ByteArray)]) ?_ 0 _ rfl; (with_reducible repeat (first | refine bN ?_ _ | refine bD ?_ | refine bA ?_ _)); exact BK383.out)) (below_size (by repeat (first | (with_reducible first | exact HB.out | apply below_alloc | apply pw_below_drewN | apply below_drew1 | refine bS ?_ GE383.out) | exact HB.out)))); have n1_ := Aside0.mk (bB (g := gb383) (o := .cells #[.string t379, .bool t380, .int .i64 t381, .string t382] 28 (0, 0)) (by (with_reducible repeat (first | refine bN ?_ _ | refine bD ?_ | refine bA ?_ _)); refine blk_put (cs := #[.string t379, .bool t380, .int .i64 t381, .string (⟨#[]⟩ : ByteArray)]) ?_ 3 _ rfl; (with_reducible repeat (first | refine bN ?_ _ | refine bD ?_ | refine bA ?_ _)); refine blk_put (cs := #[.string t379, .bool t380, .int .i64 0, .string (⟨#[]⟩ : ByteArray)]) ?_ 2 _ rfl; (with_reducible repeat (first | refine bN ?_ _ | refine bD ?_ | refine bA ?_ _)); refine blk_put (cs := #[.string t379, .bool false, .int .i64 0, .string (⟨#[]⟩ : ByteArray)]) ?_ 1 _ rfl; (with_reducible repeat (first | refine bN ?_ _ | refine bD ?_ | refine bA ?_ _)); refine blk_put (cs := #[.string (⟨#[]⟩ : ByteArray), .bool false, .int .i64 0, .string (⟨#[]⟩ : ByteArray)]) ?_ 0 _ rfl; (with_reducible repeat (first | refine bN ?_ _ | refine bD ?_ | refine bA ?_ _)); exact BK383.out) hb); have n2_ := Aside0.mk (below_step (by repeat (first | (with_reducible first | exact HB.out | apply below_alloc | apply pw_below_drewN | apply below_drew1 | refine bS ?_ GE383.out) | exact HB.out)) hb); clear BK383; clear HB; have HO386 := n0_; have BK383 := n1_; have HB := n2_; clear n0_ n1_ n2_; (try clear hb); (try clear hb2); (try clear hk); (try clear hi); (try clear ho0)) | ((with_reducible refine gate_callee (f := 26) rfl ?_); refine goesL_ (some 19) rfl rfl Tryd.func26 (by kernel_rfl) rfl #[.slice A0 l0.length c0] rfl (by (try simp only [List.map_toArray, List.map_cons, List.map_nil]); first | done | rfl | (simp only [List.length_drop, List.length_take]; rfl)) ?_; (with_reducible refine (spec_DrawFindAttr.calls k _ _ l0 t387 t388 _ ?side1 ?side2 A6.out).mono ?_); (case side1 => repeat (first | exact (Kd.C_below HR0.out HB.out) | (with_reducible refine Kd.C_alloc ?_ _) | (with_reducible refine Kd.C_drewN ?_ _) | (with_reducible refine Kd.C_drew ?_))); (case side2 => exact HC0.out); rintro e w14 ⟨v389, rfl, ho0, hb⟩; refine ⟨_, rfl, ?_⟩; have n0_ := Aside0.mk (Kd.R_elder' (by (with_reducible repeat (first | apply Kd.R_alloc | apply Kd.R_drewN | apply Kd.R_drew)); exact HO386.out) (Kd.R_base ho0) hb); have n1_ := Aside0.mk (Kd.R_lower (Kd.R_newB (Kd.R_new' ho0 (Kd.R_lt (by (with_reducible repeat (first | apply Kd.R_alloc | apply Kd.R_drewN | apply Kd.R_drew)); exact HO386.out))) (g := gb383) (o := .cells #[.string t379, .bool t380, .int .i64 t381, .string t382] 28 (0, 0)) (by (with_reducible repeat (first | refine bN ?_ _ | refine bD ?_ | refine bA ?_ _)); exact BK383.out)) (below_size (by repeat (first | (with_reducible first | exact HB.out | apply below_alloc | apply pw_below_drewN | apply below_drew1 | refine bS ?_ GE383.out) | exact HB.out)))); have n2_ := Aside0.mk (bB (g := gb383) (o := .cells #[.string t379, .bool t380, .int .i64 t381, .string t382] 28 (0, 0)) (by (with_reducible repeat (first | refine bN ?_ _ | refine bD ?_ | refine bA ?_ _)); exact BK383.out) hb); have n3_ := Aside0.mk (below_step (by repeat (first | (with_reducible first | exact HB.out | apply below_alloc | apply pw_below_drewN | apply below_drew1 | refine bS ?_ GE383.out) | exact HB.out)) hb); clear HO386; clear BK383; clear HB; have HO386 := n0_; have HO390 := n1_; have BK383 := n2_; have HB := n3_; clear n0_ n1_ n2_ n3_; (try clear hb); (try clear hb2); (try clear hk); (try clear hi); (try clear ho0); obtain ⟨Ao15, co15, eo15⟩ := Kd.R_slice HO390.out; subst eo15) | ((with_reducible refine gate_callee (f := 27) rfl ?_); refine goesL_ (some 25) rfl rfl Tryd.func27 (by kernel_rfl) rfl #[.slice Ao15 t387.length co15, .string t388] rfl (by (try simp only [List.map_toArray, List.map_cons, List.map_nil]); first | done | rfl | (simp only [List.length_drop, List.length_take]; rfl)) ?_; (with_reducible refine (impl_FindAttr.calls k _ _ t387 t388 t391 t392 t393 t394 t395 _ ?side1 ?side2 A7.out).mono ?_); (case side1 => repeat (first | exact (Kd.R_reads' HO390.out).2.2 | (with_reducible refine Kd.C_alloc ?_ _) | (with_reducible refine Kd.C_drewN ?_ _) | (with_reducible refine Kd.C_drew ?_))); (case side2 => exact (Kd.R_reads' HO390.out).2.1); rintro e w16 ⟨rfl, hb⟩; refine ⟨_, rfl, ?_⟩; have n0_ := Aside0.mk (Kd.R_below (by (with_reducible repeat (first | apply Kd.R_alloc | apply Kd.R_drewN | apply Kd.R_drew)); exact HO386.out) hb); have n1_ := Aside0.mk (Kd.R_below (by (with_reducible repeat (first | apply Kd.R_alloc | apply Kd.R_drewN | apply Kd.R_drew)); exact HO390.out) hb); have n2_ := Aside0.mk (bB (g := gb383) (o := .cells #[.string t379, .bool t380, .int .i64 t381, .string t382] 28 (0, 0)) (by (with_reducible repeat (first | refine bN ?_ _ | refine bD ?_ | refine bA ?_ _)); exact BK383.out) hb); have n3_ := Aside0.mk (below_step (by repeat (first | (with_reducible first | exact HB.out | apply below_alloc | apply pw_below_drewN | apply below_drew1 | refine bS ?_ GE383.out) | exact HB.out)) hb); clear HO386; clear HO390; clear BK383; clear HB; have HO386 := n0_; have HO390 := n1_; have BK383 := n2_; have HB := n3_; clear n0_ n1_ n2_ n3_; (try clear hb); (try clear hb2); (try clear hk); (try clear hi)) | ((with_reducible refine gate_dst (N := 7) rfl ?_); (try (refine gate_guard (by rfl) ?_; dsimp only)); refine box_event ?hg (N := 7) ?hd (cs := #[.string (⟨#[]⟩ : ByteArray), .bool false, .int .i64 0, .string (⟨#[]⟩ : ByteArray)]) (t := 28) ?hr ?_; (case hd => rfl); (case hg => rfl); (case hr => first | (go_simp; done) | (go_simp; rfl)); intro gb396 hg w17 hbox hb; have n0_ := Aside0.mk (Kd.R_below (Kd.R_elderB (by (with_reducible repeat (first | apply Kd.R_alloc | apply Kd.R_drewN | apply Kd.R_drew)); exact HO386.out) gb396 (Nat.le_of_eq hg.symm)) hb); have n1_ := Aside0.mk (Kd.R_below (Kd.R_elderB (by (with_reducible repeat (first | apply Kd.R_alloc | apply Kd.R_drewN | apply Kd.R_drew)); exact HO390.out) gb396 (Nat.le_of_eq hg.symm)) hb); have n2_ := Aside0.mk (bB (g := gb383) (o := .cells #[.string t379, .bool t380, .int .i64 t381, .string t382] 28 (0, 0)) (by (with_reducible repeat (first | refine bN ?_ _ | refine bD ?_ | refine bA ?_ _)); exact BK383.out) hb); have n3_ := Aside0.mk (below_step (by repeat (first | (with_reducible first | exact HB.out | apply below_alloc | apply pw_below_drewN | apply below_drew1 | refine bS ?_ GE383.out) | exact HB.out)) hb); have n4_ := Aside0.mk (hbox); have n5_ := Aside0.mk ((by rw [hg]; exact (below_size (by repeat (first | (with_reducible first | exact HB.out | apply below_alloc | apply pw_below_drewN | apply below_drew1 | refine bS ?_ GE383.out) | exact HB.out))) : w.heap.size ≤ gb396)); have n6_ := Aside0.mk ((by rw [hg]; exact (below_size (by repeat (first | (with_reducible first | exact HB.out | apply below_alloc | apply pw_below_drewN | apply below_drew1 | refine bS ?_ GE383.out) | exact HB.out))) : w.heap.size ≤ gb396)); have n7_ := Aside0.mk ((by rw [hg]; exact Nat.ne_of_lt (blk_lt (g := gb383) (o := .cells #[.string t379, .bool t380, .int .i64 t381, .string t382] 28 (0, 0)) (by (with_reducible repeat (first | refine bN ?_ _ | refine bD ?_ | refine bA ?_ _)); exact BK383.out)) : gb383 ≠ gb396)); have n8_ := Aside0.mk ((by rw [hg]; exact Nat.ne_of_gt (blk_lt (g := gb383) (o := .cells #[.string t379, .bool t380, .int .i64 t381, .string t382] 28 (0, 0)) (by (with_reducible repeat (first | refine bN ?_ _ | refine bD ?_ | refine bA ?_ _)); exact BK383.out)) : gb396 ≠ gb383)); clear HO386; clear HO390; clear BK383; clear HB; have HO386 := n0_; have HO390 := n1_; have BK383 := n2_; have HB := n3_; have BK396 := n4_; have GW396 := n5_; have GE396 := n6_; have NB383_396 := n7_; have NB396_383 := n8_; clear n0_ n1_ n2_ n3_ n4_ n5_ n6_ n7_ n8_; clear hb hbox hg; have hnb18 := NB396_383.out; have hnc18 := NB383_396.out; have hcz19_0 : w17.cell? ⟨gb396, 0, none⟩ = some (.string (⟨#[]⟩ : ByteArray)) := (bC BK396.out 0).trans rfl; have hcz19_1 : w17.cell? ⟨gb396, 1, none⟩ = some (.bool false) := (bC BK396.out 1).trans rfl; have hcz19_2 : w17.cell? ⟨gb396, 2, none⟩ = some (.int .i64 0) := (bC BK396.out 2).trans rfl; have hcz19_3 : w17.cell? ⟨gb396, 3, none⟩ = some (.string (⟨#[]⟩ : ByteArray)) := (bC BK396.out 3).trans rfl; have hfz19_0 := blk_frozen BK396.out 0; have hfz19_1 := blk_frozen BK396.out 1; have hfz19_2 := blk_frozen BK396.out 2; have hfz19_3 := blk_frozen BK396.out 3) | ((with_reducible refine gate_callee (f := 28) rfl ?_); refine goesL_ (some 31) rfl rfl Tryd.func28 (by kernel_rfl) rfl #[.slice Ao15 t387.length co15, .string t388] rfl (by (try simp only [List.map_toArray, List.map_cons, List.map_nil]); first | done | rfl | (simp only [List.length_drop, List.length_take]; rfl)) ?_; (with_reducible refine (spec_FindAttr.calls k _ _ t387 t388 t397 t398 t399 t400 t401 _ ?side1 ?side2 A8.out).mono ?_); (case side1 => refine (Kd.R_reads' (e := 28) (base := w.heap.size) (ok := fun k_ => (((True ∧ some k_ ≠ (v385 : Value).ownBlock) ∧ k_ ≠ gb383) ∧ k_ ≠ gb396)) (n := t387.length) (c := co15) ?_).2.2; exact (by (with_reducible repeat (first | apply Kd.R_alloc | apply Kd.R_drewN | apply Kd.R_drew)); exact (Kd.R_mono (Kd.R_far (p := ⟨gb396, 3, none⟩) (Kd.R_far (p := ⟨gb396, 2, none⟩) (Kd.R_far (p := ⟨gb396, 1, none⟩) (Kd.R_far (p := ⟨gb396, 0, none⟩) (Kd.R_mono HO390.out (fun k_ hk => (⟨hk, hk.2⟩ : _ ∧ k_ ≠ gb396))) (fun _ hk => hk.2) (.string t391)) (fun _ hk => hk.2) (.bool t392)) (fun _ hk => hk.2) (.int .i64 t393)) (fun _ hk => hk.2) (.string t394)) (fun _ h_ => h_.1)))); (case side2 => exact (Kd.R_reads' HO390.out).2.1); rintro e w20 ⟨rfl, hb⟩; refine ⟨_, rfl, ?_⟩; have n0_ := Aside0.mk (Kd.R_below (by (with_reducible repeat (first | apply Kd.R_alloc | apply Kd.R_drewN | apply Kd.R_drew)); exact (Kd.R_mono (Kd.R_far (p := ⟨gb396, 3, none⟩) (Kd.R_far (p := ⟨gb396, 2, none⟩) (Kd.R_far (p := ⟨gb396, 1, none⟩) (Kd.R_far (p := ⟨gb396, 0, none⟩) (Kd.R_mono HO386.out (fun k_ hk => (⟨hk, hk.2⟩ : _ ∧ k_ ≠ gb396))) (fun _ hk => hk.2) (.string t391)) (fun _ hk => hk.2) (.bool t392)) (fun _ hk => hk.2) (.int .i64 t393)) (fun _ hk => hk.2) (.string t394)) (fun _ h_ => h_.1))) hb); have n1_ := Aside0.mk (Kd.R_below (by (with_reducible repeat (first | apply Kd.R_alloc | apply Kd.R_drewN | apply Kd.R_drew)); exact (Kd.R_mono (Kd.R_far (p := ⟨gb396, 3, none⟩) (Kd.R_far (p := ⟨gb396, 2, none⟩) (Kd.R_far (p := ⟨gb396, 1, none⟩) (Kd.R_far (p := ⟨gb396, 0, none⟩) (Kd.R_mono HO390.out (fun k_ hk => (⟨hk, hk.2⟩ : _ ∧ k_ ≠ gb396))) (fun _ hk => hk.2) (.string t391)) (fun _ hk => hk.2) (.bool t392)) (fun _ hk => hk.2) (.int .i64 t393)) (fun _ hk => hk.2) (.string t394)) (fun _ h_ => h_.1))) hb); have n2_ := Aside0.mk (bB (g := gb383) (o := .cells #[.string t379, .bool t380, .int .i64 t381, .string t382] 28 (0, 0)) (by (with_reducible repeat (first | refine bN ?_ _ | refine bD ?_ | refine bA ?_ _)); refine blk_far ?_ NB383_396.out _; (with_reducible repeat (first | refine bN ?_ _ | refine bD ?_ | refine bA ?_ _)); refine blk_far ?_ NB383_396.out _; (with_reducible repeat (first | refine bN ?_ _ | refine bD ?_ | refine bA ?_ _)); refine blk_far ?_ NB383_396.out _; (with_reducible repeat (first | refine bN ?_ _ | refine bD ?_ | refine bA ?_ _)); refine blk_far ?_ NB383_396.out _; (with_reducible repeat (first | refine bN ?_ _ | refine bD ?_ | refine bA ?_ _)); exact BK383.out) hb); have n3_ := Aside0.mk (bB (g := gb396) (o := .cells #[.string t391, .bool t392, .int .i64 t393, .string t394] 28 (0, 0)) (by (with_reducible repeat (first | refine bN ?_ _ | refine bD ?_ | refine bA ?_ _)); refine blk_put (cs := #[.string t391, .bool t392, .int .i64 t393, .string (⟨#[]⟩ : ByteArray)]) ?_ 3 _ rfl; (with_reducible repeat (first | refine bN ?_ _ | refine bD ?_ | refine bA ?_ _)); refine blk_put (cs := #[.string t391, .bool t392, .int .i64 0, .string (⟨#[]⟩ : ByteArray)]) ?_ 2 _ rfl; (with_reducible repeat (first | refine bN ?_ _ | refine bD ?_ | refine bA ?_ _)); refine blk_put (cs := #[.string t391, .bool false, .int .i64 0, .string (⟨#[]⟩ : ByteArray)]) ?_ 1 _ rfl; (with_reducible repeat (first | refine bN ?_ _ | refine bD ?_ | refine bA ?_ _)); refine blk_put (cs := #[.string (⟨#[]⟩ : ByteArray), .bool false, .int .i64 0, .string (⟨#[]⟩ : ByteArray)]) ?_ 0 _ rfl; (with_reducible repeat (first | refine bN ?_ _ | refine bD ?_ | refine bA ?_ _)); exact BK396.out) hb); have n4_ := Aside0.mk (below_step (by repeat (first | (with_reducible first | exact HB.out | apply below_alloc | apply pw_below_drewN | apply below_drew1 | refine bS ?_ GE383.out | refine bS ?_ GE396.out) | exact HB.out)) hb); clear HO386; clear HO390; clear BK383; clear BK396; clear HB; have HO386 := n0_; have HO390 := n1_; have BK383 := n2_; have BK396 := n3_; have HB := n4_; clear n0_ n1_ n2_ n3_ n4_; (try clear hb); (try clear hb2); (try clear hk); (try clear hi)) | ((with_reducible refine gate_dst (N := 9) rfl ?_); (try (refine gate_guard (by rfl) ?_; dsimp only)); refine box_event ?hg (N := 9) ?hd (cs := #[.string (⟨#[]⟩ : ByteArray), .bool false, .int .i64 0, .string (⟨#[]⟩ : ByteArray)]) (t := 28) ?hr ?_; (case hd => rfl); (case hg => rfl); (case hr => first | (go_simp; done) | (go_simp; rfl)); intro gb402 hg w21 hbox hb; have n0_ := Aside0.mk (Kd.R_below (Kd.R_elderB (by (with_reducible repeat (first | apply Kd.R_alloc | apply Kd.R_drewN | apply Kd.R_drew)); exact HO386.out) gb402 (Nat.le_of_eq hg.symm)) hb); have n1_ := Aside0.mk (Kd.R_below (Kd.R_elderB (by (with_reducible repeat (first | apply Kd.R_alloc | apply Kd.R_drewN | apply Kd.R_drew)); exact HO390.out) gb402 (Nat.le_of_eq hg.symm)) hb); have n2_ := Aside0.mk (bB (g := gb383) (o := .cells #[.string t379, .bool t380, .int .i64 t381, .string t382] 28 (0, 0)) (by (with_reducible repeat (first | refine bN ?_ _ | refine bD ?_ | refine bA ?_ _)); exact BK383.out) hb); have n3_ := Aside0.mk (bB (g := gb396) (o := .cells #[.string t391, .bool t392, .int .i64 t393, .string t394] 28 (0, 0)) (by (with_reducible repeat (first | refine bN ?_ _ | refine bD ?_ | refine bA ?_ _)); exact BK396.out) hb); have n4_ := Aside0.mk (below_step (by repeat (first | (with_reducible first | exact HB.out | apply below_alloc | apply pw_below_drewN | apply below_drew1 | refine bS ?_ GE383.out | refine bS ?_ GE396.out) | exact HB.out)) hb); have n5_ := Aside0.mk (hbox); have n6_ := Aside0.mk ((by rw [hg]; exact (below_size (by repeat (first | (with_reducible first | exact HB.out | apply below_alloc | apply pw_below_drewN | apply below_drew1 | refine bS ?_ GE383.out | refine bS ?_ GE396.out) | exact HB.out))) : w.heap.size ≤ gb402)); have n7_ := Aside0.mk ((by rw [hg]; exact (below_size (by repeat (first | (with_reducible first | exact HB.out | apply below_alloc | apply pw_below_drewN | apply below_drew1 | refine bS ?_ GE383.out | refine bS ?_ GE396.out) | exact HB.out))) : w.heap.size ≤ gb402)); have n8_ := Aside0.mk ((by rw [hg]; exact Nat.ne_of_lt (blk_lt (g := gb383) (o := .cells #[.string t379, .bool t380, .int .i64 t381, .string t382] 28 (0, 0)) (by (with_reducible repeat (first | refine bN ?_ _ | refine bD ?_ | refine bA ?_ _)); exact BK383.out)) : gb383 ≠ gb402)); have n9_ := Aside0.mk ((by rw [hg]; exact Nat.ne_of_gt (blk_lt (g := gb383) (o := .cells #[.string t379, .bool t380, .int .i64 t381, .string t382] 28 (0, 0)) (by (with_reducible repeat (first | refine bN ?_ _ | refine bD ?_ | refine bA ?_ _)); exact BK383.out)) : gb402 ≠ gb383)); have n10_ := Aside0.mk ((by rw [hg]; exact Nat.ne_of_lt (blk_lt (g := gb396) (o := .cells #[.string t391, .bool t392, .int .i64 t393, .string t394] 28 (0, 0)) (by (with_reducible repeat (first | refine bN ?_ _ | refine bD ?_ | refine bA ?_ _)); exact BK396.out)) : gb396 ≠ gb402)); have n11_ := Aside0.mk ((by rw [hg]; exact Nat.ne_of_gt (blk_lt (g := gb396) (o := .cells #[.string t391, .bool t392, .int .i64 t393, .string t394] 28 (0, 0)) (by (with_reducible repeat (first | refine bN ?_ _ | refine bD ?_ | refine bA ?_ _)); exact BK396.out)) : gb402 ≠ gb396)); clear HO386; clear HO390; clear BK383; clear BK396; clear HB; have HO386 := n0_; have HO390 := n1_; have BK383 := n2_; have BK396 := n3_; have HB := n4_; have BK402 := n5_; have GW402 := n6_; have GE402 := n7_; have NB383_402 := n8_; have NB402_383 := n9_; have NB396_402 := n10_; have NB402_396 := n11_; clear n0_ n1_ n2_ n3_ n4_ n5_ n6_ n7_ n8_ n9_ n10_ n11_; clear hb hbox hg; have hnb22 := NB402_383.out; have hnc22 := NB383_402.out; have hnb23 := NB402_396.out; have hnc23 := NB396_402.out; have hcz24_0 : w21.cell? ⟨gb402, 0, none⟩ = some (.string (⟨#[]⟩ : ByteArray)) := (bC BK402.out 0).trans rfl; have hcz24_1 : w21.cell? ⟨gb402, 1, none⟩ = some (.bool false) := (bC BK402.out 1).trans rfl; have hcz24_2 : w21.cell? ⟨gb402, 2, none⟩ = some (.int .i64 0) := (bC BK402.out 2).trans rfl; have hcz24_3 : w21.cell? ⟨gb402, 3, none⟩ = some (.string (⟨#[]⟩ : ByteArray)) := (bC BK402.out 3).trans rfl; have hfz24_0 := blk_frozen BK402.out 0; have hfz24_1 := blk_frozen BK402.out 1; have hfz24_2 := blk_frozen BK402.out 2; have hfz24_3 := blk_frozen BK402.out 3))
  (try simp only [Act.put, List.setIfInBounds_toArray, List.set_cons_zero, List.set_cons_succ])
  go_cut [69] (fun v69 wc => ∃ (kq : Nat) (x69_8 : Bool), v69 = .bool x69_8 ∧ Aside0 (laws_FnAttrs.j0 kq t388 t395 x69_8 t379 t380 t381 t382 t391 t392 t393 t394 = some r) ∧ Aside0 (kq ≤ k) ∧ Aside0 (wc.heap[gb383]? = some (.cells #[.string t379, .bool t380, .int .i64 t381, .string t382] 28 (0, 0))) ∧ Aside0 (wc.heap[gb396]? = some (.cells #[.string t391, .bool t392, .int .i64 t393, .string t394] 28 (0, 0))) ∧ Aside0 (wc.heap[gb402]? = some (.cells #[.string t397, .bool t398, .int .i64 t399, .string t400] 28 (0, 0))) ∧ Aside0 (Below w.heap.size w wc))
  case first =>
   have H := HC9.out
   clear HC9
   replace H := Option.bind_eq_some_iff.mp H
   obtain ⟨t403, A250, H⟩ := H
   replace H : ((spec_AttrOk.f k t379 t380 t381 t382).bind fun t404 => (if (t403 != t404) = true then (laws_FnAttrs.j0 k t388 t395 true t379 t380 t381 t382 t391 t392 t393 t394) else ((impl_AttrsOk.f k t384).bind fun t405 => ((spec_AttrsOk.f k t384).bind fun t406 => (if (t405 != t406) = true then (laws_FnAttrs.j0 k t388 t395 true t379 t380 t381 t382 t391 t392 t393 t394) else (if (!(t391.toList == t397.toList) || (!(t392 == t398) || (!(t393 == t399) || (!(t394.toList == t400.toList))))) = true then (laws_FnAttrs.j0 k t388 t395 true t379 t380 t381 t382 t391 t392 t393 t394) else (if (t395 != t401) = true then (laws_FnAttrs.j0 k t388 t395 true t379 t380 t381 t382 t391 t392 t393 t394) else ((impl_AttrSize.f t379 t380 t381 t382).bind fun t407 => ((spec_AttrSize.f t379 t380 t381 t382).bind fun t408 => (if t407 = t408 then ((impl_AttrText.f k t379 t380 t381 t382).bind fun t409 => ((spec_AttrText.f k t379 t380 t381 t382).bind fun t410 => (laws_FnAttrs.j0 k t388 t395 (t409.toList != t410.toList) t379 t380 t381 t382 t391 t392 t393 t394))) else (laws_FnAttrs.j0 k t388 t395 true t379 t380 t381 t382 t391 t392 t393 t394))))))))))) = some r := H
   have A25 := Aside0.mk A250
   clear A250
   replace H := Option.bind_eq_some_iff.mp H
   obtain ⟨t404, A260, H⟩ := H
   replace H : (if (t403 != t404) = true then (laws_FnAttrs.j0 k t388 t395 true t379 t380 t381 t382 t391 t392 t393 t394) else ((impl_AttrsOk.f k t384).bind fun t405 => ((spec_AttrsOk.f k t384).bind fun t406 => (if (t405 != t406) = true then (laws_FnAttrs.j0 k t388 t395 true t379 t380 t381 t382 t391 t392 t393 t394) else (if (!(t391.toList == t397.toList) || (!(t392 == t398) || (!(t393 == t399) || (!(t394.toList == t400.toList))))) = true then (laws_FnAttrs.j0 k t388 t395 true t379 t380 t381 t382 t391 t392 t393 t394) else (if (t395 != t401) = true then (laws_FnAttrs.j0 k t388 t395 true t379 t380 t381 t382 t391 t392 t393 t394) else ((impl_AttrSize.f t379 t380 t381 t382).bind fun t407 => ((spec_AttrSize.f t379 t380 t381 t382).bind fun t408 => (if t407 = t408 then ((impl_AttrText.f k t379 t380 t381 t382).bind fun t409 => ((spec_AttrText.f k t379 t380 t381 t382).bind fun t410 => (laws_FnAttrs.j0 k t388 t395 (t409.toList != t410.toList) t379 t380 t381 t382 t391 t392 t393 t394))) else (laws_FnAttrs.j0 k t388 t395 true t379 t380 t381 t382 t391 t392 t393 t394)))))))))) = some r := H
   have A26 := Aside0.mk A260
   clear A260
   by_cases c27 : (t403 != t404) = true
   ·rw [if_pos c27] at H
    exact (laws_FnAttrs.j0_bad H hrt_.out).elim
   ·rw [if_neg c27] at H
    have c27b0 : (t403 != t404) = false := by simpa using c27
    (try (have c27b1 : decide (t403 = t404) = true := by simpa using c27))
    (try (have c27b2 : (t403 == t404) = true := by simpa using c27))
    clear c27
    (first | rw [c27b0] | (simp only [i64_w, i32_w]; rw [c27b0]) | skip)
    replace H := Option.bind_eq_some_iff.mp H
    obtain ⟨t405, A320, H⟩ := H
    replace H : ((spec_AttrsOk.f k t384).bind fun t406 => (if (t405 != t406) = true then (laws_FnAttrs.j0 k t388 t395 true t379 t380 t381 t382 t391 t392 t393 t394) else (if (!(t391.toList == t397.toList) || (!(t392 == t398) || (!(t393 == t399) || (!(t394.toList == t400.toList))))) = true then (laws_FnAttrs.j0 k t388 t395 true t379 t380 t381 t382 t391 t392 t393 t394) else (if (t395 != t401) = true then (laws_FnAttrs.j0 k t388 t395 true t379 t380 t381 t382 t391 t392 t393 t394) else ((impl_AttrSize.f t379 t380 t381 t382).bind fun t407 => ((spec_AttrSize.f t379 t380 t381 t382).bind fun t408 => (if t407 = t408 then ((impl_AttrText.f k t379 t380 t381 t382).bind fun t409 => ((spec_AttrText.f k t379 t380 t381 t382).bind fun t410 => (laws_FnAttrs.j0 k t388 t395 (t409.toList != t410.toList) t379 t380 t381 t382 t391 t392 t393 t394))) else (laws_FnAttrs.j0 k t388 t395 true t379 t380 t381 t382 t391 t392 t393 t394)))))))) = some r := H
    have A32 := Aside0.mk A320
    clear A320
    replace H := Option.bind_eq_some_iff.mp H
    obtain ⟨t406, A330, H⟩ := H
    replace H : (if (t405 != t406) = true then (laws_FnAttrs.j0 k t388 t395 true t379 t380 t381 t382 t391 t392 t393 t394) else (if (!(t391.toList == t397.toList) || (!(t392 == t398) || (!(t393 == t399) || (!(t394.toList == t400.toList))))) = true then (laws_FnAttrs.j0 k t388 t395 true t379 t380 t381 t382 t391 t392 t393 t394) else (if (t395 != t401) = true then (laws_FnAttrs.j0 k t388 t395 true t379 t380 t381 t382 t391 t392 t393 t394) else ((impl_AttrSize.f t379 t380 t381 t382).bind fun t407 => ((spec_AttrSize.f t379 t380 t381 t382).bind fun t408 => (if t407 = t408 then ((impl_AttrText.f k t379 t380 t381 t382).bind fun t409 => ((spec_AttrText.f k t379 t380 t381 t382).bind fun t410 => (laws_FnAttrs.j0 k t388 t395 (t409.toList != t410.toList) t379 t380 t381 t382 t391 t392 t393 t394))) else (laws_FnAttrs.j0 k t388 t395 true t379 t380 t381 t382 t391 t392 t393 t394))))))) = some r := H
    have A33 := Aside0.mk A330
    clear A330
    by_cases c34 : (t405 != t406) = true
    ·rw [if_pos c34] at H
     exact (laws_FnAttrs.j0_bad H hrt_.out).elim
    ·rw [if_neg c34] at H
     have c34b0 : (t405 != t406) = false := by simpa using c34
     (try (have c34b1 : decide (t405 = t406) = true := by simpa using c34))
     (try (have c34b2 : (t405 == t406) = true := by simpa using c34))
     clear c34
     by_cases c42 : (!(t391.toList == t397.toList) || (!(t392 == t398) || (!(t393 == t399) || (!(t394.toList == t400.toList))))) = true
     ·rw [if_pos c42] at H
      exact (laws_FnAttrs.j0_bad H hrt_.out).elim
     ·rw [if_neg c42] at H
      have c42b0 : (!(t391.toList == t397.toList) || (!(t392 == t398) || (!(t393 == t399) || (!(t394.toList == t400.toList))))) = false := by simpa using c42
      clear c42
      by_cases c50 : (t395 != t401) = true
      ·rw [if_pos c50] at H
       exact (laws_FnAttrs.j0_bad H hrt_.out).elim
      ·rw [if_neg c50] at H
       have c50b0 : (t395 != t401) = false := by simpa using c50
       (try (have c50b1 : decide (t395 = t401) = true := by simpa using c50))
       (try (have c50b2 : (t395 == t401) = true := by simpa using c50))
       clear c50
       replace H := Option.bind_eq_some_iff.mp H
       obtain ⟨t407, A580, H⟩ := H
       replace H : ((spec_AttrSize.f t379 t380 t381 t382).bind fun t408 => (if t407 = t408 then ((impl_AttrText.f k t379 t380 t381 t382).bind fun t409 => ((spec_AttrText.f k t379 t380 t381 t382).bind fun t410 => (laws_FnAttrs.j0 k t388 t395 (t409.toList != t410.toList) t379 t380 t381 t382 t391 t392 t393 t394))) else (laws_FnAttrs.j0 k t388 t395 true t379 t380 t381 t382 t391 t392 t393 t394))) = some r := H
       have A58 := Aside0.mk A580
       clear A580
       replace H := Option.bind_eq_some_iff.mp H
       obtain ⟨t408, A590, H⟩ := H
       replace H : (if t407 = t408 then ((impl_AttrText.f k t379 t380 t381 t382).bind fun t409 => ((spec_AttrText.f k t379 t380 t381 t382).bind fun t410 => (laws_FnAttrs.j0 k t388 t395 (t409.toList != t410.toList) t379 t380 t381 t382 t391 t392 t393 t394))) else (laws_FnAttrs.j0 k t388 t395 true t379 t380 t381 t382 t391 t392 t393 t394)) = some r := H
       have A59 := Aside0.mk A590
       clear A590
       by_cases c60 : t407 = t408
       ·rw [if_pos c60] at H
        have c60b0 : (t407 == t408) = true := beq_iff_eq.mpr c60
        have c60b1 : (t407 != t408) = false := bne_eq_false_iff_eq.mpr c60
        clear c60
        replace H := Option.bind_eq_some_iff.mp H
        obtain ⟨t409, A610, H⟩ := H
        replace H : ((spec_AttrText.f k t379 t380 t381 t382).bind fun t410 => (laws_FnAttrs.j0 k t388 t395 (t409.toList != t410.toList) t379 t380 t381 t382 t391 t392 t393 t394)) = some r := H
        have A61 := Aside0.mk A610
        clear A610
        replace H := Option.bind_eq_some_iff.mp H
        obtain ⟨t410, A620, H⟩ := H
        replace H : (laws_FnAttrs.j0 k t388 t395 (t409.toList != t410.toList) t379 t380 t381 t382 t391 t392 t393 t394) = some r := H
        have A62 := Aside0.mk A620
        clear A620
        have H' := Aside0.mk H
        clear H
        try go_wp2
        have n0_ : Aside0 (Kd.R k28 28 ((((w21.setCell ⟨gb402, 0, none⟩ (.string t397)).setCell ⟨gb402, 1, none⟩ (.bool t398)).setCell ⟨gb402, 2, none⟩ (.int .i64 t399)).setCell ⟨gb402, 3, none⟩ (.string t400)) w.heap.size (fun k_ => some k_ ≠ (.slice Ao15 t387.length co15 : Value).ownBlock ∧ k_ ≠ gb383 ∧ k_ ≠ gb396 ∧ k_ ≠ gb402) v385 t384) := ⟨by (with_reducible repeat (first | apply Kd.R_alloc | apply Kd.R_drewN | apply Kd.R_drew)); exact Kd.R_mono (Kd.R_far (p := ⟨gb402, 3, none⟩) (Kd.R_far (p := ⟨gb402, 2, none⟩) (Kd.R_far (p := ⟨gb402, 1, none⟩) (Kd.R_far (p := ⟨gb402, 0, none⟩) (Kd.R_mono HO386.out (fun k_ hk => (⟨hk, hk.2⟩ : _ ∧ k_ ≠ gb402))) (fun _ hk => hk.2) (.string t397)) (fun _ hk => hk.2) (.bool t398)) (fun _ hk => hk.2) (.int .i64 t399)) (fun _ hk => hk.2) (.string t400)) (fun _ hk => ⟨hk.1.1.1.2, ⟨hk.1.1.1.1.2, ⟨hk.1.1.2, hk.1.2⟩⟩⟩)⟩
        have n1_ : Aside0 (Kd.R k28 28 ((((w21.setCell ⟨gb402, 0, none⟩ (.string t397)).setCell ⟨gb402, 1, none⟩ (.bool t398)).setCell ⟨gb402, 2, none⟩ (.int .i64 t399)).setCell ⟨gb402, 3, none⟩ (.string t400)) w.heap.size (fun k_ => some k_ ≠ (v385 : Value).ownBlock ∧ k_ ≠ gb383 ∧ k_ ≠ gb396 ∧ k_ ≠ gb402) (.slice Ao15 t387.length co15) t387) := ⟨by (with_reducible repeat (first | apply Kd.R_alloc | apply Kd.R_drewN | apply Kd.R_drew)); exact Kd.R_mono (Kd.R_far (p := ⟨gb402, 3, none⟩) (Kd.R_far (p := ⟨gb402, 2, none⟩) (Kd.R_far (p := ⟨gb402, 1, none⟩) (Kd.R_far (p := ⟨gb402, 0, none⟩) (Kd.R_mono HO390.out (fun k_ hk => (⟨hk, hk.2⟩ : _ ∧ k_ ≠ gb402))) (fun _ hk => hk.2) (.string t397)) (fun _ hk => hk.2) (.bool t398)) (fun _ hk => hk.2) (.int .i64 t399)) (fun _ hk => hk.2) (.string t400)) (fun _ hk => ⟨hk.1.1.1.1.2, ⟨hk.1.1.1.2, ⟨hk.1.1.2, hk.1.2⟩⟩⟩)⟩
        have n2_ : Aside0 (((((w21.setCell ⟨gb402, 0, none⟩ (.string t397)).setCell ⟨gb402, 1, none⟩ (.bool t398)).setCell ⟨gb402, 2, none⟩ (.int .i64 t399)).setCell ⟨gb402, 3, none⟩ (.string t400)).heap[gb383]? = some (.cells #[.string t379, .bool t380, .int .i64 t381, .string t382] 28 (0, 0))) := ⟨by (with_reducible repeat (first | refine bN ?_ _ | refine bD ?_ | refine bA ?_ _)); refine blk_far ?_ NB383_402.out _; (with_reducible repeat (first | refine bN ?_ _ | refine bD ?_ | refine bA ?_ _)); refine blk_far ?_ NB383_402.out _; (with_reducible repeat (first | refine bN ?_ _ | refine bD ?_ | refine bA ?_ _)); refine blk_far ?_ NB383_402.out _; (with_reducible repeat (first | refine bN ?_ _ | refine bD ?_ | refine bA ?_ _)); refine blk_far ?_ NB383_402.out _; (with_reducible repeat (first | refine bN ?_ _ | refine bD ?_ | refine bA ?_ _)); exact BK383.out⟩
        have n3_ : Aside0 (((((w21.setCell ⟨gb402, 0, none⟩ (.string t397)).setCell ⟨gb402, 1, none⟩ (.bool t398)).setCell ⟨gb402, 2, none⟩ (.int .i64 t399)).setCell ⟨gb402, 3, none⟩ (.string t400)).heap[gb396]? = some (.cells #[.string t391, .bool t392, .int .i64 t393, .string t394] 28 (0, 0))) := ⟨by (with_reducible repeat (first | refine bN ?_ _ | refine bD ?_ | refine bA ?_ _)); refine blk_far ?_ NB396_402.out _; (with_reducible repeat (first | refine bN ?_ _ | refine bD ?_ | refine bA ?_ _)); refine blk_far ?_ NB396_402.out _; (with_reducible repeat (first | refine bN ?_ _ | refine bD ?_ | refine bA ?_ _)); refine blk_far ?_ NB396_402.out _; (with_reducible repeat (first | refine bN ?_ _ | refine bD ?_ | refine bA ?_ _)); refine blk_far ?_ NB396_402.out _; (with_reducible repeat (first | refine bN ?_ _ | refine bD ?_ | refine bA ?_ _)); exact BK396.out⟩
        have n4_ : Aside0 (((((w21.setCell ⟨gb402, 0, none⟩ (.string t397)).setCell ⟨gb402, 1, none⟩ (.bool t398)).setCell ⟨gb402, 2, none⟩ (.int .i64 t399)).setCell ⟨gb402, 3, none⟩ (.string t400)).heap[gb402]? = some (.cells #[.string t397, .bool t398, .int .i64 t399, .string t400] 28 (0, 0))) := ⟨by (with_reducible repeat (first | refine bN ?_ _ | refine bD ?_ | refine bA ?_ _)); refine blk_put (cs := #[.string t397, .bool t398, .int .i64 t399, .string (⟨#[]⟩ : ByteArray)]) ?_ 3 _ rfl; (with_reducible repeat (first | refine bN ?_ _ | refine bD ?_ | refine bA ?_ _)); refine blk_put (cs := #[.string t397, .bool t398, .int .i64 0, .string (⟨#[]⟩ : ByteArray)]) ?_ 2 _ rfl; (with_reducible repeat (first | refine bN ?_ _ | refine bD ?_ | refine bA ?_ _)); refine blk_put (cs := #[.string t397, .bool false, .int .i64 0, .string (⟨#[]⟩ : ByteArray)]) ?_ 1 _ rfl; (with_reducible repeat (first | refine bN ?_ _ | refine bD ?_ | refine bA ?_ _)); refine blk_put (cs := #[.string (⟨#[]⟩ : ByteArray), .bool false, .int .i64 0, .string (⟨#[]⟩ : ByteArray)]) ?_ 0 _ rfl; (with_reducible repeat (first | refine bN ?_ _ | refine bD ?_ | refine bA ?_ _)); exact BK402.out⟩
        have n5_ : Aside0 (Below w.heap.size w ((((w21.setCell ⟨gb402, 0, none⟩ (.string t397)).setCell ⟨gb402, 1, none⟩ (.bool t398)).setCell ⟨gb402, 2, none⟩ (.int .i64 t399)).setCell ⟨gb402, 3, none⟩ (.string t400))) := ⟨by repeat (first | (with_reducible first | exact HB.out | apply below_alloc | apply pw_below_drewN | apply below_drew1 | refine bS ?_ GE383.out | refine bS ?_ GE396.out | refine bS ?_ GE402.out) | exact HB.out)⟩
        (try clear HO386)
        (try clear HO390)
        (try clear BK383)
        (try clear BK396)
        (try clear BK402)
        (try clear HB)
        generalize ((((w21.setCell ⟨gb402, 0, none⟩ (.string t397)).setCell ⟨gb402, 1, none⟩ (.bool t398)).setCell ⟨gb402, 2, none⟩ (.int .i64 t399)).setCell ⟨gb402, 3, none⟩ (.string t400)) = w63 at n0_ n1_ n2_ n3_ n4_ n5_ ⊢
        have HO386 := n0_
        have HO390 := n1_
        have BK383 := n2_
        have BK396 := n3_
        have BK402 := n4_
        have HB := n5_
        clear n0_ n1_ n2_ n3_ n4_ n5_
        have n0_ := Aside0.mk (Kd.R_drew HO386.out)
        have n1_ := Aside0.mk (Kd.R_drew HO390.out)
        have n2_ := Aside0.mk (bD BK383.out)
        have n3_ := Aside0.mk (bD BK396.out)
        have n4_ := Aside0.mk (bD BK402.out)
        have n5_ := Aside0.mk (below_drew1 HB.out)
        clear HO386
        clear HO390
        clear BK383 BK396 BK402
        clear HB
        have HO386 := n0_
        have HO390 := n1_
        have BK383 := n2_
        have BK396 := n3_
        have BK402 := n4_
        have HB := n5_
        clear n0_ n1_ n2_ n3_ n4_ n5_
        refine start_ (n := 36) (S := fun w' => w'.cell? ⟨gb383, 0, none⟩ = some (.string t379) ∧ w'.cell? ⟨gb383, 1, none⟩ = some (.bool t380) ∧ w'.cell? ⟨gb383, 2, none⟩ = some (.int .i64 t381) ∧ w'.cell? ⟨gb383, 3, none⟩ = some (.string t382) ∧ w'.cell? ⟨gb396, 0, none⟩ = some (.string t391) ∧ w'.cell? ⟨gb396, 1, none⟩ = some (.bool t392) ∧ w'.cell? ⟨gb396, 2, none⟩ = some (.int .i64 t393) ∧ w'.cell? ⟨gb396, 3, none⟩ = some (.string t394) ∧ w'.cell? ⟨gb402, 0, none⟩ = some (.string t397) ∧ w'.cell? ⟨gb402, 1, none⟩ = some (.bool t398) ∧ w'.cell? ⟨gb402, 2, none⟩ = some (.int .i64 t399) ∧ w'.cell? ⟨gb402, 3, none⟩ = some (.string t400)) (ds := []) #[false, false, false, false, false, false, false, false, false, false, false, false, false, false, false, false, false, false, false, false, false, false, false, false, false, false, false, false, false, false, false, false, false, false, false, false] (by kernel_rfl) rfl rfl ⟨(bC BK383.out 0).trans rfl, (bC BK383.out 1).trans rfl, (bC BK383.out 2).trans rfl, (bC BK383.out 3).trans rfl, (bC BK396.out 0).trans rfl, (bC BK396.out 1).trans rfl, (bC BK396.out 2).trans rfl, (bC BK396.out 3).trans rfl, (bC BK402.out 0).trans rfl, (bC BK402.out 1).trans rfl, (bC BK402.out 2).trans rfl, (bC BK402.out 3).trans rfl⟩ (fun hHeld => ?_); refine with_tabW laws_FnAttrs.tab8 laws_FnAttrs.bits8 (fun HT_ HW_ => ?_)
        generalize w63.drew = w64 at HO386 HO390 BK383 BK396 BK402 HB hHeld ⊢
        refine take_ (i := 0) (N := some 34) (v := ?_) (a' := ?_) (fB 36 1) rfl rfl (take_ofW HT_.out HW_.out (by kernel_rfl)) (fun _ _ _ h => h) (Or.inl ⟨by rfl, ?_⟩) hHeld ?_ ?_
        rotate_left
        ·rintro w' ⟨s0, s1, s2, s3, s4, s5, s6, s7, s8, s9, s10, s11⟩; go_simp; with_reducible rfl
        rotate_left
        ·simp only [Act.put, sA_, sB_, sC_, i64_w, i32_w]; rfl
        refine take_ (i := 2) (N := some 36) (v := ?_) (a' := ?_) (fB 36 5) rfl rfl (take_ofW HT_.out HW_.out (by kernel_rfl)) (fun _ _ _ h => h) (Or.inl ⟨by rfl, ?_⟩) hHeld ?_ ?_
        rotate_left
        ·rintro w' ⟨s0, s1, s2, s3, s4, s5, s6, s7, s8, s9, s10, s11⟩; go_simp; with_reducible rfl
        rotate_left
        ·simp only [Act.put, sA_, sB_, sC_, i64_w, i32_w]; rfl
        refine one_ (i := 1) (N := some 35) (fB 36 7) rfl rfl (one_of HT_.out (by kernel_rfl)) (by decide) (fun K hK => ?_)
        refine goes_ Tryd.func29 (by kernel_rfl) rfl #[.agg #[.string t379, .bool t380, .int .i64 t381, .string t382]] (by rfl) rfl rfl (by (try simp only [List.map_toArray, List.map_cons, List.map_nil]); first | done | rfl | (simp only [List.length_drop, List.length_take]; rfl)) ?_
        with_reducible refine (impl_AttrOk.calls k t379 t380 t381 t382 t403 _ A25.out).mono ?_
        rintro e w65 ⟨rfl, hb⟩
        refine ⟨_, rfl, ?_⟩
        have n0_ := Aside0.mk (Kd.R_below (by (with_reducible repeat (first | apply Kd.R_alloc | apply Kd.R_drewN | apply Kd.R_drew)); exact HO386.out) hb)
        have n1_ := Aside0.mk (Kd.R_below (by (with_reducible repeat (first | apply Kd.R_alloc | apply Kd.R_drewN | apply Kd.R_drew)); exact HO390.out) hb)
        have n2_ := Aside0.mk (bB (g := gb383) (o := .cells #[.string t379, .bool t380, .int .i64 t381, .string t382] 28 (0, 0)) (by (with_reducible repeat (first | refine bN ?_ _ | refine bD ?_ | refine bA ?_ _)); exact BK383.out) hb)
        have n3_ := Aside0.mk (bB (g := gb396) (o := .cells #[.string t391, .bool t392, .int .i64 t393, .string t394] 28 (0, 0)) (by (with_reducible repeat (first | refine bN ?_ _ | refine bD ?_ | refine bA ?_ _)); exact BK396.out) hb)
        have n4_ := Aside0.mk (bB (g := gb402) (o := .cells #[.string t397, .bool t398, .int .i64 t399, .string t400] 28 (0, 0)) (by (with_reducible repeat (first | refine bN ?_ _ | refine bD ?_ | refine bA ?_ _)); exact BK402.out) hb)
        have n5_ := Aside0.mk (below_step (by repeat (first | (with_reducible first | exact HB.out | apply below_alloc | apply pw_below_drewN | apply below_drew1 | refine bS ?_ GE383.out | refine bS ?_ GE396.out | refine bS ?_ GE402.out) | exact HB.out)) hb)
        clear HO386
        clear HO390
        clear BK383 BK396 BK402
        clear HB
        have HO386 := n0_
        have HO390 := n1_
        have BK383 := n2_
        have BK396 := n3_
        have BK402 := n4_
        have HB := n5_
        clear n0_ n1_ n2_ n3_ n4_ n5_
        (try clear hb)
        (try clear hb2)
        (try clear hk)
        (try clear hi)
        refine hK.out _ _ ⟨(bC BK383.out 0).trans rfl, (bC BK383.out 1).trans rfl, (bC BK383.out 2).trans rfl, (bC BK383.out 3).trans rfl, (bC BK396.out 0).trans rfl, (bC BK396.out 1).trans rfl, (bC BK396.out 2).trans rfl, (bC BK396.out 3).trans rfl, (bC BK402.out 0).trans rfl, (bC BK402.out 1).trans rfl, (bC BK402.out 2).trans rfl, (bC BK402.out 3).trans rfl⟩ (fun hHeld => ?_)
        clear hK K
        refine norm_ (a' := ?_) ?_ ?_
        rotate_left
        ·show Act.put _ (some 35) _ = _
         simp only [Act.put, sA_, sB_, sC_, i64_w, i32_w]
         rfl
        refine one_ (i := 3) (N := some 37) (fB 36 15) rfl rfl (one_of HT_.out (by kernel_rfl)) (by decide) (fun K hK => ?_)
        refine goes_ Tryd.func30 (by kernel_rfl) rfl #[.agg #[.string t379, .bool t380, .int .i64 t381, .string t382]] (by rfl) rfl rfl (by (try simp only [List.map_toArray, List.map_cons, List.map_nil]); first | done | rfl | (simp only [List.length_drop, List.length_take]; rfl)) ?_
        with_reducible refine (spec_AttrOk.calls k t379 t380 t381 t382 t404 _ A26.out).mono ?_
        rintro e w66 ⟨rfl, hb⟩
        refine ⟨_, rfl, ?_⟩
        have n0_ := Aside0.mk (Kd.R_below (by (with_reducible repeat (first | apply Kd.R_alloc | apply Kd.R_drewN | apply Kd.R_drew)); exact HO386.out) hb)
        have n1_ := Aside0.mk (Kd.R_below (by (with_reducible repeat (first | apply Kd.R_alloc | apply Kd.R_drewN | apply Kd.R_drew)); exact HO390.out) hb)
        have n2_ := Aside0.mk (bB (g := gb383) (o := .cells #[.string t379, .bool t380, .int .i64 t381, .string t382] 28 (0, 0)) (by (with_reducible repeat (first | refine bN ?_ _ | refine bD ?_ | refine bA ?_ _)); exact BK383.out) hb)
        have n3_ := Aside0.mk (bB (g := gb396) (o := .cells #[.string t391, .bool t392, .int .i64 t393, .string t394] 28 (0, 0)) (by (with_reducible repeat (first | refine bN ?_ _ | refine bD ?_ | refine bA ?_ _)); exact BK396.out) hb)
        have n4_ := Aside0.mk (bB (g := gb402) (o := .cells #[.string t397, .bool t398, .int .i64 t399, .string t400] 28 (0, 0)) (by (with_reducible repeat (first | refine bN ?_ _ | refine bD ?_ | refine bA ?_ _)); exact BK402.out) hb)
        have n5_ := Aside0.mk (below_step (by repeat (first | (with_reducible first | exact HB.out | apply below_alloc | apply pw_below_drewN | apply below_drew1 | refine bS ?_ GE383.out | refine bS ?_ GE396.out | refine bS ?_ GE402.out) | exact HB.out)) hb)
        clear HO386
        clear HO390
        clear BK383 BK396 BK402
        clear HB
        have HO386 := n0_
        have HO390 := n1_
        have BK383 := n2_
        have BK396 := n3_
        have BK402 := n4_
        have HB := n5_
        clear n0_ n1_ n2_ n3_ n4_ n5_
        (try clear hb)
        (try clear hb2)
        (try clear hk)
        (try clear hi)
        obtain ⟨Ao67, co67, eo67⟩ := Kd.R_slice HO386.out
        (first | subst eo67 | (injection eo67 with f1_ f2_ f3_; have f4_ := f1_.symm; have f5_ := f3_.symm; clear f1_ f2_ f3_; subst f4_; subst f5_))
        refine hK.out _ _ ⟨(bC BK383.out 0).trans rfl, (bC BK383.out 1).trans rfl, (bC BK383.out 2).trans rfl, (bC BK383.out 3).trans rfl, (bC BK396.out 0).trans rfl, (bC BK396.out 1).trans rfl, (bC BK396.out 2).trans rfl, (bC BK396.out 3).trans rfl, (bC BK402.out 0).trans rfl, (bC BK402.out 1).trans rfl, (bC BK402.out 2).trans rfl, (bC BK402.out 3).trans rfl⟩ (fun hHeld => ?_)
        clear hK K
        refine norm_ (a' := ?_) ?_ ?_
        rotate_left
        ·show Act.put _ (some 37) _ = _
         simp only [Act.put, sA_, sB_, sC_, i64_w, i32_w]
         rfl
        refine pure_ (i := 4) (N := some 38) (v := ?_) (a' := ?_) (fB 36 31) rfl rfl (any_of HT_.out (by kernel_rfl)) (fun _ _ _ h => h) (Or.inl ⟨by rfl, ?_⟩) ?_ ?_
        rotate_left
        ·intro w'; go_simp; with_reducible rfl
        rotate_left
        ·simp only [Act.put, sA_, sB_, sC_, i64_w, i32_w]; rfl
        refine pure_ (i := 5) (N := some 39) (v := ?_) (a' := ?_) (fB 36 63) rfl rfl (any_of HT_.out (by kernel_rfl)) (fun _ _ _ h => h) (Or.inl ⟨by rfl, ?_⟩) ?_ ?_
        rotate_left
        ·intro w'; go_simp; with_reducible rfl
        rotate_left
        ·simp only [Act.put, sA_, sB_, sC_, i64_w, i32_w]; rfl
        refine pure_ (i := 6) (N := some 40) (v := ?_) (a' := ?_) (fB 36 127) rfl rfl (any_of HT_.out (by kernel_rfl)) (fun _ _ _ h => h) (Or.inl ⟨by rfl, ?_⟩) ?_ ?_
        rotate_left
        ·intro w'; go_simp; with_reducible rfl
        rotate_left
        ·simp only [Act.put, sA_, sB_, sC_, i64_w, i32_w]; rfl
        refine pure_ (i := 8) (N := some 42) (v := ?_) (a' := ?_) (fB 36 383) rfl rfl (any_of HT_.out (by kernel_rfl)) (fun _ _ _ h => h) (Or.inl ⟨by rfl, ?_⟩) ?_ ?_
        rotate_left
        ·intro w'; go_simp; with_reducible rfl
        rotate_left
        ·simp only [Act.put, sA_, sB_, sC_, i64_w, i32_w]; rfl
        refine one_ (i := 7) (N := some 41) (fB 36 511) rfl rfl (one_of HT_.out (by kernel_rfl)) (by decide) (fun K hK => ?_)
        refine goes_ Tryd.func31 (by kernel_rfl) rfl #[.slice Ao67 t384.length co67] (by rfl) rfl rfl (by (try simp only [List.map_toArray, List.map_cons, List.map_nil]); first | done | rfl | (simp only [List.length_drop, List.length_take]; rfl)) ?_
        with_reducible refine (impl_AttrsOk.calls k _ _ t384 t405 _ ?side1 ?side2 A32.out).mono ?_
        (case side1 => repeat (first | exact (Kd.R_reads' HO386.out).2.2 | (with_reducible refine Kd.C_alloc ?_ _) | (with_reducible refine Kd.C_drewN ?_ _) | (with_reducible refine Kd.C_drew ?_)))
        (case side2 => exact (Kd.R_reads' HO386.out).2.1)
        rintro e w68 ⟨rfl, hb⟩
        refine ⟨_, rfl, ?_⟩
        have n0_ := Aside0.mk (Kd.R_below (by (with_reducible repeat (first | apply Kd.R_alloc | apply Kd.R_drewN | apply Kd.R_drew)); exact HO386.out) hb)
        have n1_ := Aside0.mk (Kd.R_below (by (with_reducible repeat (first | apply Kd.R_alloc | apply Kd.R_drewN | apply Kd.R_drew)); exact HO390.out) hb)
        have n2_ := Aside0.mk (bB (g := gb383) (o := .cells #[.string t379, .bool t380, .int .i64 t381, .string t382] 28 (0, 0)) (by (with_reducible repeat (first | refine bN ?_ _ | refine bD ?_ | refine bA ?_ _)); exact BK383.out) hb)
        have n3_ := Aside0.mk (bB (g := gb396) (o := .cells #[.string t391, .bool t392, .int .i64 t393, .string t394] 28 (0, 0)) (by (with_reducible repeat (first | refine bN ?_ _ | refine bD ?_ | refine bA ?_ _)); exact BK396.out) hb)
        have n4_ := Aside0.mk (bB (g := gb402) (o := .cells #[.string t397, .bool t398, .int .i64 t399, .string t400] 28 (0, 0)) (by (with_reducible repeat (first | refine bN ?_ _ | refine bD ?_ | refine bA ?_ _)); exact BK402.out) hb)
        have n5_ := Aside0.mk (below_step (by repeat (first | (with_reducible first | exact HB.out | apply below_alloc | apply pw_below_drewN | apply below_drew1 | refine bS ?_ GE383.out | refine bS ?_ GE396.out | refine bS ?_ GE402.out) | exact HB.out)) hb)
        clear HO386
        clear HO390
        clear BK383 BK396 BK402
        clear HB
        have HO386 := n0_
        have HO390 := n1_
        have BK383 := n2_
        have BK396 := n3_
        have BK402 := n4_
        have HB := n5_
        clear n0_ n1_ n2_ n3_ n4_ n5_
        (try clear hb)
        (try clear hb2)
        (try clear hk)
        (try clear hi)
        refine hK.out _ _ ⟨(bC BK383.out 0).trans rfl, (bC BK383.out 1).trans rfl, (bC BK383.out 2).trans rfl, (bC BK383.out 3).trans rfl, (bC BK396.out 0).trans rfl, (bC BK396.out 1).trans rfl, (bC BK396.out 2).trans rfl, (bC BK396.out 3).trans rfl, (bC BK402.out 0).trans rfl, (bC BK402.out 1).trans rfl, (bC BK402.out 2).trans rfl, (bC BK402.out 3).trans rfl⟩ (fun hHeld => ?_)
        clear hK K
        refine norm_ (a' := ?_) ?_ ?_
        rotate_left
        ·show Act.put _ (some 41) _ = _
         simp only [Act.put, sA_, sB_, sC_, i64_w, i32_w]
         rfl
        refine one_ (i := 9) (N := some 43) (fB 36 1023) rfl rfl (one_of HT_.out (by kernel_rfl)) (by decide) (fun K hK => ?_)
        refine goes_ Tryd.func32 (by kernel_rfl) rfl #[.slice Ao67 t384.length co67] (by rfl) rfl rfl (by (try simp only [List.map_toArray, List.map_cons, List.map_nil]); first | done | rfl | (simp only [List.length_drop, List.length_take]; rfl)) ?_
        with_reducible refine (spec_AttrsOk.calls k _ _ t384 t406 _ ?side1 ?side2 A33.out).mono ?_
        (case side1 => repeat (first | exact (Kd.R_reads' HO386.out).2.2 | (with_reducible refine Kd.C_alloc ?_ _) | (with_reducible refine Kd.C_drewN ?_ _) | (with_reducible refine Kd.C_drew ?_)))
        (case side2 => exact (Kd.R_reads' HO386.out).2.1)
        rintro e w69 ⟨rfl, hb⟩
        refine ⟨_, rfl, ?_⟩
        have n0_ := Aside0.mk (Kd.R_below (by (with_reducible repeat (first | apply Kd.R_alloc | apply Kd.R_drewN | apply Kd.R_drew)); exact HO386.out) hb)
        have n1_ := Aside0.mk (Kd.R_below (by (with_reducible repeat (first | apply Kd.R_alloc | apply Kd.R_drewN | apply Kd.R_drew)); exact HO390.out) hb)
        have n2_ := Aside0.mk (bB (g := gb383) (o := .cells #[.string t379, .bool t380, .int .i64 t381, .string t382] 28 (0, 0)) (by (with_reducible repeat (first | refine bN ?_ _ | refine bD ?_ | refine bA ?_ _)); exact BK383.out) hb)
        have n3_ := Aside0.mk (bB (g := gb396) (o := .cells #[.string t391, .bool t392, .int .i64 t393, .string t394] 28 (0, 0)) (by (with_reducible repeat (first | refine bN ?_ _ | refine bD ?_ | refine bA ?_ _)); exact BK396.out) hb)
        have n4_ := Aside0.mk (bB (g := gb402) (o := .cells #[.string t397, .bool t398, .int .i64 t399, .string t400] 28 (0, 0)) (by (with_reducible repeat (first | refine bN ?_ _ | refine bD ?_ | refine bA ?_ _)); exact BK402.out) hb)
        have n5_ := Aside0.mk (below_step (by repeat (first | (with_reducible first | exact HB.out | apply below_alloc | apply pw_below_drewN | apply below_drew1 | refine bS ?_ GE383.out | refine bS ?_ GE396.out | refine bS ?_ GE402.out) | exact HB.out)) hb)
        clear HO386
        clear HO390
        clear BK383 BK396 BK402
        clear HB
        have HO386 := n0_
        have HO390 := n1_
        have BK383 := n2_
        have BK396 := n3_
        have BK402 := n4_
        have HB := n5_
        clear n0_ n1_ n2_ n3_ n4_ n5_
        (try clear hb)
        (try clear hb2)
        (try clear hk)
        (try clear hi)
        refine hK.out _ _ ⟨(bC BK383.out 0).trans rfl, (bC BK383.out 1).trans rfl, (bC BK383.out 2).trans rfl, (bC BK383.out 3).trans rfl, (bC BK396.out 0).trans rfl, (bC BK396.out 1).trans rfl, (bC BK396.out 2).trans rfl, (bC BK396.out 3).trans rfl, (bC BK402.out 0).trans rfl, (bC BK402.out 1).trans rfl, (bC BK402.out 2).trans rfl, (bC BK402.out 3).trans rfl⟩ (fun hHeld => ?_)
        clear hK K
        refine norm_ (a' := ?_) ?_ ?_
        rotate_left
        ·show Act.put _ (some 43) _ = _
         simp only [Act.put, sA_, sB_, sC_, i64_w, i32_w]
         rfl
        refine pure_ (i := 10) (N := some 44) (v := ?_) (a' := ?_) (fB 36 2047) rfl rfl (any_of HT_.out (by kernel_rfl)) (fun _ _ _ h => h) (Or.inl ⟨by rfl, ?_⟩) ?_ ?_
        rotate_left
        ·intro w'; go_simp; with_reducible rfl
        rotate_left
        ·simp only [Act.put, sA_, sB_, sC_, i64_w, i32_w]; rfl
        refine pure_ (i := 11) (N := some 45) (v := ?_) (a' := ?_) (fB 36 4095) rfl rfl (any_of HT_.out (by kernel_rfl)) (fun _ _ _ h => h) (Or.inl ⟨by rfl, ?_⟩) ?_ ?_
        rotate_left
        ·intro w'; go_simp; with_reducible rfl
        rotate_left
        ·simp only [Act.put, sA_, sB_, sC_, i64_w, i32_w]; rfl
        refine pure_ (i := 12) (N := some 46) (v := ?_) (a' := ?_) (fB 36 8191) rfl rfl (any_of HT_.out (by kernel_rfl)) (fun _ _ _ h => h) (Or.inl ⟨by rfl, ?_⟩) ?_ ?_
        rotate_left
        ·intro w'; go_simp; with_reducible rfl
        rotate_left
        ·simp only [Act.put, sA_, sB_, sC_, i64_w, i32_w]; rfl
        refine take_ (i := 13) (N := some 47) (v := ?_) (a' := ?_) (fB 36 16383) rfl rfl (take_ofW HT_.out HW_.out (by kernel_rfl)) (fun _ _ _ h => h) (Or.inl ⟨by rfl, ?_⟩) hHeld ?_ ?_
        rotate_left
        ·rintro w' ⟨s0, s1, s2, s3, s4, s5, s6, s7, s8, s9, s10, s11⟩; go_simp; with_reducible rfl
        rotate_left
        ·simp only [Act.put, sA_, sB_, sC_, i64_w, i32_w]; rfl
        refine take_ (i := 14) (N := some 48) (v := ?_) (a' := ?_) (fB 36 32767) rfl rfl (take_ofW HT_.out HW_.out (by kernel_rfl)) (fun _ _ _ h => h) (Or.inl ⟨by rfl, ?_⟩) hHeld ?_ ?_
        rotate_left
        ·rintro w' ⟨s0, s1, s2, s3, s4, s5, s6, s7, s8, s9, s10, s11⟩; go_simp; with_reducible rfl
        rotate_left
        ·simp only [Act.put, sA_, sB_, sC_, i64_w, i32_w]; rfl
        refine pure_ (i := 15) (N := some 49) (v := ?_) (a' := ?_) (fB 36 65535) rfl rfl (any_of HT_.out (by kernel_rfl)) (fun _ _ _ h => h) (Or.inl ⟨by rfl, ?_⟩) ?_ ?_
        rotate_left
        ·intro w'; go_simp; with_reducible rfl
        rotate_left
        ·simp only [Act.put, sA_, sB_, sC_, i64_w, i32_w]; rfl
        refine pure_ (i := 16) (N := some 50) (v := ?_) (a' := ?_) (fB 36 131071) rfl rfl (any_of HT_.out (by kernel_rfl)) (fun _ _ _ h => h) (Or.inl ⟨by rfl, ?_⟩) ?_ ?_
        rotate_left
        ·intro w'; go_simp; with_reducible rfl
        rotate_left
        ·simp only [Act.put, sA_, sB_, sC_, i64_w, i32_w]; rfl
        refine pure_ (i := 17) (N := some 51) (v := ?_) (a' := ?_) (fB 36 262143) rfl rfl (any_of HT_.out (by kernel_rfl)) (fun _ _ _ h => h) (Or.inl ⟨by rfl, ?_⟩) ?_ ?_
        rotate_left
        ·intro w'; go_simp; with_reducible rfl
        rotate_left
        ·simp only [Act.put, sA_, sB_, sC_, i64_w, i32_w]; rfl
        refine pure_ (i := 18) (N := some 52) (v := ?_) (a' := ?_) (fB 36 524287) rfl rfl (any_of HT_.out (by kernel_rfl)) (fun _ _ _ h => h) (Or.inl ⟨by rfl, ?_⟩) ?_ ?_
        rotate_left
        ·intro w'; go_simp; with_reducible rfl
        rotate_left
        ·simp only [Act.put, sA_, sB_, sC_, i64_w, i32_w]; rfl
        refine pure_ (i := 19) (N := some 53) (v := ?_) (a' := ?_) (fB 36 1048575) rfl rfl (any_of HT_.out (by kernel_rfl)) (fun _ _ _ h => h) (Or.inl ⟨by rfl, ?_⟩) ?_ ?_
        rotate_left
        ·intro w'; go_simp; with_reducible rfl
        rotate_left
        ·simp only [Act.put, sA_, sB_, sC_, i64_w, i32_w]; rfl
        refine pure_ (i := 20) (N := some 54) (v := ?_) (a' := ?_) (fB 36 2097151) rfl rfl (any_of HT_.out (by kernel_rfl)) (fun _ _ _ h => h) (Or.inl ⟨by rfl, ?_⟩) ?_ ?_
        rotate_left
        ·intro w'; go_simp; with_reducible rfl
        rotate_left
        ·simp only [Act.put, sA_, sB_, sC_, i64_w, i32_w]; rfl
        refine pure_ (i := 21) (N := some 55) (v := ?_) (a' := ?_) (fB 36 4194303) rfl rfl (any_of HT_.out (by kernel_rfl)) (fun _ _ _ h => h) (Or.inl ⟨by rfl, ?_⟩) ?_ ?_
        rotate_left
        ·intro w'; go_simp; with_reducible rfl
        rotate_left
        ·simp only [Act.put, sA_, sB_, sC_, i64_w, i32_w]; rfl
        refine pure_ (i := 22) (N := some 56) (v := ?_) (a' := ?_) (fB 36 8388607) rfl rfl (any_of HT_.out (by kernel_rfl)) (fun _ _ _ h => h) (Or.inl ⟨by rfl, ?_⟩) ?_ ?_
        rotate_left
        ·intro w'; go_simp; with_reducible rfl
        rotate_left
        ·simp only [Act.put, sA_, sB_, sC_, i64_w, i32_w]; rfl
        refine take_ (i := 23) (N := some 57) (v := ?_) (a' := ?_) (fB 36 16777215) rfl rfl (take_ofW HT_.out HW_.out (by kernel_rfl)) (fun _ _ _ h => h) (Or.inl ⟨by rfl, ?_⟩) hHeld ?_ ?_
        rotate_left
        ·rintro w' ⟨s0, s1, s2, s3, s4, s5, s6, s7, s8, s9, s10, s11⟩; go_simp; with_reducible rfl
        rotate_left
        ·simp only [Act.put, sA_, sB_, sC_, i64_w, i32_w]; rfl
        refine take_ (i := 25) (N := some 59) (v := ?_) (a' := ?_) (fB 36 50331647) rfl rfl (take_ofW HT_.out HW_.out (by kernel_rfl)) (fun _ _ _ h => h) (Or.inl ⟨by rfl, ?_⟩) hHeld ?_ ?_
        rotate_left
        ·rintro w' ⟨s0, s1, s2, s3, s4, s5, s6, s7, s8, s9, s10, s11⟩; go_simp; with_reducible rfl
        rotate_left
        ·simp only [Act.put, sA_, sB_, sC_, i64_w, i32_w]; rfl
        refine one_ (i := 24) (N := some 58) (fB 36 67108863) rfl rfl (one_of HT_.out (by kernel_rfl)) (by decide) (fun K hK => ?_)
        refine goes_ Tryd.func33 (by kernel_rfl) rfl #[.agg #[.string t379, .bool t380, .int .i64 t381, .string t382]] (by rfl) rfl rfl (by (try simp only [List.map_toArray, List.map_cons, List.map_nil]); first | done | rfl | (simp only [List.length_drop, List.length_take]; rfl)) ?_
        with_reducible refine (impl_AttrSize.calls t379 t380 t381 t382 t407 _ A58.out).mono ?_
        rintro e w70 ⟨rfl, hb⟩
        refine ⟨_, rfl, ?_⟩
        have n0_ := Aside0.mk (Kd.R_below (by (with_reducible repeat (first | apply Kd.R_alloc | apply Kd.R_drewN | apply Kd.R_drew)); exact HO386.out) hb)
        have n1_ := Aside0.mk (Kd.R_below (by (with_reducible repeat (first | apply Kd.R_alloc | apply Kd.R_drewN | apply Kd.R_drew)); exact HO390.out) hb)
        have n2_ := Aside0.mk (bB (g := gb383) (o := .cells #[.string t379, .bool t380, .int .i64 t381, .string t382] 28 (0, 0)) (by (with_reducible repeat (first | refine bN ?_ _ | refine bD ?_ | refine bA ?_ _)); exact BK383.out) hb)
        have n3_ := Aside0.mk (bB (g := gb396) (o := .cells #[.string t391, .bool t392, .int .i64 t393, .string t394] 28 (0, 0)) (by (with_reducible repeat (first | refine bN ?_ _ | refine bD ?_ | refine bA ?_ _)); exact BK396.out) hb)
        have n4_ := Aside0.mk (bB (g := gb402) (o := .cells #[.string t397, .bool t398, .int .i64 t399, .string t400] 28 (0, 0)) (by (with_reducible repeat (first | refine bN ?_ _ | refine bD ?_ | refine bA ?_ _)); exact BK402.out) hb)
        have n5_ := Aside0.mk (below_step (by repeat (first | (with_reducible first | exact HB.out | apply below_alloc | apply pw_below_drewN | apply below_drew1 | refine bS ?_ GE383.out | refine bS ?_ GE396.out | refine bS ?_ GE402.out) | exact HB.out)) hb)
        clear HO386
        clear HO390
        clear BK383 BK396 BK402
        clear HB
        have HO386 := n0_
        have HO390 := n1_
        have BK383 := n2_
        have BK396 := n3_
        have BK402 := n4_
        have HB := n5_
        clear n0_ n1_ n2_ n3_ n4_ n5_
        (try clear hb)
        (try clear hb2)
        (try clear hk)
        (try clear hi)
        refine hK.out _ _ ⟨(bC BK383.out 0).trans rfl, (bC BK383.out 1).trans rfl, (bC BK383.out 2).trans rfl, (bC BK383.out 3).trans rfl, (bC BK396.out 0).trans rfl, (bC BK396.out 1).trans rfl, (bC BK396.out 2).trans rfl, (bC BK396.out 3).trans rfl, (bC BK402.out 0).trans rfl, (bC BK402.out 1).trans rfl, (bC BK402.out 2).trans rfl, (bC BK402.out 3).trans rfl⟩ (fun hHeld => ?_)
        clear hK K
        refine norm_ (a' := ?_) ?_ ?_
        rotate_left
        ·show Act.put _ (some 58) _ = _
         simp only [Act.put, sA_, sB_, sC_, i64_w, i32_w]
         rfl
        refine one_ (i := 26) (N := some 60) (fB 36 134217727) rfl rfl (one_of HT_.out (by kernel_rfl)) (by decide) (fun K hK => ?_)
        refine goes_ Tryd.func34 (by kernel_rfl) rfl #[.agg #[.string t379, .bool t380, .int .i64 t381, .string t382]] (by rfl) rfl rfl (by (try simp only [List.map_toArray, List.map_cons, List.map_nil]); first | done | rfl | (simp only [List.length_drop, List.length_take]; rfl)) ?_
        with_reducible refine (spec_AttrSize.calls t379 t380 t381 t382 t408 _ A59.out).mono ?_
        rintro e w71 ⟨rfl, hb⟩
        refine ⟨_, rfl, ?_⟩
        have n0_ := Aside0.mk (Kd.R_below (by (with_reducible repeat (first | apply Kd.R_alloc | apply Kd.R_drewN | apply Kd.R_drew)); exact HO386.out) hb)
        have n1_ := Aside0.mk (Kd.R_below (by (with_reducible repeat (first | apply Kd.R_alloc | apply Kd.R_drewN | apply Kd.R_drew)); exact HO390.out) hb)
        have n2_ := Aside0.mk (bB (g := gb383) (o := .cells #[.string t379, .bool t380, .int .i64 t381, .string t382] 28 (0, 0)) (by (with_reducible repeat (first | refine bN ?_ _ | refine bD ?_ | refine bA ?_ _)); exact BK383.out) hb)
        have n3_ := Aside0.mk (bB (g := gb396) (o := .cells #[.string t391, .bool t392, .int .i64 t393, .string t394] 28 (0, 0)) (by (with_reducible repeat (first | refine bN ?_ _ | refine bD ?_ | refine bA ?_ _)); exact BK396.out) hb)
        have n4_ := Aside0.mk (bB (g := gb402) (o := .cells #[.string t397, .bool t398, .int .i64 t399, .string t400] 28 (0, 0)) (by (with_reducible repeat (first | refine bN ?_ _ | refine bD ?_ | refine bA ?_ _)); exact BK402.out) hb)
        have n5_ := Aside0.mk (below_step (by repeat (first | (with_reducible first | exact HB.out | apply below_alloc | apply pw_below_drewN | apply below_drew1 | refine bS ?_ GE383.out | refine bS ?_ GE396.out | refine bS ?_ GE402.out) | exact HB.out)) hb)
        clear HO386
        clear HO390
        clear BK383 BK396 BK402
        clear HB
        have HO386 := n0_
        have HO390 := n1_
        have BK383 := n2_
        have BK396 := n3_
        have BK402 := n4_
        have HB := n5_
        clear n0_ n1_ n2_ n3_ n4_ n5_
        (try clear hb)
        (try clear hb2)
        (try clear hk)
        (try clear hi)
        refine hK.out _ _ ⟨(bC BK383.out 0).trans rfl, (bC BK383.out 1).trans rfl, (bC BK383.out 2).trans rfl, (bC BK383.out 3).trans rfl, (bC BK396.out 0).trans rfl, (bC BK396.out 1).trans rfl, (bC BK396.out 2).trans rfl, (bC BK396.out 3).trans rfl, (bC BK402.out 0).trans rfl, (bC BK402.out 1).trans rfl, (bC BK402.out 2).trans rfl, (bC BK402.out 3).trans rfl⟩ (fun hHeld => ?_)
        clear hK K
        refine norm_ (a' := ?_) ?_ ?_
        rotate_left
        ·show Act.put _ (some 60) _ = _
         simp only [Act.put, sA_, sB_, sC_, i64_w, i32_w]
         rfl
        refine pure_ (i := 27) (N := some 61) (v := ?_) (a' := ?_) (fB 36 268435455) rfl rfl (any_of HT_.out (by kernel_rfl)) (fun _ _ _ h => h) (Or.inl ⟨by rfl, ?_⟩) ?_ ?_
        rotate_left
        ·intro w'; go_simp; with_reducible rfl
        rotate_left
        ·simp only [Act.put, sA_, sB_, sC_, i64_w, i32_w]; rfl
        refine pure_ (i := 28) (N := some 62) (v := ?_) (a' := ?_) (fB 36 536870911) rfl rfl (any_of HT_.out (by kernel_rfl)) (fun _ _ _ h => h) (Or.inl ⟨by rfl, ?_⟩) ?_ ?_
        rotate_left
        ·intro w'; go_simp; with_reducible rfl
        rotate_left
        ·simp only [Act.put, sA_, sB_, sC_, i64_w, i32_w]; rfl
        refine pure_ (i := 29) (N := some 63) (v := ?_) (a' := ?_) (fB 36 1073741823) rfl rfl (any_of HT_.out (by kernel_rfl)) (fun _ _ _ h => h) (Or.inl ⟨by rfl, ?_⟩) ?_ ?_
        rotate_left
        ·intro w'; go_simp; with_reducible rfl
        rotate_left
        ·simp only [Act.put, sA_, sB_, sC_, i64_w, i32_w]; rfl
        refine take_ (i := 30) (N := some 64) (v := ?_) (a' := ?_) (fB 36 2147483647) rfl rfl (take_ofW HT_.out HW_.out (by kernel_rfl)) (fun _ _ _ h => h) (Or.inl ⟨by rfl, ?_⟩) hHeld ?_ ?_
        rotate_left
        ·rintro w' ⟨s0, s1, s2, s3, s4, s5, s6, s7, s8, s9, s10, s11⟩; go_simp; with_reducible rfl
        rotate_left
        ·simp only [Act.put, sA_, sB_, sC_, i64_w, i32_w]; rfl
        refine take_ (i := 32) (N := some 66) (v := ?_) (a' := ?_) (fB 36 6442450943) rfl rfl (take_ofW HT_.out HW_.out (by kernel_rfl)) (fun _ _ _ h => h) (Or.inl ⟨by rfl, ?_⟩) hHeld ?_ ?_
        rotate_left
        ·rintro w' ⟨s0, s1, s2, s3, s4, s5, s6, s7, s8, s9, s10, s11⟩; go_simp; with_reducible rfl
        rotate_left
        ·simp only [Act.put, sA_, sB_, sC_, i64_w, i32_w]; rfl
        refine one_ (i := 31) (N := some 65) (fB 36 8589934591) rfl rfl (one_of HT_.out (by kernel_rfl)) (by decide) (fun K hK => ?_)
        refine goes_ Tryd.func15 (by kernel_rfl) rfl #[.agg #[.string t379, .bool t380, .int .i64 t381, .string t382]] (by rfl) rfl rfl (by (try simp only [List.map_toArray, List.map_cons, List.map_nil]); first | done | rfl | (simp only [List.length_drop, List.length_take]; rfl)) ?_
        with_reducible refine (impl_AttrText.calls k t379 t380 t381 t382 t409 _ (tab_at HTAB.out (by repeat (first | (with_reducible first | exact HB.out | apply below_alloc | apply pw_below_drewN | apply below_drew1 | refine bS ?_ GE383.out | refine bS ?_ GE396.out | refine bS ?_ GE402.out) | exact HB.out))) A61.out).mono ?_
        rintro e w72 ⟨rfl, hb⟩
        refine ⟨_, rfl, ?_⟩
        have n0_ := Aside0.mk (Kd.R_below (by (with_reducible repeat (first | apply Kd.R_alloc | apply Kd.R_drewN | apply Kd.R_drew)); exact HO386.out) hb)
        have n1_ := Aside0.mk (Kd.R_below (by (with_reducible repeat (first | apply Kd.R_alloc | apply Kd.R_drewN | apply Kd.R_drew)); exact HO390.out) hb)
        have n2_ := Aside0.mk (bB (g := gb383) (o := .cells #[.string t379, .bool t380, .int .i64 t381, .string t382] 28 (0, 0)) (by (with_reducible repeat (first | refine bN ?_ _ | refine bD ?_ | refine bA ?_ _)); exact BK383.out) hb)
        have n3_ := Aside0.mk (bB (g := gb396) (o := .cells #[.string t391, .bool t392, .int .i64 t393, .string t394] 28 (0, 0)) (by (with_reducible repeat (first | refine bN ?_ _ | refine bD ?_ | refine bA ?_ _)); exact BK396.out) hb)
        have n4_ := Aside0.mk (bB (g := gb402) (o := .cells #[.string t397, .bool t398, .int .i64 t399, .string t400] 28 (0, 0)) (by (with_reducible repeat (first | refine bN ?_ _ | refine bD ?_ | refine bA ?_ _)); exact BK402.out) hb)
        have n5_ := Aside0.mk (below_step (by repeat (first | (with_reducible first | exact HB.out | apply below_alloc | apply pw_below_drewN | apply below_drew1 | refine bS ?_ GE383.out | refine bS ?_ GE396.out | refine bS ?_ GE402.out) | exact HB.out)) hb)
        clear HO386
        clear HO390
        clear BK383 BK396 BK402
        clear HB
        have HO386 := n0_
        have HO390 := n1_
        have BK383 := n2_
        have BK396 := n3_
        have BK402 := n4_
        have HB := n5_
        clear n0_ n1_ n2_ n3_ n4_ n5_
        (try clear hb)
        (try clear hb2)
        (try clear hk)
        (try clear hi)
        refine hK.out _ _ ⟨(bC BK383.out 0).trans rfl, (bC BK383.out 1).trans rfl, (bC BK383.out 2).trans rfl, (bC BK383.out 3).trans rfl, (bC BK396.out 0).trans rfl, (bC BK396.out 1).trans rfl, (bC BK396.out 2).trans rfl, (bC BK396.out 3).trans rfl, (bC BK402.out 0).trans rfl, (bC BK402.out 1).trans rfl, (bC BK402.out 2).trans rfl, (bC BK402.out 3).trans rfl⟩ (fun hHeld => ?_)
        clear hK K
        refine norm_ (a' := ?_) ?_ ?_
        rotate_left
        ·show Act.put _ (some 65) _ = _
         simp only [Act.put, sA_, sB_, sC_, i64_w, i32_w]
         rfl
        refine one_ (i := 33) (N := some 67) (fB 36 17179869183) rfl rfl (one_of HT_.out (by kernel_rfl)) (by decide) (fun K hK => ?_)
        refine goes_ Tryd.func13 (by kernel_rfl) rfl #[.agg #[.string t379, .bool t380, .int .i64 t381, .string t382]] (by rfl) rfl rfl (by (try simp only [List.map_toArray, List.map_cons, List.map_nil]); first | done | rfl | (simp only [List.length_drop, List.length_take]; rfl)) ?_
        with_reducible refine (spec_AttrText.calls k t379 t380 t381 t382 t410 _ A62.out).mono ?_
        rintro e w73 ⟨rfl, hb⟩
        refine ⟨_, rfl, ?_⟩
        have n0_ := Aside0.mk (Kd.R_below (by (with_reducible repeat (first | apply Kd.R_alloc | apply Kd.R_drewN | apply Kd.R_drew)); exact HO386.out) hb)
        have n1_ := Aside0.mk (Kd.R_below (by (with_reducible repeat (first | apply Kd.R_alloc | apply Kd.R_drewN | apply Kd.R_drew)); exact HO390.out) hb)
        have n2_ := Aside0.mk (bB (g := gb383) (o := .cells #[.string t379, .bool t380, .int .i64 t381, .string t382] 28 (0, 0)) (by (with_reducible repeat (first | refine bN ?_ _ | refine bD ?_ | refine bA ?_ _)); exact BK383.out) hb)
        have n3_ := Aside0.mk (bB (g := gb396) (o := .cells #[.string t391, .bool t392, .int .i64 t393, .string t394] 28 (0, 0)) (by (with_reducible repeat (first | refine bN ?_ _ | refine bD ?_ | refine bA ?_ _)); exact BK396.out) hb)
        have n4_ := Aside0.mk (bB (g := gb402) (o := .cells #[.string t397, .bool t398, .int .i64 t399, .string t400] 28 (0, 0)) (by (with_reducible repeat (first | refine bN ?_ _ | refine bD ?_ | refine bA ?_ _)); exact BK402.out) hb)
        have n5_ := Aside0.mk (below_step (by repeat (first | (with_reducible first | exact HB.out | apply below_alloc | apply pw_below_drewN | apply below_drew1 | refine bS ?_ GE383.out | refine bS ?_ GE396.out | refine bS ?_ GE402.out) | exact HB.out)) hb)
        clear HO386
        clear HO390
        clear BK383 BK396 BK402
        clear HB
        have HO386 := n0_
        have HO390 := n1_
        have BK383 := n2_
        have BK396 := n3_
        have BK402 := n4_
        have HB := n5_
        clear n0_ n1_ n2_ n3_ n4_ n5_
        (try clear hb)
        (try clear hb2)
        (try clear hk)
        (try clear hi)
        refine hK.out _ _ ⟨(bC BK383.out 0).trans rfl, (bC BK383.out 1).trans rfl, (bC BK383.out 2).trans rfl, (bC BK383.out 3).trans rfl, (bC BK396.out 0).trans rfl, (bC BK396.out 1).trans rfl, (bC BK396.out 2).trans rfl, (bC BK396.out 3).trans rfl, (bC BK402.out 0).trans rfl, (bC BK402.out 1).trans rfl, (bC BK402.out 2).trans rfl, (bC BK402.out 3).trans rfl⟩ (fun hHeld => ?_)
        clear hK K
        refine norm_ (a' := ?_) ?_ ?_
        rotate_left
        ·show Act.put _ (some 67) _ = _
         simp only [Act.put, sA_, sB_, sC_, i64_w, i32_w]
         rfl
        refine pure_ (i := 34) (N := some 68) (v := ?_) (a' := ?_) (fB 36 34359738367) rfl rfl (any_of HT_.out (by kernel_rfl)) (fun _ _ _ h => h) (Or.inl ⟨by rfl, ?_⟩) ?_ ?_
        rotate_left
        ·intro w'; go_simp; with_reducible rfl
        rotate_left
        ·simp only [Act.put, sA_, sB_, sC_, i64_w, i32_w]; rfl
        refine pure_ (i := 35) (N := some 69) (v := ?_) (a' := ?_) (fB 36 68719476735) rfl rfl (any_of HT_.out (by kernel_rfl)) (fun _ _ _ h => h) (Or.inl ⟨by rfl, ?_⟩) ?_ ?_
        rotate_left
        ·intro w'; go_simp; with_reducible rfl
        rotate_left
        ·simp only [Act.put, sA_, sB_, sC_, i64_w, i32_w]; rfl
        refine done_ (done_of HT_.out (by kernel_rfl)) ?_
        try go_wp2
        go_meet
        case rel => exact ⟨_, ((t409.toList != t410.toList)), (by first | rfl | (simp; done) | (simp [*]; done)), H', ⟨by first | omega | exact Nat.le_refl _⟩, ⟨by (with_reducible repeat (first | refine bN ?_ _ | refine bD ?_ | refine bA ?_ _)); exact BK383.out⟩, ⟨by (with_reducible repeat (first | refine bN ?_ _ | refine bD ?_ | refine bA ?_ _)); exact BK396.out⟩, ⟨by (with_reducible repeat (first | refine bN ?_ _ | refine bD ?_ | refine bA ?_ _)); exact BK402.out⟩, ⟨by repeat (first | (with_reducible first | exact HB.out | apply below_alloc | apply pw_below_drewN | apply below_drew1 | refine bS ?_ GE383.out | refine bS ?_ GE396.out | refine bS ?_ GE402.out) | exact HB.out)⟩⟩
       ·rw [if_neg c60] at H
        exact (laws_FnAttrs.j0_bad H hrt_.out).elim
  case rest =>
   clear HC9
   try clear c1
   try clear c2
   try clear p2
   try clear c3
   try clear c6
   try clear c13
   try clear c15
   try clear c29
   try clear c30
   try clear c31
   try clear c32
   try clear c33
   try clear c34
   try clear c60
   try clear c60b0
   try clear c60b1
   obtain ⟨kq, x69_8, rfl, HA, HJ8, BK383, BK396, BK402, HB⟩ := hcut
   cases kq with
   | zero => exact absurd HA.out (by simp [laws_FnAttrs.j0])
   | succ kj8 =>
    have H := HA.out
    clear HA
    simp only [laws_FnAttrs.j0] at H
    by_cases c83 : x69_8 = true
    ·subst c83
     have H1 : (some false) = some r := by rw [if_pos rfl] at H; exact H
     clear H
     have H := H1
     clear H1
     exact absurd ((Option.some.inj H).trans hrt_.out) (by decide)
    ·replace c83 := Bool.eq_false_iff.mpr c83
     subst c83
     have H1 : ((impl_AttrText.f kj8 t379 t380 t381 t382).bind fun t411 => ((impl_AttrOk.f kj8 t379 t380 t381 t382).bind fun t412 => (if ((t411.toList != ([] : List UInt8)) == t412) = true then (if t395 = true then (if t391.toList = t388.toList then ((impl_AttrSize.f t379 t380 t381 t382).bind fun t413 => (some (decide (t413 ≥ (t379.size : Int))))) else (some false)) else ((impl_AttrSize.f t379 t380 t381 t382).bind fun t414 => (some (decide (t414 ≥ (t379.size : Int)))))) else (some false)))) = some r := by rw [if_neg (show ¬ (false = true) by decide)] at H; exact H
     clear H
     have H := H1
     clear H1
     replace H := Option.bind_eq_some_iff.mp H
     obtain ⟨t411, A840, H⟩ := H
     replace H : ((impl_AttrOk.f kj8 t379 t380 t381 t382).bind fun t412 => (if ((t411.toList != ([] : List UInt8)) == t412) = true then (if t395 = true then (if t391.toList = t388.toList then ((impl_AttrSize.f t379 t380 t381 t382).bind fun t413 => (some (decide (t413 ≥ (t379.size : Int))))) else (some false)) else ((impl_AttrSize.f t379 t380 t381 t382).bind fun t414 => (some (decide (t414 ≥ (t379.size : Int)))))) else (some false))) = some r := H
     have A84 := Aside0.mk A840
     clear A840
     replace H := Option.bind_eq_some_iff.mp H
     obtain ⟨t412, A850, H⟩ := H
     replace H : (if ((t411.toList != ([] : List UInt8)) == t412) = true then (if t395 = true then (if t391.toList = t388.toList then ((impl_AttrSize.f t379 t380 t381 t382).bind fun t413 => (some (decide (t413 ≥ (t379.size : Int))))) else (some false)) else ((impl_AttrSize.f t379 t380 t381 t382).bind fun t414 => (some (decide (t414 ≥ (t379.size : Int)))))) else (some false)) = some r := H
     have A85 := Aside0.mk A850
     clear A850
     by_cases c86 : ((t411.toList != ([] : List UInt8)) == t412) = true
     ·rw [if_pos c86] at H
      have c86b0 : ((t411.toList != ([] : List UInt8)) == t412) = true := c86
      (try (have c86b4 : ((!t411.toList.isEmpty) == t412) = true := by have z_ := c86b0; rw [show (t411.toList != ([] : List UInt8)) = !t411.toList.isEmpty from by cases t411.toList <;> rfl] at z_; exact z_))
      (try (have c86b1 : decide ((t411.toList != ([] : List UInt8)) = t412) = true := by simpa using c86))
      (try (have c86b2 : ((t411.toList != ([] : List UInt8)) == t412) = true := by simpa using c86))
      clear c86
      by_cases c87 : t395 = true
      ·subst c87
       have H1 : (if t391.toList = t388.toList then ((impl_AttrSize.f t379 t380 t381 t382).bind fun t413 => (some (decide (t413 ≥ (t379.size : Int))))) else (some false)) = some r := by rw [if_pos rfl] at H; exact H
       clear H
       have H := H1
       clear H1
       by_cases c88 : t391.toList = t388.toList
       ·rw [if_pos c88] at H
        have c88b0 : (t391.toList == t388.toList) = true := beq_iff_eq.mpr c88
        have c88b1 : (t391.toList != t388.toList) = false := bne_eq_false_iff_eq.mpr c88
        clear c88
        replace H := Option.bind_eq_some_iff.mp H
        obtain ⟨t413, A890, H⟩ := H
        replace H : (some (decide (t413 ≥ (t379.size : Int)))) = some r := H
        have A89 := Aside0.mk A890
        clear A890
        obtain rfl := Option.some.inj H
        try go_wp2
        have n0_ := Aside0.mk (bD BK383.out)
        have n1_ := Aside0.mk (bD BK396.out)
        have n2_ := Aside0.mk (bD BK402.out)
        have n3_ := Aside0.mk (below_drew1 HB.out)
        clear BK383 BK396 BK402
        clear HB
        have BK383 := n0_
        have BK396 := n1_
        have BK402 := n2_
        have HB := n3_
        clear n0_ n1_ n2_ n3_
        refine start_ (n := 25) (S := fun w' => w'.cell? ⟨gb383, 0, none⟩ = some (.string t379) ∧ w'.cell? ⟨gb383, 1, none⟩ = some (.bool t380) ∧ w'.cell? ⟨gb383, 2, none⟩ = some (.int .i64 t381) ∧ w'.cell? ⟨gb383, 3, none⟩ = some (.string t382) ∧ w'.cell? ⟨gb396, 0, none⟩ = some (.string t391) ∧ w'.cell? ⟨gb396, 1, none⟩ = some (.bool t392) ∧ w'.cell? ⟨gb396, 2, none⟩ = some (.int .i64 t393) ∧ w'.cell? ⟨gb396, 3, none⟩ = some (.string t394)) (ds := []) #[false, false, false, false, false, false, false, false, false, false, false, false, false, false, false, false, false, false, false, false, false, false, false, false, false] (by kernel_rfl) rfl rfl ⟨(bC BK383.out 0).trans rfl, (bC BK383.out 1).trans rfl, (bC BK383.out 2).trans rfl, (bC BK383.out 3).trans rfl, (bC BK396.out 0).trans rfl, (bC BK396.out 1).trans rfl, (bC BK396.out 2).trans rfl, (bC BK396.out 3).trans rfl⟩ (fun hHeld => ?_); refine with_tabW laws_FnAttrs.tab10 laws_FnAttrs.bits10 (fun HT_ HW_ => ?_)
        generalize wc.drew = w90 at BK383 BK396 BK402 HB hHeld ⊢
        refine take_ (i := 0) (N := some 70) (v := ?_) (a' := ?_) (fB 25 1) rfl rfl (take_ofW HT_.out HW_.out (by kernel_rfl)) (fun _ _ _ h => h) (Or.inl ⟨by rfl, ?_⟩) hHeld ?_ ?_
        rotate_left
        ·rintro w' ⟨s0, s1, s2, s3, s4, s5, s6, s7⟩; go_simp; with_reducible rfl
        rotate_left
        ·simp only [Act.put, sA_, sB_, sC_, i64_w, i32_w]; rfl
        refine take_ (i := 3) (N := some 73) (v := ?_) (a' := ?_) (fB 25 9) rfl rfl (take_ofW HT_.out HW_.out (by kernel_rfl)) (fun _ _ _ h => h) (Or.inl ⟨by rfl, ?_⟩) hHeld ?_ ?_
        rotate_left
        ·rintro w' ⟨s0, s1, s2, s3, s4, s5, s6, s7⟩; go_simp; with_reducible rfl
        rotate_left
        ·simp only [Act.put, sA_, sB_, sC_, i64_w, i32_w]; rfl
        refine one_ (i := 1) (N := some 71) (fB 25 11) rfl rfl (one_of HT_.out (by kernel_rfl)) (by decide) (fun K hK => ?_)
        refine goes_ Tryd.func15 (by kernel_rfl) rfl #[.agg #[.string t379, .bool t380, .int .i64 t381, .string t382]] (by rfl) rfl rfl (by (try simp only [List.map_toArray, List.map_cons, List.map_nil]); first | done | rfl | (simp only [List.length_drop, List.length_take]; rfl)) ?_
        with_reducible refine (impl_AttrText.calls kj8 t379 t380 t381 t382 t411 _ (tab_at HTAB.out (by repeat (first | (with_reducible first | exact HB.out | apply below_alloc | apply pw_below_drewN | apply below_drew1 | refine bS ?_ GE383.out | refine bS ?_ GE396.out | refine bS ?_ GE402.out) | exact HB.out))) A84.out).mono ?_
        rintro e w91 ⟨rfl, hb⟩
        refine ⟨_, rfl, ?_⟩
        have n0_ := Aside0.mk (bB (g := gb383) (o := .cells #[.string t379, .bool t380, .int .i64 t381, .string t382] 28 (0, 0)) (by (with_reducible repeat (first | refine bN ?_ _ | refine bD ?_ | refine bA ?_ _)); exact BK383.out) hb)
        have n1_ := Aside0.mk (bB (g := gb396) (o := .cells #[.string t391, .bool t392, .int .i64 t393, .string t394] 28 (0, 0)) (by (with_reducible repeat (first | refine bN ?_ _ | refine bD ?_ | refine bA ?_ _)); exact BK396.out) hb)
        have n2_ := Aside0.mk (bB (g := gb402) (o := .cells #[.string t397, .bool t398, .int .i64 t399, .string t400] 28 (0, 0)) (by (with_reducible repeat (first | refine bN ?_ _ | refine bD ?_ | refine bA ?_ _)); exact BK402.out) hb)
        have n3_ := Aside0.mk (below_step (by repeat (first | (with_reducible first | exact HB.out | apply below_alloc | apply pw_below_drewN | apply below_drew1 | refine bS ?_ GE383.out | refine bS ?_ GE396.out | refine bS ?_ GE402.out) | exact HB.out)) hb)
        clear BK383 BK396 BK402
        clear HB
        have BK383 := n0_
        have BK396 := n1_
        have BK402 := n2_
        have HB := n3_
        clear n0_ n1_ n2_ n3_
        (try clear hb)
        (try clear hb2)
        (try clear hk)
        (try clear hi)
        refine hK.out _ _ ⟨(bC BK383.out 0).trans rfl, (bC BK383.out 1).trans rfl, (bC BK383.out 2).trans rfl, (bC BK383.out 3).trans rfl, (bC BK396.out 0).trans rfl, (bC BK396.out 1).trans rfl, (bC BK396.out 2).trans rfl, (bC BK396.out 3).trans rfl⟩ (fun hHeld => ?_)
        clear hK K
        refine norm_ (a' := ?_) ?_ ?_
        rotate_left
        ·show Act.put _ (some 71) _ = _
         simp only [Act.put, sA_, sB_, sC_, i64_w, i32_w]
         rfl
        refine pure_ (i := 2) (N := some 72) (v := ?_) (a' := ?_) (fB 25 15) rfl rfl (any_of HT_.out (by kernel_rfl)) (fun _ _ _ h => h) (Or.inl ⟨by rfl, ?_⟩) ?_ ?_
        rotate_left
        ·intro w'; go_simp; with_reducible rfl
        rotate_left
        ·simp only [Act.put, sA_, sB_, sC_, i64_w, i32_w]; rfl
        refine one_ (i := 4) (N := some 74) (fB 25 31) rfl rfl (one_of HT_.out (by kernel_rfl)) (by decide) (fun K hK => ?_)
        refine goes_ Tryd.func29 (by kernel_rfl) rfl #[.agg #[.string t379, .bool t380, .int .i64 t381, .string t382]] (by rfl) rfl rfl (by (try simp only [List.map_toArray, List.map_cons, List.map_nil]); first | done | rfl | (simp only [List.length_drop, List.length_take]; rfl)) ?_
        with_reducible refine (impl_AttrOk.calls kj8 t379 t380 t381 t382 t412 _ A85.out).mono ?_
        rintro e w92 ⟨rfl, hb⟩
        refine ⟨_, rfl, ?_⟩
        have n0_ := Aside0.mk (bB (g := gb383) (o := .cells #[.string t379, .bool t380, .int .i64 t381, .string t382] 28 (0, 0)) (by (with_reducible repeat (first | refine bN ?_ _ | refine bD ?_ | refine bA ?_ _)); exact BK383.out) hb)
        have n1_ := Aside0.mk (bB (g := gb396) (o := .cells #[.string t391, .bool t392, .int .i64 t393, .string t394] 28 (0, 0)) (by (with_reducible repeat (first | refine bN ?_ _ | refine bD ?_ | refine bA ?_ _)); exact BK396.out) hb)
        have n2_ := Aside0.mk (bB (g := gb402) (o := .cells #[.string t397, .bool t398, .int .i64 t399, .string t400] 28 (0, 0)) (by (with_reducible repeat (first | refine bN ?_ _ | refine bD ?_ | refine bA ?_ _)); exact BK402.out) hb)
        have n3_ := Aside0.mk (below_step (by repeat (first | (with_reducible first | exact HB.out | apply below_alloc | apply pw_below_drewN | apply below_drew1 | refine bS ?_ GE383.out | refine bS ?_ GE396.out | refine bS ?_ GE402.out) | exact HB.out)) hb)
        clear BK383 BK396 BK402
        clear HB
        have BK383 := n0_
        have BK396 := n1_
        have BK402 := n2_
        have HB := n3_
        clear n0_ n1_ n2_ n3_
        (try clear hb)
        (try clear hb2)
        (try clear hk)
        (try clear hi)
        refine hK.out _ _ ⟨(bC BK383.out 0).trans rfl, (bC BK383.out 1).trans rfl, (bC BK383.out 2).trans rfl, (bC BK383.out 3).trans rfl, (bC BK396.out 0).trans rfl, (bC BK396.out 1).trans rfl, (bC BK396.out 2).trans rfl, (bC BK396.out 3).trans rfl⟩ (fun hHeld => ?_)
        clear hK K
        refine norm_ (a' := ?_) ?_ ?_
        rotate_left
        ·show Act.put _ (some 74) _ = _
         simp only [Act.put, sA_, sB_, sC_, i64_w, i32_w]
         rfl
        refine pure_ (i := 5) (N := some 75) (v := ?_) (a' := ?_) (fB 25 63) rfl rfl (any_of HT_.out (by kernel_rfl)) (fun _ _ _ h => h) (Or.inl ⟨by rfl, ?_⟩) ?_ ?_
        rotate_left
        ·intro w'; go_simp; with_reducible rfl
        rotate_left
        ·simp only [Act.put, sA_, sB_, sC_, i64_w, i32_w]; rfl
        refine pure_ (i := 6) (N := some 76) (v := ?_) (a' := ?_) (fB 25 127) rfl rfl (any_of HT_.out (by kernel_rfl)) (fun _ _ _ h => h) (Or.inl ⟨by rfl, ?_⟩) ?_ ?_
        rotate_left
        ·intro w'; go_simp; with_reducible rfl
        rotate_left
        ·simp only [Act.put, sA_, sB_, sC_, i64_w, i32_w]; rfl
        refine pure_ (i := 7) (N := some 77) (v := ?_) (a' := ?_) (fB 25 255) rfl rfl (any_of HT_.out (by kernel_rfl)) (fun _ _ _ h => h) (Or.inl ⟨by rfl, ?_⟩) ?_ ?_
        rotate_left
        ·intro w'; go_simp; with_reducible rfl
        rotate_left
        ·simp only [Act.put, sA_, sB_, sC_, i64_w, i32_w]; rfl
        refine pure_ (i := 8) (N := some 78) (v := ?_) (a' := ?_) (fB 25 511) rfl rfl (any_of HT_.out (by kernel_rfl)) (fun _ _ _ h => h) (Or.inl ⟨by rfl, ?_⟩) ?_ ?_
        rotate_left
        ·intro w'; go_simp; with_reducible rfl
        rotate_left
        ·simp only [Act.put, sA_, sB_, sC_, i64_w, i32_w]; rfl
        refine pure_ (i := 9) (N := some 79) (v := ?_) (a' := ?_) (fB 25 1023) rfl rfl (any_of HT_.out (by kernel_rfl)) (fun _ _ _ h => h) (Or.inl ⟨by rfl, ?_⟩) ?_ ?_
        rotate_left
        ·intro w'; go_simp; with_reducible rfl
        rotate_left
        ·simp only [Act.put, sA_, sB_, sC_, i64_w, i32_w]; rfl
        refine pure_ (i := 10) (N := some 80) (v := ?_) (a' := ?_) (fB 25 2047) rfl rfl (any_of HT_.out (by kernel_rfl)) (fun _ _ _ h => h) (Or.inl ⟨by rfl, ?_⟩) ?_ ?_
        rotate_left
        ·intro w'; go_simp; with_reducible rfl
        rotate_left
        ·simp only [Act.put, sA_, sB_, sC_, i64_w, i32_w]; rfl
        refine pure_ (i := 12) (N := some 82) (v := ?_) (a' := ?_) (fB 25 6143) rfl rfl (any_of HT_.out (by kernel_rfl)) (fun _ _ _ h => h) (Or.inl ⟨by rfl, ?_⟩) ?_ ?_
        rotate_left
        ·intro w'; go_simp; with_reducible rfl
        rotate_left
        ·simp only [Act.put, sA_, sB_, sC_, i64_w, i32_w]; rfl
        refine take_ (i := 11) (N := some 81) (v := ?_) (a' := ?_) (fB 25 8191) rfl rfl (take_ofW HT_.out HW_.out (by kernel_rfl)) (fun _ _ _ h => h) (Or.inl ⟨by rfl, ?_⟩) hHeld ?_ ?_
        rotate_left
        ·rintro w' ⟨s0, s1, s2, s3, s4, s5, s6, s7⟩; go_simp; with_reducible rfl
        rotate_left
        ·simp only [Act.put, sA_, sB_, sC_, i64_w, i32_w]; rfl
        refine pure_ (i := 13) (N := some 83) (v := ?_) (a' := ?_) (fB 25 16383) rfl rfl (any_of HT_.out (by kernel_rfl)) (fun _ _ _ h => h) (Or.inl ⟨by rfl, ?_⟩) ?_ ?_
        rotate_left
        ·intro w'; go_simp; with_reducible rfl
        rotate_left
        ·simp only [Act.put, sA_, sB_, sC_, i64_w, i32_w]; rfl
        refine pure_ (i := 14) (N := some 84) (v := ?_) (a' := ?_) (fB 25 32767) rfl rfl (any_of HT_.out (by kernel_rfl)) (fun _ _ _ h => h) (Or.inl ⟨by rfl, ?_⟩) ?_ ?_
        rotate_left
        ·intro w'; go_simp; with_reducible rfl
        rotate_left
        ·simp only [Act.put, sA_, sB_, sC_, i64_w, i32_w]; rfl
        refine pure_ (i := 15) (N := some 85) (v := ?_) (a' := ?_) (fB 25 65535) rfl rfl (any_of HT_.out (by kernel_rfl)) (fun _ _ _ h => h) (Or.inl ⟨by rfl, ?_⟩) ?_ ?_
        rotate_left
        ·intro w'; go_simp; with_reducible rfl
        rotate_left
        ·simp only [Act.put, sA_, sB_, sC_, i64_w, i32_w]; rfl
        refine pure_ (i := 16) (N := some 86) (v := ?_) (a' := ?_) (fB 25 131071) rfl rfl (any_of HT_.out (by kernel_rfl)) (fun _ _ _ h => h) (Or.inl ⟨by rfl, ?_⟩) ?_ ?_
        rotate_left
        ·intro w'; go_simp; with_reducible rfl
        rotate_left
        ·simp only [Act.put, sA_, sB_, sC_, i64_w, i32_w]; rfl
        refine pure_ (i := 19) (N := some 89) (v := ?_) (a' := ?_) (fB 25 655359) rfl rfl (any_of HT_.out (by kernel_rfl)) (fun _ _ _ h => h) (Or.inl ⟨by rfl, ?_⟩) ?_ ?_
        rotate_left
        ·intro w'; go_simp; with_reducible rfl
        rotate_left
        ·simp only [Act.put, sA_, sB_, sC_, i64_w, i32_w]; rfl
        refine take_ (i := 17) (N := some 87) (v := ?_) (a' := ?_) (fB 25 786431) rfl rfl (take_ofW HT_.out HW_.out (by kernel_rfl)) (fun _ _ _ h => h) (Or.inl ⟨by rfl, ?_⟩) hHeld ?_ ?_
        rotate_left
        ·rintro w' ⟨s0, s1, s2, s3, s4, s5, s6, s7⟩; go_simp; with_reducible rfl
        rotate_left
        ·simp only [Act.put, sA_, sB_, sC_, i64_w, i32_w]; rfl
        refine take_ (i := 20) (N := some 90) (v := ?_) (a' := ?_) (fB 25 1835007) rfl rfl (take_ofW HT_.out HW_.out (by kernel_rfl)) (fun _ _ _ h => h) (Or.inl ⟨by rfl, ?_⟩) hHeld ?_ ?_
        rotate_left
        ·rintro w' ⟨s0, s1, s2, s3, s4, s5, s6, s7⟩; go_simp; with_reducible rfl
        rotate_left
        ·simp only [Act.put, sA_, sB_, sC_, i64_w, i32_w]; rfl
        refine pure_ (i := 21) (N := some 91) (v := ?_) (a' := ?_) (fB 25 3932159) rfl rfl (any_of HT_.out (by kernel_rfl)) (fun _ _ _ h => h) (Or.inl ⟨by rfl, ?_⟩) ?_ ?_
        rotate_left
        ·intro w'; go_simp; with_reducible rfl
        rotate_left
        ·simp only [Act.put, sA_, sB_, sC_, i64_w, i32_w]; rfl
        refine one_ (i := 18) (N := some 88) (fB 25 4194303) rfl rfl (one_of HT_.out (by kernel_rfl)) (by decide) (fun K hK => ?_)
        refine goes_ Tryd.func33 (by kernel_rfl) rfl #[.agg #[.string t379, .bool t380, .int .i64 t381, .string t382]] (by rfl) rfl rfl (by (try simp only [List.map_toArray, List.map_cons, List.map_nil]); first | done | rfl | (simp only [List.length_drop, List.length_take]; rfl)) ?_
        with_reducible refine (impl_AttrSize.calls t379 t380 t381 t382 t413 _ A89.out).mono ?_
        rintro e w93 ⟨rfl, hb⟩
        refine ⟨_, rfl, ?_⟩
        have n0_ := Aside0.mk (bB (g := gb383) (o := .cells #[.string t379, .bool t380, .int .i64 t381, .string t382] 28 (0, 0)) (by (with_reducible repeat (first | refine bN ?_ _ | refine bD ?_ | refine bA ?_ _)); exact BK383.out) hb)
        have n1_ := Aside0.mk (bB (g := gb396) (o := .cells #[.string t391, .bool t392, .int .i64 t393, .string t394] 28 (0, 0)) (by (with_reducible repeat (first | refine bN ?_ _ | refine bD ?_ | refine bA ?_ _)); exact BK396.out) hb)
        have n2_ := Aside0.mk (bB (g := gb402) (o := .cells #[.string t397, .bool t398, .int .i64 t399, .string t400] 28 (0, 0)) (by (with_reducible repeat (first | refine bN ?_ _ | refine bD ?_ | refine bA ?_ _)); exact BK402.out) hb)
        have n3_ := Aside0.mk (below_step (by repeat (first | (with_reducible first | exact HB.out | apply below_alloc | apply pw_below_drewN | apply below_drew1 | refine bS ?_ GE383.out | refine bS ?_ GE396.out | refine bS ?_ GE402.out) | exact HB.out)) hb)
        clear BK383 BK396 BK402
        clear HB
        have BK383 := n0_
        have BK396 := n1_
        have BK402 := n2_
        have HB := n3_
        clear n0_ n1_ n2_ n3_
        (try clear hb)
        (try clear hb2)
        (try clear hk)
        (try clear hi)
        refine hK.out _ _ ⟨(bC BK383.out 0).trans rfl, (bC BK383.out 1).trans rfl, (bC BK383.out 2).trans rfl, (bC BK383.out 3).trans rfl, (bC BK396.out 0).trans rfl, (bC BK396.out 1).trans rfl, (bC BK396.out 2).trans rfl, (bC BK396.out 3).trans rfl⟩ (fun hHeld => ?_)
        clear hK K
        refine norm_ (a' := ?_) ?_ ?_
        rotate_left
        ·show Act.put _ (some 88) _ = _
         simp only [Act.put, sA_, sB_, sC_, i64_w, i32_w]
         rfl
        refine pure_ (i := 22) (N := some 92) (v := ?_) (a' := ?_) (fB 25 8388607) rfl rfl (any_of HT_.out (by kernel_rfl)) (fun _ _ _ h => h) (Or.inl ⟨by rfl, ?_⟩) ?_ ?_
        rotate_left
        ·intro w'; go_simp; with_reducible rfl
        rotate_left
        ·simp only [Act.put, sA_, sB_, sC_, i64_w, i32_w]; rfl
        refine pure_ (i := 23) (N := some 93) (v := ?_) (a' := ?_) (fB 25 16777215) rfl rfl (any_of HT_.out (by kernel_rfl)) (fun _ _ _ h => h) (Or.inl ⟨by rfl, ?_⟩) ?_ ?_
        rotate_left
        ·intro w'; go_simp; with_reducible rfl
        rotate_left
        ·simp only [Act.put, sA_, sB_, sC_, i64_w, i32_w]; rfl
        refine pure_ (i := 24) (N := some 2) (v := ?_) (a' := ?_) (fB 25 33554431) rfl rfl (any_of HT_.out (by kernel_rfl)) (fun _ _ _ h => h) (Or.inl ⟨by rfl, ?_⟩) ?_ ?_
        rotate_left
        ·intro w'; go_simp; with_reducible rfl
        rotate_left
        ·simp only [Act.put, sA_, sB_, sC_, i64_w, i32_w]; rfl
        refine done_ (done_of HT_.out (by kernel_rfl)) ?_
        try go_wp2
        go_ret
        exact ⟨by first | rfl | (simp [errW_none, errW_some] <;> rfl) | (simp [*, errW_none, errW_some] <;> rfl), by repeat (first | (with_reducible first | exact HB.out | apply below_alloc | apply pw_below_drewN | apply below_drew1 | refine bS ?_ GE383.out | refine bS ?_ GE396.out | refine bS ?_ GE402.out) | exact HB.out)⟩
       ·rw [if_neg c88] at H
        have c88b0 : (t391.toList == t388.toList) = false := beq_eq_false_iff_ne.mpr c88
        have c88b1 : (t391.toList != t388.toList) = true := bne_iff_ne.mpr c88
        exact absurd ((Option.some.inj H).trans hrt_.out) (by decide)
      ·replace c87 := Bool.eq_false_iff.mpr c87
       subst c87
       have H1 : ((impl_AttrSize.f t379 t380 t381 t382).bind fun t414 => (some (decide (t414 ≥ (t379.size : Int))))) = some r := by rw [if_neg (show ¬ (false = true) by decide)] at H; exact H
       clear H
       have H := H1
       clear H1
       replace H := Option.bind_eq_some_iff.mp H
       obtain ⟨t414, A940, H⟩ := H
       replace H : (some (decide (t414 ≥ (t379.size : Int)))) = some r := H
       have A94 := Aside0.mk A940
       clear A940
       obtain rfl := Option.some.inj H
       try go_wp2
       have n0_ := Aside0.mk (bD BK383.out)
       have n1_ := Aside0.mk (bD BK396.out)
       have n2_ := Aside0.mk (bD BK402.out)
       have n3_ := Aside0.mk (below_drew1 HB.out)
       clear BK383 BK396 BK402
       clear HB
       have BK383 := n0_
       have BK396 := n1_
       have BK402 := n2_
       have HB := n3_
       clear n0_ n1_ n2_ n3_
       refine start_ (n := 25) (S := fun w' => w'.cell? ⟨gb383, 0, none⟩ = some (.string t379) ∧ w'.cell? ⟨gb383, 1, none⟩ = some (.bool t380) ∧ w'.cell? ⟨gb383, 2, none⟩ = some (.int .i64 t381) ∧ w'.cell? ⟨gb383, 3, none⟩ = some (.string t382)) (ds := []) #[false, false, false, false, false, false, false, false, false, false, false, false, false, false, false, false, false, false, false, false, false, false, false, false, false] (by kernel_rfl) rfl rfl ⟨(bC BK383.out 0).trans rfl, (bC BK383.out 1).trans rfl, (bC BK383.out 2).trans rfl, (bC BK383.out 3).trans rfl⟩ (fun hHeld => ?_); refine with_tabW laws_FnAttrs.tab10 laws_FnAttrs.bits10 (fun HT_ HW_ => ?_)
       generalize wc.drew = w95 at BK383 BK396 BK402 HB hHeld ⊢
       refine take_ (i := 0) (N := some 70) (v := ?_) (a' := ?_) (fB 25 1) rfl rfl (take_ofW HT_.out HW_.out (by kernel_rfl)) (fun _ _ _ h => h) (Or.inl ⟨by rfl, ?_⟩) hHeld ?_ ?_
       rotate_left
       ·rintro w' ⟨s0, s1, s2, s3⟩; go_simp; with_reducible rfl
       rotate_left
       ·simp only [Act.put, sA_, sB_, sC_, i64_w, i32_w]; rfl
       refine take_ (i := 3) (N := some 73) (v := ?_) (a' := ?_) (fB 25 9) rfl rfl (take_ofW HT_.out HW_.out (by kernel_rfl)) (fun _ _ _ h => h) (Or.inl ⟨by rfl, ?_⟩) hHeld ?_ ?_
       rotate_left
       ·rintro w' ⟨s0, s1, s2, s3⟩; go_simp; with_reducible rfl
       rotate_left
       ·simp only [Act.put, sA_, sB_, sC_, i64_w, i32_w]; rfl
       refine one_ (i := 1) (N := some 71) (fB 25 11) rfl rfl (one_of HT_.out (by kernel_rfl)) (by decide) (fun K hK => ?_)
       refine goes_ Tryd.func15 (by kernel_rfl) rfl #[.agg #[.string t379, .bool t380, .int .i64 t381, .string t382]] (by rfl) rfl rfl (by (try simp only [List.map_toArray, List.map_cons, List.map_nil]); first | done | rfl | (simp only [List.length_drop, List.length_take]; rfl)) ?_
       with_reducible refine (impl_AttrText.calls kj8 t379 t380 t381 t382 t411 _ (tab_at HTAB.out (by repeat (first | (with_reducible first | exact HB.out | apply below_alloc | apply pw_below_drewN | apply below_drew1 | refine bS ?_ GE383.out | refine bS ?_ GE396.out | refine bS ?_ GE402.out) | exact HB.out))) A84.out).mono ?_
       rintro e w96 ⟨rfl, hb⟩
       refine ⟨_, rfl, ?_⟩
       have n0_ := Aside0.mk (bB (g := gb383) (o := .cells #[.string t379, .bool t380, .int .i64 t381, .string t382] 28 (0, 0)) (by (with_reducible repeat (first | refine bN ?_ _ | refine bD ?_ | refine bA ?_ _)); exact BK383.out) hb)
       have n1_ := Aside0.mk (bB (g := gb396) (o := .cells #[.string t391, .bool t392, .int .i64 t393, .string t394] 28 (0, 0)) (by (with_reducible repeat (first | refine bN ?_ _ | refine bD ?_ | refine bA ?_ _)); exact BK396.out) hb)
       have n2_ := Aside0.mk (bB (g := gb402) (o := .cells #[.string t397, .bool t398, .int .i64 t399, .string t400] 28 (0, 0)) (by (with_reducible repeat (first | refine bN ?_ _ | refine bD ?_ | refine bA ?_ _)); exact BK402.out) hb)
       have n3_ := Aside0.mk (below_step (by repeat (first | (with_reducible first | exact HB.out | apply below_alloc | apply pw_below_drewN | apply below_drew1 | refine bS ?_ GE383.out | refine bS ?_ GE396.out | refine bS ?_ GE402.out) | exact HB.out)) hb)
       clear BK383 BK396 BK402
       clear HB
       have BK383 := n0_
       have BK396 := n1_
       have BK402 := n2_
       have HB := n3_
       clear n0_ n1_ n2_ n3_
       (try clear hb)
       (try clear hb2)
       (try clear hk)
       (try clear hi)
       refine hK.out _ _ ⟨(bC BK383.out 0).trans rfl, (bC BK383.out 1).trans rfl, (bC BK383.out 2).trans rfl, (bC BK383.out 3).trans rfl⟩ (fun hHeld => ?_)
       clear hK K
       refine norm_ (a' := ?_) ?_ ?_
       rotate_left
       ·show Act.put _ (some 71) _ = _
        simp only [Act.put, sA_, sB_, sC_, i64_w, i32_w]
        rfl
       refine pure_ (i := 2) (N := some 72) (v := ?_) (a' := ?_) (fB 25 15) rfl rfl (any_of HT_.out (by kernel_rfl)) (fun _ _ _ h => h) (Or.inl ⟨by rfl, ?_⟩) ?_ ?_
       rotate_left
       ·intro w'; go_simp; with_reducible rfl
       rotate_left
       ·simp only [Act.put, sA_, sB_, sC_, i64_w, i32_w]; rfl
       refine one_ (i := 4) (N := some 74) (fB 25 31) rfl rfl (one_of HT_.out (by kernel_rfl)) (by decide) (fun K hK => ?_)
       refine goes_ Tryd.func29 (by kernel_rfl) rfl #[.agg #[.string t379, .bool t380, .int .i64 t381, .string t382]] (by rfl) rfl rfl (by (try simp only [List.map_toArray, List.map_cons, List.map_nil]); first | done | rfl | (simp only [List.length_drop, List.length_take]; rfl)) ?_
       with_reducible refine (impl_AttrOk.calls kj8 t379 t380 t381 t382 t412 _ A85.out).mono ?_
       rintro e w97 ⟨rfl, hb⟩
       refine ⟨_, rfl, ?_⟩
       have n0_ := Aside0.mk (bB (g := gb383) (o := .cells #[.string t379, .bool t380, .int .i64 t381, .string t382] 28 (0, 0)) (by (with_reducible repeat (first | refine bN ?_ _ | refine bD ?_ | refine bA ?_ _)); exact BK383.out) hb)
       have n1_ := Aside0.mk (bB (g := gb396) (o := .cells #[.string t391, .bool t392, .int .i64 t393, .string t394] 28 (0, 0)) (by (with_reducible repeat (first | refine bN ?_ _ | refine bD ?_ | refine bA ?_ _)); exact BK396.out) hb)
       have n2_ := Aside0.mk (bB (g := gb402) (o := .cells #[.string t397, .bool t398, .int .i64 t399, .string t400] 28 (0, 0)) (by (with_reducible repeat (first | refine bN ?_ _ | refine bD ?_ | refine bA ?_ _)); exact BK402.out) hb)
       have n3_ := Aside0.mk (below_step (by repeat (first | (with_reducible first | exact HB.out | apply below_alloc | apply pw_below_drewN | apply below_drew1 | refine bS ?_ GE383.out | refine bS ?_ GE396.out | refine bS ?_ GE402.out) | exact HB.out)) hb)
       clear BK383 BK396 BK402
       clear HB
       have BK383 := n0_
       have BK396 := n1_
       have BK402 := n2_
       have HB := n3_
       clear n0_ n1_ n2_ n3_
       (try clear hb)
       (try clear hb2)
       (try clear hk)
       (try clear hi)
       refine hK.out _ _ ⟨(bC BK383.out 0).trans rfl, (bC BK383.out 1).trans rfl, (bC BK383.out 2).trans rfl, (bC BK383.out 3).trans rfl⟩ (fun hHeld => ?_)
       clear hK K
       refine norm_ (a' := ?_) ?_ ?_
       rotate_left
       ·show Act.put _ (some 74) _ = _
        simp only [Act.put, sA_, sB_, sC_, i64_w, i32_w]
        rfl
       refine pure_ (i := 5) (N := some 75) (v := ?_) (a' := ?_) (fB 25 63) rfl rfl (any_of HT_.out (by kernel_rfl)) (fun _ _ _ h => h) (Or.inl ⟨by rfl, ?_⟩) ?_ ?_
       rotate_left
       ·intro w'; go_simp; with_reducible rfl
       rotate_left
       ·simp only [Act.put, sA_, sB_, sC_, i64_w, i32_w]; rfl
       refine pure_ (i := 6) (N := some 76) (v := ?_) (a' := ?_) (fB 25 127) rfl rfl (any_of HT_.out (by kernel_rfl)) (fun _ _ _ h => h) (Or.inl ⟨by rfl, ?_⟩) ?_ ?_
       rotate_left
       ·intro w'; go_simp; with_reducible rfl
       rotate_left
       ·simp only [Act.put, sA_, sB_, sC_, i64_w, i32_w]; rfl
       refine pure_ (i := 7) (N := some 77) (v := ?_) (a' := ?_) (fB 25 255) rfl rfl (any_of HT_.out (by kernel_rfl)) (fun _ _ _ h => h) (Or.inl ⟨by rfl, ?_⟩) ?_ ?_
       rotate_left
       ·intro w'; go_simp; with_reducible rfl
       rotate_left
       ·simp only [Act.put, sA_, sB_, sC_, i64_w, i32_w]; rfl
       refine pure_ (i := 8) (N := some 78) (v := ?_) (a' := ?_) (fB 25 511) rfl rfl (any_of HT_.out (by kernel_rfl)) (fun _ _ _ h => h) (Or.inl ⟨by rfl, ?_⟩) ?_ ?_
       rotate_left
       ·intro w'; go_simp; with_reducible rfl
       rotate_left
       ·simp only [Act.put, sA_, sB_, sC_, i64_w, i32_w]; rfl
       refine pure_ (i := 9) (N := some 79) (v := ?_) (a' := ?_) (fB 25 1023) rfl rfl (any_of HT_.out (by kernel_rfl)) (fun _ _ _ h => h) (Or.inl ⟨by rfl, ?_⟩) ?_ ?_
       rotate_left
       ·intro w'; go_simp; with_reducible rfl
       rotate_left
       ·simp only [Act.put, sA_, sB_, sC_, i64_w, i32_w]; rfl
       refine pure_ (i := 10) (N := some 80) (v := undef) (a' := ?_) (fB 25 2047) rfl rfl (any_of HT_.out (by kernel_rfl)) (fun _ _ _ h => h) (Or.inr ⟨by rfl, rfl⟩) ?_ ?_
       rotate_left
       ·simp only [Act.put, sA_, sB_, sC_, i64_w, i32_w]; rfl
       refine pure_ (i := 11) (N := some 81) (v := undef) (a' := ?_) (fB 25 4095) rfl rfl (any_of HT_.out (by kernel_rfl)) (fun _ _ _ h => h) (Or.inr ⟨by rfl, rfl⟩) ?_ ?_
       rotate_left
       ·simp only [Act.put, sA_, sB_, sC_, i64_w, i32_w]; rfl
       refine pure_ (i := 12) (N := some 82) (v := undef) (a' := ?_) (fB 25 8191) rfl rfl (any_of HT_.out (by kernel_rfl)) (fun _ _ _ h => h) (Or.inr ⟨by rfl, rfl⟩) ?_ ?_
       rotate_left
       ·simp only [Act.put, sA_, sB_, sC_, i64_w, i32_w]; rfl
       refine pure_ (i := 13) (N := some 83) (v := undef) (a' := ?_) (fB 25 16383) rfl rfl (any_of HT_.out (by kernel_rfl)) (fun _ _ _ h => h) (Or.inr ⟨by rfl, rfl⟩) ?_ ?_
       rotate_left
       ·simp only [Act.put, sA_, sB_, sC_, i64_w, i32_w]; rfl
       refine pure_ (i := 14) (N := some 84) (v := ?_) (a' := ?_) (fB 25 32767) rfl rfl (any_of HT_.out (by kernel_rfl)) (fun _ _ _ h => h) (Or.inl ⟨by rfl, ?_⟩) ?_ ?_
       rotate_left
       ·intro w'; go_simp; with_reducible rfl
       rotate_left
       ·simp only [Act.put, sA_, sB_, sC_, i64_w, i32_w]; rfl
       refine pure_ (i := 15) (N := some 85) (v := ?_) (a' := ?_) (fB 25 65535) rfl rfl (any_of HT_.out (by kernel_rfl)) (fun _ _ _ h => h) (Or.inl ⟨by rfl, ?_⟩) ?_ ?_
       rotate_left
       ·intro w'; go_simp; with_reducible rfl
       rotate_left
       ·simp only [Act.put, sA_, sB_, sC_, i64_w, i32_w]; rfl
       refine pure_ (i := 16) (N := some 86) (v := ?_) (a' := ?_) (fB 25 131071) rfl rfl (any_of HT_.out (by kernel_rfl)) (fun _ _ _ h => h) (Or.inl ⟨by rfl, ?_⟩) ?_ ?_
       rotate_left
       ·intro w'; go_simp; with_reducible rfl
       rotate_left
       ·simp only [Act.put, sA_, sB_, sC_, i64_w, i32_w]; rfl
       refine pure_ (i := 19) (N := some 89) (v := ?_) (a' := ?_) (fB 25 655359) rfl rfl (any_of HT_.out (by kernel_rfl)) (fun _ _ _ h => h) (Or.inl ⟨by rfl, ?_⟩) ?_ ?_
       rotate_left
       ·intro w'; go_simp; with_reducible rfl
       rotate_left
       ·simp only [Act.put, sA_, sB_, sC_, i64_w, i32_w]; rfl
       refine take_ (i := 17) (N := some 87) (v := ?_) (a' := ?_) (fB 25 786431) rfl rfl (take_ofW HT_.out HW_.out (by kernel_rfl)) (fun _ _ _ h => h) (Or.inl ⟨by rfl, ?_⟩) hHeld ?_ ?_
       rotate_left
       ·rintro w' ⟨s0, s1, s2, s3⟩; go_simp; with_reducible rfl
       rotate_left
       ·simp only [Act.put, sA_, sB_, sC_, i64_w, i32_w]; rfl
       refine take_ (i := 20) (N := some 90) (v := ?_) (a' := ?_) (fB 25 1835007) rfl rfl (take_ofW HT_.out HW_.out (by kernel_rfl)) (fun _ _ _ h => h) (Or.inl ⟨by rfl, ?_⟩) hHeld ?_ ?_
       rotate_left
       ·rintro w' ⟨s0, s1, s2, s3⟩; go_simp; with_reducible rfl
       rotate_left
       ·simp only [Act.put, sA_, sB_, sC_, i64_w, i32_w]; rfl
       refine pure_ (i := 21) (N := some 91) (v := ?_) (a' := ?_) (fB 25 3932159) rfl rfl (any_of HT_.out (by kernel_rfl)) (fun _ _ _ h => h) (Or.inl ⟨by rfl, ?_⟩) ?_ ?_
       rotate_left
       ·intro w'; go_simp; with_reducible rfl
       rotate_left
       ·simp only [Act.put, sA_, sB_, sC_, i64_w, i32_w]; rfl
       refine one_ (i := 18) (N := some 88) (fB 25 4194303) rfl rfl (one_of HT_.out (by kernel_rfl)) (by decide) (fun K hK => ?_)
       refine goes_ Tryd.func33 (by kernel_rfl) rfl #[.agg #[.string t379, .bool t380, .int .i64 t381, .string t382]] (by rfl) rfl rfl (by (try simp only [List.map_toArray, List.map_cons, List.map_nil]); first | done | rfl | (simp only [List.length_drop, List.length_take]; rfl)) ?_
       with_reducible refine (impl_AttrSize.calls t379 t380 t381 t382 t414 _ A94.out).mono ?_
       rintro e w98 ⟨rfl, hb⟩
       refine ⟨_, rfl, ?_⟩
       have n0_ := Aside0.mk (bB (g := gb383) (o := .cells #[.string t379, .bool t380, .int .i64 t381, .string t382] 28 (0, 0)) (by (with_reducible repeat (first | refine bN ?_ _ | refine bD ?_ | refine bA ?_ _)); exact BK383.out) hb)
       have n1_ := Aside0.mk (bB (g := gb396) (o := .cells #[.string t391, .bool t392, .int .i64 t393, .string t394] 28 (0, 0)) (by (with_reducible repeat (first | refine bN ?_ _ | refine bD ?_ | refine bA ?_ _)); exact BK396.out) hb)
       have n2_ := Aside0.mk (bB (g := gb402) (o := .cells #[.string t397, .bool t398, .int .i64 t399, .string t400] 28 (0, 0)) (by (with_reducible repeat (first | refine bN ?_ _ | refine bD ?_ | refine bA ?_ _)); exact BK402.out) hb)
       have n3_ := Aside0.mk (below_step (by repeat (first | (with_reducible first | exact HB.out | apply below_alloc | apply pw_below_drewN | apply below_drew1 | refine bS ?_ GE383.out | refine bS ?_ GE396.out | refine bS ?_ GE402.out) | exact HB.out)) hb)
       clear BK383 BK396 BK402
       clear HB
       have BK383 := n0_
       have BK396 := n1_
       have BK402 := n2_
       have HB := n3_
       clear n0_ n1_ n2_ n3_
       (try clear hb)
       (try clear hb2)
       (try clear hk)
       (try clear hi)
       refine hK.out _ _ ⟨(bC BK383.out 0).trans rfl, (bC BK383.out 1).trans rfl, (bC BK383.out 2).trans rfl, (bC BK383.out 3).trans rfl⟩ (fun hHeld => ?_)
       clear hK K
       refine norm_ (a' := ?_) ?_ ?_
       rotate_left
       ·show Act.put _ (some 88) _ = _
        simp only [Act.put, sA_, sB_, sC_, i64_w, i32_w]
        rfl
       refine pure_ (i := 22) (N := some 92) (v := ?_) (a' := ?_) (fB 25 8388607) rfl rfl (any_of HT_.out (by kernel_rfl)) (fun _ _ _ h => h) (Or.inl ⟨by rfl, ?_⟩) ?_ ?_
       rotate_left
       ·intro w'; go_simp; with_reducible rfl
       rotate_left
       ·simp only [Act.put, sA_, sB_, sC_, i64_w, i32_w]; rfl
       refine pure_ (i := 23) (N := some 93) (v := ?_) (a' := ?_) (fB 25 16777215) rfl rfl (any_of HT_.out (by kernel_rfl)) (fun _ _ _ h => h) (Or.inl ⟨by rfl, ?_⟩) ?_ ?_
       rotate_left
       ·intro w'; go_simp; with_reducible rfl
       rotate_left
       ·simp only [Act.put, sA_, sB_, sC_, i64_w, i32_w]; rfl
       refine pure_ (i := 24) (N := some 2) (v := ?_) (a' := ?_) (fB 25 33554431) rfl rfl (any_of HT_.out (by kernel_rfl)) (fun _ _ _ h => h) (Or.inl ⟨by rfl, ?_⟩) ?_ ?_
       rotate_left
       ·intro w'; go_simp; with_reducible rfl
       rotate_left
       ·simp only [Act.put, sA_, sB_, sC_, i64_w, i32_w]; rfl
       refine done_ (done_of HT_.out (by kernel_rfl)) ?_
       try go_wp2
       go_ret
       exact ⟨by first | rfl | (simp [errW_none, errW_some] <;> rfl) | (simp [*, errW_none, errW_some] <;> rfl), by repeat (first | (with_reducible first | exact HB.out | apply below_alloc | apply pw_below_drewN | apply below_drew1 | refine bS ?_ GE383.out | refine bS ?_ GE396.out | refine bS ?_ GE402.out) | exact HB.out)⟩
     ·rw [if_neg c86] at H
      have c86b0 : ((t411.toList != ([] : List UInt8)) == t412) = false := by simpa using c86
      (try (have c86b4 : ((!t411.toList.isEmpty) == t412) = false := by have z_ := c86b0; rw [show (t411.toList != ([] : List UInt8)) = !t411.toList.isEmpty from by cases t411.toList <;> rfl] at z_; exact z_))
      (try (have c86b1 : decide ((t411.toList != ([] : List UInt8)) = t412) = false := by simpa using c86))
      (try (have c86b2 : ((t411.toList != ([] : List UInt8)) == t412) = false := by simpa using c86))
      (try (have c86b3 : ¬ ((t411.toList != ([] : List UInt8)) = t412) := by simpa using c86))
      clear c86
      exact absurd ((Option.some.inj H).trans hrt_.out) (by decide)

end Go.Proofs.YtkhbhdchakbmhaaDoor.QFnAttrs
