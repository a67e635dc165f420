/- What the Go functions that the law FnSpans reaches answer: each as a Lean function, with its walk. Written by a program of this session. Conditions: those that each theorem names. -/
import Derived.Test.YtkhbhdchakbmhaaDoorQFnSpansx0
import Derived.Test.YtkhbhdchakbmhaaDoorQFnSpansx4
import Derived.Test.YtkhbhdchakbmhaaDoorQFnSpansx6
import Derived.Test.YtkhbhdchakbmhaaDoorQFnSpansx7
import Derived.Test.YtkhbhdchakbmhaaDoorQFnSpansx9
import Derived.Test.YtkhbhdchakbmhaaDoorQFnSpansx10
import Derived.Test.YtkhbhdchakbmhaaDoorQFnSpansx11
import Derived.Test.YtkhbhdchakbmhaaDoorQFnSpansx12
import Derived.Test.YtkhbhdchakbmhaaDoorQFnSpansx13
namespace Go.Proofs.YtkhbhdchakbmhaaDoor.QFnSpans
open Go.RowKit Go.Proofs.YtkhbhdchakbmhaaDoorW.PrintWords Go.Proofs.YtkhbhdchakbmhaaDoorW.PrintLast Go.Proofs.YtkhbhdchakbmhaaDoorW.PrintMore
attribute [local go_sem] max2_int min2_int max_two min_two max_three min_three max_four min_four   -- for this text's walks alone
set_option linter.unusedVariables false
set_option linter.unusedSimpArgs false

open Go.Proofs.YtkhbhdchakbmhaaDoorW.PrintWords renaming blk_drewN → bN, blk_drew → bD, blk_alloc → bA, blk_cell → bC, blk_below → bB, below_set → bS
/-! ### laws_FnSpans: function 8 -/
def laws_FnSpans.j0 : Nat → List (S38) → Int → Bool → Int → Int → Int → Int → Bool → List (S28) → Option (Bool)
 | 0, _, _, _, _, _, _, _, _, _ => none
 | k + 1, x6, x7, x64, x568000, x568001, x568002, x568003, x568004, x568005 => if x64 = true then (some false) else ((impl_TotalOf.f k x6).bind fun t601 => (if 0 ≤ x7 then (if x7 ≤ (x6.length : Int) then ((impl_TotalOf.f k (x6.take (x7 : Int).toNat)).bind fun t606 => ((impl_TotalOf.f k (x6.drop (x7 : Int).toNat)).bind fun t611 => (if t601 = (wrap64 (t606 + t611)) then ((impl_TotalOf.f k x6).bind fun t612 => ((spec_TotalOf.f k x6).bind fun t613 => (if t612 = t613 then ((impl_SpanText.f k x568000 x568001 x568002 x568003 x568004 x568005).bind fun t614 => ((impl_SpanOk.f k x568000 x568001 x568002 x568003 x568004 x568005).bind fun t615 => (if ((t614.toList != ([] : List UInt8)) == t615) = true then ((impl_SpanOk.f k x568000 x568001 x568002 x568003 x568004 x568005).bind fun t616 => (if t616 = true then ((impl_SizeOf.f k x568000 x568001 x568002 x568003 x568004 x568005).bind fun t617 => (if t617 ≥ 12 then ((impl_SizeOf.f k x568000 x568001 x568002 x568003 x568004 x568005).bind fun t618 => (if t618 ≤ 96 then ((impl_LengthOf.f x568000 x568001 x568002 x568003 x568004 x568005).bind fun t619 => (some (t619 == (wrap64 (x568003 - x568002))))) else (some false))) else (some false))) else (some true))) else (some false)))) else (some false)))) else (some false)))) else (none)) else (none)))
def laws_FnSpans.f (k : Nat) (l0 : List Int) : Option (Bool) := (laws_big.f l0).bind fun t558 => (if t558 = true then (some true) else ((spec_DrawSpanOk.f k l0).bind fun bt559 => ((spec_DrawSameSpan.f k l0).bind fun bt568 => ((spec_DrawTotalOf.f k l0).bind fun t586 => ((laws_at.f l0 2).bind fun t589 => (if (t586.length : Int) = 0 then (none) else ((impl_SpanOk.f k bt559.1 bt559.2.1 bt559.2.2.1 bt559.2.2.2.1 bt559.2.2.2.2.1 bt559.2.2.2.2.2).bind fun t590 => ((spec_SpanOk.f k bt559.1 bt559.2.1 bt559.2.2.1 bt559.2.2.2.1 bt559.2.2.2.2.1 bt559.2.2.2.2.2).bind fun t591 => (if (t590 != t591) = true then (laws_FnSpans.j0 k t586 (Int.tmod t589 (t586.length : Int)) true bt559.1 bt559.2.1 bt559.2.2.1 bt559.2.2.2.1 bt559.2.2.2.2.1 bt559.2.2.2.2.2) else ((impl_SizeOf.f k bt559.1 bt559.2.1 bt559.2.2.1 bt559.2.2.2.1 bt559.2.2.2.2.1 bt559.2.2.2.2.2).bind fun t592 => ((spec_SizeOf.f k bt559.1 bt559.2.1 bt559.2.2.1 bt559.2.2.2.1 bt559.2.2.2.2.1 bt559.2.2.2.2.2).bind fun t593 => (if t592 = t593 then ((impl_LengthOf.f bt559.1 bt559.2.1 bt559.2.2.1 bt559.2.2.2.1 bt559.2.2.2.2.1 bt559.2.2.2.2.2).bind fun t594 => ((spec_LengthOf.f bt559.1 bt559.2.1 bt559.2.2.1 bt559.2.2.2.1 bt559.2.2.2.2.1 bt559.2.2.2.2.2).bind fun t595 => (if t594 = t595 then ((impl_SameSpan.f k bt568.1 bt568.2.1 bt568.2.2.1 bt568.2.2.2.1 bt568.2.2.2.2.1 bt568.2.2.2.2.2.1 bt568.2.2.2.2.2.2.1 bt568.2.2.2.2.2.2.2.1 bt568.2.2.2.2.2.2.2.2.1 bt568.2.2.2.2.2.2.2.2.2.1 bt568.2.2.2.2.2.2.2.2.2.2.1 bt568.2.2.2.2.2.2.2.2.2.2.2).bind fun t596 => ((spec_SameSpan.f k bt568.1 bt568.2.1 bt568.2.2.1 bt568.2.2.2.1 bt568.2.2.2.2.1 bt568.2.2.2.2.2.1 bt568.2.2.2.2.2.2.1 bt568.2.2.2.2.2.2.2.1 bt568.2.2.2.2.2.2.2.2.1 bt568.2.2.2.2.2.2.2.2.2.1 bt568.2.2.2.2.2.2.2.2.2.2.1 bt568.2.2.2.2.2.2.2.2.2.2.2).bind fun t597 => (if (t596 != t597) = true then (laws_FnSpans.j0 k t586 (Int.tmod t589 (t586.length : Int)) true bt559.1 bt559.2.1 bt559.2.2.1 bt559.2.2.2.1 bt559.2.2.2.2.1 bt559.2.2.2.2.2) else ((impl_SameSpan.f k bt559.1 bt559.2.1 bt559.2.2.1 bt559.2.2.2.1 bt559.2.2.2.2.1 bt559.2.2.2.2.2 bt559.1 bt559.2.1 bt559.2.2.1 bt559.2.2.2.1 bt559.2.2.2.2.1 bt559.2.2.2.2.2).bind fun t598 => (if t598 = true then ((impl_SpanText.f k bt559.1 bt559.2.1 bt559.2.2.1 bt559.2.2.2.1 bt559.2.2.2.2.1 bt559.2.2.2.2.2).bind fun t599 => ((spec_SpanText.f k bt559.1 bt559.2.1 bt559.2.2.1 bt559.2.2.2.1 bt559.2.2.2.2.1 bt559.2.2.2.2.2).bind fun t600 => (laws_FnSpans.j0 k t586 (Int.tmod t589 (t586.length : Int)) (t599.toList != t600.toList) bt559.1 bt559.2.1 bt559.2.2.1 bt559.2.2.2.1 bt559.2.2.2.2.1 bt559.2.2.2.2.2))) else (laws_FnSpans.j0 k t586 (Int.tmod t589 (t586.length : Int)) true bt559.1 bt559.2.1 bt559.2.2.1 bt559.2.2.2.1 bt559.2.2.2.2.1 bt559.2.2.2.2.2)))))) else (laws_FnSpans.j0 k t586 (Int.tmod t589 (t586.length : Int)) true bt559.1 bt559.2.1 bt559.2.2.1 bt559.2.2.2.1 bt559.2.2.2.2.1 bt559.2.2.2.2.2)))) else (laws_FnSpans.j0 k t586 (Int.tmod t589 (t586.length : Int)) true bt559.1 bt559.2.1 bt559.2.2.1 bt559.2.2.2.1 bt559.2.2.2.2.1 bt559.2.2.2.2.2)))))))))))))
theorem laws_FnSpans.mono_l : ∀ k, (∀ y0 y1 y2 y3 y4 y5 y6 y7 y8, LeO (laws_FnSpans.j0 k y0 y1 y2 y3 y4 y5 y6 y7 y8) (laws_FnSpans.j0 (k + 1) y0 y1 y2 y3 y4 y5 y6 y7 y8))
 | 0 => fun _ _ _ _ _ _ _ _ _ r h => by simp [laws_FnSpans.j0] at h
 | k + 1 => by
  have ih0 := laws_FnSpans.mono_l k
  ·intro y0 y1 y2 y3 y4 y5 y6 y7 y8
   unfold laws_FnSpans.j0
   repeat' first
   | (with_reducible exact ih0 _ _ _ _ _ _ _ _ _)
   | (with_reducible apply impl_SameSpan.mono)
   | (with_reducible apply impl_SizeOf.mono)
   | (with_reducible apply impl_SpanOk.mono)
   | (with_reducible apply impl_SpanText.mono)
   | (with_reducible apply impl_TotalOf.mono)
   | (with_reducible apply spec_DrawSameSpan.mono)
   | (with_reducible apply spec_DrawSpanOk.mono)
   | (with_reducible apply spec_DrawTotalOf.mono)
   | (with_reducible apply spec_SameSpan.mono)
   | (with_reducible apply spec_SizeOf.mono)
   | (with_reducible apply spec_SpanOk.mono)
   | (with_reducible apply spec_SpanText.mono)
   | (with_reducible apply spec_TotalOf.mono)
   | (with_reducible exact LeO.refl _)
   | (with_reducible exact LeO.none _)
   | (with_reducible refine LeO.ite ?_ ?_)
   | (with_reducible refine LeO.bind ?_ (fun _ => ?_))
   | exact ih0 _ _ _ _ _ _ _ _ _
   | apply impl_SameSpan.mono
   | apply impl_SizeOf.mono
   | apply impl_SpanOk.mono
   | apply impl_SpanText.mono
   | apply impl_TotalOf.mono
   | apply spec_DrawSameSpan.mono
   | apply spec_DrawSpanOk.mono
   | apply spec_DrawTotalOf.mono
   | apply spec_SameSpan.mono
   | apply spec_SizeOf.mono
   | apply spec_SpanOk.mono
   | apply spec_SpanText.mono
   | apply spec_TotalOf.mono
   | exact LeO.none _
   | refine LeO.ite ?_ ?_
   | refine LeO.bind ?_ (fun _ => ?_)
theorem laws_FnSpans.mono : ∀ a0 k, LeO (laws_FnSpans.f k a0) (laws_FnSpans.f (k + 1) a0) := by
 intro a0 k
 have ih0 := laws_FnSpans.mono_l k
 unfold laws_FnSpans.f
 repeat' first
   | (with_reducible exact ih0 _ _ _ _ _ _ _ _ _)
   | (with_reducible apply impl_SameSpan.mono)
   | (with_reducible apply impl_SizeOf.mono)
   | (with_reducible apply impl_SpanOk.mono)
   | (with_reducible apply impl_SpanText.mono)
   | (with_reducible apply impl_TotalOf.mono)
   | (with_reducible apply spec_DrawSameSpan.mono)
   | (with_reducible apply spec_DrawSpanOk.mono)
   | (with_reducible apply spec_DrawTotalOf.mono)
   | (with_reducible apply spec_SameSpan.mono)
   | (with_reducible apply spec_SizeOf.mono)
   | (with_reducible apply spec_SpanOk.mono)
   | (with_reducible apply spec_SpanText.mono)
   | (with_reducible apply spec_TotalOf.mono)
   | (with_reducible exact LeO.refl _)
   | (with_reducible exact LeO.none _)
   | (with_reducible refine LeO.ite ?_ ?_)
   | (with_reducible refine LeO.bind ?_ (fun _ => ?_))
   | exact ih0 _ _ _ _ _ _ _ _ _
   | apply impl_SameSpan.mono
   | apply impl_SizeOf.mono
   | apply impl_SpanOk.mono
   | apply impl_SpanText.mono
   | apply impl_TotalOf.mono
   | apply spec_DrawSameSpan.mono
   | apply spec_DrawSpanOk.mono
   | apply spec_DrawTotalOf.mono
   | apply spec_SameSpan.mono
   | apply spec_SizeOf.mono
   | apply spec_SpanOk.mono
   | apply spec_SpanText.mono
   | apply spec_TotalOf.mono
   | exact LeO.none _
   | refine LeO.ite ?_ ?_
   | refine LeO.bind ?_ (fun _ => ?_)
def laws_FnSpans.T7 : Bool × List (List Nat × List Nat) := (true, [([], []), ([0], [0]), ([], []), ([2, 1], [2]), ([1, 3], [1, 3]), ([4, 3], [4]), ([5], [5]), ([6, 5, 5], [5, 6]), ([5], [5]), ([8, 7, 5], [5, 8]), ([7, 9, 5], [5, 7, 9]), ([5, 10], [5, 10]), ([11, 9], [11]), ([12], [12]), ([13, 12, 12], [12, 13]), ([12], [12]), ([15, 14, 12], [12, 15]), ([14, 16, 12], [12, 14, 16]), ([12, 17], [12, 17]), ([18, 16], [18]), ([19], [19]), ([19], [19]), ([20, 21, 19, 19], [19, 20, 21]), ([19], [19]), ([19], [19]), ([23, 24, 22, 19], [19, 23, 24]), ([22, 25, 19], [19, 22, 25]), ([19, 26], [19, 26]), ([27, 25], [27]), ([28], [28]), ([28], [28]), ([29, 30, 28, 28], [28, 29, 30]), ([31, 28], [28, 31]), ([28, 32], [28, 32]), ([33, 31], [33]), ([34], [34]), ([35, 34, 34], [34, 35]), ([34], [34]), ([37, 36, 34], [34, 37]), ([36, 38, 34], [34, 36, 38]), ([34, 39], [34, 39])])
def laws_FnSpans.B7 : List Nat := [0, 1, 0, 7, 15, 31, 63, 127, 63, 511, 1023, 2047, 4095, 8191, 16383, 8191, 65535, 131071, 262143, 524287, 1048575, 1048575, 4194303, 1048575, 1048575, 33554431, 67108863, 134217727, 268435455, 536870911, 536870911, 2147483647, 4294967295, 8589934591, 17179869183, 34359738367, 68719476735, 34359738367, 274877906943, 549755813887, 1099511627775]
theorem laws_FnSpans.tab7 : rtab .any (opsOf Tryd.f8 7) = laws_FnSpans.T7 := by kernel_rfl
theorem laws_FnSpans.bits7 : waitsOk laws_FnSpans.T7.2 laws_FnSpans.B7 = true := by kernel_rfl
def laws_FnSpans.T9 : Bool × List (List Nat × List Nat) := (true, [([], []), ([0], [0]), ([], []), ([], []), ([2, 3], [2, 3]), ([4, 1], [4]), ([], []), ([], []), ([6, 7], [6, 7]), ([8, 5], [8]), ([5, 9], [5, 9]), ([1, 10], [1, 10]), ([11, 9], [11]), ([12], [12]), ([13, 12, 12], [12, 13]), ([12], [12]), ([15, 14, 12], [12, 15]), ([14, 16, 12], [12, 14, 16]), ([12, 17], [12, 17]), ([18, 16], [18]), ([19], [19]), ([20, 19, 19], [19, 20]), ([21, 19], [19, 21]), ([19], [19]), ([23, 21, 19], [19, 23]), ([22, 24, 19], [19, 22, 24]), ([19, 25], [19, 25]), ([26, 24], [26]), ([27], [27]), ([28, 27, 27], [27, 28]), ([29, 27], [27, 29]), ([30, 29, 27], [27, 30]), ([31], [31]), ([32, 31, 31], [31, 32]), ([33, 31], [31, 33]), ([34, 33, 31], [31, 34]), ([35], [35]), ([36, 35, 35], [35, 36]), ([37, 35], [35, 37]), ([35, 38, 31], [31, 35, 38]), ([39, 37, 31], [31, 39]), ([40], [40]), ([41, 40, 40], [40, 41]), ([40], [40]), ([43, 40], [40, 43]), ([40], [40]), ([45, 40], [40, 45]), ([44, 46, 40], [40, 44, 46]), ([42, 47, 40], [40, 42, 47]), ([40, 48, 31], [31, 40, 48]), ([31, 49, 27], [27, 31, 49]), ([27, 50], [27, 50]), ([51, 42, 0, 1, 2, 3, 4, 5, 6, 7, 8, 9, 10, 11, 12, 13, 14, 15, 16, 17, 18, 19, 20, 21, 22, 23, 24, 25, 26, 27, 28, 29, 30, 31, 32, 33, 34, 35, 36, 37, 38, 39, 40, 41, 42, 43, 44, 45, 46, 47, 48, 49, 50, 51], [51])])
def laws_FnSpans.B9 : List Nat := [0, 1, 0, 0, 12, 31, 0, 0, 192, 511, 1023, 2047, 4095, 8191, 16383, 8191, 65535, 131071, 262143, 524287, 1048575, 2097151, 4194303, 1048575, 12582911, 33554431, 67108863, 134217727, 268435455, 536870911, 1073741823, 2147483647, 4294967295, 8589934591, 17179869183, 34359738367, 68719476735, 137438953471, 274877906943, 549755813887, 1099511627775, 2199023255551, 4398046511103, 2199023255551, 10995116277759, 2199023255551, 37383395344383, 134140418588671, 281474976710655, 562949953421311, 1125899906842623, 2251799813685247, 4503599627370495]
theorem laws_FnSpans.tab9 : rtab .any (opsOf Tryd.f8 9) = laws_FnSpans.T9 := by kernel_rfl
theorem laws_FnSpans.bits9 : waitsOk laws_FnSpans.T9.2 laws_FnSpans.B9 = true := by kernel_rfl
set_option maxHeartbeats 8000000 in
set_option maxRecDepth 100000 in
theorem laws_FnSpans.calls (k : Nat) (A0 : Option Addr) (c0 : Nat) (l0 : List Int) (r : Bool) (w : World) (hr0 : Kd.C (Kd.int .u8) w A0 l0.length l0) (hc0 : l0.length ≤ c0) (hrt_ : Aside0 (r = true)) (htab_ : Lib.TabIs Tryd.prog w "internal/strconv.uint64pow10" .u64 Lib.pow10Tab) (h : laws_FnSpans.f k l0 = some r) :
  Calls Tryd.prog 8 #[.slice A0 l0.length c0] w fun e w' => e = .returned (.bool r) ∧ Below w.heap.size w w' := by
 have HTAB := Aside0.mk htab_
 clear htab_
 have hu38 := Tryd.underlying38
 have HR0 := Aside0.mk hr0
 have HC0 := Aside0.mk hc0
 clear hr0 hc0
 have HB := Aside0.mk (Below.refl w.heap.size w)
 unfold laws_FnSpans.f at h; have H := h
 clear h
 obtain ⟨t558, A2, H⟩ := zO H; try dsimp only at H
 by_cases c3 : t558 = true
 ·subst c3
  rw [if_pos rfl] at H
  obtain rfl := Option.some.inj H
  go_enter Tryd.func8, Tryd.ntmps8
  go_wp2_with (first | ((with_reducible refine gC 23 rfl ?_); refine gL 9 Tryd.func23 #[.slice A0 l0.length c0] ?_; (with_reducible refine (laws_big.calls _ _ l0 true _ ?side1 ?side2 A2.out).mono ?_); (case side1 => exact zC HR0.out); (case side2 => exact HC0.out); rintro e w' ⟨rfl, ⟨nd, rfl⟩⟩; refine ⟨_, rfl, ?_⟩))
  go_ret
  exact ⟨zW, zL HB.out⟩
 ·obtain rfl := Bool.eq_false_iff.mpr c3
  rw [if_neg zn] at H
  obtain ⟨⟨t559, t560, t561, t562, t563, t564⟩, A4, H⟩ := zO H; try dsimp only at H
  obtain ⟨⟨t568, t569, t570, t571, t572, t573, t576, t577, t578, t579, t580, t581⟩, A5, H⟩ := zO H; try dsimp only at H
  obtain ⟨t586, A6, H⟩ := zO H; try dsimp only at H
  obtain ⟨t589, A7, H⟩ := zO H; try dsimp only at H
  by_cases c8 : (t586.length : Int) = 0
  ·rw [if_pos c8] at H
   exact absurd H (by simp)
  ·rw [if_neg c8] at H
   obtain ⟨c8b0, c8b1⟩ := zf c8
   have c8b2 : ¬ (t586 = []) := fun h_ => c8 (by rw [h_]; rfl)
   have HC9 := Aside0.mk H
   clear H
   go_enter Tryd.func8, Tryd.ntmps8
   go_upto_region 7 with (first | ((with_reducible refine gC 23 rfl ?_); refine gL 9 Tryd.func23 #[.slice A0 l0.length c0] ?_; (with_reducible refine (laws_big.calls _ _ l0 false _ ?side1 ?side2 A2.out).mono ?_); (case side1 => exact zC HR0.out); (case side2 => exact HC0.out); rintro e w' ⟨rfl, ⟨nd, rfl⟩⟩; refine ⟨_, rfl, ?_⟩) | ((with_reducible refine gC 35 rfl ?_); refine gL 11 Tryd.func35 #[.slice A0 l0.length c0] ?_; (with_reducible refine (spec_DrawSpanOk.calls k _ _ l0 t559 t560 t561 t562 t563 t564 _ ?side1 ?side2 A4.out).mono ?_); (case side1 => exact zC HR0.out); (case side2 => exact HC0.out); rintro e w10 ⟨v565, rfl, ho0, hb⟩; refine ⟨_, rfl, ?_⟩; have HO566 := Aside0.mk (Kd.R_lower ho0 (below_size (zL HB.out))); replace HB := zLB (zL HB.out) hb; clear ho0 hb) | ((with_reducible refine gD 3 rfl ?_); refine bE 3 #[.int .i64 0, .int .i64 0, .int .i64 0, .int .i64 0, .bool false, .slice none 0 0] 38 ?_; intro gb567 hg w11 hbox hb; replace HO566 := zRB HO566 hb; have BK567 := Aside0.mk hbox; have GW567 := Aside0.mk (zg (zL HB.out) hg : w.heap.size ≤ gb567); have GE567 := GW567; replace HB := zLB (zL HB.out) hb; clear hb hbox hg; have hcz12 := zc6 BK567.out; have hfz12 := zf6 BK567.out; obtain ⟨Ao13, co13, eo13⟩ := Kd.R_slice HO566.out; subst eo13) | ((with_reducible refine gC 36 rfl ?_); refine gL 14 Tryd.func36 #[.slice A0 l0.length c0] ?_; (with_reducible refine (spec_DrawSameSpan.calls k _ _ l0 t568 t569 t570 t571 t572 t573 t576 t577 t578 t579 t580 t581 _ ?side1 ?side2 A5.out).mono ?_); (case side1 => exact Kd.C_below HR0.out (zL1 HB.out GE567.out)); (case side2 => exact HC0.out); rintro e w14 ⟨v574, v582, rfl, ho0, ho1, hb⟩; refine ⟨_, rfl, ?_⟩; have HO575 := Aside0.mk (Kd.R_lower (Kd.R_new' ho0 (Kd.R_lt (by (with_reducible repeat (first | apply Kd.R_alloc | apply Kd.R_drewN | apply Kd.R_drew)); exact (Kd.R_mono (zRF6 (Kd.R_types HO566.out BK567.out (by decide)) gb567 (fun _ hk => hk.2) (.int .i64 t559) (.int .i64 t560) (.int .i64 t561) (.int .i64 t562) (.bool t563) (.slice Ao13 t564.length co13)) (fun _ h_ => h_.1))))) (below_size (zL1 HB.out GE567.out))); have HO583 := Aside0.mk (Kd.R_lower (Kd.R_new' ho1 (Kd.R_lt (by (with_reducible repeat (first | apply Kd.R_alloc | apply Kd.R_drewN | apply Kd.R_drew)); exact (Kd.R_mono (zRF6 (Kd.R_types HO566.out BK567.out (by decide)) gb567 (fun _ hk => hk.2) (.int .i64 t559) (.int .i64 t560) (.int .i64 t561) (.int .i64 t562) (.bool t563) (.slice Ao13 t564.length co13)) (fun _ h_ => h_.1))))) (below_size (zL1 HB.out GE567.out))); replace HO566 := Aside0.mk (Kd.R_mono (Kd.R_told (Kd.R_told (Kd.R_old (by (with_reducible repeat (first | apply Kd.R_alloc | apply Kd.R_drewN | apply Kd.R_drew)); exact (Kd.R_mono (zRF6 (Kd.R_types HO566.out BK567.out (by decide)) gb567 (fun _ hk => hk.2) (.int .i64 t559) (.int .i64 t560) (.int .i64 t561) (.int .i64 t562) (.bool t563) (.slice Ao13 t564.length co13)) (fun _ h_ => h_.1))) hb) (Kd.R_base ho0)) (Kd.R_base ho1)) (fun _ h_ => h_.1)); replace BK567 := Aside0.mk (bB (g := gb567) (o := .cells #[.int .i64 t559, .int .i64 t560, .int .i64 t561, .int .i64 t562, .bool t563, .slice Ao13 t564.length co13] 38 (0, 0)) (by refine zB ?_; refine zp6 (cs := #[.int .i64 0, .int .i64 0, .int .i64 0, .int .i64 0, .bool false, .slice none 0 0]) ?_; exact zB BK567.out) hb); replace HB := zLB (zL1 HB.out GE567.out) hb; clear ho0 hb; (try clear ho1)) | ((with_reducible refine gD 4 rfl ?_); refine bE 4 #[.int .i64 0, .int .i64 0, .int .i64 0, .int .i64 0, .bool false, .slice none 0 0] 38 ?_; intro gb584 hg w15 hbox hb; replace HO566 := zRB HO566 hb; replace HO575 := zRB HO575 hb; replace HO583 := zRB HO583 hb; have BK584 := Aside0.mk hbox; have GW584 := Aside0.mk (zg (zL1 HB.out GE567.out) hg : w.heap.size ≤ gb584); have GE584 := GW584; replace HB := zLB (zL1 HB.out GE567.out) hb; have NB567_584 := Aside0.mk (zN BK567.out hg : gb567 ≠ gb584); have NB584_567 := Aside0.mk (zM BK567.out hg : gb584 ≠ gb567); replace BK567 := zBB BK567 hb; clear hb hbox hg) | ((with_reducible refine gD 5 rfl ?_); refine bE 5 #[.int .i64 0, .int .i64 0, .int .i64 0, .int .i64 0, .bool false, .slice none 0 0] 38 ?_; intro gb585 hg w16 hbox hb; replace HO566 := zRB HO566 hb; replace HO575 := zRB HO575 hb; replace HO583 := zRB HO583 hb; have BK585 := Aside0.mk hbox; have GW585 := Aside0.mk (zg (zL2 HB.out GE567.out GE584.out) hg : w.heap.size ≤ gb585); have GE585 := GW585; replace HB := zLB (zL2 HB.out GE567.out GE584.out) hb; have NB567_585 := Aside0.mk (zN BK567.out hg : gb567 ≠ gb585); have NB585_567 := Aside0.mk (zM BK567.out hg : gb585 ≠ gb567); replace BK567 := zBB BK567 hb; have NB584_585 := Aside0.mk (zN BK584.out hg : gb584 ≠ gb585); have NB585_584 := Aside0.mk (zM BK584.out hg : gb585 ≠ gb584); replace BK584 := zBB BK584 hb; clear hb hbox hg; have hnb17 := NB584_567.out; have hnc17 := NB567_584.out; have hnb18 := NB584_585.out; have hnc18 := NB585_584.out; have hcz19 := zc6 BK584.out; have hfz19 := zf6 BK584.out; obtain ⟨Ao20, co20, eo20⟩ := Kd.R_slice HO575.out; subst eo20; have hnb21 := NB585_567.out; have hnc21 := NB567_585.out; have hcz22 := zc6 BK585.out; have hfz22 := zf6 BK585.out; obtain ⟨Ao23, co23, eo23⟩ := Kd.R_slice HO583.out; subst eo23) | ((with_reducible refine gC 37 rfl ?_); refine gL 18 Tryd.func37 #[.slice A0 l0.length c0] ?_; (with_reducible refine (spec_DrawTotalOf.calls k _ _ l0 t586 _ ?side1 ?side2 A6.out).mono ?_); (case side1 => exact Kd.C_below HR0.out (zL3 HB.out GE567.out GE584.out GE585.out)); (case side2 => exact HC0.out); rintro e w24 ⟨v587, rfl, ho0, hb⟩; refine ⟨_, rfl, ?_⟩; have HO588 := Aside0.mk (Kd.S_lower (Kd.S_newB (Kd.S_newB (Kd.S_newB (Kd.S_new' (Kd.S_new' (Kd.S_new' ho0 (Kd.R_lt (by (with_reducible repeat (first | apply Kd.R_alloc | apply Kd.R_drewN | apply Kd.R_drew)); exact (Kd.R_mono (Kd.R_mono (zRF6 (zRF6 (Kd.R_types (Kd.R_types HO566.out BK584.out (by decide)) BK585.out (by decide)) gb584 (fun _ hk => hk.1.2) (.int .i64 t568) (.int .i64 t569) (.int .i64 t570) (.int .i64 t571) (.bool t572) (.slice Ao20 t573.length co20)) gb585 (fun _ hk => hk.2) (.int .i64 t576) (.int .i64 t577) (.int .i64 t578) (.int .i64 t579) (.bool t580) (.slice Ao23 t581.length co23)) (fun _ h_ => h_.1)) (fun _ h_ => h_.1))))) (Kd.R_lt (by (with_reducible repeat (first | apply Kd.R_alloc | apply Kd.R_drewN | apply Kd.R_drew)); exact (Kd.R_mono (Kd.R_mono (zRF6 (zRF6 (Kd.R_types (Kd.R_types HO575.out BK584.out (by decide)) BK585.out (by decide)) gb584 (fun _ hk => hk.1.2) (.int .i64 t568) (.int .i64 t569) (.int .i64 t570) (.int .i64 t571) (.bool t572) (.slice Ao20 t573.length co20)) gb585 (fun _ hk => hk.2) (.int .i64 t576) (.int .i64 t577) (.int .i64 t578) (.int .i64 t579) (.bool t580) (.slice Ao23 t581.length co23)) (fun _ h_ => h_.1)) (fun _ h_ => h_.1))))) (Kd.R_lt (by (with_reducible repeat (first | apply Kd.R_alloc | apply Kd.R_drewN | apply Kd.R_drew)); exact (Kd.R_mono (Kd.R_mono (zRF6 (zRF6 (Kd.R_types (Kd.R_types HO583.out BK584.out (by decide)) BK585.out (by decide)) gb584 (fun _ hk => hk.1.2) (.int .i64 t568) (.int .i64 t569) (.int .i64 t570) (.int .i64 t571) (.bool t572) (.slice Ao20 t573.length co20)) gb585 (fun _ hk => hk.2) (.int .i64 t576) (.int .i64 t577) (.int .i64 t578) (.int .i64 t579) (.bool t580) (.slice Ao23 t581.length co23)) (fun _ h_ => h_.1)) (fun _ h_ => h_.1))))) (g := gb567) (o := .cells #[.int .i64 t559, .int .i64 t560, .int .i64 t561, .int .i64 t562, .bool t563, .slice Ao13 t564.length co13] 38 (0, 0)) (by refine zB ?_; refine zr6 ?_ NB567_585.out; refine zB ?_; refine zr6 ?_ NB567_584.out; exact zB BK567.out)) (g := gb584) (o := .cells #[.int .i64 t568, .int .i64 t569, .int .i64 t570, .int .i64 t571, .bool t572, .slice Ao20 t573.length co20] 38 (0, 0)) (by refine zB ?_; refine zr6 ?_ NB584_585.out; refine zB ?_; refine zp6 (cs := #[.int .i64 0, .int .i64 0, .int .i64 0, .int .i64 0, .bool false, .slice none 0 0]) ?_; exact zB BK584.out)) (g := gb585) (o := .cells #[.int .i64 t576, .int .i64 t577, .int .i64 t578, .int .i64 t579, .bool t580, .slice Ao23 t581.length co23] 38 (0, 0)) (by refine zB ?_; refine zp6 (cs := #[.int .i64 0, .int .i64 0, .int .i64 0, .int .i64 0, .bool false, .slice none 0 0]) ?_; refine zB ?_; refine zr6 ?_ NB585_584.out; exact zB BK585.out)) (below_size (zL3 HB.out GE567.out GE584.out GE585.out))); replace HO566 := Aside0.mk (Kd.R_below (by (with_reducible repeat (first | apply Kd.R_alloc | apply Kd.R_drewN | apply Kd.R_drew)); exact (Kd.R_mono (Kd.R_mono (zRF6 (zRF6 (Kd.R_types (Kd.R_types HO566.out BK584.out (by decide)) BK585.out (by decide)) gb584 (fun _ hk => hk.1.2) (.int .i64 t568) (.int .i64 t569) (.int .i64 t570) (.int .i64 t571) (.bool t572) (.slice Ao20 t573.length co20)) gb585 (fun _ hk => hk.2) (.int .i64 t576) (.int .i64 t577) (.int .i64 t578) (.int .i64 t579) (.bool t580) (.slice Ao23 t581.length co23)) (fun _ h_ => h_.1)) (fun _ h_ => h_.1))) hb); replace HO575 := Aside0.mk (Kd.R_below (by (with_reducible repeat (first | apply Kd.R_alloc | apply Kd.R_drewN | apply Kd.R_drew)); exact (Kd.R_mono (Kd.R_mono (zRF6 (zRF6 (Kd.R_types (Kd.R_types HO575.out BK584.out (by decide)) BK585.out (by decide)) gb584 (fun _ hk => hk.1.2) (.int .i64 t568) (.int .i64 t569) (.int .i64 t570) (.int .i64 t571) (.bool t572) (.slice Ao20 t573.length co20)) gb585 (fun _ hk => hk.2) (.int .i64 t576) (.int .i64 t577) (.int .i64 t578) (.int .i64 t579) (.bool t580) (.slice Ao23 t581.length co23)) (fun _ h_ => h_.1)) (fun _ h_ => h_.1))) hb); replace HO583 := Aside0.mk (Kd.R_below (by (with_reducible repeat (first | apply Kd.R_alloc | apply Kd.R_drewN | apply Kd.R_drew)); exact (Kd.R_mono (Kd.R_mono (zRF6 (zRF6 (Kd.R_types (Kd.R_types HO583.out BK584.out (by decide)) BK585.out (by decide)) gb584 (fun _ hk => hk.1.2) (.int .i64 t568) (.int .i64 t569) (.int .i64 t570) (.int .i64 t571) (.bool t572) (.slice Ao20 t573.length co20)) gb585 (fun _ hk => hk.2) (.int .i64 t576) (.int .i64 t577) (.int .i64 t578) (.int .i64 t579) (.bool t580) (.slice Ao23 t581.length co23)) (fun _ h_ => h_.1)) (fun _ h_ => h_.1))) hb); replace BK567 := Aside0.mk (bB (g := gb567) (o := .cells #[.int .i64 t559, .int .i64 t560, .int .i64 t561, .int .i64 t562, .bool t563, .slice Ao13 t564.length co13] 38 (0, 0)) (by refine zB ?_; refine zr6 ?_ NB567_585.out; refine zB ?_; refine zr6 ?_ NB567_584.out; exact zB BK567.out) hb); replace BK584 := Aside0.mk (bB (g := gb584) (o := .cells #[.int .i64 t568, .int .i64 t569, .int .i64 t570, .int .i64 t571, .bool t572, .slice Ao20 t573.length co20] 38 (0, 0)) (by refine zB ?_; refine zr6 ?_ NB584_585.out; refine zB ?_; refine zp6 (cs := #[.int .i64 0, .int .i64 0, .int .i64 0, .int .i64 0, .bool false, .slice none 0 0]) ?_; exact zB BK584.out) hb); replace BK585 := Aside0.mk (bB (g := gb585) (o := .cells #[.int .i64 t576, .int .i64 t577, .int .i64 t578, .int .i64 t579, .bool t580, .slice Ao23 t581.length co23] 38 (0, 0)) (by refine zB ?_; refine zp6 (cs := #[.int .i64 0, .int .i64 0, .int .i64 0, .int .i64 0, .bool false, .slice none 0 0]) ?_; refine zB ?_; refine zr6 ?_ NB585_584.out; exact zB BK585.out) hb); replace HB := zLB (zL3 HB.out GE567.out GE584.out GE585.out) hb; clear ho0 hb) | ((with_reducible refine gC 38 rfl ?_); refine gL 20 Tryd.func38 #[.slice A0 l0.length c0, .int .i64 2] ?_; (with_reducible refine (laws_at.calls _ _ l0 2 t589 _ ?side1 ?side2 A7.out).mono ?_); (case side1 => exact zC (Kd.C_below HR0.out HB.out)); (case side2 => exact HC0.out); rintro e w' ⟨rfl, ⟨nd, rfl⟩⟩; refine ⟨_, rfl, ?_⟩; obtain ⟨Ao25, co25, eo25⟩ := Kd.S_slice HO588.out; subst eo25))
   (try simp only [Act.put, List.setIfInBounds_toArray, List.set_cons_zero, List.set_cons_succ])
   go_cut [64] (fun v64 wc => ∃ (kq : Nat) (x64_8 : Bool), v64 = .bool x64_8 ∧ Aside0 (laws_FnSpans.j0 kq t586 (Int.tmod t589 (t586.length : Int)) x64_8 t559 t560 t561 t562 t563 t564 = some r) ∧ Aside0 (kq ≤ k) ∧ Aside0 (Kd.S k38 38 wc w.heap.size (fun k_ => some k_ ≠ ((.slice Ao13 t564.length co13) : Value).ownBlock ∧ some k_ ≠ ((.slice Ao20 t573.length co20) : Value).ownBlock ∧ some k_ ≠ ((.slice Ao23 t581.length co23) : Value).ownBlock ∧ k_ ≠ gb567 ∧ k_ ≠ gb584 ∧ k_ ≠ gb585) (.slice Ao25 t586.length co25) t586) ∧ Aside0 (Kd.R k28 28 wc w.heap.size (fun k_ => some k_ ≠ ((.slice Ao20 t573.length co20) : Value).ownBlock ∧ some k_ ≠ ((.slice Ao23 t581.length co23) : Value).ownBlock) (.slice Ao13 t564.length co13) t564) ∧ Aside0 (Kd.R k28 28 wc w.heap.size (fun k_ => some k_ ≠ ((.slice Ao13 t564.length co13) : Value).ownBlock ∧ some k_ ≠ ((.slice Ao23 t581.length co23) : Value).ownBlock) (.slice Ao20 t573.length co20) t573) ∧ Aside0 (Kd.R k28 28 wc w.heap.size (fun k_ => some k_ ≠ ((.slice Ao13 t564.length co13) : Value).ownBlock ∧ some k_ ≠ ((.slice Ao20 t573.length co20) : Value).ownBlock) (.slice Ao23 t581.length co23) t581) ∧ Aside0 (wc.heap[gb567]? = some (.cells #[.int .i64 t559, .int .i64 t560, .int .i64 t561, .int .i64 t562, .bool t563, (.slice Ao13 t564.length co13)] 38 (0, 0))) ∧ Aside0 (wc.heap[gb584]? = some (.cells #[.int .i64 t568, .int .i64 t569, .int .i64 t570, .int .i64 t571, .bool t572, (.slice Ao20 t573.length co20)] 38 (0, 0))) ∧ Aside0 (wc.heap[gb585]? = some (.cells #[.int .i64 t576, .int .i64 t577, .int .i64 t578, .int .i64 t579, .bool t580, (.slice Ao23 t581.length co23)] 38 (0, 0))) ∧ Aside0 (Below w.heap.size w wc))
   case first =>
    have H := HC9.out
    clear HC9
    obtain ⟨t590, A26, H⟩ := zO H; try dsimp only at H
    obtain ⟨t591, A27, H⟩ := zO H; try dsimp only at H
    by_cases c28 : (t590 != t591) = true
    ·rw [if_pos c28] at H
     have c28b0 := c28
     (try (have c28b1 : decide (t590 = t591) = false := by simpa using c28))
     (try (have c28b2 : (t590 == t591) = false := by simpa using c28))
     (try (have c28b3 : ¬ (t590 = t591) := by simpa using c28))
     clear c28
     (first | rw [c28b0] | (simp only [i64_w, i32_w]; rw [c28b0]) | skip)
     have H' := Aside0.mk H
     clear H
     try go_wp2
     replace HO566 := zRE nd HO566; replace HO575 := zRE nd HO575; replace HO583 := zRE nd HO583; replace HO588 := zSE nd HO588; replace BK567 := zBE nd BK567; replace BK584 := zBE nd BK584; replace BK585 := zBE nd BK585; replace HB := zLE nd HB
     refine start_ (n := 41) (S := fun w' => zs6 w' gb567 (.int .i64 t559) (.int .i64 t560) (.int .i64 t561) (.int .i64 t562) (.bool t563) (.slice Ao13 t564.length co13)) (ds := []) (fB 41 0) (by kernel_rfl) rfl rfl (zc6 BK567.out) (fun hHeld => ?_); refine with_tabW laws_FnSpans.tab7 laws_FnSpans.bits7 (fun HT_ HW_ => ?_)
     generalize (w24.drewN nd).drew = w29 at HO566 HO575 HO583 HO588 BK567 BK584 BK585 HB hHeld ⊢
     refine tY 0 24 (fB 41 1) HT_.out HW_.out hHeld ?_
     refine tY 2 26 (fB 41 5) HT_.out HW_.out hHeld ?_
     refine oN 1 25 (fB 41 7) HT_.out fun K hK => ?_
     refine gS Tryd.func39 #[.agg #[.int .i64 t559, .int .i64 t560, .int .i64 t561, .int .i64 t562, .bool t563, .slice Ao13 t564.length co13]] ?_
     with_reducible refine (impl_SpanOk.calls k t559 t560 t561 t562 t563 _ _ t564 t590 _ ?side1 ?side2 A26.out).mono ?_
     (case side1 => exact zC (Kd.R_reads' HO566.out).2.2)
     (case side2 => exact (Kd.R_reads' HO566.out).2.1)
     rintro e w30 ⟨rfl, hb⟩
     refine ⟨_, rfl, ?_⟩
     replace HO566 := zRB HO566 hb; replace HO575 := zRB HO575 hb; replace HO583 := zRB HO583 hb; replace HO588 := zSB HO588 hb; replace BK567 := zBB BK567 hb; replace BK584 := zBB BK584 hb; replace BK585 := zBB BK585 hb; replace HB := zLB (zL3 HB.out GE567.out GE584.out GE585.out) hb
     clear hb
     refine hK.out _ _ (zc6 BK567.out) fun hHeld => ?_; clear hK K
     refine nZ 25 ?_
     refine oN 3 27 (fB 41 15) HT_.out fun K hK => ?_
     refine gS Tryd.func40 #[.agg #[.int .i64 t559, .int .i64 t560, .int .i64 t561, .int .i64 t562, .bool t563, .slice Ao13 t564.length co13]] ?_
     with_reducible refine (spec_SpanOk.calls k t559 t560 t561 t562 t563 _ _ t564 t591 _ ?side1 ?side2 A27.out).mono ?_
     (case side1 => exact zC (Kd.R_reads' HO566.out).2.2)
     (case side2 => exact (Kd.R_reads' HO566.out).2.1)
     rintro e w31 ⟨rfl, hb⟩
     refine ⟨_, rfl, ?_⟩
     replace HO566 := zRB HO566 hb; replace HO575 := zRB HO575 hb; replace HO583 := zRB HO583 hb; replace HO588 := zSB HO588 hb; replace BK567 := zBB BK567 hb; replace BK584 := zBB BK584 hb; replace BK585 := zBB BK585 hb; replace HB := zLB (zL3 HB.out GE567.out GE584.out GE585.out) hb
     clear hb
     refine hK.out _ _ (zc6 BK567.out) fun hHeld => ?_; clear hK K
     refine nZ 27 ?_
     refine pY 4 28 (fB 41 31) HT_.out ?_
     refine pY 5 29 (fB 41 63) HT_.out ?_
     refine pN 6 30 (fB 41 127) HT_.out ?_
     refine pN 7 31 (fB 41 255) HT_.out ?_
     refine pN 8 32 (fB 41 511) HT_.out ?_
     refine pN 9 33 (fB 41 1023) HT_.out ?_
     refine pN 10 34 (fB 41 2047) HT_.out ?_
     refine pY 11 35 (fB 41 4095) HT_.out ?_
     refine pY 12 36 (fB 41 8191) HT_.out ?_
     refine pN 13 37 (fB 41 16383) HT_.out ?_
     refine pN 14 38 (fB 41 32767) HT_.out ?_
     refine pN 15 39 (fB 41 65535) HT_.out ?_
     refine pN 16 40 (fB 41 131071) HT_.out ?_
     refine pN 17 41 (fB 41 262143) HT_.out ?_
     refine pY 18 42 (fB 41 524287) HT_.out ?_
     refine pY 19 43 (fB 41 1048575) HT_.out ?_
     refine pN 20 44 (fB 41 2097151) HT_.out ?_
     refine pN 21 45 (fB 41 4194303) HT_.out ?_
     refine pN 22 46 (fB 41 8388607) HT_.out ?_
     refine pN 23 47 (fB 41 16777215) HT_.out ?_
     refine pN 24 48 (fB 41 33554431) HT_.out ?_
     refine pN 25 49 (fB 41 67108863) HT_.out ?_
     refine pN 26 50 (fB 41 134217727) HT_.out ?_
     refine pY 27 51 (fB 41 268435455) HT_.out ?_
     refine pY 28 52 (fB 41 536870911) HT_.out ?_
     refine pN 29 53 (fB 41 1073741823) HT_.out ?_
     refine pN 30 54 (fB 41 2147483647) HT_.out ?_
     refine pN 31 55 (fB 41 4294967295) HT_.out ?_
     refine pN 32 56 (fB 41 8589934591) HT_.out ?_
     refine pY 33 57 (fB 41 17179869183) HT_.out ?_
     refine pY 34 58 (fB 41 34359738367) HT_.out ?_
     refine pN 35 59 (fB 41 68719476735) HT_.out ?_
     refine pN 36 60 (fB 41 137438953471) HT_.out ?_
     refine pN 37 61 (fB 41 274877906943) HT_.out ?_
     refine pN 38 62 (fB 41 549755813887) HT_.out ?_
     refine pN 39 63 (fB 41 1099511627775) HT_.out ?_
     refine pY 40 64 (fB 41 2199023255551) HT_.out ?_
     refine done_ (done_of HT_.out (by kernel_rfl)) ?_
     try go_wp2
     go_meet
     case rel => exact ⟨_, (true), zV, H', ⟨by first | omega | exact Nat.le_refl _⟩, ⟨zSm HO588.out (fun _ hk => ⟨hk.1.1.1.1.1.2, ⟨hk.1.1.1.1.2, ⟨hk.1.1.1.2, ⟨hk.1.1.2, ⟨hk.1.2, hk.2⟩⟩⟩⟩⟩)⟩, ⟨zRm HO566.out (fun _ hk => ⟨hk.1.2, hk.2⟩)⟩, ⟨zRm HO575.out (fun _ hk => ⟨hk.2, hk.1⟩)⟩, ⟨zRm HO583.out (fun _ hk => ⟨hk.2, hk.1⟩)⟩, ⟨zB BK567.out⟩, ⟨zB BK584.out⟩, ⟨zB BK585.out⟩, ⟨zL3 HB.out GE567.out GE584.out GE585.out⟩⟩
    ·rw [if_neg c28] at H
     have c28b0 : (t590 != t591) = false := by simpa using c28
     (try (have c28b1 : decide (t590 = t591) = true := by simpa using c28))
     (try (have c28b2 : (t590 == t591) = true := by simpa using c28))
     clear c28
     (first | rw [c28b0] | (simp only [i64_w, i32_w]; rw [c28b0]) | skip)
     obtain ⟨t592, A32, H⟩ := zO H; try dsimp only at H
     obtain ⟨t593, A33, H⟩ := zO H; try dsimp only at H
     by_cases c34 : t592 = t593
     ·rw [if_pos c34] at H
      obtain ⟨c34b0, c34b1⟩ := zt c34
      clear c34
      obtain ⟨t594, A35, H⟩ := zO H; try dsimp only at H
      obtain ⟨t595, A36, H⟩ := zO H; try dsimp only at H
      by_cases c37 : t594 = t595
      ·rw [if_pos c37] at H
       obtain ⟨c37b0, c37b1⟩ := zt c37
       clear c37
       obtain ⟨t596, A38, H⟩ := zO H; try dsimp only at H
       obtain ⟨t597, A39, H⟩ := zO H; try dsimp only at H
       by_cases c40 : (t596 != t597) = true
       ·rw [if_pos c40] at H
        have c40b0 := c40
        (try (have c40b1 : decide (t596 = t597) = false := by simpa using c40))
        (try (have c40b2 : (t596 == t597) = false := by simpa using c40))
        (try (have c40b3 : ¬ (t596 = t597) := by simpa using c40))
        clear c40
        have H' := Aside0.mk H
        clear H
        try go_wp2
        replace HO566 := zRE nd HO566; replace HO575 := zRE nd HO575; replace HO583 := zRE nd HO583; replace HO588 := zSE nd HO588; replace BK567 := zBE nd BK567; replace BK584 := zBE nd BK584; replace BK585 := zBE nd BK585; replace HB := zLE nd HB
        refine start_ (n := 41) (S := fun w' => zt6 w' gb567 (.int .i64 t559) (.int .i64 t560) (.int .i64 t561) (.int .i64 t562) (.bool t563) (.slice Ao13 t564.length co13) (zt6 w' gb584 (.int .i64 t568) (.int .i64 t569) (.int .i64 t570) (.int .i64 t571) (.bool t572) (.slice Ao20 t573.length co20) (zs6 w' gb585 (.int .i64 t576) (.int .i64 t577) (.int .i64 t578) (.int .i64 t579) (.bool t580) (.slice Ao23 t581.length co23)))) (ds := []) (fB 41 0) (by kernel_rfl) rfl rfl (zk6 BK567.out (zk6 BK584.out (zc6 BK585.out))) (fun hHeld => ?_); refine with_tabW laws_FnSpans.tab7 laws_FnSpans.bits7 (fun HT_ HW_ => ?_)
        generalize (w24.drewN nd).drew = w41 at HO566 HO575 HO583 HO588 BK567 BK584 BK585 HB hHeld ⊢
        refine tY 0 24 (fB 41 1) HT_.out HW_.out hHeld ?_
        refine tY 2 26 (fB 41 5) HT_.out HW_.out hHeld ?_
        refine oN 1 25 (fB 41 7) HT_.out fun K hK => ?_
        refine gS Tryd.func39 #[.agg #[.int .i64 t559, .int .i64 t560, .int .i64 t561, .int .i64 t562, .bool t563, .slice Ao13 t564.length co13]] ?_
        with_reducible refine (impl_SpanOk.calls k t559 t560 t561 t562 t563 _ _ t564 t590 _ ?side1 ?side2 A26.out).mono ?_
        (case side1 => exact zC (Kd.R_reads' HO566.out).2.2)
        (case side2 => exact (Kd.R_reads' HO566.out).2.1)
        rintro e w42 ⟨rfl, hb⟩
        refine ⟨_, rfl, ?_⟩
        replace HO566 := zRB HO566 hb; replace HO575 := zRB HO575 hb; replace HO583 := zRB HO583 hb; replace HO588 := zSB HO588 hb; replace BK567 := zBB BK567 hb; replace BK584 := zBB BK584 hb; replace BK585 := zBB BK585 hb; replace HB := zLB (zL3 HB.out GE567.out GE584.out GE585.out) hb
        clear hb
        refine hK.out _ _ (zk6 BK567.out (zk6 BK584.out (zc6 BK585.out))) fun hHeld => ?_; clear hK K
        refine nZ 25 ?_
        refine oN 3 27 (fB 41 15) HT_.out fun K hK => ?_
        refine gS Tryd.func40 #[.agg #[.int .i64 t559, .int .i64 t560, .int .i64 t561, .int .i64 t562, .bool t563, .slice Ao13 t564.length co13]] ?_
        with_reducible refine (spec_SpanOk.calls k t559 t560 t561 t562 t563 _ _ t564 t591 _ ?side1 ?side2 A27.out).mono ?_
        (case side1 => exact zC (Kd.R_reads' HO566.out).2.2)
        (case side2 => exact (Kd.R_reads' HO566.out).2.1)
        rintro e w43 ⟨rfl, hb⟩
        refine ⟨_, rfl, ?_⟩
        replace HO566 := zRB HO566 hb; replace HO575 := zRB HO575 hb; replace HO583 := zRB HO583 hb; replace HO588 := zSB HO588 hb; replace BK567 := zBB BK567 hb; replace BK584 := zBB BK584 hb; replace BK585 := zBB BK585 hb; replace HB := zLB (zL3 HB.out GE567.out GE584.out GE585.out) hb
        clear hb
        refine hK.out _ _ (zk6 BK567.out (zk6 BK584.out (zc6 BK585.out))) fun hHeld => ?_; clear hK K
        refine nZ 27 ?_
        refine pY 4 28 (fB 41 31) HT_.out ?_
        refine pY 5 29 (fB 41 63) HT_.out ?_
        refine tY 6 30 (fB 41 127) HT_.out HW_.out hHeld ?_
        refine tY 8 32 (fB 41 383) HT_.out HW_.out hHeld ?_
        refine oN 7 31 (fB 41 511) HT_.out fun K hK => ?_
        refine gS Tryd.func41 #[.agg #[.int .i64 t559, .int .i64 t560, .int .i64 t561, .int .i64 t562, .bool t563, .slice Ao13 t564.length co13]] ?_
        with_reducible refine (impl_SizeOf.calls k t559 t560 t561 t562 t563 _ _ t564 t592 _ ?side1 ?side2 A32.out).mono ?_
        (case side1 => exact zC (Kd.R_reads' HO566.out).2.2)
        (case side2 => exact (Kd.R_reads' HO566.out).2.1)
        rintro e w44 ⟨rfl, hb⟩
        refine ⟨_, rfl, ?_⟩
        replace HO566 := zRB HO566 hb; replace HO575 := zRB HO575 hb; replace HO583 := zRB HO583 hb; replace HO588 := zSB HO588 hb; replace BK567 := zBB BK567 hb; replace BK584 := zBB BK584 hb; replace BK585 := zBB BK585 hb; replace HB := zLB (zL3 HB.out GE567.out GE584.out GE585.out) hb
        clear hb
        refine hK.out _ _ (zk6 BK567.out (zk6 BK584.out (zc6 BK585.out))) fun hHeld => ?_; clear hK K
        refine nZ 31 ?_
        refine oN 9 33 (fB 41 1023) HT_.out fun K hK => ?_
        refine gS Tryd.func42 #[.agg #[.int .i64 t559, .int .i64 t560, .int .i64 t561, .int .i64 t562, .bool t563, .slice Ao13 t564.length co13]] ?_
        with_reducible refine (spec_SizeOf.calls k t559 t560 t561 t562 t563 _ _ t564 t593 _ ?side1 ?side2 A33.out).mono ?_
        (case side1 => exact zC (Kd.R_reads' HO566.out).2.2)
        (case side2 => exact (Kd.R_reads' HO566.out).2.1)
        rintro e w45 ⟨rfl, hb⟩
        refine ⟨_, rfl, ?_⟩
        replace HO566 := zRB HO566 hb; replace HO575 := zRB HO575 hb; replace HO583 := zRB HO583 hb; replace HO588 := zSB HO588 hb; replace BK567 := zBB BK567 hb; replace BK584 := zBB BK584 hb; replace BK585 := zBB BK585 hb; replace HB := zLB (zL3 HB.out GE567.out GE584.out GE585.out) hb
        clear hb
        refine hK.out _ _ (zk6 BK567.out (zk6 BK584.out (zc6 BK585.out))) fun hHeld => ?_; clear hK K
        refine nZ 33 ?_
        refine pY 10 34 (fB 41 2047) HT_.out ?_
        refine pY 11 35 (fB 41 4095) HT_.out ?_
        refine pY 12 36 (fB 41 8191) HT_.out ?_
        refine tY 13 37 (fB 41 16383) HT_.out HW_.out hHeld ?_
        refine tY 15 39 (fB 41 49151) HT_.out HW_.out hHeld ?_
        refine oN 14 38 (fB 41 65535) HT_.out fun K hK => ?_
        refine gS Tryd.func43 #[.agg #[.int .i64 t559, .int .i64 t560, .int .i64 t561, .int .i64 t562, .bool t563, .slice Ao13 t564.length co13]] ?_
        with_reducible refine (impl_LengthOf.calls t559 t560 t561 t562 t563 _ _ t564 t594 _ ?side1 ?side2 A35.out).mono ?_
        (case side1 => exact zC (Kd.R_reads' HO566.out).2.2)
        (case side2 => exact (Kd.R_reads' HO566.out).2.1)
        rintro e w46 ⟨rfl, hb⟩
        refine ⟨_, rfl, ?_⟩
        replace HO566 := zRB HO566 hb; replace HO575 := zRB HO575 hb; replace HO583 := zRB HO583 hb; replace HO588 := zSB HO588 hb; replace BK567 := zBB BK567 hb; replace BK584 := zBB BK584 hb; replace BK585 := zBB BK585 hb; replace HB := zLB (zL3 HB.out GE567.out GE584.out GE585.out) hb
        clear hb
        refine hK.out _ _ (zk6 BK567.out (zk6 BK584.out (zc6 BK585.out))) fun hHeld => ?_; clear hK K
        refine nZ 38 ?_
        refine oN 16 40 (fB 41 131071) HT_.out fun K hK => ?_
        refine gS Tryd.func44 #[.agg #[.int .i64 t559, .int .i64 t560, .int .i64 t561, .int .i64 t562, .bool t563, .slice Ao13 t564.length co13]] ?_
        with_reducible refine (spec_LengthOf.calls t559 t560 t561 t562 t563 _ _ t564 t595 _ ?side1 ?side2 A36.out).mono ?_
        (case side1 => exact zC (Kd.R_reads' HO566.out).2.2)
        (case side2 => exact (Kd.R_reads' HO566.out).2.1)
        rintro e w47 ⟨rfl, hb⟩
        refine ⟨_, rfl, ?_⟩
        replace HO566 := zRB HO566 hb; replace HO575 := zRB HO575 hb; replace HO583 := zRB HO583 hb; replace HO588 := zSB HO588 hb; replace BK567 := zBB BK567 hb; replace BK584 := zBB BK584 hb; replace BK585 := zBB BK585 hb; replace HB := zLB (zL3 HB.out GE567.out GE584.out GE585.out) hb
        clear hb
        refine hK.out _ _ (zk6 BK567.out (zk6 BK584.out (zc6 BK585.out))) fun hHeld => ?_; clear hK K
        refine nZ 40 ?_
        refine pY 17 41 (fB 41 262143) HT_.out ?_
        refine pY 18 42 (fB 41 524287) HT_.out ?_
        refine pY 19 43 (fB 41 1048575) HT_.out ?_
        refine tY 20 44 (fB 41 2097151) HT_.out HW_.out hHeld ?_
        refine tY 21 45 (fB 41 4194303) HT_.out HW_.out hHeld ?_
        refine tY 23 47 (fB 41 12582911) HT_.out HW_.out hHeld ?_
        refine tY 24 48 (fB 41 29360127) HT_.out HW_.out hHeld ?_
        refine oN 22 46 (fB 41 33554431) HT_.out fun K hK => ?_
        refine gS Tryd.func45 #[.agg #[.int .i64 t568, .int .i64 t569, .int .i64 t570, .int .i64 t571, .bool t572, .slice Ao20 t573.length co20], .agg #[.int .i64 t576, .int .i64 t577, .int .i64 t578, .int .i64 t579, .bool t580, .slice Ao23 t581.length co23]] ?_
        with_reducible refine (impl_SameSpan.calls k t568 t569 t570 t571 t572 _ _ t573 t576 t577 t578 t579 t580 _ _ t581 t596 _ ?side1 ?side2 ?side3 ?side4 A38.out).mono ?_
        (case side1 => exact zC (Kd.R_reads' HO575.out).2.2)
        (case side2 => exact (Kd.R_reads' HO575.out).2.1)
        (case side3 => exact zC (Kd.R_reads' HO583.out).2.2)
        (case side4 => exact (Kd.R_reads' HO583.out).2.1)
        rintro e w48 ⟨rfl, hb⟩
        refine ⟨_, rfl, ?_⟩
        replace HO566 := zRB HO566 hb; replace HO575 := zRB HO575 hb; replace HO583 := zRB HO583 hb; replace HO588 := zSB HO588 hb; replace BK567 := zBB BK567 hb; replace BK584 := zBB BK584 hb; replace BK585 := zBB BK585 hb; replace HB := zLB (zL3 HB.out GE567.out GE584.out GE585.out) hb
        clear hb
        refine hK.out _ _ (zk6 BK567.out (zk6 BK584.out (zc6 BK585.out))) fun hHeld => ?_; clear hK K
        refine nZ 46 ?_
        refine oN 25 49 (fB 41 67108863) HT_.out fun K hK => ?_
        refine gS Tryd.func46 #[.agg #[.int .i64 t568, .int .i64 t569, .int .i64 t570, .int .i64 t571, .bool t572, .slice Ao20 t573.length co20], .agg #[.int .i64 t576, .int .i64 t577, .int .i64 t578, .int .i64 t579, .bool t580, .slice Ao23 t581.length co23]] ?_
        with_reducible refine (spec_SameSpan.calls k t568 t569 t570 t571 t572 _ _ t573 t576 t577 t578 t579 t580 _ _ t581 t597 _ ?side1 ?side2 ?side3 ?side4 A39.out).mono ?_
        (case side1 => exact zC (Kd.R_reads' HO575.out).2.2)
        (case side2 => exact (Kd.R_reads' HO575.out).2.1)
        (case side3 => exact zC (Kd.R_reads' HO583.out).2.2)
        (case side4 => exact (Kd.R_reads' HO583.out).2.1)
        rintro e w49 ⟨rfl, hb⟩
        refine ⟨_, rfl, ?_⟩
        replace HO566 := zRB HO566 hb; replace HO575 := zRB HO575 hb; replace HO583 := zRB HO583 hb; replace HO588 := zSB HO588 hb; replace BK567 := zBB BK567 hb; replace BK584 := zBB BK584 hb; replace BK585 := zBB BK585 hb; replace HB := zLB (zL3 HB.out GE567.out GE584.out GE585.out) hb
        clear hb
        refine hK.out _ _ (zk6 BK567.out (zk6 BK584.out (zc6 BK585.out))) fun hHeld => ?_; clear hK K
        refine nZ 49 ?_
        refine pY 26 50 (fB 41 134217727) HT_.out ?_
        refine pY 27 51 (fB 41 268435455) HT_.out ?_
        refine pY 28 52 (fB 41 536870911) HT_.out ?_
        refine pN 29 53 (fB 41 1073741823) HT_.out ?_
        refine pN 30 54 (fB 41 2147483647) HT_.out ?_
        refine pN 31 55 (fB 41 4294967295) HT_.out ?_
        refine pN 32 56 (fB 41 8589934591) HT_.out ?_
        refine pY 33 57 (fB 41 17179869183) HT_.out ?_
        refine pY 34 58 (fB 41 34359738367) HT_.out ?_
        refine pN 35 59 (fB 41 68719476735) HT_.out ?_
        refine pN 36 60 (fB 41 137438953471) HT_.out ?_
        refine pN 37 61 (fB 41 274877906943) HT_.out ?_
        refine pN 38 62 (fB 41 549755813887) HT_.out ?_
        refine pN 39 63 (fB 41 1099511627775) HT_.out ?_
        refine pY 40 64 (fB 41 2199023255551) HT_.out ?_
        refine done_ (done_of HT_.out (by kernel_rfl)) ?_
        try go_wp2
        go_meet
        case rel => exact ⟨_, (true), zV, H', ⟨by first | omega | exact Nat.le_refl _⟩, ⟨zSm HO588.out (fun _ hk => ⟨hk.1.1.1.1.1.2, ⟨hk.1.1.1.1.2, ⟨hk.1.1.1.2, ⟨hk.1.1.2, ⟨hk.1.2, hk.2⟩⟩⟩⟩⟩)⟩, ⟨zRm HO566.out (fun _ hk => ⟨hk.1.2, hk.2⟩)⟩, ⟨zRm HO575.out (fun _ hk => ⟨hk.2, hk.1⟩)⟩, ⟨zRm HO583.out (fun _ hk => ⟨hk.2, hk.1⟩)⟩, ⟨zB BK567.out⟩, ⟨zB BK584.out⟩, ⟨zB BK585.out⟩, ⟨zL3 HB.out GE567.out GE584.out GE585.out⟩⟩
       ·rw [if_neg c40] at H
        have c40b0 : (t596 != t597) = false := by simpa using c40
        (try (have c40b1 : decide (t596 = t597) = true := by simpa using c40))
        (try (have c40b2 : (t596 == t597) = true := by simpa using c40))
        clear c40
        obtain ⟨t598, A50, H⟩ := zO H; try dsimp only at H
        by_cases c51 : t598 = true
        ·subst c51
         rw [if_pos rfl] at H
         obtain ⟨t599, A52, H⟩ := zO H; try dsimp only at H
         obtain ⟨t600, A53, H⟩ := zO H; try dsimp only at H
         have H' := Aside0.mk H
         clear H
         try go_wp2
         replace HO566 := zRE nd HO566; replace HO575 := zRE nd HO575; replace HO583 := zRE nd HO583; replace HO588 := zSE nd HO588; replace BK567 := zBE nd BK567; replace BK584 := zBE nd BK584; replace BK585 := zBE nd BK585; replace HB := zLE nd HB
         refine start_ (n := 41) (S := fun w' => zt6 w' gb567 (.int .i64 t559) (.int .i64 t560) (.int .i64 t561) (.int .i64 t562) (.bool t563) (.slice Ao13 t564.length co13) (zt6 w' gb584 (.int .i64 t568) (.int .i64 t569) (.int .i64 t570) (.int .i64 t571) (.bool t572) (.slice Ao20 t573.length co20) (zs6 w' gb585 (.int .i64 t576) (.int .i64 t577) (.int .i64 t578) (.int .i64 t579) (.bool t580) (.slice Ao23 t581.length co23)))) (ds := []) (fB 41 0) (by kernel_rfl) rfl rfl (zk6 BK567.out (zk6 BK584.out (zc6 BK585.out))) (fun hHeld => ?_); refine with_tabW laws_FnSpans.tab7 laws_FnSpans.bits7 (fun HT_ HW_ => ?_)
         generalize (w24.drewN nd).drew = w54 at HO566 HO575 HO583 HO588 BK567 BK584 BK585 HB hHeld ⊢
         refine tY 0 24 (fB 41 1) HT_.out HW_.out hHeld ?_
         refine tY 2 26 (fB 41 5) HT_.out HW_.out hHeld ?_
         refine oN 1 25 (fB 41 7) HT_.out fun K hK => ?_
         refine gS Tryd.func39 #[.agg #[.int .i64 t559, .int .i64 t560, .int .i64 t561, .int .i64 t562, .bool t563, .slice Ao13 t564.length co13]] ?_
         with_reducible refine (impl_SpanOk.calls k t559 t560 t561 t562 t563 _ _ t564 t590 _ ?side1 ?side2 A26.out).mono ?_
         (case side1 => exact zC (Kd.R_reads' HO566.out).2.2)
         (case side2 => exact (Kd.R_reads' HO566.out).2.1)
         rintro e w55 ⟨rfl, hb⟩
         refine ⟨_, rfl, ?_⟩
         replace HO566 := zRB HO566 hb; replace HO575 := zRB HO575 hb; replace HO583 := zRB HO583 hb; replace HO588 := zSB HO588 hb; replace BK567 := zBB BK567 hb; replace BK584 := zBB BK584 hb; replace BK585 := zBB BK585 hb; replace HB := zLB (zL3 HB.out GE567.out GE584.out GE585.out) hb
         clear hb
         refine hK.out _ _ (zk6 BK567.out (zk6 BK584.out (zc6 BK585.out))) fun hHeld => ?_; clear hK K
         refine nZ 25 ?_
         refine oN 3 27 (fB 41 15) HT_.out fun K hK => ?_
         refine gS Tryd.func40 #[.agg #[.int .i64 t559, .int .i64 t560, .int .i64 t561, .int .i64 t562, .bool t563, .slice Ao13 t564.length co13]] ?_
         with_reducible refine (spec_SpanOk.calls k t559 t560 t561 t562 t563 _ _ t564 t591 _ ?side1 ?side2 A27.out).mono ?_
         (case side1 => exact zC (Kd.R_reads' HO566.out).2.2)
         (case side2 => exact (Kd.R_reads' HO566.out).2.1)
         rintro e w56 ⟨rfl, hb⟩
         refine ⟨_, rfl, ?_⟩
         replace HO566 := zRB HO566 hb; replace HO575 := zRB HO575 hb; replace HO583 := zRB HO583 hb; replace HO588 := zSB HO588 hb; replace BK567 := zBB BK567 hb; replace BK584 := zBB BK584 hb; replace BK585 := zBB BK585 hb; replace HB := zLB (zL3 HB.out GE567.out GE584.out GE585.out) hb
         clear hb
         refine hK.out _ _ (zk6 BK567.out (zk6 BK584.out (zc6 BK585.out))) fun hHeld => ?_; clear hK K
         refine nZ 27 ?_
         refine pY 4 28 (fB 41 31) HT_.out ?_
         refine pY 5 29 (fB 41 63) HT_.out ?_
         refine tY 6 30 (fB 41 127) HT_.out HW_.out hHeld ?_
         refine tY 8 32 (fB 41 383) HT_.out HW_.out hHeld ?_
         refine oN 7 31 (fB 41 511) HT_.out fun K hK => ?_
         refine gS Tryd.func41 #[.agg #[.int .i64 t559, .int .i64 t560, .int .i64 t561, .int .i64 t562, .bool t563, .slice Ao13 t564.length co13]] ?_
         with_reducible refine (impl_SizeOf.calls k t559 t560 t561 t562 t563 _ _ t564 t592 _ ?side1 ?side2 A32.out).mono ?_
         (case side1 => exact zC (Kd.R_reads' HO566.out).2.2)
         (case side2 => exact (Kd.R_reads' HO566.out).2.1)
         rintro e w57 ⟨rfl, hb⟩
         refine ⟨_, rfl, ?_⟩
         replace HO566 := zRB HO566 hb; replace HO575 := zRB HO575 hb; replace HO583 := zRB HO583 hb; replace HO588 := zSB HO588 hb; replace BK567 := zBB BK567 hb; replace BK584 := zBB BK584 hb; replace BK585 := zBB BK585 hb; replace HB := zLB (zL3 HB.out GE567.out GE584.out GE585.out) hb
         clear hb
         refine hK.out _ _ (zk6 BK567.out (zk6 BK584.out (zc6 BK585.out))) fun hHeld => ?_; clear hK K
         refine nZ 31 ?_
         refine oN 9 33 (fB 41 1023) HT_.out fun K hK => ?_
         refine gS Tryd.func42 #[.agg #[.int .i64 t559, .int .i64 t560, .int .i64 t561, .int .i64 t562, .bool t563, .slice Ao13 t564.length co13]] ?_
         with_reducible refine (spec_SizeOf.calls k t559 t560 t561 t562 t563 _ _ t564 t593 _ ?side1 ?side2 A33.out).mono ?_
         (case side1 => exact zC (Kd.R_reads' HO566.out).2.2)
         (case side2 => exact (Kd.R_reads' HO566.out).2.1)
         rintro e w58 ⟨rfl, hb⟩
         refine ⟨_, rfl, ?_⟩
         replace HO566 := zRB HO566 hb; replace HO575 := zRB HO575 hb; replace HO583 := zRB HO583 hb; replace HO588 := zSB HO588 hb; replace BK567 := zBB BK567 hb; replace BK584 := zBB BK584 hb; replace BK585 := zBB BK585 hb; replace HB := zLB (zL3 HB.out GE567.out GE584.out GE585.out) hb
         clear hb
         refine hK.out _ _ (zk6 BK567.out (zk6 BK584.out (zc6 BK585.out))) fun hHeld => ?_; clear hK K
         refine nZ 33 ?_
         refine pY 10 34 (fB 41 2047) HT_.out ?_
         refine pY 11 35 (fB 41 4095) HT_.out ?_
         refine pY 12 36 (fB 41 8191) HT_.out ?_
         refine tY 13 37 (fB 41 16383) HT_.out HW_.out hHeld ?_
         refine tY 15 39 (fB 41 49151) HT_.out HW_.out hHeld ?_
         refine oN 14 38 (fB 41 65535) HT_.out fun K hK => ?_
         refine gS Tryd.func43 #[.agg #[.int .i64 t559, .int .i64 t560, .int .i64 t561, .int .i64 t562, .bool t563, .slice Ao13 t564.length co13]] ?_
         with_reducible refine (impl_LengthOf.calls t559 t560 t561 t562 t563 _ _ t564 t594 _ ?side1 ?side2 A35.out).mono ?_
         (case side1 => exact zC (Kd.R_reads' HO566.out).2.2)
         (case side2 => exact (Kd.R_reads' HO566.out).2.1)
         rintro e w59 ⟨rfl, hb⟩
         refine ⟨_, rfl, ?_⟩
         replace HO566 := zRB HO566 hb; replace HO575 := zRB HO575 hb; replace HO583 := zRB HO583 hb; replace HO588 := zSB HO588 hb; replace BK567 := zBB BK567 hb; replace BK584 := zBB BK584 hb; replace BK585 := zBB BK585 hb; replace HB := zLB (zL3 HB.out GE567.out GE584.out GE585.out) hb
         clear hb
         refine hK.out _ _ (zk6 BK567.out (zk6 BK584.out (zc6 BK585.out))) fun hHeld => ?_; clear hK K
         refine nZ 38 ?_
         refine oN 16 40 (fB 41 131071) HT_.out fun K hK => ?_
         refine gS Tryd.func44 #[.agg #[.int .i64 t559, .int .i64 t560, .int .i64 t561, .int .i64 t562, .bool t563, .slice Ao13 t564.length co13]] ?_
         with_reducible refine (spec_LengthOf.calls t559 t560 t561 t562 t563 _ _ t564 t595 _ ?side1 ?side2 A36.out).mono ?_
         (case side1 => exact zC (Kd.R_reads' HO566.out).2.2)
         (case side2 => exact (Kd.R_reads' HO566.out).2.1)
         rintro e w60 ⟨rfl, hb⟩
         refine ⟨_, rfl, ?_⟩
         replace HO566 := zRB HO566 hb; replace HO575 := zRB HO575 hb; replace HO583 := zRB HO583 hb; replace HO588 := zSB HO588 hb; replace BK567 := zBB BK567 hb; replace BK584 := zBB BK584 hb; replace BK585 := zBB BK585 hb; replace HB := zLB (zL3 HB.out GE567.out GE584.out GE585.out) hb
         clear hb
         refine hK.out _ _ (zk6 BK567.out (zk6 BK584.out (zc6 BK585.out))) fun hHeld => ?_; clear hK K
         refine nZ 40 ?_
         refine pY 17 41 (fB 41 262143) HT_.out ?_
         refine pY 18 42 (fB 41 524287) HT_.out ?_
         refine pY 19 43 (fB 41 1048575) HT_.out ?_
         refine tY 20 44 (fB 41 2097151) HT_.out HW_.out hHeld ?_
         refine tY 21 45 (fB 41 4194303) HT_.out HW_.out hHeld ?_
         refine tY 23 47 (fB 41 12582911) HT_.out HW_.out hHeld ?_
         refine tY 24 48 (fB 41 29360127) HT_.out HW_.out hHeld ?_
         refine oN 22 46 (fB 41 33554431) HT_.out fun K hK => ?_
         refine gS Tryd.func45 #[.agg #[.int .i64 t568, .int .i64 t569, .int .i64 t570, .int .i64 t571, .bool t572, .slice Ao20 t573.length co20], .agg #[.int .i64 t576, .int .i64 t577, .int .i64 t578, .int .i64 t579, .bool t580, .slice Ao23 t581.length co23]] ?_
         with_reducible refine (impl_SameSpan.calls k t568 t569 t570 t571 t572 _ _ t573 t576 t577 t578 t579 t580 _ _ t581 t596 _ ?side1 ?side2 ?side3 ?side4 A38.out).mono ?_
         (case side1 => exact zC (Kd.R_reads' HO575.out).2.2)
         (case side2 => exact (Kd.R_reads' HO575.out).2.1)
         (case side3 => exact zC (Kd.R_reads' HO583.out).2.2)
         (case side4 => exact (Kd.R_reads' HO583.out).2.1)
         rintro e w61 ⟨rfl, hb⟩
         refine ⟨_, rfl, ?_⟩
         replace HO566 := zRB HO566 hb; replace HO575 := zRB HO575 hb; replace HO583 := zRB HO583 hb; replace HO588 := zSB HO588 hb; replace BK567 := zBB BK567 hb; replace BK584 := zBB BK584 hb; replace BK585 := zBB BK585 hb; replace HB := zLB (zL3 HB.out GE567.out GE584.out GE585.out) hb
         clear hb
         refine hK.out _ _ (zk6 BK567.out (zk6 BK584.out (zc6 BK585.out))) fun hHeld => ?_; clear hK K
         refine nZ 46 ?_
         refine oN 25 49 (fB 41 67108863) HT_.out fun K hK => ?_
         refine gS Tryd.func46 #[.agg #[.int .i64 t568, .int .i64 t569, .int .i64 t570, .int .i64 t571, .bool t572, .slice Ao20 t573.length co20], .agg #[.int .i64 t576, .int .i64 t577, .int .i64 t578, .int .i64 t579, .bool t580, .slice Ao23 t581.length co23]] ?_
         with_reducible refine (spec_SameSpan.calls k t568 t569 t570 t571 t572 _ _ t573 t576 t577 t578 t579 t580 _ _ t581 t597 _ ?side1 ?side2 ?side3 ?side4 A39.out).mono ?_
         (case side1 => exact zC (Kd.R_reads' HO575.out).2.2)
         (case side2 => exact (Kd.R_reads' HO575.out).2.1)
         (case side3 => exact zC (Kd.R_reads' HO583.out).2.2)
         (case side4 => exact (Kd.R_reads' HO583.out).2.1)
         rintro e w62 ⟨rfl, hb⟩
         refine ⟨_, rfl, ?_⟩
         replace HO566 := zRB HO566 hb; replace HO575 := zRB HO575 hb; replace HO583 := zRB HO583 hb; replace HO588 := zSB HO588 hb; replace BK567 := zBB BK567 hb; replace BK584 := zBB BK584 hb; replace BK585 := zBB BK585 hb; replace HB := zLB (zL3 HB.out GE567.out GE584.out GE585.out) hb
         clear hb
         refine hK.out _ _ (zk6 BK567.out (zk6 BK584.out (zc6 BK585.out))) fun hHeld => ?_; clear hK K
         refine nZ 49 ?_
         refine pY 26 50 (fB 41 134217727) HT_.out ?_
         refine pY 27 51 (fB 41 268435455) HT_.out ?_
         refine pY 28 52 (fB 41 536870911) HT_.out ?_
         refine tY 29 53 (fB 41 1073741823) HT_.out HW_.out hHeld ?_
         refine tY 30 54 (fB 41 2147483647) HT_.out HW_.out hHeld ?_
         refine oN 31 55 (fB 41 4294967295) HT_.out fun K hK => ?_
         refine gS Tryd.func45 #[.agg #[.int .i64 t559, .int .i64 t560, .int .i64 t561, .int .i64 t562, .bool t563, .slice Ao13 t564.length co13], .agg #[.int .i64 t559, .int .i64 t560, .int .i64 t561, .int .i64 t562, .bool t563, .slice Ao13 t564.length co13]] ?_
         with_reducible refine (impl_SameSpan.calls k t559 t560 t561 t562 t563 _ _ t564 t559 t560 t561 t562 t563 _ _ t564 true _ ?side1 ?side2 ?side3 ?side4 A50.out).mono ?_
         (case side1 => exact zC (Kd.R_reads' HO566.out).2.2)
         (case side2 => exact (Kd.R_reads' HO566.out).2.1)
         (case side3 => exact zC (Kd.R_reads' HO566.out).2.2)
         (case side4 => exact (Kd.R_reads' HO566.out).2.1)
         rintro e w63 ⟨rfl, hb⟩
         refine ⟨_, rfl, ?_⟩
         replace HO566 := zRB HO566 hb; replace HO575 := zRB HO575 hb; replace HO583 := zRB HO583 hb; replace HO588 := zSB HO588 hb; replace BK567 := zBB BK567 hb; replace BK584 := zBB BK584 hb; replace BK585 := zBB BK585 hb; replace HB := zLB (zL3 HB.out GE567.out GE584.out GE585.out) hb
         clear hb
         refine hK.out _ _ (zk6 BK567.out (zk6 BK584.out (zc6 BK585.out))) fun hHeld => ?_; clear hK K
         refine nZ 55 ?_
         refine pY 32 56 (fB 41 8589934591) HT_.out ?_
         refine pY 33 57 (fB 41 17179869183) HT_.out ?_
         refine pY 34 58 (fB 41 34359738367) HT_.out ?_
         refine tY 35 59 (fB 41 68719476735) HT_.out HW_.out hHeld ?_
         refine tY 37 61 (fB 41 206158430207) HT_.out HW_.out hHeld ?_
         refine oN 36 60 (fB 41 274877906943) HT_.out fun K hK => ?_
         refine gS Tryd.func19 #[.agg #[.int .i64 t559, .int .i64 t560, .int .i64 t561, .int .i64 t562, .bool t563, .slice Ao13 t564.length co13]] ?_
         with_reducible refine (impl_SpanText.calls k t559 t560 t561 t562 t563 _ _ t564 t599 _ ?side1 ?side2 (tab_at HTAB.out (zL3 HB.out GE567.out GE584.out GE585.out)) A52.out).mono ?_
         (case side1 => exact zC (Kd.R_reads' HO566.out).2.2)
         (case side2 => exact (Kd.R_reads' HO566.out).2.1)
         rintro e w64 ⟨rfl, hb⟩
         refine ⟨_, rfl, ?_⟩
         replace HO566 := zRB HO566 hb; replace HO575 := zRB HO575 hb; replace HO583 := zRB HO583 hb; replace HO588 := zSB HO588 hb; replace BK567 := zBB BK567 hb; replace BK584 := zBB BK584 hb; replace BK585 := zBB BK585 hb; replace HB := zLB (zL3 HB.out GE567.out GE584.out GE585.out) hb
         clear hb
         refine hK.out _ _ (zk6 BK567.out (zk6 BK584.out (zc6 BK585.out))) fun hHeld => ?_; clear hK K
         refine nZ 60 ?_
         refine oN 38 62 (fB 41 549755813887) HT_.out fun K hK => ?_
         refine gS Tryd.func17 #[.agg #[.int .i64 t559, .int .i64 t560, .int .i64 t561, .int .i64 t562, .bool t563, .slice Ao13 t564.length co13]] ?_
         with_reducible refine (spec_SpanText.calls k t559 t560 t561 t562 t563 _ _ t564 t600 _ ?side1 ?side2 A53.out).mono ?_
         (case side1 => exact zC (Kd.R_reads' HO566.out).2.2)
         (case side2 => exact (Kd.R_reads' HO566.out).2.1)
         rintro e w65 ⟨rfl, hb⟩
         refine ⟨_, rfl, ?_⟩
         replace HO566 := zRB HO566 hb; replace HO575 := zRB HO575 hb; replace HO583 := zRB HO583 hb; replace HO588 := zSB HO588 hb; replace BK567 := zBB BK567 hb; replace BK584 := zBB BK584 hb; replace BK585 := zBB BK585 hb; replace HB := zLB (zL3 HB.out GE567.out GE584.out GE585.out) hb
         clear hb
         refine hK.out _ _ (zk6 BK567.out (zk6 BK584.out (zc6 BK585.out))) fun hHeld => ?_; clear hK K
         refine nZ 62 ?_
         refine pY 39 63 (fB 41 1099511627775) HT_.out ?_
         refine pY 40 64 (fB 41 2199023255551) HT_.out ?_
         refine done_ (done_of HT_.out (by kernel_rfl)) ?_
         try go_wp2
         go_meet
         case rel => exact ⟨_, ((t599.toList != t600.toList)), zV, H', ⟨by first | omega | exact Nat.le_refl _⟩, ⟨zSm HO588.out (fun _ hk => ⟨hk.1.1.1.1.1.2, ⟨hk.1.1.1.1.2, ⟨hk.1.1.1.2, ⟨hk.1.1.2, ⟨hk.1.2, hk.2⟩⟩⟩⟩⟩)⟩, ⟨zRm HO566.out (fun _ hk => ⟨hk.1.2, hk.2⟩)⟩, ⟨zRm HO575.out (fun _ hk => ⟨hk.2, hk.1⟩)⟩, ⟨zRm HO583.out (fun _ hk => ⟨hk.2, hk.1⟩)⟩, ⟨zB BK567.out⟩, ⟨zB BK584.out⟩, ⟨zB BK585.out⟩, ⟨zL3 HB.out GE567.out GE584.out GE585.out⟩⟩
        ·obtain rfl := Bool.eq_false_iff.mpr c51
         rw [if_neg zn] at H
         have H' := Aside0.mk H
         clear H
         try go_wp2
         replace HO566 := zRE nd HO566; replace HO575 := zRE nd HO575; replace HO583 := zRE nd HO583; replace HO588 := zSE nd HO588; replace BK567 := zBE nd BK567; replace BK584 := zBE nd BK584; replace BK585 := zBE nd BK585; replace HB := zLE nd HB
         refine start_ (n := 41) (S := fun w' => zt6 w' gb567 (.int .i64 t559) (.int .i64 t560) (.int .i64 t561) (.int .i64 t562) (.bool t563) (.slice Ao13 t564.length co13) (zt6 w' gb584 (.int .i64 t568) (.int .i64 t569) (.int .i64 t570) (.int .i64 t571) (.bool t572) (.slice Ao20 t573.length co20) (zs6 w' gb585 (.int .i64 t576) (.int .i64 t577) (.int .i64 t578) (.int .i64 t579) (.bool t580) (.slice Ao23 t581.length co23)))) (ds := []) (fB 41 0) (by kernel_rfl) rfl rfl (zk6 BK567.out (zk6 BK584.out (zc6 BK585.out))) (fun hHeld => ?_); refine with_tabW laws_FnSpans.tab7 laws_FnSpans.bits7 (fun HT_ HW_ => ?_)
         generalize (w24.drewN nd).drew = w66 at HO566 HO575 HO583 HO588 BK567 BK584 BK585 HB hHeld ⊢
         refine tY 0 24 (fB 41 1) HT_.out HW_.out hHeld ?_
         refine tY 2 26 (fB 41 5) HT_.out HW_.out hHeld ?_
         refine oN 1 25 (fB 41 7) HT_.out fun K hK => ?_
         refine gS Tryd.func39 #[.agg #[.int .i64 t559, .int .i64 t560, .int .i64 t561, .int .i64 t562, .bool t563, .slice Ao13 t564.length co13]] ?_
         with_reducible refine (impl_SpanOk.calls k t559 t560 t561 t562 t563 _ _ t564 t590 _ ?side1 ?side2 A26.out).mono ?_
         (case side1 => exact zC (Kd.R_reads' HO566.out).2.2)
         (case side2 => exact (Kd.R_reads' HO566.out).2.1)
         rintro e w67 ⟨rfl, hb⟩
         refine ⟨_, rfl, ?_⟩
         replace HO566 := zRB HO566 hb; replace HO575 := zRB HO575 hb; replace HO583 := zRB HO583 hb; replace HO588 := zSB HO588 hb; replace BK567 := zBB BK567 hb; replace BK584 := zBB BK584 hb; replace BK585 := zBB BK585 hb; replace HB := zLB (zL3 HB.out GE567.out GE584.out GE585.out) hb
         clear hb
         refine hK.out _ _ (zk6 BK567.out (zk6 BK584.out (zc6 BK585.out))) fun hHeld => ?_; clear hK K
         refine nZ 25 ?_
         refine oN 3 27 (fB 41 15) HT_.out fun K hK => ?_
         refine gS Tryd.func40 #[.agg #[.int .i64 t559, .int .i64 t560, .int .i64 t561, .int .i64 t562, .bool t563, .slice Ao13 t564.length co13]] ?_
         with_reducible refine (spec_SpanOk.calls k t559 t560 t561 t562 t563 _ _ t564 t591 _ ?side1 ?side2 A27.out).mono ?_
         (case side1 => exact zC (Kd.R_reads' HO566.out).2.2)
         (case side2 => exact (Kd.R_reads' HO566.out).2.1)
         rintro e w68 ⟨rfl, hb⟩
         refine ⟨_, rfl, ?_⟩
         replace HO566 := zRB HO566 hb; replace HO575 := zRB HO575 hb; replace HO583 := zRB HO583 hb; replace HO588 := zSB HO588 hb; replace BK567 := zBB BK567 hb; replace BK584 := zBB BK584 hb; replace BK585 := zBB BK585 hb; replace HB := zLB (zL3 HB.out GE567.out GE584.out GE585.out) hb
         clear hb
         refine hK.out _ _ (zk6 BK567.out (zk6 BK584.out (zc6 BK585.out))) fun hHeld => ?_; clear hK K
         refine nZ 27 ?_
         refine pY 4 28 (fB 41 31) HT_.out ?_
         refine pY 5 29 (fB 41 63) HT_.out ?_
         refine tY 6 30 (fB 41 127) HT_.out HW_.out hHeld ?_
         refine tY 8 32 (fB 41 383) HT_.out HW_.out hHeld ?_
         refine oN 7 31 (fB 41 511) HT_.out fun K hK => ?_
         refine gS Tryd.func41 #[.agg #[.int .i64 t559, .int .i64 t560, .int .i64 t561, .int .i64 t562, .bool t563, .slice Ao13 t564.length co13]] ?_
         with_reducible refine (impl_SizeOf.calls k t559 t560 t561 t562 t563 _ _ t564 t592 _ ?side1 ?side2 A32.out).mono ?_
         (case side1 => exact zC (Kd.R_reads' HO566.out).2.2)
         (case side2 => exact (Kd.R_reads' HO566.out).2.1)
         rintro e w69 ⟨rfl, hb⟩
         refine ⟨_, rfl, ?_⟩
         replace HO566 := zRB HO566 hb; replace HO575 := zRB HO575 hb; replace HO583 := zRB HO583 hb; replace HO588 := zSB HO588 hb; replace BK567 := zBB BK567 hb; replace BK584 := zBB BK584 hb; replace BK585 := zBB BK585 hb; replace HB := zLB (zL3 HB.out GE567.out GE584.out GE585.out) hb
         clear hb
         refine hK.out _ _ (zk6 BK567.out (zk6 BK584.out (zc6 BK585.out))) fun hHeld => ?_; clear hK K
         refine nZ 31 ?_
         refine oN 9 33 (fB 41 1023) HT_.out fun K hK => ?_
         refine gS Tryd.func42 #[.agg #[.int .i64 t559, .int .i64 t560, .int .i64 t561, .int .i64 t562, .bool t563, .slice Ao13 t564.length co13]] ?_
         with_reducible refine (spec_SizeOf.calls k t559 t560 t561 t562 t563 _ _ t564 t593 _ ?side1 ?side2 A33.out).mono ?_
         (case side1 => exact zC (Kd.R_reads' HO566.out).2.2)
         (case side2 => exact (Kd.R_reads' HO566.out).2.1)
         rintro e w70 ⟨rfl, hb⟩
         refine ⟨_, rfl, ?_⟩
         replace HO566 := zRB HO566 hb; replace HO575 := zRB HO575 hb; replace HO583 := zRB HO583 hb; replace HO588 := zSB HO588 hb; replace BK567 := zBB BK567 hb; replace BK584 := zBB BK584 hb; replace BK585 := zBB BK585 hb; replace HB := zLB (zL3 HB.out GE567.out GE584.out GE585.out) hb
         clear hb
         refine hK.out _ _ (zk6 BK567.out (zk6 BK584.out (zc6 BK585.out))) fun hHeld => ?_; clear hK K
         refine nZ 33 ?_
         refine pY 10 34 (fB 41 2047) HT_.out ?_
         refine pY 11 35 (fB 41 4095) HT_.out ?_
         refine pY 12 36 (fB 41 8191) HT_.out ?_
         refine tY 13 37 (fB 41 16383) HT_.out HW_.out hHeld ?_
         refine tY 15 39 (fB 41 49151) HT_.out HW_.out hHeld ?_
         refine oN 14 38 (fB 41 65535) HT_.out fun K hK => ?_
         refine gS Tryd.func43 #[.agg #[.int .i64 t559, .int .i64 t560, .int .i64 t561, .int .i64 t562, .bool t563, .slice Ao13 t564.length co13]] ?_
         with_reducible refine (impl_LengthOf.calls t559 t560 t561 t562 t563 _ _ t564 t594 _ ?side1 ?side2 A35.out).mono ?_
         (case side1 => exact zC (Kd.R_reads' HO566.out).2.2)
         (case side2 => exact (Kd.R_reads' HO566.out).2.1)
         rintro e w71 ⟨rfl, hb⟩
         refine ⟨_, rfl, ?_⟩
         replace HO566 := zRB HO566 hb; replace HO575 := zRB HO575 hb; replace HO583 := zRB HO583 hb; replace HO588 := zSB HO588 hb; replace BK567 := zBB BK567 hb; replace BK584 := zBB BK584 hb; replace BK585 := zBB BK585 hb; replace HB := zLB (zL3 HB.out GE567.out GE584.out GE585.out) hb
         clear hb
         refine hK.out _ _ (zk6 BK567.out (zk6 BK584.out (zc6 BK585.out))) fun hHeld => ?_; clear hK K
         refine nZ 38 ?_
         refine oN 16 40 (fB 41 131071) HT_.out fun K hK => ?_
         refine gS Tryd.func44 #[.agg #[.int .i64 t559, .int .i64 t560, .int .i64 t561, .int .i64 t562, .bool t563, .slice Ao13 t564.length co13]] ?_
         with_reducible refine (spec_LengthOf.calls t559 t560 t561 t562 t563 _ _ t564 t595 _ ?side1 ?side2 A36.out).mono ?_
         (case side1 => exact zC (Kd.R_reads' HO566.out).2.2)
         (case side2 => exact (Kd.R_reads' HO566.out).2.1)
         rintro e w72 ⟨rfl, hb⟩
         refine ⟨_, rfl, ?_⟩
         replace HO566 := zRB HO566 hb; replace HO575 := zRB HO575 hb; replace HO583 := zRB HO583 hb; replace HO588 := zSB HO588 hb; replace BK567 := zBB BK567 hb; replace BK584 := zBB BK584 hb; replace BK585 := zBB BK585 hb; replace HB := zLB (zL3 HB.out GE567.out GE584.out GE585.out) hb
         clear hb
         refine hK.out _ _ (zk6 BK567.out (zk6 BK584.out (zc6 BK585.out))) fun hHeld => ?_; clear hK K
         refine nZ 40 ?_
         refine pY 17 41 (fB 41 262143) HT_.out ?_
         refine pY 18 42 (fB 41 524287) HT_.out ?_
         refine pY 19 43 (fB 41 1048575) HT_.out ?_
         refine tY 20 44 (fB 41 2097151) HT_.out HW_.out hHeld ?_
         refine tY 21 45 (fB 41 4194303) HT_.out HW_.out hHeld ?_
         refine tY 23 47 (fB 41 12582911) HT_.out HW_.out hHeld ?_
         refine tY 24 48 (fB 41 29360127) HT_.out HW_.out hHeld ?_
         refine oN 22 46 (fB 41 33554431) HT_.out fun K hK => ?_
         refine gS Tryd.func45 #[.agg #[.int .i64 t568, .int .i64 t569, .int .i64 t570, .int .i64 t571, .bool t572, .slice Ao20 t573.length co20], .agg #[.int .i64 t576, .int .i64 t577, .int .i64 t578, .int .i64 t579, .bool t580, .slice Ao23 t581.length co23]] ?_
         with_reducible refine (impl_SameSpan.calls k t568 t569 t570 t571 t572 _ _ t573 t576 t577 t578 t579 t580 _ _ t581 t596 _ ?side1 ?side2 ?side3 ?side4 A38.out).mono ?_
         (case side1 => exact zC (Kd.R_reads' HO575.out).2.2)
         (case side2 => exact (Kd.R_reads' HO575.out).2.1)
         (case side3 => exact zC (Kd.R_reads' HO583.out).2.2)
         (case side4 => exact (Kd.R_reads' HO583.out).2.1)
         rintro e w73 ⟨rfl, hb⟩
         refine ⟨_, rfl, ?_⟩
         replace HO566 := zRB HO566 hb; replace HO575 := zRB HO575 hb; replace HO583 := zRB HO583 hb; replace HO588 := zSB HO588 hb; replace BK567 := zBB BK567 hb; replace BK584 := zBB BK584 hb; replace BK585 := zBB BK585 hb; replace HB := zLB (zL3 HB.out GE567.out GE584.out GE585.out) hb
         clear hb
         refine hK.out _ _ (zk6 BK567.out (zk6 BK584.out (zc6 BK585.out))) fun hHeld => ?_; clear hK K
         refine nZ 46 ?_
         refine oN 25 49 (fB 41 67108863) HT_.out fun K hK => ?_
         refine gS Tryd.func46 #[.agg #[.int .i64 t568, .int .i64 t569, .int .i64 t570, .int .i64 t571, .bool t572, .slice Ao20 t573.length co20], .agg #[.int .i64 t576, .int .i64 t577, .int .i64 t578, .int .i64 t579, .bool t580, .slice Ao23 t581.length co23]] ?_
         with_reducible refine (spec_SameSpan.calls k t568 t569 t570 t571 t572 _ _ t573 t576 t577 t578 t579 t580 _ _ t581 t597 _ ?side1 ?side2 ?side3 ?side4 A39.out).mono ?_
         (case side1 => exact zC (Kd.R_reads' HO575.out).2.2)
         (case side2 => exact (Kd.R_reads' HO575.out).2.1)
         (case side3 => exact zC (Kd.R_reads' HO583.out).2.2)
         (case side4 => exact (Kd.R_reads' HO583.out).2.1)
         rintro e w74 ⟨rfl, hb⟩
         refine ⟨_, rfl, ?_⟩
         replace HO566 := zRB HO566 hb; replace HO575 := zRB HO575 hb; replace HO583 := zRB HO583 hb; replace HO588 := zSB HO588 hb; replace BK567 := zBB BK567 hb; replace BK584 := zBB BK584 hb; replace BK585 := zBB BK585 hb; replace HB := zLB (zL3 HB.out GE567.out GE584.out GE585.out) hb
         clear hb
         refine hK.out _ _ (zk6 BK567.out (zk6 BK584.out (zc6 BK585.out))) fun hHeld => ?_; clear hK K
         refine nZ 49 ?_
         refine pY 26 50 (fB 41 134217727) HT_.out ?_
         refine pY 27 51 (fB 41 268435455) HT_.out ?_
         refine pY 28 52 (fB 41 536870911) HT_.out ?_
         refine tY 29 53 (fB 41 1073741823) HT_.out HW_.out hHeld ?_
         refine tY 30 54 (fB 41 2147483647) HT_.out HW_.out hHeld ?_
         refine oN 31 55 (fB 41 4294967295) HT_.out fun K hK => ?_
         refine gS Tryd.func45 #[.agg #[.int .i64 t559, .int .i64 t560, .int .i64 t561, .int .i64 t562, .bool t563, .slice Ao13 t564.length co13], .agg #[.int .i64 t559, .int .i64 t560, .int .i64 t561, .int .i64 t562, .bool t563, .slice Ao13 t564.length co13]] ?_
         with_reducible refine (impl_SameSpan.calls k t559 t560 t561 t562 t563 _ _ t564 t559 t560 t561 t562 t563 _ _ t564 false _ ?side1 ?side2 ?side3 ?side4 A50.out).mono ?_
         (case side1 => exact zC (Kd.R_reads' HO566.out).2.2)
         (case side2 => exact (Kd.R_reads' HO566.out).2.1)
         (case side3 => exact zC (Kd.R_reads' HO566.out).2.2)
         (case side4 => exact (Kd.R_reads' HO566.out).2.1)
         rintro e w75 ⟨rfl, hb⟩
         refine ⟨_, rfl, ?_⟩
         replace HO566 := zRB HO566 hb; replace HO575 := zRB HO575 hb; replace HO583 := zRB HO583 hb; replace HO588 := zSB HO588 hb; replace BK567 := zBB BK567 hb; replace BK584 := zBB BK584 hb; replace BK585 := zBB BK585 hb; replace HB := zLB (zL3 HB.out GE567.out GE584.out GE585.out) hb
         clear hb
         refine hK.out _ _ (zk6 BK567.out (zk6 BK584.out (zc6 BK585.out))) fun hHeld => ?_; clear hK K
         refine nZ 55 ?_
         refine pY 32 56 (fB 41 8589934591) HT_.out ?_
         refine pY 33 57 (fB 41 17179869183) HT_.out ?_
         refine pY 34 58 (fB 41 34359738367) HT_.out ?_
         refine pN 35 59 (fB 41 68719476735) HT_.out ?_
         refine pN 36 60 (fB 41 137438953471) HT_.out ?_
         refine pN 37 61 (fB 41 274877906943) HT_.out ?_
         refine pN 38 62 (fB 41 549755813887) HT_.out ?_
         refine pN 39 63 (fB 41 1099511627775) HT_.out ?_
         refine pY 40 64 (fB 41 2199023255551) HT_.out ?_
         refine done_ (done_of HT_.out (by kernel_rfl)) ?_
         try go_wp2
         go_meet
         case rel => exact ⟨_, (true), zV, H', ⟨by first | omega | exact Nat.le_refl _⟩, ⟨zSm HO588.out (fun _ hk => ⟨hk.1.1.1.1.1.2, ⟨hk.1.1.1.1.2, ⟨hk.1.1.1.2, ⟨hk.1.1.2, ⟨hk.1.2, hk.2⟩⟩⟩⟩⟩)⟩, ⟨zRm HO566.out (fun _ hk => ⟨hk.1.2, hk.2⟩)⟩, ⟨zRm HO575.out (fun _ hk => ⟨hk.2, hk.1⟩)⟩, ⟨zRm HO583.out (fun _ hk => ⟨hk.2, hk.1⟩)⟩, ⟨zB BK567.out⟩, ⟨zB BK584.out⟩, ⟨zB BK585.out⟩, ⟨zL3 HB.out GE567.out GE584.out GE585.out⟩⟩
      ·rw [if_neg c37] at H
       obtain ⟨c37b0, c37b1⟩ := zf c37
       have H' := Aside0.mk H
       clear H
       try go_wp2
       replace HO566 := zRE nd HO566; replace HO575 := zRE nd HO575; replace HO583 := zRE nd HO583; replace HO588 := zSE nd HO588; replace BK567 := zBE nd BK567; replace BK584 := zBE nd BK584; replace BK585 := zBE nd BK585; replace HB := zLE nd HB
       refine start_ (n := 41) (S := fun w' => zs6 w' gb567 (.int .i64 t559) (.int .i64 t560) (.int .i64 t561) (.int .i64 t562) (.bool t563) (.slice Ao13 t564.length co13)) (ds := []) (fB 41 0) (by kernel_rfl) rfl rfl (zc6 BK567.out) (fun hHeld => ?_); refine with_tabW laws_FnSpans.tab7 laws_FnSpans.bits7 (fun HT_ HW_ => ?_)
       generalize (w24.drewN nd).drew = w76 at HO566 HO575 HO583 HO588 BK567 BK584 BK585 HB hHeld ⊢
       refine tY 0 24 (fB 41 1) HT_.out HW_.out hHeld ?_
       refine tY 2 26 (fB 41 5) HT_.out HW_.out hHeld ?_
       refine oN 1 25 (fB 41 7) HT_.out fun K hK => ?_
       refine gS Tryd.func39 #[.agg #[.int .i64 t559, .int .i64 t560, .int .i64 t561, .int .i64 t562, .bool t563, .slice Ao13 t564.length co13]] ?_
       with_reducible refine (impl_SpanOk.calls k t559 t560 t561 t562 t563 _ _ t564 t590 _ ?side1 ?side2 A26.out).mono ?_
       (case side1 => exact zC (Kd.R_reads' HO566.out).2.2)
       (case side2 => exact (Kd.R_reads' HO566.out).2.1)
       rintro e w77 ⟨rfl, hb⟩
       refine ⟨_, rfl, ?_⟩
       replace HO566 := zRB HO566 hb; replace HO575 := zRB HO575 hb; replace HO583 := zRB HO583 hb; replace HO588 := zSB HO588 hb; replace BK567 := zBB BK567 hb; replace BK584 := zBB BK584 hb; replace BK585 := zBB BK585 hb; replace HB := zLB (zL3 HB.out GE567.out GE584.out GE585.out) hb
       clear hb
       refine hK.out _ _ (zc6 BK567.out) fun hHeld => ?_; clear hK K
       refine nZ 25 ?_
       refine oN 3 27 (fB 41 15) HT_.out fun K hK => ?_
       refine gS Tryd.func40 #[.agg #[.int .i64 t559, .int .i64 t560, .int .i64 t561, .int .i64 t562, .bool t563, .slice Ao13 t564.length co13]] ?_
       with_reducible refine (spec_SpanOk.calls k t559 t560 t561 t562 t563 _ _ t564 t591 _ ?side1 ?side2 A27.out).mono ?_
       (case side1 => exact zC (Kd.R_reads' HO566.out).2.2)
       (case side2 => exact (Kd.R_reads' HO566.out).2.1)
       rintro e w78 ⟨rfl, hb⟩
       refine ⟨_, rfl, ?_⟩
       replace HO566 := zRB HO566 hb; replace HO575 := zRB HO575 hb; replace HO583 := zRB HO583 hb; replace HO588 := zSB HO588 hb; replace BK567 := zBB BK567 hb; replace BK584 := zBB BK584 hb; replace BK585 := zBB BK585 hb; replace HB := zLB (zL3 HB.out GE567.out GE584.out GE585.out) hb
       clear hb
       refine hK.out _ _ (zc6 BK567.out) fun hHeld => ?_; clear hK K
       refine nZ 27 ?_
       refine pY 4 28 (fB 41 31) HT_.out ?_
       refine pY 5 29 (fB 41 63) HT_.out ?_
       refine tY 6 30 (fB 41 127) HT_.out HW_.out hHeld ?_
       refine tY 8 32 (fB 41 383) HT_.out HW_.out hHeld ?_
       refine oN 7 31 (fB 41 511) HT_.out fun K hK => ?_
       refine gS Tryd.func41 #[.agg #[.int .i64 t559, .int .i64 t560, .int .i64 t561, .int .i64 t562, .bool t563, .slice Ao13 t564.length co13]] ?_
       with_reducible refine (impl_SizeOf.calls k t559 t560 t561 t562 t563 _ _ t564 t592 _ ?side1 ?side2 A32.out).mono ?_
       (case side1 => exact zC (Kd.R_reads' HO566.out).2.2)
       (case side2 => exact (Kd.R_reads' HO566.out).2.1)
       rintro e w79 ⟨rfl, hb⟩
       refine ⟨_, rfl, ?_⟩
       replace HO566 := zRB HO566 hb; replace HO575 := zRB HO575 hb; replace HO583 := zRB HO583 hb; replace HO588 := zSB HO588 hb; replace BK567 := zBB BK567 hb; replace BK584 := zBB BK584 hb; replace BK585 := zBB BK585 hb; replace HB := zLB (zL3 HB.out GE567.out GE584.out GE585.out) hb
       clear hb
       refine hK.out _ _ (zc6 BK567.out) fun hHeld => ?_; clear hK K
       refine nZ 31 ?_
       refine oN 9 33 (fB 41 1023) HT_.out fun K hK => ?_
       refine gS Tryd.func42 #[.agg #[.int .i64 t559, .int .i64 t560, .int .i64 t561, .int .i64 t562, .bool t563, .slice Ao13 t564.length co13]] ?_
       with_reducible refine (spec_SizeOf.calls k t559 t560 t561 t562 t563 _ _ t564 t593 _ ?side1 ?side2 A33.out).mono ?_
       (case side1 => exact zC (Kd.R_reads' HO566.out).2.2)
       (case side2 => exact (Kd.R_reads' HO566.out).2.1)
       rintro e w80 ⟨rfl, hb⟩
       refine ⟨_, rfl, ?_⟩
       replace HO566 := zRB HO566 hb; replace HO575 := zRB HO575 hb; replace HO583 := zRB HO583 hb; replace HO588 := zSB HO588 hb; replace BK567 := zBB BK567 hb; replace BK584 := zBB BK584 hb; replace BK585 := zBB BK585 hb; replace HB := zLB (zL3 HB.out GE567.out GE584.out GE585.out) hb
       clear hb
       refine hK.out _ _ (zc6 BK567.out) fun hHeld => ?_; clear hK K
       refine nZ 33 ?_
       refine pY 10 34 (fB 41 2047) HT_.out ?_
       refine pY 11 35 (fB 41 4095) HT_.out ?_
       refine pY 12 36 (fB 41 8191) HT_.out ?_
       refine tY 13 37 (fB 41 16383) HT_.out HW_.out hHeld ?_
       refine tY 15 39 (fB 41 49151) HT_.out HW_.out hHeld ?_
       refine oN 14 38 (fB 41 65535) HT_.out fun K hK => ?_
       refine gS Tryd.func43 #[.agg #[.int .i64 t559, .int .i64 t560, .int .i64 t561, .int .i64 t562, .bool t563, .slice Ao13 t564.length co13]] ?_
       with_reducible refine (impl_LengthOf.calls t559 t560 t561 t562 t563 _ _ t564 t594 _ ?side1 ?side2 A35.out).mono ?_
       (case side1 => exact zC (Kd.R_reads' HO566.out).2.2)
       (case side2 => exact (Kd.R_reads' HO566.out).2.1)
       rintro e w81 ⟨rfl, hb⟩
       refine ⟨_, rfl, ?_⟩
       replace HO566 := zRB HO566 hb; replace HO575 := zRB HO575 hb; replace HO583 := zRB HO583 hb; replace HO588 := zSB HO588 hb; replace BK567 := zBB BK567 hb; replace BK584 := zBB BK584 hb; replace BK585 := zBB BK585 hb; replace HB := zLB (zL3 HB.out GE567.out GE584.out GE585.out) hb
       clear hb
       refine hK.out _ _ (zc6 BK567.out) fun hHeld => ?_; clear hK K
       refine nZ 38 ?_
       refine oN 16 40 (fB 41 131071) HT_.out fun K hK => ?_
       refine gS Tryd.func44 #[.agg #[.int .i64 t559, .int .i64 t560, .int .i64 t561, .int .i64 t562, .bool t563, .slice Ao13 t564.length co13]] ?_
       with_reducible refine (spec_LengthOf.calls t559 t560 t561 t562 t563 _ _ t564 t595 _ ?side1 ?side2 A36.out).mono ?_
       (case side1 => exact zC (Kd.R_reads' HO566.out).2.2)
       (case side2 => exact (Kd.R_reads' HO566.out).2.1)
       rintro e w82 ⟨rfl, hb⟩
       refine ⟨_, rfl, ?_⟩
       replace HO566 := zRB HO566 hb; replace HO575 := zRB HO575 hb; replace HO583 := zRB HO583 hb; replace HO588 := zSB HO588 hb; replace BK567 := zBB BK567 hb; replace BK584 := zBB BK584 hb; replace BK585 := zBB BK585 hb; replace HB := zLB (zL3 HB.out GE567.out GE584.out GE585.out) hb
       clear hb
       refine hK.out _ _ (zc6 BK567.out) fun hHeld => ?_; clear hK K
       refine nZ 40 ?_
       refine pY 17 41 (fB 41 262143) HT_.out ?_
       refine pY 18 42 (fB 41 524287) HT_.out ?_
       refine pY 19 43 (fB 41 1048575) HT_.out ?_
       refine pN 20 44 (fB 41 2097151) HT_.out ?_
       refine pN 21 45 (fB 41 4194303) HT_.out ?_
       refine pN 22 46 (fB 41 8388607) HT_.out ?_
       refine pN 23 47 (fB 41 16777215) HT_.out ?_
       refine pN 24 48 (fB 41 33554431) HT_.out ?_
       refine pN 25 49 (fB 41 67108863) HT_.out ?_
       refine pN 26 50 (fB 41 134217727) HT_.out ?_
       refine pY 27 51 (fB 41 268435455) HT_.out ?_
       refine pY 28 52 (fB 41 536870911) HT_.out ?_
       refine pN 29 53 (fB 41 1073741823) HT_.out ?_
       refine pN 30 54 (fB 41 2147483647) HT_.out ?_
       refine pN 31 55 (fB 41 4294967295) HT_.out ?_
       refine pN 32 56 (fB 41 8589934591) HT_.out ?_
       refine pY 33 57 (fB 41 17179869183) HT_.out ?_
       refine pY 34 58 (fB 41 34359738367) HT_.out ?_
       refine pN 35 59 (fB 41 68719476735) HT_.out ?_
       refine pN 36 60 (fB 41 137438953471) HT_.out ?_
       refine pN 37 61 (fB 41 274877906943) HT_.out ?_
       refine pN 38 62 (fB 41 549755813887) HT_.out ?_
       refine pN 39 63 (fB 41 1099511627775) HT_.out ?_
       refine pY 40 64 (fB 41 2199023255551) HT_.out ?_
       refine done_ (done_of HT_.out (by kernel_rfl)) ?_
       try go_wp2
       go_meet
       case rel => exact ⟨_, (true), zV, H', ⟨by first | omega | exact Nat.le_refl _⟩, ⟨zSm HO588.out (fun _ hk => ⟨hk.1.1.1.1.1.2, ⟨hk.1.1.1.1.2, ⟨hk.1.1.1.2, ⟨hk.1.1.2, ⟨hk.1.2, hk.2⟩⟩⟩⟩⟩)⟩, ⟨zRm HO566.out (fun _ hk => ⟨hk.1.2, hk.2⟩)⟩, ⟨zRm HO575.out (fun _ hk => ⟨hk.2, hk.1⟩)⟩, ⟨zRm HO583.out (fun _ hk => ⟨hk.2, hk.1⟩)⟩, ⟨zB BK567.out⟩, ⟨zB BK584.out⟩, ⟨zB BK585.out⟩, ⟨zL3 HB.out GE567.out GE584.out GE585.out⟩⟩
     ·rw [if_neg c34] at H
      obtain ⟨c34b0, c34b1⟩ := zf c34
      have H' := Aside0.mk H
      clear H
      try go_wp2
      replace HO566 := zRE nd HO566; replace HO575 := zRE nd HO575; replace HO583 := zRE nd HO583; replace HO588 := zSE nd HO588; replace BK567 := zBE nd BK567; replace BK584 := zBE nd BK584; replace BK585 := zBE nd BK585; replace HB := zLE nd HB
      refine start_ (n := 41) (S := fun w' => zs6 w' gb567 (.int .i64 t559) (.int .i64 t560) (.int .i64 t561) (.int .i64 t562) (.bool t563) (.slice Ao13 t564.length co13)) (ds := []) (fB 41 0) (by kernel_rfl) rfl rfl (zc6 BK567.out) (fun hHeld => ?_); refine with_tabW laws_FnSpans.tab7 laws_FnSpans.bits7 (fun HT_ HW_ => ?_)
      generalize (w24.drewN nd).drew = w83 at HO566 HO575 HO583 HO588 BK567 BK584 BK585 HB hHeld ⊢
      refine tY 0 24 (fB 41 1) HT_.out HW_.out hHeld ?_
      refine tY 2 26 (fB 41 5) HT_.out HW_.out hHeld ?_
      refine oN 1 25 (fB 41 7) HT_.out fun K hK => ?_
      refine gS Tryd.func39 #[.agg #[.int .i64 t559, .int .i64 t560, .int .i64 t561, .int .i64 t562, .bool t563, .slice Ao13 t564.length co13]] ?_
      with_reducible refine (impl_SpanOk.calls k t559 t560 t561 t562 t563 _ _ t564 t590 _ ?side1 ?side2 A26.out).mono ?_
      (case side1 => exact zC (Kd.R_reads' HO566.out).2.2)
      (case side2 => exact (Kd.R_reads' HO566.out).2.1)
      rintro e w84 ⟨rfl, hb⟩
      refine ⟨_, rfl, ?_⟩
      replace HO566 := zRB HO566 hb; replace HO575 := zRB HO575 hb; replace HO583 := zRB HO583 hb; replace HO588 := zSB HO588 hb; replace BK567 := zBB BK567 hb; replace BK584 := zBB BK584 hb; replace BK585 := zBB BK585 hb; replace HB := zLB (zL3 HB.out GE567.out GE584.out GE585.out) hb
      clear hb
      refine hK.out _ _ (zc6 BK567.out) fun hHeld => ?_; clear hK K
      refine nZ 25 ?_
      refine oN 3 27 (fB 41 15) HT_.out fun K hK => ?_
      refine gS Tryd.func40 #[.agg #[.int .i64 t559, .int .i64 t560, .int .i64 t561, .int .i64 t562, .bool t563, .slice Ao13 t564.length co13]] ?_
      with_reducible refine (spec_SpanOk.calls k t559 t560 t561 t562 t563 _ _ t564 t591 _ ?side1 ?side2 A27.out).mono ?_
      (case side1 => exact zC (Kd.R_reads' HO566.out).2.2)
      (case side2 => exact (Kd.R_reads' HO566.out).2.1)
      rintro e w85 ⟨rfl, hb⟩
      refine ⟨_, rfl, ?_⟩
      replace HO566 := zRB HO566 hb; replace HO575 := zRB HO575 hb; replace HO583 := zRB HO583 hb; replace HO588 := zSB HO588 hb; replace BK567 := zBB BK567 hb; replace BK584 := zBB BK584 hb; replace BK585 := zBB BK585 hb; replace HB := zLB (zL3 HB.out GE567.out GE584.out GE585.out) hb
      clear hb
      refine hK.out _ _ (zc6 BK567.out) fun hHeld => ?_; clear hK K
      refine nZ 27 ?_
      refine pY 4 28 (fB 41 31) HT_.out ?_
      refine pY 5 29 (fB 41 63) HT_.out ?_
      refine tY 6 30 (fB 41 127) HT_.out HW_.out hHeld ?_
      refine tY 8 32 (fB 41 383) HT_.out HW_.out hHeld ?_
      refine oN 7 31 (fB 41 511) HT_.out fun K hK => ?_
      refine gS Tryd.func41 #[.agg #[.int .i64 t559, .int .i64 t560, .int .i64 t561, .int .i64 t562, .bool t563, .slice Ao13 t564.length co13]] ?_
      with_reducible refine (impl_SizeOf.calls k t559 t560 t561 t562 t563 _ _ t564 t592 _ ?side1 ?side2 A32.out).mono ?_
      (case side1 => exact zC (Kd.R_reads' HO566.out).2.2)
      (case side2 => exact (Kd.R_reads' HO566.out).2.1)
      rintro e w86 ⟨rfl, hb⟩
      refine ⟨_, rfl, ?_⟩
      replace HO566 := zRB HO566 hb; replace HO575 := zRB HO575 hb; replace HO583 := zRB HO583 hb; replace HO588 := zSB HO588 hb; replace BK567 := zBB BK567 hb; replace BK584 := zBB BK584 hb; replace BK585 := zBB BK585 hb; replace HB := zLB (zL3 HB.out GE567.out GE584.out GE585.out) hb
      clear hb
      refine hK.out _ _ (zc6 BK567.out) fun hHeld => ?_; clear hK K
      refine nZ 31 ?_
      refine oN 9 33 (fB 41 1023) HT_.out fun K hK => ?_
      refine gS Tryd.func42 #[.agg #[.int .i64 t559, .int .i64 t560, .int .i64 t561, .int .i64 t562, .bool t563, .slice Ao13 t564.length co13]] ?_
      with_reducible refine (spec_SizeOf.calls k t559 t560 t561 t562 t563 _ _ t564 t593 _ ?side1 ?side2 A33.out).mono ?_
      (case side1 => exact zC (Kd.R_reads' HO566.out).2.2)
      (case side2 => exact (Kd.R_reads' HO566.out).2.1)
      rintro e w87 ⟨rfl, hb⟩
      refine ⟨_, rfl, ?_⟩
      replace HO566 := zRB HO566 hb; replace HO575 := zRB HO575 hb; replace HO583 := zRB HO583 hb; replace HO588 := zSB HO588 hb; replace BK567 := zBB BK567 hb; replace BK584 := zBB BK584 hb; replace BK585 := zBB BK585 hb; replace HB := zLB (zL3 HB.out GE567.out GE584.out GE585.out) hb
      clear hb
      refine hK.out _ _ (zc6 BK567.out) fun hHeld => ?_; clear hK K
      refine nZ 33 ?_
      refine pY 10 34 (fB 41 2047) HT_.out ?_
      refine pY 11 35 (fB 41 4095) HT_.out ?_
      refine pY 12 36 (fB 41 8191) HT_.out ?_
      refine pN 13 37 (fB 41 16383) HT_.out ?_
      refine pN 14 38 (fB 41 32767) HT_.out ?_
      refine pN 15 39 (fB 41 65535) HT_.out ?_
      refine pN 16 40 (fB 41 131071) HT_.out ?_
      refine pN 17 41 (fB 41 262143) HT_.out ?_
      refine pY 18 42 (fB 41 524287) HT_.out ?_
      refine pY 19 43 (fB 41 1048575) HT_.out ?_
      refine pN 20 44 (fB 41 2097151) HT_.out ?_
      refine pN 21 45 (fB 41 4194303) HT_.out ?_
      refine pN 22 46 (fB 41 8388607) HT_.out ?_
      refine pN 23 47 (fB 41 16777215) HT_.out ?_
      refine pN 24 48 (fB 41 33554431) HT_.out ?_
      refine pN 25 49 (fB 41 67108863) HT_.out ?_
      refine pN 26 50 (fB 41 134217727) HT_.out ?_
      refine pY 27 51 (fB 41 268435455) HT_.out ?_
      refine pY 28 52 (fB 41 536870911) HT_.out ?_
      refine pN 29 53 (fB 41 1073741823) HT_.out ?_
      refine pN 30 54 (fB 41 2147483647) HT_.out ?_
      refine pN 31 55 (fB 41 4294967295) HT_.out ?_
      refine pN 32 56 (fB 41 8589934591) HT_.out ?_
      refine pY 33 57 (fB 41 17179869183) HT_.out ?_
      refine pY 34 58 (fB 41 34359738367) HT_.out ?_
      refine pN 35 59 (fB 41 68719476735) HT_.out ?_
      refine pN 36 60 (fB 41 137438953471) HT_.out ?_
      refine pN 37 61 (fB 41 274877906943) HT_.out ?_
      refine pN 38 62 (fB 41 549755813887) HT_.out ?_
      refine pN 39 63 (fB 41 1099511627775) HT_.out ?_
      refine pY 40 64 (fB 41 2199023255551) HT_.out ?_
      refine done_ (done_of HT_.out (by kernel_rfl)) ?_
      try go_wp2
      go_meet
      case rel => exact ⟨_, (true), zV, H', ⟨by first | omega | exact Nat.le_refl _⟩, ⟨zSm HO588.out (fun _ hk => ⟨hk.1.1.1.1.1.2, ⟨hk.1.1.1.1.2, ⟨hk.1.1.1.2, ⟨hk.1.1.2, ⟨hk.1.2, hk.2⟩⟩⟩⟩⟩)⟩, ⟨zRm HO566.out (fun _ hk => ⟨hk.1.2, hk.2⟩)⟩, ⟨zRm HO575.out (fun _ hk => ⟨hk.2, hk.1⟩)⟩, ⟨zRm HO583.out (fun _ hk => ⟨hk.2, hk.1⟩)⟩, ⟨zB BK567.out⟩, ⟨zB BK584.out⟩, ⟨zB BK585.out⟩, ⟨zL3 HB.out GE567.out GE584.out GE585.out⟩⟩
   case rest =>
    clear HC9
    try clear p2
    try clear c3
    try clear c4
    try clear c34
    try clear c34b0
    try clear c34b1
    try clear c39
    try clear c40
    try clear c41
    try clear c42
    try clear c44
    obtain ⟨kq, x64_8, rfl, HA, HJ8, HO_6, HO_568005, HO_585005, HO_586005, BK567, BK584, BK585, HB⟩ := hcut
    cases kq with
    | zero => exact absurd HA.out (by simp [laws_FnSpans.j0])
    | succ kj8 =>
     have H := HA.out
     clear HA
     simp only [laws_FnSpans.j0] at H
     by_cases c88 : x64_8 = true
     ·subst c88
      rw [if_pos rfl] at H
      exact absurd ((Option.some.inj H).trans hrt_.out) (by decide)
     ·obtain rfl := Bool.eq_false_iff.mpr c88
      rw [if_neg zn] at H
      obtain ⟨t601, A89, H⟩ := zO H; try dsimp only at H
      obtain ⟨ji90, hji90⟩ : ∃ j_ : Int, (Int.tmod t589 (t586.length : Int)) = j_ := ⟨_, rfl⟩
      replace H : (if 0 ≤ (ji90) then (if (ji90) ≤ (t586.length : Int) then ((impl_TotalOf.f kj8 (t586.take ((ji90) : Int).toNat)).bind fun t606 => ((impl_TotalOf.f kj8 (t586.drop ((ji90) : Int).toNat)).bind fun t611 => (if t601 = (wrap64 (t606 + t611)) then ((impl_TotalOf.f kj8 t586).bind fun t612 => ((spec_TotalOf.f kj8 t586).bind fun t613 => (if t612 = t613 then ((impl_SpanText.f kj8 t559 t560 t561 t562 t563 t564).bind fun t614 => ((impl_SpanOk.f kj8 t559 t560 t561 t562 t563 t564).bind fun t615 => (if ((t614.toList != ([] : List UInt8)) == t615) = true then ((impl_SpanOk.f kj8 t559 t560 t561 t562 t563 t564).bind fun t616 => (if t616 = true then ((impl_SizeOf.f kj8 t559 t560 t561 t562 t563 t564).bind fun t617 => (if t617 ≥ 12 then ((impl_SizeOf.f kj8 t559 t560 t561 t562 t563 t564).bind fun t618 => (if t618 ≤ 96 then ((impl_LengthOf.f t559 t560 t561 t562 t563 t564).bind fun t619 => (some (t619 == (wrap64 (t562 - t561))))) else (some false))) else (some false))) else (some true))) else (some false)))) else (some false)))) else (some false)))) else (none)) else (none)) = some r := by first | (rw [hji90] at H; exact H) | (simp only [hji90] at H ⊢; exact H)
      (try rw [hji90] at A89)
      by_cases c91 : 0 ≤ (ji90)
      ·rw [if_pos c91] at H
       have c91b0 := eq_true c91
       have c91b1 := decide_eq_true c91
       clear c91
       by_cases c92 : (ji90) ≤ (t586.length : Int)
       ·rw [if_pos c92] at H
        have c92b0 := eq_true c92
        have c92b1 := decide_eq_true c92
        clear c92
        generalize hy602 : (t586.take ((ji90) : Int).toNat) = y602 at H; (try rw [Option.bind_some] at H); have Ny602 := Aside0.mk hy602.symm; clear hy602
        obtain ⟨t606, A93, H⟩ := zO H; try dsimp only at H
        have c94b0 := eq_true (zD : 0 ≤ (ji90))
        have c95b0 := eq_true (zD : (ji90) ≤ (t586.length : Int))
        generalize hy607 : (t586.drop ((ji90) : Int).toNat) = y607 at H; (try rw [Option.bind_some] at H); have Ny607 := Aside0.mk hy607.symm; clear hy607
        obtain ⟨t611, A96, H⟩ := zO H; try dsimp only at H
        by_cases c97 : t601 = (wrap64 (t606 + t611))
        ·rw [if_pos c97] at H
         obtain ⟨c97b0, c97b1⟩ := zt c97
         clear c97
         obtain ⟨t612, A98, H⟩ := zO H; try dsimp only at H
         obtain rfl : t601 = t612 := Option.some.inj (A89.out.symm.trans A98.out)
         clear A98
         obtain ⟨t613, A99, H⟩ := zO H; try dsimp only at H
         by_cases c100 : t601 = t613
         ·rw [if_pos c100] at H
          obtain ⟨c100b0, c100b1⟩ := zt c100
          clear c100
          obtain ⟨t614, A101, H⟩ := zO H; try dsimp only at H
          obtain ⟨t615, A102, H⟩ := zO H; try dsimp only at H
          by_cases c103 : ((t614.toList != ([] : List UInt8)) == t615) = true
          ·rw [if_pos c103] at H
           have c103b0 := c103
           (try (have c103b4 : ((!t614.toList.isEmpty) == t615) = true := by have z_ := c103b0; rw [show (t614.toList != ([] : List UInt8)) = !t614.toList.isEmpty from by cases t614.toList <;> rfl] at z_; exact z_))
           (try (have c103b1 : decide ((t614.toList != ([] : List UInt8)) = t615) = true := by simpa using c103))
           (try (have c103b2 : ((t614.toList != ([] : List UInt8)) == t615) = true := by simpa using c103))
           clear c103
           obtain ⟨t616, A104, H⟩ := zO H; try dsimp only at H
           obtain rfl : t615 = t616 := Option.some.inj (A102.out.symm.trans A104.out)
           clear A104
           by_cases c105 : t615 = true
           ·subst c105
            rw [if_pos rfl] at H
            obtain ⟨t617, A106, H⟩ := zO H; try dsimp only at H
            by_cases c107 : t617 ≥ 12
            ·rw [if_pos c107] at H
             have c107b0 := decide_eq_true c107
             clear c107
             obtain ⟨t618, A108, H⟩ := zO H; try dsimp only at H
             obtain rfl : t617 = t618 := Option.some.inj (A106.out.symm.trans A108.out)
             clear A108
             by_cases c109 : t617 ≤ 96
             ·rw [if_pos c109] at H
              have c109b0 := decide_eq_true c109
              clear c109
              obtain ⟨t619, A110, H⟩ := zO H; try dsimp only at H
              obtain rfl := Option.some.inj H
              try go_wp2
              replace HO_6 := zSD HO_6; replace HO_568005 := zRD HO_568005; replace HO_585005 := zRD HO_585005; replace HO_586005 := zRD HO_586005; replace BK567 := zBD BK567; replace BK584 := zBD BK584; replace BK585 := zBD BK585; replace HB := zLD HB
              have q112 : ((ji90) : Int) ≤ ((t586.length : Int) : Int) := zD
              obtain ⟨i0112, hi0112, _, hsz112, _⟩ := info_parts info38
              have hroom112 : t586.length ≤ co25 := (Kd.S_reads' HO_6.out).2.1
              have hC112 : Kd.C k38 _ Ao25 t586.length t586 := (Kd.S_reads' HO_6.out).2.2
              have hcut112 := cut_to (P := Tryd.prog) 59 38 .i64 Tryd.underlying59 hi0112 Ao25 t586.length co25 (ji90) (zD) q112 hroom112
              have hr112 := Kd.C_take (m := ((ji90) : Int).toNat) hC112 (by omega)
              have hy112 : y602.length = ((ji90) : Int).toNat := (by rw [Ny602.out, List.length_take]; omega)
              rw [← Ny602.out] at hr112
              rw [← hy112] at hcut112
              have HR605 := Aside0.mk hr112
              have HC605 := Aside0.mk (show y602.length ≤ co25 from by omega)
              clear hr112 hC112 hroom112 hi0112 hsz112
              have KY112 := Aside0.mk hy112
              clear hy112
              have KL112 := Aside0.mk (show ((ji90) : Int).toNat ≤ t586.length from by omega)
              replace q112 := eq_true q112
              have q113 : ((ji90) : Int) ≤ ((t586.length : Int) : Int) := zD
              obtain ⟨i0113, hi0113, _, hsz113, _⟩ := info_parts info38
              have hroom113 : t586.length ≤ co25 := (Kd.S_reads' HO_6.out).2.1
              have hC113 : Kd.C k38 _ Ao25 t586.length t586 := (Kd.S_reads' HO_6.out).2.2
              have q0113 : (0 : Int) ≤ ((ji90) : Int) := zD
              have hcut113 := cut_from (P := Tryd.prog) 59 38 .i64 Tryd.underlying59 hi0113 6 hsz113 Ao25 t586.length co25 (ji90) q0113 q113
              have hr113 := Kd.C_drop (m := ((ji90) : Int).toNat) (c := co25) hC113 (by omega) hroom113
              obtain ⟨A113, hA113⟩ : ∃ A1, A1 = (if co25 = ((ji90) : Int).toNat then Ao25 else (Ao25 : Option Addr).map (·.add (((ji90) : Int).toNat * 6))) := ⟨_, rfl⟩
              obtain ⟨c113, hc113⟩ : ∃ c1, c1 = co25 - ((ji90) : Int).toNat := ⟨_, rfl⟩
              have hy113 : y607.length = t586.length - ((ji90) : Int).toNat := (by rw [Ny607.out, List.length_drop] <;> omega)
              rw [show (t586).drop ((ji90) : Int).toNat = y607 from Ny607.out.symm] at hr113
              replace hr113 : Kd.C k38 _ A113 y607.length y607 := (by rw [hA113]; exact hr113)
              rw [← hy113, ← hA113, ← hc113] at hcut113
              have HR610 := Aside0.mk hr113
              have HC610 := Aside0.mk (show y607.length ≤ c113 from by rw [hy113, hc113]; exact Nat.sub_le_sub_right hroom113 _)
              clear hr113 hC113 hroom113 hi0113 hsz113 hc113
              have KY113 := Aside0.mk hy113
              have KA113 := Aside0.mk hA113
              clear hy113 hA113
              have KL113 := Aside0.mk (show ((ji90) : Int).toNat ≤ t586.length from by omega)
              replace q113 := eq_true q113
              refine start_ (n := 53) (S := fun w' => zs6 w' gb567 (.int .i64 t559) (.int .i64 t560) (.int .i64 t561) (.int .i64 t562) (.bool t563) (.slice Ao13 t564.length co13)) (ds := []) (fB 53 0) (by kernel_rfl) rfl rfl (zc6 BK567.out) (fun hHeld => ?_); refine with_tabW laws_FnSpans.tab9 laws_FnSpans.bits9 (fun HT_ HW_ => ?_)
              generalize wc.drew = w111 at HO_6 HO_568005 HO_585005 HO_586005 BK567 BK584 BK585 HB HR605 HR610 hHeld ⊢
              refine pY 0 65 (fB 53 1) HT_.out ?_
              refine pY 2 67 (fB 53 5) HT_.out ?_
              refine pY 3 68 (fB 53 13) HT_.out ?_
              refine pY 4 69 (fB 53 29) HT_.out ?_
              refine pY 6 71 (fB 53 93) HT_.out ?_
              refine pY 7 72 (fB 53 221) HT_.out ?_
              refine pY 8 73 (fB 53 477) HT_.out ?_
              refine oN 1 66 (fB 53 479) HT_.out fun K hK => ?_
              refine gS Tryd.func47 #[.slice Ao25 t586.length co25] ?_
              with_reducible refine (impl_TotalOf.calls kj8 _ _ t586 t601 _ ?side1 ?side2 A89.out).mono ?_
              (case side1 => exact zC (Kd.S_reads' HO_6.out).2.2)
              (case side2 => exact (Kd.S_reads' HO_6.out).2.1)
              rintro e w114 ⟨rfl, hb⟩
              refine ⟨_, rfl, ?_⟩
              replace HO_6 := zSB HO_6 hb; replace HO_568005 := zRB HO_568005 hb; replace HO_585005 := zRB HO_585005 hb; replace HO_586005 := zRB HO_586005 hb; replace BK567 := zBB BK567 hb; replace BK584 := zBB BK584 hb; replace BK585 := zBB BK585 hb; replace HR605 := Aside0.mk (Kd.C_below (zC HR605.out) hb); replace HR610 := Aside0.mk (Kd.C_below (zC HR610.out) hb); replace HB := zLB (zL3 HB.out GE567.out GE584.out GE585.out) hb
              clear hb
              refine hK.out _ _ (zc6 BK567.out) fun hHeld => ?_; clear hK K
              refine nZ 66 ?_
              refine oN 5 70 (fB 53 511) HT_.out fun K hK => ?_
              refine gS Tryd.func47 #[.slice Ao25 y602.length co25] ?_
              with_reducible refine (impl_TotalOf.calls kj8 _ _ y602 t606 _ ?side1 ?side2 A93.out).mono ?_
              (case side1 => repeat (first | exact (zC HR605.out) | (with_reducible refine Kd.C_alloc ?_ _) | (with_reducible refine Kd.C_drewN ?_ _) | (with_reducible refine Kd.C_drew ?_)))
              (case side2 => exact HC605.out)
              rintro e w115 ⟨rfl, hb⟩
              refine ⟨_, rfl, ?_⟩
              replace HO_6 := zSB HO_6 hb; replace HO_568005 := zRB HO_568005 hb; replace HO_585005 := zRB HO_585005 hb; replace HO_586005 := zRB HO_586005 hb; replace BK567 := zBB BK567 hb; replace BK584 := zBB BK584 hb; replace BK585 := zBB BK585 hb; replace HR605 := Aside0.mk (Kd.C_below (zC HR605.out) hb); replace HR610 := Aside0.mk (Kd.C_below (zC HR610.out) hb); replace HB := zLB (zL3 HB.out GE567.out GE584.out GE585.out) hb
              clear hb
              refine hK.out _ _ (zc6 BK567.out) fun hHeld => ?_; clear hK K
              refine nZ 70 ?_
              refine oN 9 74 (fB 53 1023) HT_.out fun K hK => ?_
              refine gS Tryd.func47 #[.slice A113 y607.length c113] ?_
              with_reducible refine (impl_TotalOf.calls kj8 _ _ y607 t611 _ ?side1 ?side2 A96.out).mono ?_
              (case side1 => repeat (first | exact (zC HR610.out) | (with_reducible refine Kd.C_alloc ?_ _) | (with_reducible refine Kd.C_drewN ?_ _) | (with_reducible refine Kd.C_drew ?_)))
              (case side2 => exact HC610.out)
              rintro e w116 ⟨rfl, hb⟩
              refine ⟨_, rfl, ?_⟩
              replace HO_6 := zSB HO_6 hb; replace HO_568005 := zRB HO_568005 hb; replace HO_585005 := zRB HO_585005 hb; replace HO_586005 := zRB HO_586005 hb; replace BK567 := zBB BK567 hb; replace BK584 := zBB BK584 hb; replace BK585 := zBB BK585 hb; replace HR605 := Aside0.mk (Kd.C_below (zC HR605.out) hb); replace HR610 := Aside0.mk (Kd.C_below (zC HR610.out) hb); replace HB := zLB (zL3 HB.out GE567.out GE584.out GE585.out) hb
              clear hb
              refine hK.out _ _ (zc6 BK567.out) fun hHeld => ?_; clear hK K
              refine nZ 74 ?_
              refine pY 10 75 (fB 53 2047) HT_.out ?_
              refine pY 11 76 (fB 53 4095) HT_.out ?_
              refine pY 12 77 (fB 53 8191) HT_.out ?_
              refine pY 13 78 (fB 53 16383) HT_.out ?_
              refine pY 15 80 (fB 53 49151) HT_.out ?_
              refine oN 14 79 (fB 53 65535) HT_.out fun K hK => ?_
              refine gS Tryd.func47 #[.slice Ao25 t586.length co25] ?_
              with_reducible refine (impl_TotalOf.calls kj8 _ _ t586 t601 _ ?side1 ?side2 A89.out).mono ?_
              (case side1 => exact zC (Kd.S_reads' HO_6.out).2.2)
              (case side2 => exact (Kd.S_reads' HO_6.out).2.1)
              rintro e w117 ⟨rfl, hb⟩
              refine ⟨_, rfl, ?_⟩
              replace HO_6 := zSB HO_6 hb; replace HO_568005 := zRB HO_568005 hb; replace HO_585005 := zRB HO_585005 hb; replace HO_586005 := zRB HO_586005 hb; replace BK567 := zBB BK567 hb; replace BK584 := zBB BK584 hb; replace BK585 := zBB BK585 hb; replace HR605 := Aside0.mk (Kd.C_below (zC HR605.out) hb); replace HR610 := Aside0.mk (Kd.C_below (zC HR610.out) hb); replace HB := zLB (zL3 HB.out GE567.out GE584.out GE585.out) hb
              clear hb
              refine hK.out _ _ (zc6 BK567.out) fun hHeld => ?_; clear hK K
              refine nZ 79 ?_
              refine oN 16 81 (fB 53 131071) HT_.out fun K hK => ?_
              refine gS Tryd.func48 #[.slice Ao25 t586.length co25] ?_
              with_reducible refine (spec_TotalOf.calls kj8 _ _ t586 t613 _ ?side1 ?side2 A99.out).mono ?_
              (case side1 => exact zC (Kd.S_reads' HO_6.out).2.2)
              (case side2 => exact (Kd.S_reads' HO_6.out).2.1)
              rintro e w118 ⟨rfl, hb⟩
              refine ⟨_, rfl, ?_⟩
              replace HO_6 := zSB HO_6 hb; replace HO_568005 := zRB HO_568005 hb; replace HO_585005 := zRB HO_585005 hb; replace HO_586005 := zRB HO_586005 hb; replace BK567 := zBB BK567 hb; replace BK584 := zBB BK584 hb; replace BK585 := zBB BK585 hb; replace HR605 := Aside0.mk (Kd.C_below (zC HR605.out) hb); replace HR610 := Aside0.mk (Kd.C_below (zC HR610.out) hb); replace HB := zLB (zL3 HB.out GE567.out GE584.out GE585.out) hb
              clear hb
              refine hK.out _ _ (zc6 BK567.out) fun hHeld => ?_; clear hK K
              refine nZ 81 ?_
              refine pY 17 82 (fB 53 262143) HT_.out ?_
              refine pY 18 83 (fB 53 524287) HT_.out ?_
              refine pY 19 84 (fB 53 1048575) HT_.out ?_
              refine tY 20 85 (fB 53 2097151) HT_.out HW_.out hHeld ?_
              refine tY 23 88 (fB 53 10485759) HT_.out HW_.out hHeld ?_
              refine oN 21 86 (fB 53 12582911) HT_.out fun K hK => ?_
              refine gS Tryd.func19 #[.agg #[.int .i64 t559, .int .i64 t560, .int .i64 t561, .int .i64 t562, .bool t563, .slice Ao13 t564.length co13]] ?_
              with_reducible refine (impl_SpanText.calls kj8 t559 t560 t561 t562 t563 _ _ t564 t614 _ ?side1 ?side2 (tab_at HTAB.out (zL3 HB.out GE567.out GE584.out GE585.out)) A101.out).mono ?_
              (case side1 => exact zC (Kd.R_reads' HO_568005.out).2.2)
              (case side2 => exact (Kd.R_reads' HO_568005.out).2.1)
              rintro e w119 ⟨rfl, hb⟩
              refine ⟨_, rfl, ?_⟩
              replace HO_6 := zSB HO_6 hb; replace HO_568005 := zRB HO_568005 hb; replace HO_585005 := zRB HO_585005 hb; replace HO_586005 := zRB HO_586005 hb; replace BK567 := zBB BK567 hb; replace BK584 := zBB BK584 hb; replace BK585 := zBB BK585 hb; replace HR605 := Aside0.mk (Kd.C_below (zC HR605.out) hb); replace HR610 := Aside0.mk (Kd.C_below (zC HR610.out) hb); replace HB := zLB (zL3 HB.out GE567.out GE584.out GE585.out) hb
              clear hb
              refine hK.out _ _ (zc6 BK567.out) fun hHeld => ?_; clear hK K
              refine nZ 86 ?_
              refine pY 22 87 (fB 53 16777215) HT_.out ?_
              refine oN 24 89 (fB 53 33554431) HT_.out fun K hK => ?_
              refine gS Tryd.func39 #[.agg #[.int .i64 t559, .int .i64 t560, .int .i64 t561, .int .i64 t562, .bool t563, .slice Ao13 t564.length co13]] ?_
              with_reducible refine (impl_SpanOk.calls kj8 t559 t560 t561 t562 t563 _ _ t564 _ _ ?side1 ?side2 A102.out).mono ?_
              (case side1 => exact zC (Kd.R_reads' HO_568005.out).2.2)
              (case side2 => exact (Kd.R_reads' HO_568005.out).2.1)
              rintro e w120 ⟨rfl, hb⟩
              refine ⟨_, rfl, ?_⟩
              replace HO_6 := zSB HO_6 hb; replace HO_568005 := zRB HO_568005 hb; replace HO_585005 := zRB HO_585005 hb; replace HO_586005 := zRB HO_586005 hb; replace BK567 := zBB BK567 hb; replace BK584 := zBB BK584 hb; replace BK585 := zBB BK585 hb; replace HR605 := Aside0.mk (Kd.C_below (zC HR605.out) hb); replace HR610 := Aside0.mk (Kd.C_below (zC HR610.out) hb); replace HB := zLB (zL3 HB.out GE567.out GE584.out GE585.out) hb
              clear hb
              refine hK.out _ _ (zc6 BK567.out) fun hHeld => ?_; clear hK K
              refine nZ 89 ?_
              refine pY 25 90 (fB 53 67108863) HT_.out ?_
              refine pY 26 91 (fB 53 134217727) HT_.out ?_
              refine pY 27 92 (fB 53 268435455) HT_.out ?_
              refine tY 28 93 (fB 53 536870911) HT_.out HW_.out hHeld ?_
              refine oN 29 94 (fB 53 1073741823) HT_.out fun K hK => ?_
              refine gS Tryd.func39 #[.agg #[.int .i64 t559, .int .i64 t560, .int .i64 t561, .int .i64 t562, .bool t563, .slice Ao13 t564.length co13]] ?_
              with_reducible refine (impl_SpanOk.calls kj8 t559 t560 t561 t562 t563 _ _ t564 true _ ?side1 ?side2 A102.out).mono ?_
              (case side1 => exact zC (Kd.R_reads' HO_568005.out).2.2)
              (case side2 => exact (Kd.R_reads' HO_568005.out).2.1)
              rintro e w121 ⟨rfl, hb⟩
              refine ⟨_, rfl, ?_⟩
              replace HO_6 := zSB HO_6 hb; replace HO_568005 := zRB HO_568005 hb; replace HO_585005 := zRB HO_585005 hb; replace HO_586005 := zRB HO_586005 hb; replace BK567 := zBB BK567 hb; replace BK584 := zBB BK584 hb; replace BK585 := zBB BK585 hb; replace HR605 := Aside0.mk (Kd.C_below (zC HR605.out) hb); replace HR610 := Aside0.mk (Kd.C_below (zC HR610.out) hb); replace HB := zLB (zL3 HB.out GE567.out GE584.out GE585.out) hb
              clear hb
              refine hK.out _ _ (zc6 BK567.out) fun hHeld => ?_; clear hK K
              refine nZ 94 ?_
              refine pY 30 95 (fB 53 2147483647) HT_.out ?_
              refine pY 31 96 (fB 53 4294967295) HT_.out ?_
              refine tY 32 97 (fB 53 8589934591) HT_.out HW_.out hHeld ?_
              refine oN 33 98 (fB 53 17179869183) HT_.out fun K hK => ?_
              refine gS Tryd.func41 #[.agg #[.int .i64 t559, .int .i64 t560, .int .i64 t561, .int .i64 t562, .bool t563, .slice Ao13 t564.length co13]] ?_
              with_reducible refine (impl_SizeOf.calls kj8 t559 t560 t561 t562 t563 _ _ t564 t617 _ ?side1 ?side2 A106.out).mono ?_
              (case side1 => exact zC (Kd.R_reads' HO_568005.out).2.2)
              (case side2 => exact (Kd.R_reads' HO_568005.out).2.1)
              rintro e w122 ⟨rfl, hb⟩
              refine ⟨_, rfl, ?_⟩
              replace HO_6 := zSB HO_6 hb; replace HO_568005 := zRB HO_568005 hb; replace HO_585005 := zRB HO_585005 hb; replace HO_586005 := zRB HO_586005 hb; replace BK567 := zBB BK567 hb; replace BK584 := zBB BK584 hb; replace BK585 := zBB BK585 hb; replace HR605 := Aside0.mk (Kd.C_below (zC HR605.out) hb); replace HR610 := Aside0.mk (Kd.C_below (zC HR610.out) hb); replace HB := zLB (zL3 HB.out GE567.out GE584.out GE585.out) hb
              clear hb
              refine hK.out _ _ (zc6 BK567.out) fun hHeld => ?_; clear hK K
              refine nZ 98 ?_
              refine pY 34 99 (fB 53 34359738367) HT_.out ?_
              refine pY 35 100 (fB 53 68719476735) HT_.out ?_
              refine tY 36 101 (fB 53 137438953471) HT_.out HW_.out hHeld ?_
              refine oN 37 102 (fB 53 274877906943) HT_.out fun K hK => ?_
              refine gS Tryd.func41 #[.agg #[.int .i64 t559, .int .i64 t560, .int .i64 t561, .int .i64 t562, .bool t563, .slice Ao13 t564.length co13]] ?_
              with_reducible refine (impl_SizeOf.calls kj8 t559 t560 t561 t562 t563 _ _ t564 t617 _ ?side1 ?side2 A106.out).mono ?_
              (case side1 => exact zC (Kd.R_reads' HO_568005.out).2.2)
              (case side2 => exact (Kd.R_reads' HO_568005.out).2.1)
              rintro e w123 ⟨rfl, hb⟩
              refine ⟨_, rfl, ?_⟩
              replace HO_6 := zSB HO_6 hb; replace HO_568005 := zRB HO_568005 hb; replace HO_585005 := zRB HO_585005 hb; replace HO_586005 := zRB HO_586005 hb; replace BK567 := zBB BK567 hb; replace BK584 := zBB BK584 hb; replace BK585 := zBB BK585 hb; replace HR605 := Aside0.mk (Kd.C_below (zC HR605.out) hb); replace HR610 := Aside0.mk (Kd.C_below (zC HR610.out) hb); replace HB := zLB (zL3 HB.out GE567.out GE584.out GE585.out) hb
              clear hb
              refine hK.out _ _ (zc6 BK567.out) fun hHeld => ?_; clear hK K
              refine nZ 102 ?_
              refine pY 38 103 (fB 53 549755813887) HT_.out ?_
              refine pY 39 104 (fB 53 1099511627775) HT_.out ?_
              refine pY 40 105 (fB 53 2199023255551) HT_.out ?_
              refine pY 43 108 (fB 53 10995116277759) HT_.out ?_
              refine pY 45 110 (fB 53 46179488366591) HT_.out ?_
              refine tY 41 106 (fB 53 48378511622143) HT_.out HW_.out hHeld ?_
              refine tY 44 109 (fB 53 65970697666559) HT_.out HW_.out hHeld ?_
              refine tY 46 111 (fB 53 136339441844223) HT_.out HW_.out hHeld ?_
              refine pY 47 112 (fB 53 277076930199551) HT_.out ?_
              refine oN 42 107 (fB 53 281474976710655) HT_.out fun K hK => ?_
              refine gS Tryd.func43 #[.agg #[.int .i64 t559, .int .i64 t560, .int .i64 t561, .int .i64 t562, .bool t563, .slice Ao13 t564.length co13]] ?_
              with_reducible refine (impl_LengthOf.calls t559 t560 t561 t562 t563 _ _ t564 t619 _ ?side1 ?side2 A110.out).mono ?_
              (case side1 => exact zC (Kd.R_reads' HO_568005.out).2.2)
              (case side2 => exact (Kd.R_reads' HO_568005.out).2.1)
              rintro e w124 ⟨rfl, hb⟩
              refine ⟨_, rfl, ?_⟩
              replace HO_6 := zSB HO_6 hb; replace HO_568005 := zRB HO_568005 hb; replace HO_585005 := zRB HO_585005 hb; replace HO_586005 := zRB HO_586005 hb; replace BK567 := zBB BK567 hb; replace BK584 := zBB BK584 hb; replace BK585 := zBB BK585 hb; replace HR605 := Aside0.mk (Kd.C_below (zC HR605.out) hb); replace HR610 := Aside0.mk (Kd.C_below (zC HR610.out) hb); replace HB := zLB (zL3 HB.out GE567.out GE584.out GE585.out) hb
              clear hb
              refine hK.out _ _ (zc6 BK567.out) fun hHeld => ?_; clear hK K
              refine nZ 107 ?_
              refine pY 48 113 (fB 53 562949953421311) HT_.out ?_
              refine pY 49 114 (fB 53 1125899906842623) HT_.out ?_
              refine pY 50 115 (fB 53 2251799813685247) HT_.out ?_
              refine pY 51 116 (fB 53 4503599627370495) HT_.out ?_
              refine pY 52 2 (fB 53 9007199254740991) HT_.out ?_
              refine done_ (done_of HT_.out (by kernel_rfl)) ?_
              try go_wp2
              go_ret
              exact ⟨by first | rfl | (simp [errW_none, errW_some] <;> rfl) | (simp only [← hji90]; first | rfl | (simp [errW_none, errW_some] <;> rfl)) | (simp [*, errW_none, errW_some] <;> rfl), zL3 HB.out GE567.out GE584.out GE585.out⟩
             ·rw [if_neg c109] at H
              have c109b0 := decide_eq_false c109
              clear c109
              exact absurd ((Option.some.inj H).trans hrt_.out) (by decide)
            ·rw [if_neg c107] at H
             have c107b0 := decide_eq_false c107
             clear c107
             exact absurd ((Option.some.inj H).trans hrt_.out) (by decide)
           ·obtain rfl := Bool.eq_false_iff.mpr c105
            rw [if_neg zn] at H
            obtain rfl := Option.some.inj H
            try go_wp2
            replace HO_6 := zSD HO_6; replace HO_568005 := zRD HO_568005; replace HO_585005 := zRD HO_585005; replace HO_586005 := zRD HO_586005; replace BK567 := zBD BK567; replace BK584 := zBD BK584; replace BK585 := zBD BK585; replace HB := zLD HB
            have q126 : ((ji90) : Int) ≤ ((t586.length : Int) : Int) := zD
            obtain ⟨i0126, hi0126, _, hsz126, _⟩ := info_parts info38
            have hroom126 : t586.length ≤ co25 := (Kd.S_reads' HO_6.out).2.1
            have hC126 : Kd.C k38 _ Ao25 t586.length t586 := (Kd.S_reads' HO_6.out).2.2
            have hcut126 := cut_to (P := Tryd.prog) 59 38 .i64 Tryd.underlying59 hi0126 Ao25 t586.length co25 (ji90) (zD) q126 hroom126
            have hr126 := Kd.C_take (m := ((ji90) : Int).toNat) hC126 (by omega)
            have hy126 : y602.length = ((ji90) : Int).toNat := (by rw [Ny602.out, List.length_take]; omega)
            rw [← Ny602.out] at hr126
            rw [← hy126] at hcut126
            have HR605 := Aside0.mk hr126
            have HC605 := Aside0.mk (show y602.length ≤ co25 from by omega)
            clear hr126 hC126 hroom126 hi0126 hsz126
            have KY126 := Aside0.mk hy126
            clear hy126
            have KL126 := Aside0.mk (show ((ji90) : Int).toNat ≤ t586.length from by omega)
            replace q126 := eq_true q126
            have q127 : ((ji90) : Int) ≤ ((t586.length : Int) : Int) := zD
            obtain ⟨i0127, hi0127, _, hsz127, _⟩ := info_parts info38
            have hroom127 : t586.length ≤ co25 := (Kd.S_reads' HO_6.out).2.1
            have hC127 : Kd.C k38 _ Ao25 t586.length t586 := (Kd.S_reads' HO_6.out).2.2
            have q0127 : (0 : Int) ≤ ((ji90) : Int) := zD
            have hcut127 := cut_from (P := Tryd.prog) 59 38 .i64 Tryd.underlying59 hi0127 6 hsz127 Ao25 t586.length co25 (ji90) q0127 q127
            have hr127 := Kd.C_drop (m := ((ji90) : Int).toNat) (c := co25) hC127 (by omega) hroom127
            obtain ⟨A127, hA127⟩ : ∃ A1, A1 = (if co25 = ((ji90) : Int).toNat then Ao25 else (Ao25 : Option Addr).map (·.add (((ji90) : Int).toNat * 6))) := ⟨_, rfl⟩
            obtain ⟨c127, hc127⟩ : ∃ c1, c1 = co25 - ((ji90) : Int).toNat := ⟨_, rfl⟩
            have hy127 : y607.length = t586.length - ((ji90) : Int).toNat := (by rw [Ny607.out, List.length_drop] <;> omega)
            rw [show (t586).drop ((ji90) : Int).toNat = y607 from Ny607.out.symm] at hr127
            replace hr127 : Kd.C k38 _ A127 y607.length y607 := (by rw [hA127]; exact hr127)
            rw [← hy127, ← hA127, ← hc127] at hcut127
            have HR610 := Aside0.mk hr127
            have HC610 := Aside0.mk (show y607.length ≤ c127 from by rw [hy127, hc127]; exact Nat.sub_le_sub_right hroom127 _)
            clear hr127 hC127 hroom127 hi0127 hsz127 hc127
            have KY127 := Aside0.mk hy127
            have KA127 := Aside0.mk hA127
            clear hy127 hA127
            have KL127 := Aside0.mk (show ((ji90) : Int).toNat ≤ t586.length from by omega)
            replace q127 := eq_true q127
            refine start_ (n := 53) (S := fun w' => zs6 w' gb567 (.int .i64 t559) (.int .i64 t560) (.int .i64 t561) (.int .i64 t562) (.bool t563) (.slice Ao13 t564.length co13)) (ds := []) (fB 53 0) (by kernel_rfl) rfl rfl (zc6 BK567.out) (fun hHeld => ?_); refine with_tabW laws_FnSpans.tab9 laws_FnSpans.bits9 (fun HT_ HW_ => ?_)
            generalize wc.drew = w125 at HO_6 HO_568005 HO_585005 HO_586005 BK567 BK584 BK585 HB HR605 HR610 hHeld ⊢
            refine pY 0 65 (fB 53 1) HT_.out ?_
            refine pY 2 67 (fB 53 5) HT_.out ?_
            refine pY 3 68 (fB 53 13) HT_.out ?_
            refine pY 4 69 (fB 53 29) HT_.out ?_
            refine pY 6 71 (fB 53 93) HT_.out ?_
            refine pY 7 72 (fB 53 221) HT_.out ?_
            refine pY 8 73 (fB 53 477) HT_.out ?_
            refine oN 1 66 (fB 53 479) HT_.out fun K hK => ?_
            refine gS Tryd.func47 #[.slice Ao25 t586.length co25] ?_
            with_reducible refine (impl_TotalOf.calls kj8 _ _ t586 t601 _ ?side1 ?side2 A89.out).mono ?_
            (case side1 => exact zC (Kd.S_reads' HO_6.out).2.2)
            (case side2 => exact (Kd.S_reads' HO_6.out).2.1)
            rintro e w128 ⟨rfl, hb⟩
            refine ⟨_, rfl, ?_⟩
            replace HO_6 := zSB HO_6 hb; replace HO_568005 := zRB HO_568005 hb; replace HO_585005 := zRB HO_585005 hb; replace HO_586005 := zRB HO_586005 hb; replace BK567 := zBB BK567 hb; replace BK584 := zBB BK584 hb; replace BK585 := zBB BK585 hb; replace HR605 := Aside0.mk (Kd.C_below (zC HR605.out) hb); replace HR610 := Aside0.mk (Kd.C_below (zC HR610.out) hb); replace HB := zLB (zL3 HB.out GE567.out GE584.out GE585.out) hb
            clear hb
            refine hK.out _ _ (zc6 BK567.out) fun hHeld => ?_; clear hK K
            refine nZ 66 ?_
            refine oN 5 70 (fB 53 511) HT_.out fun K hK => ?_
            refine gS Tryd.func47 #[.slice Ao25 y602.length co25] ?_
            with_reducible refine (impl_TotalOf.calls kj8 _ _ y602 t606 _ ?side1 ?side2 A93.out).mono ?_
            (case side1 => repeat (first | exact (zC HR605.out) | (with_reducible refine Kd.C_alloc ?_ _) | (with_reducible refine Kd.C_drewN ?_ _) | (with_reducible refine Kd.C_drew ?_)))
            (case side2 => exact HC605.out)
            rintro e w129 ⟨rfl, hb⟩
            refine ⟨_, rfl, ?_⟩
            replace HO_6 := zSB HO_6 hb; replace HO_568005 := zRB HO_568005 hb; replace HO_585005 := zRB HO_585005 hb; replace HO_586005 := zRB HO_586005 hb; replace BK567 := zBB BK567 hb; replace BK584 := zBB BK584 hb; replace BK585 := zBB BK585 hb; replace HR605 := Aside0.mk (Kd.C_below (zC HR605.out) hb); replace HR610 := Aside0.mk (Kd.C_below (zC HR610.out) hb); replace HB := zLB (zL3 HB.out GE567.out GE584.out GE585.out) hb
            clear hb
            refine hK.out _ _ (zc6 BK567.out) fun hHeld => ?_; clear hK K
            refine nZ 70 ?_
            refine oN 9 74 (fB 53 1023) HT_.out fun K hK => ?_
            refine gS Tryd.func47 #[.slice A127 y607.length c127] ?_
            with_reducible refine (impl_TotalOf.calls kj8 _ _ y607 t611 _ ?side1 ?side2 A96.out).mono ?_
            (case side1 => repeat (first | exact (zC HR610.out) | (with_reducible refine Kd.C_alloc ?_ _) | (with_reducible refine Kd.C_drewN ?_ _) | (with_reducible refine Kd.C_drew ?_)))
            (case side2 => exact HC610.out)
            rintro e w130 ⟨rfl, hb⟩
            refine ⟨_, rfl, ?_⟩
            replace HO_6 := zSB HO_6 hb; replace HO_568005 := zRB HO_568005 hb; replace HO_585005 := zRB HO_585005 hb; replace HO_586005 := zRB HO_586005 hb; replace BK567 := zBB BK567 hb; replace BK584 := zBB BK584 hb; replace BK585 := zBB BK585 hb; replace HR605 := Aside0.mk (Kd.C_below (zC HR605.out) hb); replace HR610 := Aside0.mk (Kd.C_below (zC HR610.out) hb); replace HB := zLB (zL3 HB.out GE567.out GE584.out GE585.out) hb
            clear hb
            refine hK.out _ _ (zc6 BK567.out) fun hHeld => ?_; clear hK K
            refine nZ 74 ?_
            refine pY 10 75 (fB 53 2047) HT_.out ?_
            refine pY 11 76 (fB 53 4095) HT_.out ?_
            refine pY 12 77 (fB 53 8191) HT_.out ?_
            refine pY 13 78 (fB 53 16383) HT_.out ?_
            refine pY 15 80 (fB 53 49151) HT_.out ?_
            refine oN 14 79 (fB 53 65535) HT_.out fun K hK => ?_
            refine gS Tryd.func47 #[.slice Ao25 t586.length co25] ?_
            with_reducible refine (impl_TotalOf.calls kj8 _ _ t586 t601 _ ?side1 ?side2 A89.out).mono ?_
            (case side1 => exact zC (Kd.S_reads' HO_6.out).2.2)
            (case side2 => exact (Kd.S_reads' HO_6.out).2.1)
            rintro e w131 ⟨rfl, hb⟩
            refine ⟨_, rfl, ?_⟩
            replace HO_6 := zSB HO_6 hb; replace HO_568005 := zRB HO_568005 hb; replace HO_585005 := zRB HO_585005 hb; replace HO_586005 := zRB HO_586005 hb; replace BK567 := zBB BK567 hb; replace BK584 := zBB BK584 hb; replace BK585 := zBB BK585 hb; replace HR605 := Aside0.mk (Kd.C_below (zC HR605.out) hb); replace HR610 := Aside0.mk (Kd.C_below (zC HR610.out) hb); replace HB := zLB (zL3 HB.out GE567.out GE584.out GE585.out) hb
            clear hb
            refine hK.out _ _ (zc6 BK567.out) fun hHeld => ?_; clear hK K
            refine nZ 79 ?_
            refine oN 16 81 (fB 53 131071) HT_.out fun K hK => ?_
            refine gS Tryd.func48 #[.slice Ao25 t586.length co25] ?_
            with_reducible refine (spec_TotalOf.calls kj8 _ _ t586 t613 _ ?side1 ?side2 A99.out).mono ?_
            (case side1 => exact zC (Kd.S_reads' HO_6.out).2.2)
            (case side2 => exact (Kd.S_reads' HO_6.out).2.1)
            rintro e w132 ⟨rfl, hb⟩
            refine ⟨_, rfl, ?_⟩
            replace HO_6 := zSB HO_6 hb; replace HO_568005 := zRB HO_568005 hb; replace HO_585005 := zRB HO_585005 hb; replace HO_586005 := zRB HO_586005 hb; replace BK567 := zBB BK567 hb; replace BK584 := zBB BK584 hb; replace BK585 := zBB BK585 hb; replace HR605 := Aside0.mk (Kd.C_below (zC HR605.out) hb); replace HR610 := Aside0.mk (Kd.C_below (zC HR610.out) hb); replace HB := zLB (zL3 HB.out GE567.out GE584.out GE585.out) hb
            clear hb
            refine hK.out _ _ (zc6 BK567.out) fun hHeld => ?_; clear hK K
            refine nZ 81 ?_
            refine pY 17 82 (fB 53 262143) HT_.out ?_
            refine pY 18 83 (fB 53 524287) HT_.out ?_
            refine pY 19 84 (fB 53 1048575) HT_.out ?_
            refine tY 20 85 (fB 53 2097151) HT_.out HW_.out hHeld ?_
            refine tY 23 88 (fB 53 10485759) HT_.out HW_.out hHeld ?_
            refine oN 21 86 (fB 53 12582911) HT_.out fun K hK => ?_
            refine gS Tryd.func19 #[.agg #[.int .i64 t559, .int .i64 t560, .int .i64 t561, .int .i64 t562, .bool t563, .slice Ao13 t564.length co13]] ?_
            with_reducible refine (impl_SpanText.calls kj8 t559 t560 t561 t562 t563 _ _ t564 t614 _ ?side1 ?side2 (tab_at HTAB.out (zL3 HB.out GE567.out GE584.out GE585.out)) A101.out).mono ?_
            (case side1 => exact zC (Kd.R_reads' HO_568005.out).2.2)
            (case side2 => exact (Kd.R_reads' HO_568005.out).2.1)
            rintro e w133 ⟨rfl, hb⟩
            refine ⟨_, rfl, ?_⟩
            replace HO_6 := zSB HO_6 hb; replace HO_568005 := zRB HO_568005 hb; replace HO_585005 := zRB HO_585005 hb; replace HO_586005 := zRB HO_586005 hb; replace BK567 := zBB BK567 hb; replace BK584 := zBB BK584 hb; replace BK585 := zBB BK585 hb; replace HR605 := Aside0.mk (Kd.C_below (zC HR605.out) hb); replace HR610 := Aside0.mk (Kd.C_below (zC HR610.out) hb); replace HB := zLB (zL3 HB.out GE567.out GE584.out GE585.out) hb
            clear hb
            refine hK.out _ _ (zc6 BK567.out) fun hHeld => ?_; clear hK K
            refine nZ 86 ?_
            refine pY 22 87 (fB 53 16777215) HT_.out ?_
            refine oN 24 89 (fB 53 33554431) HT_.out fun K hK => ?_
            refine gS Tryd.func39 #[.agg #[.int .i64 t559, .int .i64 t560, .int .i64 t561, .int .i64 t562, .bool t563, .slice Ao13 t564.length co13]] ?_
            with_reducible refine (impl_SpanOk.calls kj8 t559 t560 t561 t562 t563 _ _ t564 _ _ ?side1 ?side2 A102.out).mono ?_
            (case side1 => exact zC (Kd.R_reads' HO_568005.out).2.2)
            (case side2 => exact (Kd.R_reads' HO_568005.out).2.1)
            rintro e w134 ⟨rfl, hb⟩
            refine ⟨_, rfl, ?_⟩
            replace HO_6 := zSB HO_6 hb; replace HO_568005 := zRB HO_568005 hb; replace HO_585005 := zRB HO_585005 hb; replace HO_586005 := zRB HO_586005 hb; replace BK567 := zBB BK567 hb; replace BK584 := zBB BK584 hb; replace BK585 := zBB BK585 hb; replace HR605 := Aside0.mk (Kd.C_below (zC HR605.out) hb); replace HR610 := Aside0.mk (Kd.C_below (zC HR610.out) hb); replace HB := zLB (zL3 HB.out GE567.out GE584.out GE585.out) hb
            clear hb
            refine hK.out _ _ (zc6 BK567.out) fun hHeld => ?_; clear hK K
            refine nZ 89 ?_
            refine pY 25 90 (fB 53 67108863) HT_.out ?_
            refine pY 26 91 (fB 53 134217727) HT_.out ?_
            refine pY 27 92 (fB 53 268435455) HT_.out ?_
            refine tY 28 93 (fB 53 536870911) HT_.out HW_.out hHeld ?_
            refine oN 29 94 (fB 53 1073741823) HT_.out fun K hK => ?_
            refine gS Tryd.func39 #[.agg #[.int .i64 t559, .int .i64 t560, .int .i64 t561, .int .i64 t562, .bool t563, .slice Ao13 t564.length co13]] ?_
            with_reducible refine (impl_SpanOk.calls kj8 t559 t560 t561 t562 t563 _ _ t564 false _ ?side1 ?side2 A102.out).mono ?_
            (case side1 => exact zC (Kd.R_reads' HO_568005.out).2.2)
            (case side2 => exact (Kd.R_reads' HO_568005.out).2.1)
            rintro e w135 ⟨rfl, hb⟩
            refine ⟨_, rfl, ?_⟩
            replace HO_6 := zSB HO_6 hb; replace HO_568005 := zRB HO_568005 hb; replace HO_585005 := zRB HO_585005 hb; replace HO_586005 := zRB HO_586005 hb; replace BK567 := zBB BK567 hb; replace BK584 := zBB BK584 hb; replace BK585 := zBB BK585 hb; replace HR605 := Aside0.mk (Kd.C_below (zC HR605.out) hb); replace HR610 := Aside0.mk (Kd.C_below (zC HR610.out) hb); replace HB := zLB (zL3 HB.out GE567.out GE584.out GE585.out) hb
            clear hb
            refine hK.out _ _ (zc6 BK567.out) fun hHeld => ?_; clear hK K
            refine nZ 94 ?_
            refine pY 30 95 (fB 53 2147483647) HT_.out ?_
            refine pY 31 96 (fB 53 4294967295) HT_.out ?_
            refine pN 32 97 (fB 53 8589934591) HT_.out ?_
            refine pN 33 98 (fB 53 17179869183) HT_.out ?_
            refine pN 34 99 (fB 53 34359738367) HT_.out ?_
            refine pN 35 100 (fB 53 68719476735) HT_.out ?_
            refine pN 36 101 (fB 53 137438953471) HT_.out ?_
            refine pN 37 102 (fB 53 274877906943) HT_.out ?_
            refine pN 38 103 (fB 53 549755813887) HT_.out ?_
            refine pN 39 104 (fB 53 1099511627775) HT_.out ?_
            refine pN 40 105 (fB 53 2199023255551) HT_.out ?_
            refine pN 41 106 (fB 53 4398046511103) HT_.out ?_
            refine pN 42 107 (fB 53 8796093022207) HT_.out ?_
            refine pN 43 108 (fB 53 17592186044415) HT_.out ?_
            refine pN 44 109 (fB 53 35184372088831) HT_.out ?_
            refine pN 45 110 (fB 53 70368744177663) HT_.out ?_
            refine pN 46 111 (fB 53 140737488355327) HT_.out ?_
            refine pN 47 112 (fB 53 281474976710655) HT_.out ?_
            refine pN 48 113 (fB 53 562949953421311) HT_.out ?_
            refine pN 49 114 (fB 53 1125899906842623) HT_.out ?_
            refine pY 50 115 (fB 53 2251799813685247) HT_.out ?_
            refine pY 51 116 (fB 53 4503599627370495) HT_.out ?_
            refine pY 52 2 (fB 53 9007199254740991) HT_.out ?_
            refine done_ (done_of HT_.out (by kernel_rfl)) ?_
            try go_wp2
            go_ret
            exact ⟨by first | rfl | (simp [errW_none, errW_some] <;> rfl) | (simp only [← hji90]; first | rfl | (simp [errW_none, errW_some] <;> rfl)) | (simp [*, errW_none, errW_some] <;> rfl), zL3 HB.out GE567.out GE584.out GE585.out⟩
          ·rw [if_neg c103] at H
           have c103b0 : ((t614.toList != ([] : List UInt8)) == t615) = false := by simpa using c103
           (try (have c103b4 : ((!t614.toList.isEmpty) == t615) = false := by have z_ := c103b0; rw [show (t614.toList != ([] : List UInt8)) = !t614.toList.isEmpty from by cases t614.toList <;> rfl] at z_; exact z_))
           (try (have c103b1 : decide ((t614.toList != ([] : List UInt8)) = t615) = false := by simpa using c103))
           (try (have c103b2 : ((t614.toList != ([] : List UInt8)) == t615) = false := by simpa using c103))
           (try (have c103b3 : ¬ ((t614.toList != ([] : List UInt8)) = t615) := by simpa using c103))
           clear c103
           exact absurd ((Option.some.inj H).trans hrt_.out) (by decide)
         ·rw [if_neg c100] at H
          obtain ⟨c100b0, c100b1⟩ := zf c100
          exact absurd ((Option.some.inj H).trans hrt_.out) (by decide)
        ·rw [if_neg c97] at H
         obtain ⟨c97b0, c97b1⟩ := zf c97
         exact absurd ((Option.some.inj H).trans hrt_.out) (by decide)
       ·rw [if_neg c92] at H
        exact absurd H (by simp)
      ·rw [if_neg c91] at H
       exact absurd H (by simp)

end Go.Proofs.YtkhbhdchakbmhaaDoor.QFnSpans
