/- What the Go functions that the law FnJudges reaches answer: each as a Lean function, with its walk. Written by a program of this session. Conditions: those that each theorem names. -/
import Derived.Test.YtfhblnbicnmndaaQFnJudgesx0
import Derived.Test.YtfhblnbicnmndaaQFnJudgesx1
import Derived.Test.YtfhblnbicnmndaaQFnJudgesx2
import Derived.Test.YtfhblnbicnmndaaQFnJudgesx3
namespace Go.Proofs.Ytfhblnbicnmndaa.QFnJudges
open Go.RowKit Go.Proofs.YtfhblnbicnmndaaW.PrintWords Go.Proofs.YtfhblnbicnmndaaW.PrintLast Go.Proofs.YtfhblnbicnmndaaW.PrintMore
attribute [local go_sem] max2_int min2_int max_two min_two max_three min_three max_four min_four   -- for this text's walks alone
set_option linter.unusedVariables false
set_option linter.unusedSimpArgs false

open Go.Proofs.YtfhblnbicnmndaaW.PrintWords renaming blk_drewN → bN, blk_drew → bD, blk_alloc → bA, blk_cell → bC, blk_below → bB, below_set → bS
/-! ### spec_Wants: function 38 -/
mutual
def spec_Wants.j0 : Nat → List (S73) → Int → Int → Bool → Int → Int → ByteArray → ByteArray → List (S29) → Option (Bool)
 | 0, _, _, _, _, _, _, _, _, _ => none
 | k + 1, x1, x2, x10, x30, x206000, x206001, x206002, x206003, x206004 => if x30 = true then ((spec_l6Some.f k x206000 x206001 x206002 x206003 x206004 x1).bind fun t208 => (some t208)) else (if x10 = 6 then (some (decide (x2 ≥ (x1.length : Int)))) else (if x10 = 7 then (spec_Wants.l0 k x1 x2 0 x206000 x206001 x206002 x206003 x206004) else (if x10 = 8 then (spec_Wants.l1 k x1 x2 0 x206000 x206001 x206002 x206003 x206004) else (if x10 = 9 then (if (x206004.length : Int) = 0 then (some true) else (if 0 < (x206004.length : Int) then ((spec_Wants.f k ((rd_T29 x206004 0).f0) ((rd_T29 x206004 0).f1) ((rd_T29 x206004 0).f2) ((rd_T29 x206004 0).f3) ((rd_T29 x206004 0).f4) x1 x2).bind fun t214 => (some (!t214))) else (none))) else (some false)))))
def spec_Wants.l0 : Nat → List (S73) → Int → Int → Int → Int → ByteArray → ByteArray → List (S29) → Option (Bool)
 | 0, _, _, _, _, _, _, _, _ => none
 | k + 1, x1, x2, x7, x206000, x206001, x206002, x206003, x206004 => if x7 < (x206004.length : Int) then (if 0 ≤ x7 then ((spec_Wants.f k ((rd_T29 x206004 x7).f0) ((rd_T29 x206004 x7).f1) ((rd_T29 x206004 x7).f2) ((rd_T29 x206004 x7).f3) ((rd_T29 x206004 x7).f4) x1 x2).bind fun t210 => (if t210 = true then (spec_Wants.l0 k x1 x2 (wrap64 (x7 + 1)) x206000 x206001 x206002 x206003 x206004) else (some false))) else (none)) else (some true)
def spec_Wants.l1 : Nat → List (S73) → Int → Int → Int → Int → ByteArray → ByteArray → List (S29) → Option (Bool)
 | 0, _, _, _, _, _, _, _, _ => none
 | k + 1, x1, x2, x8, x206000, x206001, x206002, x206003, x206004 => if x8 < (x206004.length : Int) then (if 0 ≤ x8 then ((spec_Wants.f k ((rd_T29 x206004 x8).f0) ((rd_T29 x206004 x8).f1) ((rd_T29 x206004 x8).f2) ((rd_T29 x206004 x8).f3) ((rd_T29 x206004 x8).f4) x1 x2).bind fun t212 => (if t212 = true then (some true) else (spec_Wants.l1 k x1 x2 (wrap64 (x8 + 1)) x206000 x206001 x206002 x206003 x206004))) else (none)) else (some false)
def spec_Wants.f : Nat → Int → Int → ByteArray → ByteArray → List (S29) → List (S73) → Int → Option (Bool)
 | 0, _, _, _, _, _, _, _ => none
 | k + 1, a0_0, a0_1, a0_2, a0_3, l0_4, l1, a2 => if a0_0 = 1 then (some true) else (if a0_0 = 2 then ((spec_Errors.f k l1).bind fun t206 => (some (decide (t206 > 0)))) else (if a0_0 = 3 then (if (l1.length : Int) > 0 then ((spec_Longest.f k l1).bind fun t207 => (some (decide (t207 ≥ a0_1)))) else (some false)) else (if a0_0 = 4 then (spec_Wants.j0 k l1 a2 a0_0 (a0_0 == 4) a0_0 a0_1 a0_2 a0_3 l0_4) else (spec_Wants.j0 k l1 a2 a0_0 (a0_0 == 5) a0_0 a0_1 a0_2 a0_3 l0_4))))
end
theorem spec_Wants.mono_l : ∀ k, (∀ y0 y1 y2 y3 y4 y5 y6, LeO (spec_Wants.f k y0 y1 y2 y3 y4 y5 y6) (spec_Wants.f (k + 1) y0 y1 y2 y3 y4 y5 y6)) ∧ (∀ y0 y1 y2 y3 y4 y5 y6 y7 y8, LeO (spec_Wants.j0 k y0 y1 y2 y3 y4 y5 y6 y7 y8) (spec_Wants.j0 (k + 1) y0 y1 y2 y3 y4 y5 y6 y7 y8)) ∧ (∀ y0 y1 y2 y3 y4 y5 y6 y7, LeO (spec_Wants.l0 k y0 y1 y2 y3 y4 y5 y6 y7) (spec_Wants.l0 (k + 1) y0 y1 y2 y3 y4 y5 y6 y7)) ∧ (∀ y0 y1 y2 y3 y4 y5 y6 y7, LeO (spec_Wants.l1 k y0 y1 y2 y3 y4 y5 y6 y7) (spec_Wants.l1 (k + 1) y0 y1 y2 y3 y4 y5 y6 y7))
 | 0 => ⟨fun _ _ _ _ _ _ _ r h => by simp [spec_Wants.f] at h, fun _ _ _ _ _ _ _ _ _ r h => by simp [spec_Wants.j0] at h, fun _ _ _ _ _ _ _ _ r h => by simp [spec_Wants.l0] at h, fun _ _ _ _ _ _ _ _ r h => by simp [spec_Wants.l1] at h⟩
 | k + 1 => by
  obtain ⟨ih0, ih1, ih2, ih3⟩ := spec_Wants.mono_l k
  refine ⟨?_, ?_, ?_, ?_⟩
  ·intro y0 y1 y2 y3 y4 y5 y6
   unfold spec_Wants.f
   repeat' first
   | (with_reducible exact ih0 _ _ _ _ _ _ _)
   | (with_reducible exact ih1 _ _ _ _ _ _ _ _ _)
   | (with_reducible exact ih2 _ _ _ _ _ _ _ _)
   | (with_reducible exact ih3 _ _ _ _ _ _ _ _)
   | (with_reducible apply spec_Errors.mono)
   | (with_reducible apply spec_Longest.mono)
   | (with_reducible apply spec_l6Some.mono)
   | (with_reducible exact LeO.refl _)
   | (with_reducible exact LeO.none _)
   | (with_reducible refine LeO.ite ?_ ?_)
   | (with_reducible refine LeO.bind ?_ (fun _ => ?_))
   | exact ih0 _ _ _ _ _ _ _
   | exact ih1 _ _ _ _ _ _ _ _ _
   | exact ih2 _ _ _ _ _ _ _ _
   | exact ih3 _ _ _ _ _ _ _ _
   | apply spec_Errors.mono
   | apply spec_Longest.mono
   | apply spec_l6Some.mono
   | exact LeO.none _
   | refine LeO.ite ?_ ?_
   | refine LeO.bind ?_ (fun _ => ?_)
  ·intro y0 y1 y2 y3 y4 y5 y6 y7 y8
   unfold spec_Wants.j0
   repeat' first
   | (with_reducible exact ih0 _ _ _ _ _ _ _)
   | (with_reducible exact ih1 _ _ _ _ _ _ _ _ _)
   | (with_reducible exact ih2 _ _ _ _ _ _ _ _)
   | (with_reducible exact ih3 _ _ _ _ _ _ _ _)
   | (with_reducible apply spec_Errors.mono)
   | (with_reducible apply spec_Longest.mono)
   | (with_reducible apply spec_l6Some.mono)
   | (with_reducible exact LeO.refl _)
   | (with_reducible exact LeO.none _)
   | (with_reducible refine LeO.ite ?_ ?_)
   | (with_reducible refine LeO.bind ?_ (fun _ => ?_))
   | exact ih0 _ _ _ _ _ _ _
   | exact ih1 _ _ _ _ _ _ _ _ _
   | exact ih2 _ _ _ _ _ _ _ _
   | exact ih3 _ _ _ _ _ _ _ _
   | apply spec_Errors.mono
   | apply spec_Longest.mono
   | apply spec_l6Some.mono
   | exact LeO.none _
   | refine LeO.ite ?_ ?_
   | refine LeO.bind ?_ (fun _ => ?_)
  ·intro y0 y1 y2 y3 y4 y5 y6 y7
   unfold spec_Wants.l0
   repeat' first
   | (with_reducible exact ih0 _ _ _ _ _ _ _)
   | (with_reducible exact ih1 _ _ _ _ _ _ _ _ _)
   | (with_reducible exact ih2 _ _ _ _ _ _ _ _)
   | (with_reducible exact ih3 _ _ _ _ _ _ _ _)
   | (with_reducible apply spec_Errors.mono)
   | (with_reducible apply spec_Longest.mono)
   | (with_reducible apply spec_l6Some.mono)
   | (with_reducible exact LeO.refl _)
   | (with_reducible exact LeO.none _)
   | (with_reducible refine LeO.ite ?_ ?_)
   | (with_reducible refine LeO.bind ?_ (fun _ => ?_))
   | exact ih0 _ _ _ _ _ _ _
   | exact ih1 _ _ _ _ _ _ _ _ _
   | exact ih2 _ _ _ _ _ _ _ _
   | exact ih3 _ _ _ _ _ _ _ _
   | apply spec_Errors.mono
   | apply spec_Longest.mono
   | apply spec_l6Some.mono
   | exact LeO.none _
   | refine LeO.ite ?_ ?_
   | refine LeO.bind ?_ (fun _ => ?_)
  ·intro y0 y1 y2 y3 y4 y5 y6 y7
   unfold spec_Wants.l1
   repeat' first
   | (with_reducible exact ih0 _ _ _ _ _ _ _)
   | (with_reducible exact ih1 _ _ _ _ _ _ _ _ _)
   | (with_reducible exact ih2 _ _ _ _ _ _ _ _)
   | (with_reducible exact ih3 _ _ _ _ _ _ _ _)
   | (with_reducible apply spec_Errors.mono)
   | (with_reducible apply spec_Longest.mono)
   | (with_reducible apply spec_l6Some.mono)
   | (with_reducible exact LeO.refl _)
   | (with_reducible exact LeO.none _)
   | (with_reducible refine LeO.ite ?_ ?_)
   | (with_reducible refine LeO.bind ?_ (fun _ => ?_))
   | exact ih0 _ _ _ _ _ _ _
   | exact ih1 _ _ _ _ _ _ _ _ _
   | exact ih2 _ _ _ _ _ _ _ _
   | exact ih3 _ _ _ _ _ _ _ _
   | apply spec_Errors.mono
   | apply spec_Longest.mono
   | apply spec_l6Some.mono
   | exact LeO.none _
   | refine LeO.ite ?_ ?_
   | refine LeO.bind ?_ (fun _ => ?_)
theorem spec_Wants.mono : ∀ a0 a1 a2 a3 a4 a5 a6 k, LeO (spec_Wants.f k a0 a1 a2 a3 a4 a5 a6) (spec_Wants.f (k + 1) a0 a1 a2 a3 a4 a5 a6) := by
 intro a0 a1 a2 a3 a4 a5 a6 k
 obtain ⟨ih0, ih1, ih2, ih3⟩ := spec_Wants.mono_l k
 exact ih0 a0 a1 a2 a3 a4 a5 a6
def spec_Wants.T7 : Bool × List (List Nat × List Nat) := (true, [([], []), ([0], [0]), ([1], [1]), ([2], [2]), ([3], [3]), ([4, 3, 3], [3, 4]), ([3], [3]), ([6, 3], [3, 6]), ([5, 7, 3], [3, 5, 7]), ([3, 8], [3, 8]), ([9, 5, 0, 1, 2, 3, 4, 5, 6, 7, 8, 9], [9])])
def spec_Wants.B7 : List Nat := [0, 1, 3, 7, 15, 31, 15, 79, 255, 511, 1023]
theorem spec_Wants.tab7 : rtab .any (opsOf Try.f38 7) = spec_Wants.T7 := by kernel_rfl
theorem spec_Wants.bits7 : waitsOk spec_Wants.T7.2 spec_Wants.B7 = true := by kernel_rfl
set_option maxHeartbeats 8000000 in
set_option maxRecDepth 100000 in
theorem spec_Wants.calls (k : Nat) : ∀ (a0_0 : Int) (a0_1 : Int) (a0_2 : ByteArray) (a0_3 : ByteArray) (A0_4 : Option Addr) (c0_4 : Nat) (l0_4 : List (S29)) (A1 : Option Addr) (c1 : Nat) (l1 : List (S73)) (a2 : Int) (r : Bool) (w : World) (hr0_4 : Kd.C k29 w A0_4 l0_4.length l0_4) (hc0_4 : l0_4.length ≤ c0_4) (hr1 : Kd.C k73 w A1 l1.length l1) (hc1 : l1.length ≤ c1) (h : spec_Wants.f k a0_0 a0_1 a0_2 a0_3 l0_4 l1 a2 = some r),
  Calls Try.prog 38 #[.agg #[.int .i64 a0_0, .int .i64 a0_1, .string a0_2, .string a0_3, .slice A0_4 l0_4.length c0_4], .slice A1 l1.length c1, .int .i64 a2] w fun e w' => e = .returned (.bool r) ∧ Below w.heap.size w w' := by
 induction k using Nat.strongRecOn with
 | _ k ih =>
 intro a0_0 a0_1 a0_2 a0_3 A0_4 c0_4 l0_4 A1 c1 l1 a2 r w hr0_4 hc0_4 hr1 hc1 h
 cases k with
 | zero => exact absurd h (by simp [spec_Wants.f])
 | succ k =>
 simp only [spec_Wants.f] at h
 have hu29 := Try.underlying29
 have HR0_4 := Aside0.mk hr0_4
 have HC0_4 := Aside0.mk hc0_4
 clear hr0_4 hc0_4
 have HR1 := Aside0.mk hr1
 have HC1 := Aside0.mk hc1
 clear hr1 hc1
 have HB := Aside0.mk (Below.refl w.heap.size w)
 have H : (if a0_0 = 1 then (some true) else (if a0_0 = 2 then ((spec_Errors.f k l1).bind fun t206 => (some (decide (t206 > 0)))) else (if a0_0 = 3 then (if (l1.length : Int) > 0 then ((spec_Longest.f k l1).bind fun t207 => (some (decide (t207 ≥ a0_1)))) else (some false)) else (if a0_0 = 4 then (spec_Wants.j0 k l1 a2 a0_0 (a0_0 == 4) a0_0 a0_1 a0_2 a0_3 l0_4) else (spec_Wants.j0 k l1 a2 a0_0 (a0_0 == 5) a0_0 a0_1 a0_2 a0_3 l0_4))))) = some r := h
 clear h
 by_cases c4 : a0_0 = 1
 ·rw [if_pos c4] at H
  obtain ⟨c4b0, c4b1⟩ := zt c4
  clear c4
  obtain rfl := Option.some.inj H
  go_enter Try.func38, Try.ntmps38
  go_wp2_with (first | ((with_reducible refine gD 3 rfl ?_); refine bE 3 #[.int .i64 a0_0, .int .i64 a0_1, .string a0_2, .string a0_3, .slice A0_4 l0_4.length c0_4] 29 ?_; intro gb205 hg w5 hbox hb; have BK205 := Aside0.mk hbox; have GW205 := Aside0.mk (zg (zL HB.out) hg : w.heap.size ≤ gb205); have GE205 := GW205; replace HB := zLB (zL HB.out) hb; clear hb hbox hg; have hcz6 := zc5 BK205.out; have hfz6 := zf5 BK205.out))
  go_ret
  exact ⟨zW, zL1 HB.out GE205.out⟩
 ·rw [if_neg c4] at H
  obtain ⟨c4b0, c4b1⟩ := zf c4
  by_cases c7 : a0_0 = 2
  ·rw [if_pos c7] at H
   obtain ⟨c7b0, c7b1⟩ := zt c7
   clear c7
   obtain ⟨t206, A8, H⟩ := zO H; try dsimp only at H
   obtain rfl := Option.some.inj H
   go_enter Try.func38, Try.ntmps38
   go_wp2_with (first | ((with_reducible refine gD 3 rfl ?_); refine bE 3 #[.int .i64 a0_0, .int .i64 a0_1, .string a0_2, .string a0_3, .slice A0_4 l0_4.length c0_4] 29 ?_; intro gb205 hg w9 hbox hb; have BK205 := Aside0.mk hbox; have GW205 := Aside0.mk (zg (zL HB.out) hg : w.heap.size ≤ gb205); have GE205 := GW205; replace HB := zLB (zL HB.out) hb; clear hb hbox hg; have hcz10 := zc5 BK205.out; have hfz10 := zf5 BK205.out) | ((with_reducible refine gC 23 rfl ?_); refine gL 16 Try.func23 #[.slice A1 l1.length c1] ?_; (with_reducible refine (spec_Errors.calls k _ _ l1 t206 _ ?side1 ?side2 A8.out).mono ?_); (case side1 => exact zC (Kd.C_below HR1.out HB.out)); (case side2 => exact HC1.out); rintro e w' ⟨rfl, ⟨nd, rfl⟩⟩; refine ⟨_, rfl, ?_⟩))
   go_ret
   exact ⟨zW, zL1 HB.out GE205.out⟩
  ·rw [if_neg c7] at H
   obtain ⟨c7b0, c7b1⟩ := zf c7
   by_cases c11 : a0_0 = 3
   ·rw [if_pos c11] at H
    obtain ⟨c11b0, c11b1⟩ := zt c11
    clear c11
    by_cases c12 : (l1.length : Int) > 0
    ·rw [if_pos c12] at H
     have c12b0 := decide_eq_true c12
     have c12b1 : decide (0 < l1.length) = true := decide_eq_true (by omega)
     clear c12
     obtain ⟨t207, A13, H⟩ := zO H; try dsimp only at H
     obtain rfl := Option.some.inj H
     go_enter Try.func38, Try.ntmps38
     try go_wp2_with (first | ((with_reducible refine gD 3 rfl ?_); refine bE 3 #[.int .i64 a0_0, .int .i64 a0_1, .string a0_2, .string a0_3, .slice A0_4 l0_4.length c0_4] 29 ?_; intro gb205 hg w14 hbox hb; have BK205 := Aside0.mk hbox; have GW205 := Aside0.mk (zg (zL HB.out) hg : w.heap.size ≤ gb205); have GE205 := GW205; replace HB := zLB (zL HB.out) hb; clear hb hbox hg; have hcz15 := zc5 BK205.out; have hfz15 := zf5 BK205.out))
     replace BK205 := zBD BK205; replace HB := zLD HB
     refine start_ (n := 11) (S := fun w' => zs5 w' gb205 (.int .i64 a0_0) (.int .i64 a0_1) (.string a0_2) (.string a0_3) (.slice A0_4 l0_4.length c0_4)) (ds := []) (fB 11 0) (by kernel_rfl) rfl rfl (zc5 BK205.out) (fun hHeld => ?_); refine with_tabW spec_Wants.tab7 spec_Wants.bits7 (fun HT_ HW_ => ?_)
     generalize w14.drew = w16 at BK205 HB hHeld ⊢
     refine pY 0 20 (fB 11 1) HT_.out ?_
     refine pY 1 21 (fB 11 3) HT_.out ?_
     refine pY 2 22 (fB 11 7) HT_.out ?_
     refine pY 3 23 (fB 11 15) HT_.out ?_
     refine pY 4 24 (fB 11 31) HT_.out ?_
     refine pY 6 26 (fB 11 95) HT_.out ?_
     refine tY 7 27 (fB 11 223) HT_.out HW_.out hHeld ?_
     refine oN 5 25 (fB 11 255) HT_.out fun K hK => ?_
     refine gS Try.func60 #[.slice A1 l1.length c1] ?_
     with_reducible refine (spec_Longest.calls k _ _ l1 t207 _ ?side1 ?side2 A13.out).mono ?_
     (case side1 => exact zC (Kd.C_below HR1.out HB.out))
     (case side2 => exact HC1.out)
     rintro e w17 ⟨rfl, hb⟩
     refine ⟨_, rfl, ?_⟩
     replace BK205 := zBB BK205 hb; replace HB := zLB (zL1 HB.out GE205.out) hb
     clear hb
     refine hK.out _ _ (zc5 BK205.out) fun hHeld => ?_; clear hK K
     refine nZ 25 ?_
     refine pY 8 28 (fB 11 511) HT_.out ?_
     refine pY 9 29 (fB 11 1023) HT_.out ?_
     refine pY 10 6 (fB 11 2047) HT_.out ?_
     refine done_ (done_of HT_.out (by kernel_rfl)) ?_
     try go_wp2
     go_ret
     exact ⟨zW, zL1 HB.out GE205.out⟩
    ·rw [if_neg c12] at H
     have c12b0 := decide_eq_false c12
     have c12b1 : decide (0 < l1.length) = false := decide_eq_false (by omega)
     clear c12
     obtain rfl := Option.some.inj H
     go_enter Try.func38, Try.ntmps38
     try go_wp2_with (first | ((with_reducible refine gD 3 rfl ?_); refine bE 3 #[.int .i64 a0_0, .int .i64 a0_1, .string a0_2, .string a0_3, .slice A0_4 l0_4.length c0_4] 29 ?_; intro gb205 hg w18 hbox hb; have BK205 := Aside0.mk hbox; have GW205 := Aside0.mk (zg (zL HB.out) hg : w.heap.size ≤ gb205); have GE205 := GW205; replace HB := zLB (zL HB.out) hb; clear hb hbox hg; have hcz19 := zc5 BK205.out; have hfz19 := zf5 BK205.out))
     replace BK205 := zBD BK205; replace HB := zLD HB
     refine start_ (n := 11) (S := fun w' => True) (ds := []) (fB 11 0) (by kernel_rfl) rfl rfl trivial (fun hHeld => ?_); refine with_tabW spec_Wants.tab7 spec_Wants.bits7 (fun HT_ HW_ => ?_)
     generalize w18.drew = w20 at BK205 HB hHeld ⊢
     refine pY 0 20 (fB 11 1) HT_.out ?_
     refine pY 1 21 (fB 11 3) HT_.out ?_
     refine pY 2 22 (fB 11 7) HT_.out ?_
     refine pY 3 23 (fB 11 15) HT_.out ?_
     refine pN 4 24 (fB 11 31) HT_.out ?_
     refine pN 5 25 (fB 11 63) HT_.out ?_
     refine pN 6 26 (fB 11 127) HT_.out ?_
     refine pN 7 27 (fB 11 255) HT_.out ?_
     refine pN 8 28 (fB 11 511) HT_.out ?_
     refine pY 9 29 (fB 11 1023) HT_.out ?_
     refine pY 10 6 (fB 11 2047) HT_.out ?_
     refine done_ (done_of HT_.out (by kernel_rfl)) ?_
     try go_wp2
     go_ret
     exact ⟨zW, zL1 HB.out GE205.out⟩
   ·rw [if_neg c11] at H
    obtain ⟨c11b0, c11b1⟩ := zf c11
    have HC21 := Aside0.mk H
    clear H
    go_enter Try.func38, Try.ntmps38
    go_upto_if 30 with (first | ((with_reducible refine gD 3 rfl ?_); refine bE 3 #[.int .i64 a0_0, .int .i64 a0_1, .string a0_2, .string a0_3, .slice A0_4 l0_4.length c0_4] 29 ?_; intro gb205 hg w22 hbox hb; have BK205 := Aside0.mk hbox; have GW205 := Aside0.mk (zg (zL HB.out) hg : w.heap.size ≤ gb205); have GE205 := GW205; replace HB := zLB (zL HB.out) hb; clear hb hbox hg; have hcz23 := zc5 BK205.out; have hfz23 := zf5 BK205.out))
    (try simp only [Act.put, List.setIfInBounds_toArray, List.set_cons_zero, List.set_cons_succ])
    go_cut [30] (fun v30 wc => ∃ (kq : Nat) (x30_20 : Bool), v30 = .bool x30_20 ∧ Aside0 (spec_Wants.j0 kq l1 a2 a0_0 x30_20 a0_0 a0_1 a0_2 a0_3 l0_4 = some r) ∧ Aside0 (kq ≤ k) ∧ Aside0 (wc.heap[gb205]? = some (.cells #[.int .i64 a0_0, .int .i64 a0_1, .string a0_2, .string a0_3, (.slice A0_4 l0_4.length c0_4)] 29 (0, 0))) ∧ Aside0 (Below w.heap.size w wc))
    case first =>
     have H := HC21.out
     clear HC21
     by_cases c24 : a0_0 = 4
     ·rw [if_pos c24] at H
      obtain ⟨c24b0, c24b1⟩ := zt c24
      clear c24
      (first | rw [c24b0] | (simp only [i64_w, i32_w]; rw [c24b0]) | skip)
      have H' := Aside0.mk H
      clear H
      go_wp2
      go_meet
      case rel => exact ⟨_, ((a0_0 == 4)), zV, H', ⟨by first | omega | exact Nat.le_refl _⟩, ⟨zB BK205.out⟩, ⟨zL1 HB.out GE205.out⟩⟩
     ·rw [if_neg c24] at H
      obtain ⟨c24b0, c24b1⟩ := zf c24
      (first | rw [c24b0] | (simp only [i64_w, i32_w]; rw [c24b0]) | skip)
      have H' := Aside0.mk H
      clear H
      go_wp2
      go_meet
      case rel => exact ⟨_, ((a0_0 == 5)), zV, H', ⟨by first | omega | exact Nat.le_refl _⟩, ⟨zB BK205.out⟩, ⟨zL1 HB.out GE205.out⟩⟩
    case rest =>
     clear HC21
     try clear c1
     try clear c2
     try clear p2
     try clear c3
     try clear c4
     try clear c4b0
     try clear c4b1
     try clear c6
     try clear c7
     try clear c7b0
     try clear c7b1
     try clear c11
     try clear c11b0
     try clear c11b1
     try clear c12
     try clear c12b0
     try clear c12b1
     try clear c23
     try clear c24
     try clear c24b0
     try clear c24b1
     try clear hcz10; try clear hcz15; try clear hcz19; try clear hcz23; try clear hcz6; try clear hfz10; try clear hfz15; try clear hfz19; try clear hfz23; try clear hfz6
     obtain ⟨kq, x30_20, rfl, HA, HJ20, BK205, HB⟩ := hcut
     cases kq with
     | zero => exact absurd HA.out (by simp [spec_Wants.j0])
     | succ kj20 =>
      have H := HA.out
      clear HA
      simp only [spec_Wants.j0] at H
      by_cases c25 : x30_20 = true
      ·subst c25
       rw [if_pos rfl] at H
       obtain ⟨t208, A26, H⟩ := zO H; try dsimp only at H
       obtain rfl := Option.some.inj H
       have hcz27 := zc5 BK205.out
       have hfz27 := zf5 BK205.out
       go_wp2_with (first | ((with_reducible refine gC 61 rfl ?_); refine gL 35 Try.func61 #[.agg #[.int .i64 a0_0, .int .i64 a0_1, .string a0_2, .string a0_3, .slice A0_4 l0_4.length c0_4], .slice A1 l1.length c1] ?_; (with_reducible refine (spec_l6Some.calls kj20 a0_0 a0_1 a0_2 a0_3 _ _ l0_4 _ _ l1 t208 _ ?side1 ?side2 ?side3 ?side4 A26.out).mono ?_); (case side1 => exact zC (Kd.C_below HR0_4.out HB.out)); (case side2 => exact HC0_4.out); (case side3 => exact zC (Kd.C_below HR1.out HB.out)); (case side4 => exact HC1.out); rintro e w28 ⟨rfl, hb⟩; refine ⟨_, rfl, ?_⟩; replace BK205 := zBB BK205 hb; replace HB := zLB (zL1 HB.out GE205.out) hb; clear hb))
       go_ret
       exact ⟨zW, zL1 HB.out GE205.out⟩
      ·obtain rfl := Bool.eq_false_iff.mpr c25
       rw [if_neg zn] at H
       by_cases c29 : a0_0 = 6
       ·rw [if_pos c29] at H
        obtain ⟨c29b0, c29b1⟩ := zt c29
        clear c29
        obtain rfl := Option.some.inj H
        go_wp2
        go_ret
        exact ⟨zW, zL1 HB.out GE205.out⟩
       ·rw [if_neg c29] at H
        obtain ⟨c29b0, c29b1⟩ := zf c29
        by_cases c30 : a0_0 = 7
        ·rw [if_pos c30] at H
         obtain ⟨c30b0, c30b1⟩ := zt c30
         clear c30
         have H' := Aside0.mk H
         clear H
         go_wp2
         go_loopg [7] kj20 (fun kq v7 w' => ∃ (x7_2 : Int), v7 = .int .i64 x7_2 ∧ Aside0 (spec_Wants.l0 kq l1 a2 x7_2 a0_0 a0_1 a0_2 a0_3 l0_4 = some r) ∧ Aside0 (kq ≤ kj20) ∧ Aside0 (w'.heap[gb205]? = some (.cells #[.int .i64 a0_0, .int .i64 a0_1, .string a0_2, .string a0_3, (.slice A0_4 l0_4.length c0_4)] 29 (0, 0))) ∧ Aside0 (Below w.heap.size w w'))
         case atStart => exact ⟨(0), zV, H', ⟨Nat.le_refl _⟩, ⟨zB BK205.out⟩, ⟨zL1 HB.out GE205.out⟩⟩
         case round =>
          clear H'
          try clear c1
          try clear c2
          try clear p2
          try clear c3
          try clear c4
          try clear c4b0
          try clear c4b1
          try clear c6
          try clear c7
          try clear c7b0
          try clear c7b1
          try clear c11
          try clear c11b0
          try clear c11b1
          try clear c12
          try clear c12b0
          try clear c12b1
          try clear c23
          try clear c24
          try clear c24b0
          try clear c24b1
          try clear c25
          try clear c29
          try clear c29b0
          try clear c29b1
          try clear c30
          try clear c30b0
          try clear c30b1
          try clear hcz10; try clear hcz15; try clear hcz19; try clear hcz23; try clear hcz27; try clear hcz6; try clear hfz10; try clear hfz15; try clear hfz19; try clear hfz23; try clear hfz27; try clear hfz6
          try clear p2
          try clear BK205
          obtain ⟨x7_2, rfl, HA, HK2, BK205, HB⟩ := hrel
          cases gk with
          | zero => exact absurd HA.out (by simp [spec_Wants.l0])
          | succ k2 =>
           have H := HA.out
           clear HA
           simp only [spec_Wants.l0] at H
           by_cases c31 : x7_2 < (l0_4.length : Int)
           ·rw [if_pos c31] at H
            have c31b0 := decide_eq_true c31
            clear c31
            by_cases c32 : 0 ≤ x7_2
            ·rw [if_pos c32] at H
             have c32b0 := decide_eq_true c32
             clear c32
             obtain ⟨t210, A33, H⟩ := zO H; try dsimp only at H
             by_cases c34 : t210 = true
             ·subst c34
              rw [if_pos rfl] at H
              have H' := Aside0.mk H
              clear H
              have hcz35 := zc5 BK205.out
              have hfz35 := zf5 BK205.out
              have p209 : 0 ≤ (x7_2 : Int) := zD
              have q209 : x7_2 < (l0_4.length : Int) := zD
              obtain ⟨ad209, A209_4, c209_4, e209, hx209_0, hx209_1, hx209_2, hx209_3, hx209_4, hl209_4, hi209_4⟩ := at_T29 HR0_4.out x7_2 p209 q209
              cases e209
              replace hx209_0 := zh HB.out hx209_0
              replace hx209_1 := zh HB.out hx209_1
              replace hx209_2 := zh HB.out hx209_2
              replace hx209_3 := zh HB.out hx209_3
              replace hx209_4 := zh HB.out hx209_4
              have HR209_4 := Aside0.mk hi209_4
              have HC209_4 := Aside0.mk hl209_4
              clear hi209_4 hl209_4
              replace p209 := eq_true p209
              replace q209 := eq_true q209
              go_wp2_with (first | ((with_reducible refine gC 38 rfl ?_); refine gL 58 Try.func38 #[.agg #[.int .i64 ((rd_T29 l0_4 x7_2).f0), .int .i64 ((rd_T29 l0_4 x7_2).f1), .string ((rd_T29 l0_4 x7_2).f2), .string ((rd_T29 l0_4 x7_2).f3), .slice A209_4 ((rd_T29 l0_4 x7_2).f4).length c209_4], .slice A1 l1.length c1, .int .i64 a2] ?_; (with_reducible refine (ih k2 (by have := HJ20.out; have := HK2.out; omega) ((rd_T29 l0_4 x7_2).f0) ((rd_T29 l0_4 x7_2).f1) ((rd_T29 l0_4 x7_2).f2) ((rd_T29 l0_4 x7_2).f3) _ _ ((rd_T29 l0_4 x7_2).f4) _ _ l1 a2 true _ ?side1 ?side2 ?side3 ?side4 A33.out).mono ?_); (case side1 => exact zC (Kd.C_below HR209_4.out HB.out)); (case side2 => exact HC209_4.out); (case side3 => exact zC (Kd.C_below HR1.out HB.out)); (case side4 => exact HC1.out); rintro e w36 ⟨rfl, hb⟩; refine ⟨_, rfl, ?_⟩; replace BK205 := zBB BK205 hb; replace HB := zLB (zL1 HB.out GE205.out) hb; clear hb))
              go_roundg k2
              case measure => have := HJ20.out; have := HK2.out; omega
              case rel => exact ⟨(wrap64 (x7_2 + 1)), zV, H', ⟨by have := HJ20.out; have := HK2.out; omega⟩, ⟨zB BK205.out⟩, ⟨zL1 HB.out GE205.out⟩⟩
             ·obtain rfl := Bool.eq_false_iff.mpr c34
              rw [if_neg zn] at H
              obtain rfl := Option.some.inj H
              have hcz37 := zc5 BK205.out
              have hfz37 := zf5 BK205.out
              have p209 : 0 ≤ (x7_2 : Int) := zD
              have q209 : x7_2 < (l0_4.length : Int) := zD
              obtain ⟨ad209, A209_4, c209_4, e209, hx209_0, hx209_1, hx209_2, hx209_3, hx209_4, hl209_4, hi209_4⟩ := at_T29 HR0_4.out x7_2 p209 q209
              cases e209
              replace hx209_0 := zh HB.out hx209_0
              replace hx209_1 := zh HB.out hx209_1
              replace hx209_2 := zh HB.out hx209_2
              replace hx209_3 := zh HB.out hx209_3
              replace hx209_4 := zh HB.out hx209_4
              have HR209_4 := Aside0.mk hi209_4
              have HC209_4 := Aside0.mk hl209_4
              clear hi209_4 hl209_4
              replace p209 := eq_true p209
              replace q209 := eq_true q209
              go_wp2_with (first | ((with_reducible refine gC 38 rfl ?_); refine gL 58 Try.func38 #[.agg #[.int .i64 ((rd_T29 l0_4 x7_2).f0), .int .i64 ((rd_T29 l0_4 x7_2).f1), .string ((rd_T29 l0_4 x7_2).f2), .string ((rd_T29 l0_4 x7_2).f3), .slice A209_4 ((rd_T29 l0_4 x7_2).f4).length c209_4], .slice A1 l1.length c1, .int .i64 a2] ?_; (with_reducible refine (ih k2 (by have := HJ20.out; have := HK2.out; omega) ((rd_T29 l0_4 x7_2).f0) ((rd_T29 l0_4 x7_2).f1) ((rd_T29 l0_4 x7_2).f2) ((rd_T29 l0_4 x7_2).f3) _ _ ((rd_T29 l0_4 x7_2).f4) _ _ l1 a2 false _ ?side1 ?side2 ?side3 ?side4 A33.out).mono ?_); (case side1 => exact zC (Kd.C_below HR209_4.out HB.out)); (case side2 => exact HC209_4.out); (case side3 => exact zC (Kd.C_below HR1.out HB.out)); (case side4 => exact HC1.out); rintro e w38 ⟨rfl, hb⟩; refine ⟨_, rfl, ?_⟩; replace BK205 := zBB BK205 hb; replace HB := zLB (zL1 HB.out GE205.out) hb; clear hb))
              go_ret
              exact ⟨zW, zL1 HB.out GE205.out⟩
            ·rw [if_neg c32] at H
             exact absurd H (by simp)
           ·rw [if_neg c31] at H
            have c31b0 := decide_eq_false c31
            clear c31
            obtain rfl := Option.some.inj H
            have hcz39 := zc5 BK205.out
            have hfz39 := zf5 BK205.out
            go_wp2
            go_ret
            exact ⟨zW, zL1 HB.out GE205.out⟩
        ·rw [if_neg c30] at H
         obtain ⟨c30b0, c30b1⟩ := zf c30
         by_cases c40 : a0_0 = 8
         ·rw [if_pos c40] at H
          obtain ⟨c40b0, c40b1⟩ := zt c40
          clear c40
          have H' := Aside0.mk H
          clear H
          go_wp2
          go_loopg [8] kj20 (fun kq v8 w' => ∃ (x8_2 : Int), v8 = .int .i64 x8_2 ∧ Aside0 (spec_Wants.l1 kq l1 a2 x8_2 a0_0 a0_1 a0_2 a0_3 l0_4 = some r) ∧ Aside0 (kq ≤ kj20) ∧ Aside0 (w'.heap[gb205]? = some (.cells #[.int .i64 a0_0, .int .i64 a0_1, .string a0_2, .string a0_3, (.slice A0_4 l0_4.length c0_4)] 29 (0, 0))) ∧ Aside0 (Below w.heap.size w w'))
          case atStart => exact ⟨(0), zV, H', ⟨Nat.le_refl _⟩, ⟨zB BK205.out⟩, ⟨zL1 HB.out GE205.out⟩⟩
          case round =>
           clear H'
           try clear c1
           try clear c2
           try clear p2
           try clear q2
           try clear hx2
           try clear c3
           try clear c4
           try clear c4b0
           try clear c4b1
           try clear c6
           try clear p6
           try clear c7
           try clear c7b0
           try clear c7b1
           try clear c11
           try clear c11b0
           try clear c11b1
           try clear c12
           try clear c12b0
           try clear c12b1
           try clear c20
           try clear p20
           try clear q20
           try clear hx20
           try clear c23
           try clear c24
           try clear c24b0
           try clear c24b1
           try clear c25
           try clear c29
           try clear c29b0
           try clear c29b1
           try clear c30
           try clear c30b0
           try clear c30b1
           try clear c31
           try clear c31b0
           try clear c32
           try clear c32b0
           try clear c34
           try clear c38
           try clear c40
           try clear c40b0
           try clear c40b1
           try clear hcz10; try clear hcz15; try clear hcz19; try clear hcz23; try clear hcz27; try clear hcz35; try clear hcz37; try clear hcz39; try clear hcz6; try clear hfz10; try clear hfz15; try clear hfz19; try clear hfz23; try clear hfz27; try clear hfz35; try clear hfz37; try clear hfz39; try clear hfz6
           try clear hx209_0
           try clear hx209_1
           try clear hx209_2
           try clear hx209_3
           try clear hx209_4
           try clear p2
           try clear p209
           try clear q209
           try clear BK205
           obtain ⟨x8_2, rfl, HA, HK2, BK205, HB⟩ := hrel
           cases gk with
           | zero => exact absurd HA.out (by simp [spec_Wants.l1])
           | succ k2 =>
            have H := HA.out
            clear HA
            simp only [spec_Wants.l1] at H
            by_cases c41 : x8_2 < (l0_4.length : Int)
            ·rw [if_pos c41] at H
             have c41b0 := decide_eq_true c41
             clear c41
             by_cases c42 : 0 ≤ x8_2
             ·rw [if_pos c42] at H
              have c42b0 := decide_eq_true c42
              clear c42
              obtain ⟨t212, A43, H⟩ := zO H; try dsimp only at H
              by_cases c44 : t212 = true
              ·subst c44
               rw [if_pos rfl] at H
               obtain rfl := Option.some.inj H
               have hcz45 := zc5 BK205.out
               have hfz45 := zf5 BK205.out
               have p211 : 0 ≤ (x8_2 : Int) := zD
               have q211 : x8_2 < (l0_4.length : Int) := zD
               obtain ⟨ad211, A211_4, c211_4, e211, hx211_0, hx211_1, hx211_2, hx211_3, hx211_4, hl211_4, hi211_4⟩ := at_T29 HR0_4.out x8_2 p211 q211
               cases e211
               replace hx211_0 := zh HB.out hx211_0
               replace hx211_1 := zh HB.out hx211_1
               replace hx211_2 := zh HB.out hx211_2
               replace hx211_3 := zh HB.out hx211_3
               replace hx211_4 := zh HB.out hx211_4
               have HR211_4 := Aside0.mk hi211_4
               have HC211_4 := Aside0.mk hl211_4
               clear hi211_4 hl211_4
               replace p211 := eq_true p211
               replace q211 := eq_true q211
               go_wp2_with (first | ((with_reducible refine gC 38 rfl ?_); refine gL 76 Try.func38 #[.agg #[.int .i64 ((rd_T29 l0_4 x8_2).f0), .int .i64 ((rd_T29 l0_4 x8_2).f1), .string ((rd_T29 l0_4 x8_2).f2), .string ((rd_T29 l0_4 x8_2).f3), .slice A211_4 ((rd_T29 l0_4 x8_2).f4).length c211_4], .slice A1 l1.length c1, .int .i64 a2] ?_; (with_reducible refine (ih k2 (by have := HJ20.out; have := HK2.out; omega) ((rd_T29 l0_4 x8_2).f0) ((rd_T29 l0_4 x8_2).f1) ((rd_T29 l0_4 x8_2).f2) ((rd_T29 l0_4 x8_2).f3) _ _ ((rd_T29 l0_4 x8_2).f4) _ _ l1 a2 true _ ?side1 ?side2 ?side3 ?side4 A43.out).mono ?_); (case side1 => exact zC (Kd.C_below HR211_4.out HB.out)); (case side2 => exact HC211_4.out); (case side3 => exact zC (Kd.C_below HR1.out HB.out)); (case side4 => exact HC1.out); rintro e w46 ⟨rfl, hb⟩; refine ⟨_, rfl, ?_⟩; replace BK205 := zBB BK205 hb; replace HB := zLB (zL1 HB.out GE205.out) hb; clear hb))
               go_ret
               exact ⟨zW, zL1 HB.out GE205.out⟩
              ·obtain rfl := Bool.eq_false_iff.mpr c44
               rw [if_neg zn] at H
               have H' := Aside0.mk H
               clear H
               have hcz47 := zc5 BK205.out
               have hfz47 := zf5 BK205.out
               have p211 : 0 ≤ (x8_2 : Int) := zD
               have q211 : x8_2 < (l0_4.length : Int) := zD
               obtain ⟨ad211, A211_4, c211_4, e211, hx211_0, hx211_1, hx211_2, hx211_3, hx211_4, hl211_4, hi211_4⟩ := at_T29 HR0_4.out x8_2 p211 q211
               cases e211
               replace hx211_0 := zh HB.out hx211_0
               replace hx211_1 := zh HB.out hx211_1
               replace hx211_2 := zh HB.out hx211_2
               replace hx211_3 := zh HB.out hx211_3
               replace hx211_4 := zh HB.out hx211_4
               have HR211_4 := Aside0.mk hi211_4
               have HC211_4 := Aside0.mk hl211_4
               clear hi211_4 hl211_4
               replace p211 := eq_true p211
               replace q211 := eq_true q211
               go_wp2_with (first | ((with_reducible refine gC 38 rfl ?_); refine gL 76 Try.func38 #[.agg #[.int .i64 ((rd_T29 l0_4 x8_2).f0), .int .i64 ((rd_T29 l0_4 x8_2).f1), .string ((rd_T29 l0_4 x8_2).f2), .string ((rd_T29 l0_4 x8_2).f3), .slice A211_4 ((rd_T29 l0_4 x8_2).f4).length c211_4], .slice A1 l1.length c1, .int .i64 a2] ?_; (with_reducible refine (ih k2 (by have := HJ20.out; have := HK2.out; omega) ((rd_T29 l0_4 x8_2).f0) ((rd_T29 l0_4 x8_2).f1) ((rd_T29 l0_4 x8_2).f2) ((rd_T29 l0_4 x8_2).f3) _ _ ((rd_T29 l0_4 x8_2).f4) _ _ l1 a2 false _ ?side1 ?side2 ?side3 ?side4 A43.out).mono ?_); (case side1 => exact zC (Kd.C_below HR211_4.out HB.out)); (case side2 => exact HC211_4.out); (case side3 => exact zC (Kd.C_below HR1.out HB.out)); (case side4 => exact HC1.out); rintro e w48 ⟨rfl, hb⟩; refine ⟨_, rfl, ?_⟩; replace BK205 := zBB BK205 hb; replace HB := zLB (zL1 HB.out GE205.out) hb; clear hb))
               go_roundg k2
               case measure => have := HJ20.out; have := HK2.out; omega
               case rel => exact ⟨(wrap64 (x8_2 + 1)), zV, H', ⟨by have := HJ20.out; have := HK2.out; omega⟩, ⟨zB BK205.out⟩, ⟨zL1 HB.out GE205.out⟩⟩
             ·rw [if_neg c42] at H
              exact absurd H (by simp)
            ·rw [if_neg c41] at H
             have c41b0 := decide_eq_false c41
             clear c41
             obtain rfl := Option.some.inj H
             have hcz49 := zc5 BK205.out
             have hfz49 := zf5 BK205.out
             go_wp2
             go_ret
             exact ⟨zW, zL1 HB.out GE205.out⟩
         ·rw [if_neg c40] at H
          obtain ⟨c40b0, c40b1⟩ := zf c40
          by_cases c50 : a0_0 = 9
          ·rw [if_pos c50] at H
           obtain ⟨c50b0, c50b1⟩ := zt c50
           clear c50
           by_cases c51 : (l0_4.length : Int) = 0
           ·rw [if_pos c51] at H
            obtain ⟨c51b0, c51b1⟩ := zt c51
            clear c51
            obtain rfl := Option.some.inj H
            have hcz52 := zc5 BK205.out
            have hfz52 := zf5 BK205.out
            go_wp2
            go_ret
            exact ⟨zW, zL1 HB.out GE205.out⟩
           ·rw [if_neg c51] at H
            obtain ⟨c51b0, c51b1⟩ := zf c51
            have c51b2 : ¬ (l0_4 = []) := fun h_ => c51 (by rw [h_]; rfl)
            by_cases c53 : 0 < (l0_4.length : Int)
            ·rw [if_pos c53] at H
             have c53b0 := decide_eq_true c53
             have c53b1 : decide (0 < l0_4.length) = true := decide_eq_true (by omega)
             clear c53
             obtain ⟨t214, A54, H⟩ := zO H; try dsimp only at H
             obtain rfl := Option.some.inj H
             have hcz55 := zc5 BK205.out
             have hfz55 := zf5 BK205.out
             have p213 : 0 ≤ (0 : Int) := (by omega)
             have q213 : 0 < (l0_4.length : Int) := zD
             obtain ⟨ad213, A213_4, c213_4, e213, hx213_0, hx213_1, hx213_2, hx213_3, hx213_4, hl213_4, hi213_4⟩ := at_T29 HR0_4.out 0 p213 q213
             cases e213
             have qi213 : (0 < l0_4.length) = True := eq_true (by omega)
             (try rw [show ((0 : Int)).toNat = 0 from rfl] at hx213_0)
             (try rw [show 0 * 5 = 0 from rfl] at hx213_0)
             (try rw [Addr.add_zero'] at hx213_0)
             (try rw [show ((0 : Int)).toNat = 0 from rfl] at hx213_1)
             (try rw [show 0 * 5 = 0 from rfl] at hx213_1)
             (try rw [Addr.add_zero'] at hx213_1)
             (try rw [show ((0 : Int)).toNat = 0 from rfl] at hx213_2)
             (try rw [show 0 * 5 = 0 from rfl] at hx213_2)
             (try rw [Addr.add_zero'] at hx213_2)
             (try rw [show ((0 : Int)).toNat = 0 from rfl] at hx213_3)
             (try rw [show 0 * 5 = 0 from rfl] at hx213_3)
             (try rw [Addr.add_zero'] at hx213_3)
             (try rw [show ((0 : Int)).toNat = 0 from rfl] at hx213_4)
             (try rw [show 0 * 5 = 0 from rfl] at hx213_4)
             (try rw [Addr.add_zero'] at hx213_4)
             replace hx213_0 := zh HB.out hx213_0
             replace hx213_1 := zh HB.out hx213_1
             replace hx213_2 := zh HB.out hx213_2
             replace hx213_3 := zh HB.out hx213_3
             replace hx213_4 := zh HB.out hx213_4
             have HR213_4 := Aside0.mk hi213_4
             have HC213_4 := Aside0.mk hl213_4
             clear hi213_4 hl213_4
             replace p213 := eq_true p213
             replace q213 := eq_true q213
             go_wp2_with (first | (go_at_call 38; (with_reducible refine (ih kj20 (by have := HJ20.out; omega) ((rd_T29 l0_4 0).f0) ((rd_T29 l0_4 0).f1) ((rd_T29 l0_4 0).f2) ((rd_T29 l0_4 0).f3) _ _ ((rd_T29 l0_4 0).f4) _ _ l1 a2 t214 _ ?side1 ?side2 ?side3 ?side4 A54.out).mono ?_); (case side1 => exact zC (Kd.C_below HR213_4.out HB.out)); (case side2 => exact HC213_4.out); (case side3 => exact zC (Kd.C_below HR1.out HB.out)); (case side4 => exact HC1.out); rintro e w56 ⟨rfl, hb⟩; replace BK205 := zBB BK205 hb; replace HB := zLB (zL1 HB.out GE205.out) hb; clear hb))
             go_ret
             exact ⟨zW, zL1 HB.out GE205.out⟩
            ·rw [if_neg c53] at H
             exact absurd H (by simp)
          ·rw [if_neg c50] at H
           obtain ⟨c50b0, c50b1⟩ := zf c50
           obtain rfl := Option.some.inj H
           go_wp2
           go_ret
           exact ⟨zW, zL1 HB.out GE205.out⟩

open Go.Proofs.YtfhblnbicnmndaaW.PrintWords renaming blk_drewN → bN, blk_drew → bD, blk_alloc → bA, blk_cell → bC, blk_below → bB, below_set → bS
/-! ### impl_Errors: function 25 -/
def impl_Errors.l0 : Nat → Int → List (S73) → Int → Int → Option (Int)
 | 0, _, _, _, _ => none
 | k + 1, x3, x6, x7, x8 => if x8 < x7 then (if 0 ≤ x8 then (if x8 < (x6.length : Int) then (if (rd_T73 x6 x8).f4 = true then (impl_Errors.l0 k (wrap64 (x3 + 1)) x6 x7 (wrap64 (x8 + 1))) else (impl_Errors.l0 k x3 x6 x7 (wrap64 (x8 + 1)))) else (none)) else (none)) else (some x3)
def impl_Errors.f (k : Nat) (l0 : List (S73)) : Option (Int) := impl_Errors.l0 k 0 l0 (l0.length : Int) 0
theorem impl_Errors.mono_l : ∀ k, (∀ y0 y1 y2 y3, LeO (impl_Errors.l0 k y0 y1 y2 y3) (impl_Errors.l0 (k + 1) y0 y1 y2 y3))
 | 0 => fun _ _ _ _ r h => by simp [impl_Errors.l0] at h
 | k + 1 => by
  have ih0 := impl_Errors.mono_l k
  ·intro y0 y1 y2 y3
   unfold impl_Errors.l0
   repeat' first
   | (with_reducible exact ih0 _ _ _ _)
   | (with_reducible exact LeO.refl _)
   | (with_reducible exact LeO.none _)
   | (with_reducible refine LeO.ite ?_ ?_)
   | (with_reducible refine LeO.bind ?_ (fun _ => ?_))
   | exact ih0 _ _ _ _
   | exact LeO.none _
   | refine LeO.ite ?_ ?_
   | refine LeO.bind ?_ (fun _ => ?_)
theorem impl_Errors.mono : ∀ a0 k, LeO (impl_Errors.f k a0) (impl_Errors.f (k + 1) a0) := by
 intro a0 k
 have ih0 := impl_Errors.mono_l k
 unfold impl_Errors.f
 repeat' first
   | (with_reducible exact ih0 _ _ _ _)
   | (with_reducible exact LeO.refl _)
   | (with_reducible exact LeO.none _)
   | (with_reducible refine LeO.ite ?_ ?_)
   | (with_reducible refine LeO.bind ?_ (fun _ => ?_))
   | exact ih0 _ _ _ _
   | exact LeO.none _
   | refine LeO.ite ?_ ?_
   | refine LeO.bind ?_ (fun _ => ?_)
set_option maxHeartbeats 8000000 in
set_option maxRecDepth 100000 in
theorem impl_Errors.calls (k : Nat) (A0 : Option Addr) (c0 : Nat) (l0 : List (S73)) (r : Int) (w : World) (hr0 : Kd.C k73 w A0 l0.length l0) (hc0 : l0.length ≤ c0) (h : impl_Errors.f k l0 = some r) :
  Calls Try.prog 25 #[.slice A0 l0.length c0] w fun e w' => e = .returned (.int .i64 r) ∧ Below w.heap.size w w' := by
 have hu73 := Try.underlying73
 have HR0 := Aside0.mk hr0
 have HC0 := Aside0.mk hc0
 clear hr0 hc0
 have HB := Aside0.mk (Below.refl w.heap.size w)
 unfold impl_Errors.f at h; have H := h
 clear h
 have H' := Aside0.mk H
 clear H
 go_enter Try.func25, Try.ntmps25
 go_wp2
 go_loopg [3, 8] k (fun kq v3 v8 w' => ∃ (x3_1 : Int) (x8_1 : Int), v3 = .int .i64 x3_1 ∧ v8 = .int .i64 x8_1 ∧ Aside0 (impl_Errors.l0 kq x3_1 l0 (l0.length : Int) x8_1 = some r) ∧ Aside0 (kq ≤ k) ∧ Aside0 (Below w.heap.size w w'))
 case atStart => exact ⟨(0), (0), zV, zV, H', ⟨Nat.le_refl _⟩, ⟨zL HB.out⟩⟩
 case round =>
  clear H'
  obtain ⟨x3_1, x8_1, rfl, rfl, HA, HK1, HB⟩ := hrel
  cases gk with
  | zero => exact absurd HA.out (by simp [impl_Errors.l0])
  | succ k1 =>
   have H := HA.out
   clear HA
   simp only [impl_Errors.l0] at H
   by_cases c2 : x8_1 < (l0.length : Int)
   ·rw [if_pos c2] at H
    have c2b0 := decide_eq_true c2
    clear c2
    by_cases c3 : 0 ≤ x8_1
    ·rw [if_pos c3] at H
     have c3b0 := decide_eq_true c3
     clear c3
     by_cases c4 : x8_1 < (l0.length : Int)
     ·rw [if_pos c4] at H
      have c4b0 := decide_eq_true c4
      clear c4
      obtain ⟨bq5, hbq5⟩ : ∃ b_ : Bool, b_ = ((rd_T73 l0 x8_1).f4) := ⟨_, rfl⟩
      replace H : (if bq5 = true then (impl_Errors.l0 k1 (wrap64 (x3_1 + 1)) l0 (l0.length : Int) (wrap64 (x8_1 + 1))) else (impl_Errors.l0 k1 x3_1 l0 (l0.length : Int) (wrap64 (x8_1 + 1)))) = some r := by rw [← hbq5] at H; exact H
      have Nbq5 := Aside0.mk hbq5
      clear hbq5
      by_cases c6 : bq5 = true
      ·subst c6
       rw [if_pos rfl] at H
       have H' := Aside0.mk H
       clear H
       have p215 : 0 ≤ (x8_1 : Int) := zD
       have q215 : x8_1 < (l0.length : Int) := zD
       obtain ⟨ad215, A215_5, c215_5, e215, hx215_0, hx215_1, hx215_2, hx215_3, hx215_4, hx215_5, hl215_5, hi215_5⟩ := at_T73 HR0.out x8_1 p215 q215
       (try rw [← Nbq5.out] at hx215_4)
       cases e215
       replace hx215_0 := zh HB.out hx215_0
       replace hx215_1 := zh HB.out hx215_1
       replace hx215_2 := zh HB.out hx215_2
       replace hx215_3 := zh HB.out hx215_3
       replace hx215_4 := zh HB.out hx215_4
       replace hx215_5 := zh HB.out hx215_5
       have HR215_5 := Aside0.mk hi215_5
       have HC215_5 := Aside0.mk hl215_5
       clear hi215_5 hl215_5
       replace p215 := eq_true p215
       replace q215 := eq_true q215
       go_wp2_with (first | ((with_reducible refine gD 5 rfl ?_); refine bE 5 #[.int .i64 0, .int .i64 0, .int .i64 0, .int .i64 0, .bool false, .slice none 0 0] 73 ?_; intro gb216 hg w7 hbox hb; have BK216 := Aside0.mk hbox; have GW216 := Aside0.mk (zg (zL HB.out) hg : w.heap.size ≤ gb216); have GE216 := GW216; replace HB := zLB (zL HB.out) hb; clear hb hbox hg; have hcz8 := zc6 BK216.out; have hfz8 := zf6 BK216.out))
       go_roundg k1
       case measure => have := HK1.out; omega
       case rel => exact ⟨(wrap64 (x3_1 + 1)), (wrap64 (x8_1 + 1)), zV, zV, H', ⟨by have := HK1.out; omega⟩, ⟨zL1 HB.out GE216.out⟩⟩
      ·obtain rfl := Bool.eq_false_iff.mpr c6
       rw [if_neg zn] at H
       have H' := Aside0.mk H
       clear H
       have p215 : 0 ≤ (x8_1 : Int) := zD
       have q215 : x8_1 < (l0.length : Int) := zD
       obtain ⟨ad215, A215_5, c215_5, e215, hx215_0, hx215_1, hx215_2, hx215_3, hx215_4, hx215_5, hl215_5, hi215_5⟩ := at_T73 HR0.out x8_1 p215 q215
       (try rw [← Nbq5.out] at hx215_4)
       cases e215
       replace hx215_0 := zh HB.out hx215_0
       replace hx215_1 := zh HB.out hx215_1
       replace hx215_2 := zh HB.out hx215_2
       replace hx215_3 := zh HB.out hx215_3
       replace hx215_4 := zh HB.out hx215_4
       replace hx215_5 := zh HB.out hx215_5
       have HR215_5 := Aside0.mk hi215_5
       have HC215_5 := Aside0.mk hl215_5
       clear hi215_5 hl215_5
       replace p215 := eq_true p215
       replace q215 := eq_true q215
       go_wp2_with (first | ((with_reducible refine gD 5 rfl ?_); refine bE 5 #[.int .i64 0, .int .i64 0, .int .i64 0, .int .i64 0, .bool false, .slice none 0 0] 73 ?_; intro gb216 hg w9 hbox hb; have BK216 := Aside0.mk hbox; have GW216 := Aside0.mk (zg (zL HB.out) hg : w.heap.size ≤ gb216); have GE216 := GW216; replace HB := zLB (zL HB.out) hb; clear hb hbox hg; have hcz10 := zc6 BK216.out; have hfz10 := zf6 BK216.out))
       go_roundg k1
       case measure => have := HK1.out; omega
       case rel => exact ⟨(x3_1), (wrap64 (x8_1 + 1)), zV, zV, H', ⟨by have := HK1.out; omega⟩, ⟨zL1 HB.out GE216.out⟩⟩
     ·rw [if_neg c4] at H
      exact absurd H (by simp)
    ·rw [if_neg c3] at H
     exact absurd H (by simp)
   ·rw [if_neg c2] at H
    have c2b0 := decide_eq_false c2
    clear c2
    obtain rfl := Option.some.inj H
    go_wp2
    go_ret
    exact ⟨zW, zL HB.out⟩

open Go.Proofs.YtfhblnbicnmndaaW.PrintWords renaming blk_drewN → bN, blk_drew → bD, blk_alloc → bA, blk_cell → bC, blk_below → bB, below_set → bS
/-! ### impl_Span_107: function 107 -/
def impl_Span_107.l0 (F_ : Int → Int → Int → Int → Bool → List S83 → Option (Bool)) : Nat → List (S73) → Int → Int → Option (Int)
 | 0, _, _, _ => none
 | k + 1, x0, x7, x8 => if x8 < x7 then (if 0 ≤ x8 then (if x8 < (x0.length : Int) then ((F_ ((rd_T73 x0 x8).f0) ((rd_T73 x0 x8).f1) ((rd_T73 x0 x8).f2) ((rd_T73 x0 x8).f3) ((rd_T73 x0 x8).f4) ((rd_T73 x0 x8).f5)).bind fun t218 => (if t218 = true then (some x8) else (impl_Span_107.l0 F_ k x0 x7 (wrap64 (x8 + 1))))) else (none)) else (none)) else (some (-1))
def impl_Span_107.f (F_ : Int → Int → Int → Int → Bool → List S83 → Option (Bool)) (k : Nat) (l0 : List (S73)) : Option (Int) := impl_Span_107.l0 F_ k l0 (l0.length : Int) 0
set_option maxHeartbeats 8000000 in
set_option maxRecDepth 100000 in
theorem impl_Span_107.calls {F_ : Int → Int → Int → Int → Bool → List S83 → Option (Bool)} {f_ : FuncId} {fn_ : Func} {c_ : Array Value} (hf_ : Try.prog.funcs[f_]? = some fn_) (hn_ : (fn_.name == "runtime.NumGoroutine") = false) (hb_ : fn_.body.isSome = true) (k : Nat) (A0 : Option Addr) (c0 : Nat) (l0 : List (S73)) (r : Int) (w : World) (hF_ : ∀ (x0_ x1_ x2_ x3_ : Int) (x4_ : Bool) (A5_ : Option Addr) (c5_ : Nat) (x5_ : List S83) (q_ : Bool) (W_ : World), Below w.heap.size w W_ → Kd.C k83 W_ A5_ x5_.length x5_ → x5_.length ≤ c5_ → F_ x0_ x1_ x2_ x3_ x4_ x5_ = some q_ → Calls Try.prog f_ (#[.agg #[.int .i64 x0_, .int .i64 x1_, .int .i64 x2_, .int .i64 x3_, .bool x4_, .slice A5_ x5_.length c5_]] ++ c_) W_ fun e w' => e = .returned (.bool q_) ∧ Below W_.heap.size W_ w') (hr0 : Kd.C k73 w A0 l0.length l0) (hc0 : l0.length ≤ c0) (h : impl_Span_107.f F_ k l0 = some r) :
  Calls Try.prog 107 #[.slice A0 l0.length c0, .func (.func f_) #[] c_] w fun e w' => e = .returned (.int .i64 r) ∧ Below w.heap.size w w' := by
 have hu73 := Try.underlying73
 have HR0 := Aside0.mk hr0
 have HC0 := Aside0.mk hc0
 clear hr0 hc0
 have HB := Aside0.mk (Below.refl w.heap.size w)
 unfold impl_Span_107.f at h; have H := h
 clear h
 have H' := Aside0.mk H
 clear H
 go_enter Try.func107, Try.ntmps107
 go_wp2
 go_loopg [8] k (fun kq v8 w' => ∃ (x8_1 : Int), v8 = .int .i64 x8_1 ∧ Aside0 (impl_Span_107.l0 F_ kq l0 (l0.length : Int) x8_1 = some r) ∧ Aside0 (kq ≤ k) ∧ Aside0 (Below w.heap.size w w'))
 case atStart => exact ⟨(0), zV, H', ⟨Nat.le_refl _⟩, ⟨zL HB.out⟩⟩
 case round =>
  clear H'
  try clear c1
  obtain ⟨x8_1, rfl, HA, HK1, HB⟩ := hrel
  cases gk with
  | zero => exact absurd HA.out (by simp [impl_Span_107.l0])
  | succ k1 =>
   have H := HA.out
   clear HA
   simp only [impl_Span_107.l0] at H
   by_cases c2 : x8_1 < (l0.length : Int)
   ·rw [if_pos c2] at H
    have c2b0 := decide_eq_true c2
    clear c2
    by_cases c3 : 0 ≤ x8_1
    ·rw [if_pos c3] at H
     have c3b0 := decide_eq_true c3
     clear c3
     by_cases c4 : x8_1 < (l0.length : Int)
     ·rw [if_pos c4] at H
      have c4b0 := decide_eq_true c4
      clear c4
      obtain ⟨t218, A5, H⟩ := zO H; try dsimp only at H
      by_cases c6 : t218 = true
      ·subst c6
       rw [if_pos rfl] at H
       obtain rfl := Option.some.inj H
       have p217 : 0 ≤ (x8_1 : Int) := zD
       have q217 : x8_1 < (l0.length : Int) := zD
       obtain ⟨ad217, A217_5, c217_5, e217, hx217_0, hx217_1, hx217_2, hx217_3, hx217_4, hx217_5, hl217_5, hi217_5⟩ := at_T73 HR0.out x8_1 p217 q217
       cases e217
       replace hx217_0 := zh HB.out hx217_0
       replace hx217_1 := zh HB.out hx217_1
       replace hx217_2 := zh HB.out hx217_2
       replace hx217_3 := zh HB.out hx217_3
       replace hx217_4 := zh HB.out hx217_4
       replace hx217_5 := zh HB.out hx217_5
       have HR217_5 := Aside0.mk hi217_5
       have HC217_5 := Aside0.mk hl217_5
       clear hi217_5 hl217_5
       replace p217 := eq_true p217
       replace q217 := eq_true q217
       go_wp2_with (first | ((with_reducible refine gate_calleeC (t := 11) rfl ?_); refine goesC_ (t := 11) (f := f_) (cap := c_) (by rfl) (some 16) rfl rfl hf_ hn_ hb_ #[.agg #[.int .i64 ((rd_T73 l0 x8_1).f0), .int .i64 ((rd_T73 l0 x8_1).f1), .int .i64 ((rd_T73 l0 x8_1).f2), .int .i64 ((rd_T73 l0 x8_1).f3), .bool ((rd_T73 l0 x8_1).f4), .slice A217_5 ((rd_T73 l0 x8_1).f5).length c217_5]] rfl zE ?_; (with_reducible refine (hF_ ((rd_T73 l0 x8_1).f0) ((rd_T73 l0 x8_1).f1) ((rd_T73 l0 x8_1).f2) ((rd_T73 l0 x8_1).f3) ((rd_T73 l0 x8_1).f4) _ _ ((rd_T73 l0 x8_1).f5) true _ HB.out ?side1 ?side2 A5.out).mono ?_); (case side1 => exact zC (Kd.C_below HR217_5.out HB.out)); (case side2 => exact HC217_5.out); rintro e w7 ⟨rfl, hb⟩; refine ⟨_, rfl, ?_⟩; replace HB := zLB (zL HB.out) hb; clear hb))
       go_ret
       exact ⟨zW, zL HB.out⟩
      ·obtain rfl := Bool.eq_false_iff.mpr c6
       rw [if_neg zn] at H
       have H' := Aside0.mk H
       clear H
       have p217 : 0 ≤ (x8_1 : Int) := zD
       have q217 : x8_1 < (l0.length : Int) := zD
       obtain ⟨ad217, A217_5, c217_5, e217, hx217_0, hx217_1, hx217_2, hx217_3, hx217_4, hx217_5, hl217_5, hi217_5⟩ := at_T73 HR0.out x8_1 p217 q217
       cases e217
       replace hx217_0 := zh HB.out hx217_0
       replace hx217_1 := zh HB.out hx217_1
       replace hx217_2 := zh HB.out hx217_2
       replace hx217_3 := zh HB.out hx217_3
       replace hx217_4 := zh HB.out hx217_4
       replace hx217_5 := zh HB.out hx217_5
       have HR217_5 := Aside0.mk hi217_5
       have HC217_5 := Aside0.mk hl217_5
       clear hi217_5 hl217_5
       replace p217 := eq_true p217
       replace q217 := eq_true q217
       go_wp2_with (first | ((with_reducible refine gate_calleeC (t := 11) rfl ?_); refine goesC_ (t := 11) (f := f_) (cap := c_) (by rfl) (some 16) rfl rfl hf_ hn_ hb_ #[.agg #[.int .i64 ((rd_T73 l0 x8_1).f0), .int .i64 ((rd_T73 l0 x8_1).f1), .int .i64 ((rd_T73 l0 x8_1).f2), .int .i64 ((rd_T73 l0 x8_1).f3), .bool ((rd_T73 l0 x8_1).f4), .slice A217_5 ((rd_T73 l0 x8_1).f5).length c217_5]] rfl zE ?_; (with_reducible refine (hF_ ((rd_T73 l0 x8_1).f0) ((rd_T73 l0 x8_1).f1) ((rd_T73 l0 x8_1).f2) ((rd_T73 l0 x8_1).f3) ((rd_T73 l0 x8_1).f4) _ _ ((rd_T73 l0 x8_1).f5) false _ HB.out ?side1 ?side2 A5.out).mono ?_); (case side1 => exact zC (Kd.C_below HR217_5.out HB.out)); (case side2 => exact HC217_5.out); rintro e w8 ⟨rfl, hb⟩; refine ⟨_, rfl, ?_⟩; replace HB := zLB (zL HB.out) hb; clear hb))
       go_roundg k1
       case measure => have := HK1.out; omega
       case rel => exact ⟨(wrap64 (x8_1 + 1)), zV, H', ⟨by have := HK1.out; omega⟩, ⟨zL HB.out⟩⟩
     ·rw [if_neg c4] at H
      exact absurd H (by simp)
    ·rw [if_neg c3] at H
     exact absurd H (by simp)
   ·rw [if_neg c2] at H
    have c2b0 := decide_eq_false c2
    clear c2
    obtain rfl := Option.some.inj H
    go_wp2
    go_ret
    exact ⟨zW, zL HB.out⟩

end Go.Proofs.Ytfhblnbicnmndaa.QFnJudges
