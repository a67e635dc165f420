/- What the Go functions that the law FnExactJudge reaches answer: each as a Lean function, with its walk. Written by a program of this session. Conditions: those that each theorem names. -/
import Derived.Test.YtfhblnbicnmndaaQFnExactJudgex0
import Derived.Test.YtfhblnbicnmndaaQFnExactJudgex3
import Derived.Test.YtfhblnbicnmndaaQFnExactJudgex4
namespace Go.Proofs.Ytfhblnbicnmndaa.QFnExactJudge
open Go.RowKit Go.Proofs.YtfhblnbicnmndaaW.PrintWords Go.Proofs.YtfhblnbicnmndaaW.PrintLast Go.Proofs.YtfhblnbicnmndaaW.PrintMore
attribute [local go_sem] max2_int min2_int max_two min_two max_three min_three max_four min_four   -- for this text's walks alone
set_option linter.unusedVariables false
set_option linter.unusedSimpArgs false

open Go.Proofs.YtfhblnbicnmndaaW.PrintWords renaming blk_drewN → bN, blk_drew → bD, blk_alloc → bA, blk_cell → bC, blk_below → bB, below_set → bS
/-! ### spec_Wants: function 38 -/
mutual
def spec_Wants.j0 : Nat → List (S73) → Int → Int → Bool → Int → Int → ByteArray → ByteArray → List (S29) → Option (Bool)
 | 0, _, _, _, _, _, _, _, _, _ => none
 | k + 1, x1, x2, x10, x30, x203000, x203001, x203002, x203003, x203004 => if x30 = true then ((spec_l6Some.f k x203000 x203001 x203002 x203003 x203004 x1).bind fun t205 => (some t205)) else (if x10 = 6 then (some (decide (x2 ≥ (x1.length : Int)))) else (if x10 = 7 then (spec_Wants.l0 k x1 x2 0 x203000 x203001 x203002 x203003 x203004) else (if x10 = 8 then (spec_Wants.l1 k x1 x2 0 x203000 x203001 x203002 x203003 x203004) else (if x10 = 9 then (if (x203004.length : Int) = 0 then (some true) else (if 0 < (x203004.length : Int) then ((spec_Wants.f k ((rd_T29 x203004 0).f0) ((rd_T29 x203004 0).f1) ((rd_T29 x203004 0).f2) ((rd_T29 x203004 0).f3) ((rd_T29 x203004 0).f4) x1 x2).bind fun t211 => (some (!t211))) else (none))) else (some false)))))
def spec_Wants.l0 : Nat → List (S73) → Int → Int → Int → Int → ByteArray → ByteArray → List (S29) → Option (Bool)
 | 0, _, _, _, _, _, _, _, _ => none
 | k + 1, x1, x2, x7, x203000, x203001, x203002, x203003, x203004 => if x7 < (x203004.length : Int) then (if 0 ≤ x7 then ((spec_Wants.f k ((rd_T29 x203004 x7).f0) ((rd_T29 x203004 x7).f1) ((rd_T29 x203004 x7).f2) ((rd_T29 x203004 x7).f3) ((rd_T29 x203004 x7).f4) x1 x2).bind fun t207 => (if t207 = true then (spec_Wants.l0 k x1 x2 (wrap64 (x7 + 1)) x203000 x203001 x203002 x203003 x203004) else (some false))) else (none)) else (some true)
def spec_Wants.l1 : Nat → List (S73) → Int → Int → Int → Int → ByteArray → ByteArray → List (S29) → Option (Bool)
 | 0, _, _, _, _, _, _, _, _ => none
 | k + 1, x1, x2, x8, x203000, x203001, x203002, x203003, x203004 => if x8 < (x203004.length : Int) then (if 0 ≤ x8 then ((spec_Wants.f k ((rd_T29 x203004 x8).f0) ((rd_T29 x203004 x8).f1) ((rd_T29 x203004 x8).f2) ((rd_T29 x203004 x8).f3) ((rd_T29 x203004 x8).f4) x1 x2).bind fun t209 => (if t209 = true then (some true) else (spec_Wants.l1 k x1 x2 (wrap64 (x8 + 1)) x203000 x203001 x203002 x203003 x203004))) else (none)) else (some false)
def spec_Wants.f : Nat → Int → Int → ByteArray → ByteArray → List (S29) → List (S73) → Int → Option (Bool)
 | 0, _, _, _, _, _, _, _ => none
 | k + 1, a0_0, a0_1, a0_2, a0_3, l0_4, l1, a2 => if a0_0 = 1 then (some true) else (if a0_0 = 2 then ((spec_Errors.f k l1).bind fun t203 => (some (decide (t203 > 0)))) else (if a0_0 = 3 then (if (l1.length : Int) > 0 then ((spec_Longest.f k l1).bind fun t204 => (some (decide (t204 ≥ a0_1)))) else (some false)) else (if a0_0 = 4 then (spec_Wants.j0 k l1 a2 a0_0 (a0_0 == 4) a0_0 a0_1 a0_2 a0_3 l0_4) else (spec_Wants.j0 k l1 a2 a0_0 (a0_0 == 5) a0_0 a0_1 a0_2 a0_3 l0_4))))
end
theorem spec_Wants.mono_l : ∀ k, (∀ y0 y1 y2 y3 y4 y5 y6, LeO (spec_Wants.f k y0 y1 y2 y3 y4 y5 y6) (spec_Wants.f (k + 1) y0 y1 y2 y3 y4 y5 y6)) ∧ (∀ y0 y1 y2 y3 y4 y5 y6 y7 y8, LeO (spec_Wants.j0 k y0 y1 y2 y3 y4 y5 y6 y7 y8) (spec_Wants.j0 (k + 1) y0 y1 y2 y3 y4 y5 y6 y7 y8)) ∧ (∀ y0 y1 y2 y3 y4 y5 y6 y7, LeO (spec_Wants.l0 k y0 y1 y2 y3 y4 y5 y6 y7) (spec_Wants.l0 (k + 1) y0 y1 y2 y3 y4 y5 y6 y7)) ∧ (∀ y0 y1 y2 y3 y4 y5 y6 y7, LeO (spec_Wants.l1 k y0 y1 y2 y3 y4 y5 y6 y7) (spec_Wants.l1 (k + 1) y0 y1 y2 y3 y4 y5 y6 y7))
 | 0 => ⟨fun _ _ _ _ _ _ _ r h => by simp [spec_Wants.f] at h, fun _ _ _ _ _ _ _ _ _ r h => by simp [spec_Wants.j0] at h, fun _ _ _ _ _ _ _ _ r h => by simp [spec_Wants.l0] at h, fun _ _ _ _ _ _ _ _ r h => by simp [spec_Wants.l1] at h⟩
 | k + 1 => by
  obtain ⟨ih0, ih1, ih2, ih3⟩ := spec_Wants.mono_l k
  refine ⟨?_, ?_, ?_, ?_⟩
  ·intro y0 y1 y2 y3 y4 y5 y6
   unfold spec_Wants.f
   repeat' first
   | (with_reducible exact ih0 _ _ _ _ _ _ _)
   | (with_reducible exact ih1 _ _ _ _ _ _ _ _ _)
   | (with_reducible exact ih2 _ _ _ _ _ _ _ _)
   | (with_reducible exact ih3 _ _ _ _ _ _ _ _)
   | (with_reducible apply spec_Errors.mono)
   | (with_reducible apply spec_Longest.mono)
   | (with_reducible apply spec_l6Some.mono)
   | (with_reducible exact LeO.refl _)
   | (with_reducible exact LeO.none _)
   | (with_reducible refine LeO.ite ?_ ?_)
   | (with_reducible refine LeO.bind ?_ (fun _ => ?_))
   | exact ih0 _ _ _ _ _ _ _
   | exact ih1 _ _ _ _ _ _ _ _ _
   | exact ih2 _ _ _ _ _ _ _ _
   | exact ih3 _ _ _ _ _ _ _ _
   | apply spec_Errors.mono
   | apply spec_Longest.mono
   | apply spec_l6Some.mono
   | exact LeO.none _
   | refine LeO.ite ?_ ?_
   | refine LeO.bind ?_ (fun _ => ?_)
  ·intro y0 y1 y2 y3 y4 y5 y6 y7 y8
   unfold spec_Wants.j0
   repeat' first
   | (with_reducible exact ih0 _ _ _ _ _ _ _)
   | (with_reducible exact ih1 _ _ _ _ _ _ _ _ _)
   | (with_reducible exact ih2 _ _ _ _ _ _ _ _)
   | (with_reducible exact ih3 _ _ _ _ _ _ _ _)
   | (with_reducible apply spec_Errors.mono)
   | (with_reducible apply spec_Longest.mono)
   | (with_reducible apply spec_l6Some.mono)
   | (with_reducible exact LeO.refl _)
   | (with_reducible exact LeO.none _)
   | (with_reducible refine LeO.ite ?_ ?_)
   | (with_reducible refine LeO.bind ?_ (fun _ => ?_))
   | exact ih0 _ _ _ _ _ _ _
   | exact ih1 _ _ _ _ _ _ _ _ _
   | exact ih2 _ _ _ _ _ _ _ _
   | exact ih3 _ _ _ _ _ _ _ _
   | apply spec_Errors.mono
   | apply spec_Longest.mono
   | apply spec_l6Some.mono
   | exact LeO.none _
   | refine LeO.ite ?_ ?_
   | refine LeO.bind ?_ (fun _ => ?_)
  ·intro y0 y1 y2 y3 y4 y5 y6 y7
   unfold spec_Wants.l0
   repeat' first
   | (with_reducible exact ih0 _ _ _ _ _ _ _)
   | (with_reducible exact ih1 _ _ _ _ _ _ _ _ _)
   | (with_reducible exact ih2 _ _ _ _ _ _ _ _)
   | (with_reducible exact ih3 _ _ _ _ _ _ _ _)
   | (with_reducible apply spec_Errors.mono)
   | (with_reducible apply spec_Longest.mono)
   | (with_reducible apply spec_l6Some.mono)
   | (with_reducible exact LeO.refl _)
   | (with_reducible exact LeO.none _)
   | (with_reducible refine LeO.ite ?_ ?_)
   | (with_reducible refine LeO.bind ?_ (fun _ => ?_))
   | exact ih0 _ _ _ _ _ _ _
   | exact ih1 _ _ _ _ _ _ _ _ _
   | exact ih2 _ _ _ _ _ _ _ _
   | exact ih3 _ _ _ _ _ _ _ _
   | apply spec_Errors.mono
   | apply spec_Longest.mono
   | apply spec_l6Some.mono
   | exact LeO.none _
   | refine LeO.ite ?_ ?_
   | refine LeO.bind ?_ (fun _ => ?_)
  ·intro y0 y1 y2 y3 y4 y5 y6 y7
   unfold spec_Wants.l1
   repeat' first
   | (with_reducible exact ih0 _ _ _ _ _ _ _)
   | (with_reducible exact ih1 _ _ _ _ _ _ _ _ _)
   | (with_reducible exact ih2 _ _ _ _ _ _ _ _)
   | (with_reducible exact ih3 _ _ _ _ _ _ _ _)
   | (with_reducible apply spec_Errors.mono)
   | (with_reducible apply spec_Longest.mono)
   | (with_reducible apply spec_l6Some.mono)
   | (with_reducible exact LeO.refl _)
   | (with_reducible exact LeO.none _)
   | (with_reducible refine LeO.ite ?_ ?_)
   | (with_reducible refine LeO.bind ?_ (fun _ => ?_))
   | exact ih0 _ _ _ _ _ _ _
   | exact ih1 _ _ _ _ _ _ _ _ _
   | exact ih2 _ _ _ _ _ _ _ _
   | exact ih3 _ _ _ _ _ _ _ _
   | apply spec_Errors.mono
   | apply spec_Longest.mono
   | apply spec_l6Some.mono
   | exact LeO.none _
   | refine LeO.ite ?_ ?_
   | refine LeO.bind ?_ (fun _ => ?_)
theorem spec_Wants.mono : ∀ a0 a1 a2 a3 a4 a5 a6 k, LeO (spec_Wants.f k a0 a1 a2 a3 a4 a5 a6) (spec_Wants.f (k + 1) a0 a1 a2 a3 a4 a5 a6) := by
 intro a0 a1 a2 a3 a4 a5 a6 k
 obtain ⟨ih0, ih1, ih2, ih3⟩ := spec_Wants.mono_l k
 exact ih0 a0 a1 a2 a3 a4 a5 a6
def spec_Wants.T7 : Bool × List (List Nat × List Nat) := (true, [([], []), ([0], [0]), ([1], [1]), ([2], [2]), ([3], [3]), ([4, 3, 3], [3, 4]), ([3], [3]), ([6, 3], [3, 6]), ([5, 7, 3], [3, 5, 7]), ([3, 8], [3, 8]), ([9, 5, 0, 1, 2, 3, 4, 5, 6, 7, 8, 9], [9])])
def spec_Wants.B7 : List Nat := [0, 1, 3, 7, 15, 31, 15, 79, 255, 511, 1023]
theorem spec_Wants.tab7 : rtab .any (opsOf Try.f38 7) = spec_Wants.T7 := by kernel_rfl
theorem spec_Wants.bits7 : waitsOk spec_Wants.T7.2 spec_Wants.B7 = true := by kernel_rfl
set_option maxHeartbeats 8000000 in
set_option maxRecDepth 100000 in
theorem spec_Wants.calls (k : Nat) : ∀ (a0_0 : Int) (a0_1 : Int) (a0_2 : ByteArray) (a0_3 : ByteArray) (A0_4 : Option Addr) (c0_4 : Nat) (l0_4 : List (S29)) (A1 : Option Addr) (c1 : Nat) (l1 : List (S73)) (a2 : Int) (r : Bool) (w : World) (hr0_4 : Kd.C k29 w A0_4 l0_4.length l0_4) (hc0_4 : l0_4.length ≤ c0_4) (hr1 : Kd.C k73 w A1 l1.length l1) (hc1 : l1.length ≤ c1) (h : spec_Wants.f k a0_0 a0_1 a0_2 a0_3 l0_4 l1 a2 = some r),
  Calls Try.prog 38 #[.agg #[.int .i64 a0_0, .int .i64 a0_1, .string a0_2, .string a0_3, .slice A0_4 l0_4.length c0_4], .slice A1 l1.length c1, .int .i64 a2] w fun e w' => e = .returned (.bool r) ∧ Below w.heap.size w w' := by
 induction k using Nat.strongRecOn with
 | _ k ih =>
 intro a0_0 a0_1 a0_2 a0_3 A0_4 c0_4 l0_4 A1 c1 l1 a2 r w hr0_4 hc0_4 hr1 hc1 h
 cases k with
 | zero => exact absurd h (by simp [spec_Wants.f])
 | succ k =>
 simp only [spec_Wants.f] at h
 have hu29 := Try.underlying29
 have HR0_4 := Aside0.mk hr0_4
 have HC0_4 := Aside0.mk hc0_4
 clear hr0_4 hc0_4
 have HR1 := Aside0.mk hr1
 have HC1 := Aside0.mk hc1
 clear hr1 hc1
 have HB := Aside0.mk (Below.refl w.heap.size w)
 have H : (if a0_0 = 1 then (some true) else (if a0_0 = 2 then ((spec_Errors.f k l1).bind fun t203 => (some (decide (t203 > 0)))) else (if a0_0 = 3 then (if (l1.length : Int) > 0 then ((spec_Longest.f k l1).bind fun t204 => (some (decide (t204 ≥ a0_1)))) else (some false)) else (if a0_0 = 4 then (spec_Wants.j0 k l1 a2 a0_0 (a0_0 == 4) a0_0 a0_1 a0_2 a0_3 l0_4) else (spec_Wants.j0 k l1 a2 a0_0 (a0_0 == 5) a0_0 a0_1 a0_2 a0_3 l0_4))))) = some r := h
 clear h
 by_cases c4 : a0_0 = 1
 ·rw [if_pos c4] at H
  obtain ⟨c4b0, c4b1⟩ := zt c4
  clear c4
  obtain rfl := Option.some.inj H
  go_enter Try.func38, Try.ntmps38
  go_wp2_with (first | ((with_reducible refine gD 3 rfl ?_); refine bE 3 #[.int .i64 a0_0, .int .i64 a0_1, .string a0_2, .string a0_3, .slice A0_4 l0_4.length c0_4] 29 ?_; intro gb202 hg w5 hbox hb; have BK202 := Aside0.mk hbox; have GW202 := Aside0.mk (zg (zL HB.out) hg : w.heap.size ≤ gb202); have GE202 := GW202; replace HB := zLB (zL HB.out) hb; clear hb hbox hg; have hcz6 := zc5 BK202.out; have hfz6 := zf5 BK202.out))
  go_ret
  exact ⟨zW, zL1 HB.out GE202.out⟩
 ·rw [if_neg c4] at H
  obtain ⟨c4b0, c4b1⟩ := zf c4
  by_cases c7 : a0_0 = 2
  ·rw [if_pos c7] at H
   obtain ⟨c7b0, c7b1⟩ := zt c7
   clear c7
   obtain ⟨t203, A8, H⟩ := zO H; try dsimp only at H
   obtain rfl := Option.some.inj H
   go_enter Try.func38, Try.ntmps38
   go_wp2_with (first | ((with_reducible refine gD 3 rfl ?_); refine bE 3 #[.int .i64 a0_0, .int .i64 a0_1, .string a0_2, .string a0_3, .slice A0_4 l0_4.length c0_4] 29 ?_; intro gb202 hg w9 hbox hb; have BK202 := Aside0.mk hbox; have GW202 := Aside0.mk (zg (zL HB.out) hg : w.heap.size ≤ gb202); have GE202 := GW202; replace HB := zLB (zL HB.out) hb; clear hb hbox hg; have hcz10 := zc5 BK202.out; have hfz10 := zf5 BK202.out) | ((with_reducible refine gC 23 rfl ?_); refine gL 16 Try.func23 #[.slice A1 l1.length c1] ?_; (with_reducible refine (spec_Errors.calls k _ _ l1 t203 _ ?side1 ?side2 A8.out).mono ?_); (case side1 => exact zC (Kd.C_below HR1.out HB.out)); (case side2 => exact HC1.out); rintro e w' ⟨rfl, ⟨nd, rfl⟩⟩; refine ⟨_, rfl, ?_⟩))
   go_ret
   exact ⟨zW, zL1 HB.out GE202.out⟩
  ·rw [if_neg c7] at H
   obtain ⟨c7b0, c7b1⟩ := zf c7
   by_cases c11 : a0_0 = 3
   ·rw [if_pos c11] at H
    obtain ⟨c11b0, c11b1⟩ := zt c11
    clear c11
    by_cases c12 : (l1.length : Int) > 0
    ·rw [if_pos c12] at H
     have c12b0 := decide_eq_true c12
     have c12b1 : decide (0 < l1.length) = true := decide_eq_true (by omega)
     clear c12
     obtain ⟨t204, A13, H⟩ := zO H; try dsimp only at H
     obtain rfl := Option.some.inj H
     go_enter Try.func38, Try.ntmps38
     try go_wp2_with (first | ((with_reducible refine gD 3 rfl ?_); refine bE 3 #[.int .i64 a0_0, .int .i64 a0_1, .string a0_2, .string a0_3, .slice A0_4 l0_4.length c0_4] 29 ?_; intro gb202 hg w14 hbox hb; have BK202 := Aside0.mk hbox; have GW202 := Aside0.mk (zg (zL HB.out) hg : w.heap.size ≤ gb202); have GE202 := GW202; replace HB := zLB (zL HB.out) hb; clear hb hbox hg; have hcz15 := zc5 BK202.out; have hfz15 := zf5 BK202.out))
     replace BK202 := zBD BK202; replace HB := zLD HB
     refine start_ (n := 11) (S := fun w' => zs5 w' gb202 (.int .i64 a0_0) (.int .i64 a0_1) (.string a0_2) (.string a0_3) (.slice A0_4 l0_4.length c0_4)) (ds := []) (fB 11 0) (by kernel_rfl) rfl rfl (zc5 BK202.out) (fun hHeld => ?_); refine with_tabW spec_Wants.tab7 spec_Wants.bits7 (fun HT_ HW_ => ?_)
     generalize w14.drew = w16 at BK202 HB hHeld ⊢
     refine pY 0 20 (fB 11 1) HT_.out ?_
     refine pY 1 21 (fB 11 3) HT_.out ?_
     refine pY 2 22 (fB 11 7) HT_.out ?_
     refine pY 3 23 (fB 11 15) HT_.out ?_
     refine pY 4 24 (fB 11 31) HT_.out ?_
     refine pY 6 26 (fB 11 95) HT_.out ?_
     refine tY 7 27 (fB 11 223) HT_.out HW_.out hHeld ?_
     refine oN 5 25 (fB 11 255) HT_.out fun K hK => ?_
     refine gS Try.func60 #[.slice A1 l1.length c1] ?_
     with_reducible refine (spec_Longest.calls k _ _ l1 t204 _ ?side1 ?side2 A13.out).mono ?_
     (case side1 => exact zC (Kd.C_below HR1.out HB.out))
     (case side2 => exact HC1.out)
     rintro e w17 ⟨rfl, hb⟩
     refine ⟨_, rfl, ?_⟩
     replace BK202 := zBB BK202 hb; replace HB := zLB (zL1 HB.out GE202.out) hb
     clear hb
     refine hK.out _ _ (zc5 BK202.out) fun hHeld => ?_; clear hK K
     refine nZ 25 ?_
     refine pY 8 28 (fB 11 511) HT_.out ?_
     refine pY 9 29 (fB 11 1023) HT_.out ?_
     refine pY 10 6 (fB 11 2047) HT_.out ?_
     refine done_ (done_of HT_.out (by kernel_rfl)) ?_
     try go_wp2
     go_ret
     exact ⟨zW, zL1 HB.out GE202.out⟩
    ·rw [if_neg c12] at H
     have c12b0 := decide_eq_false c12
     have c12b1 : decide (0 < l1.length) = false := decide_eq_false (by omega)
     clear c12
     obtain rfl := Option.some.inj H
     go_enter Try.func38, Try.ntmps38
     try go_wp2_with (first | ((with_reducible refine gD 3 rfl ?_); refine bE 3 #[.int .i64 a0_0, .int .i64 a0_1, .string a0_2, .string a0_3, .slice A0_4 l0_4.length c0_4] 29 ?_; intro gb202 hg w18 hbox hb; have BK202 := Aside0.mk hbox; have GW202 := Aside0.mk (zg (zL HB.out) hg : w.heap.size ≤ gb202); have GE202 := GW202; replace HB := zLB (zL HB.out) hb; clear hb hbox hg; have hcz19 := zc5 BK202.out; have hfz19 := zf5 BK202.out))
     replace BK202 := zBD BK202; replace HB := zLD HB
     refine start_ (n := 11) (S := fun w' => True) (ds := []) (fB 11 0) (by kernel_rfl) rfl rfl trivial (fun hHeld => ?_); refine with_tabW spec_Wants.tab7 spec_Wants.bits7 (fun HT_ HW_ => ?_)
     generalize w18.drew = w20 at BK202 HB hHeld ⊢
     refine pY 0 20 (fB 11 1) HT_.out ?_
     refine pY 1 21 (fB 11 3) HT_.out ?_
     refine pY 2 22 (fB 11 7) HT_.out ?_
     refine pY 3 23 (fB 11 15) HT_.out ?_
     refine pN 4 24 (fB 11 31) HT_.out ?_
     refine pN 5 25 (fB 11 63) HT_.out ?_
     refine pN 6 26 (fB 11 127) HT_.out ?_
     refine pN 7 27 (fB 11 255) HT_.out ?_
     refine pN 8 28 (fB 11 511) HT_.out ?_
     refine pY 9 29 (fB 11 1023) HT_.out ?_
     refine pY 10 6 (fB 11 2047) HT_.out ?_
     refine done_ (done_of HT_.out (by kernel_rfl)) ?_
     try go_wp2
     go_ret
     exact ⟨zW, zL1 HB.out GE202.out⟩
   ·rw [if_neg c11] at H
    obtain ⟨c11b0, c11b1⟩ := zf c11
    have HC21 := Aside0.mk H
    clear H
    go_enter Try.func38, Try.ntmps38
    go_upto_if 30 with (first | ((with_reducible refine gD 3 rfl ?_); refine bE 3 #[.int .i64 a0_0, .int .i64 a0_1, .string a0_2, .string a0_3, .slice A0_4 l0_4.length c0_4] 29 ?_; intro gb202 hg w22 hbox hb; have BK202 := Aside0.mk hbox; have GW202 := Aside0.mk (zg (zL HB.out) hg : w.heap.size ≤ gb202); have GE202 := GW202; replace HB := zLB (zL HB.out) hb; clear hb hbox hg; have hcz23 := zc5 BK202.out; have hfz23 := zf5 BK202.out))
    (try simp only [Act.put, List.setIfInBounds_toArray, List.set_cons_zero, List.set_cons_succ])
    go_cut [30] (fun v30 wc => ∃ (kq : Nat) (x30_20 : Bool), v30 = .bool x30_20 ∧ Aside0 (spec_Wants.j0 kq l1 a2 a0_0 x30_20 a0_0 a0_1 a0_2 a0_3 l0_4 = some r) ∧ Aside0 (kq ≤ k) ∧ Aside0 (wc.heap[gb202]? = some (.cells #[.int .i64 a0_0, .int .i64 a0_1, .string a0_2, .string a0_3, (.slice A0_4 l0_4.length c0_4)] 29 (0, 0))) ∧ Aside0 (Below w.heap.size w wc))
    case first =>
     have H := HC21.out
     clear HC21
     by_cases c24 : a0_0 = 4
     ·rw [if_pos c24] at H
      obtain ⟨c24b0, c24b1⟩ := zt c24
      clear c24
      (first | rw [c24b0] | (simp only [i64_w, i32_w]; rw [c24b0]) | skip)
      have H' := Aside0.mk H
      clear H
      go_wp2
      go_meet
      case rel => exact ⟨_, ((a0_0 == 4)), zV, H', ⟨by first | omega | exact Nat.le_refl _⟩, ⟨zB BK202.out⟩, ⟨zL1 HB.out GE202.out⟩⟩
     ·rw [if_neg c24] at H
      obtain ⟨c24b0, c24b1⟩ := zf c24
      (first | rw [c24b0] | (simp only [i64_w, i32_w]; rw [c24b0]) | skip)
      have H' := Aside0.mk H
      clear H
      go_wp2
      go_meet
      case rel => exact ⟨_, ((a0_0 == 5)), zV, H', ⟨by first | omega | exact Nat.le_refl _⟩, ⟨zB BK202.out⟩, ⟨zL1 HB.out GE202.out⟩⟩
    case rest =>
     clear HC21
     try clear c1
     try clear c2
     try clear p2
     try clear c3
     try clear c4
     try clear c4b0
     try clear c4b1
     try clear c6
     try clear c7
     try clear c7b0
     try clear c7b1
     try clear c11
     try clear c11b0
     try clear c11b1
     try clear c12
     try clear c12b0
     try clear c12b1
     try clear c23
     try clear c24
     try clear c24b0
     try clear c24b1
     try clear hcz10; try clear hcz15; try clear hcz19; try clear hcz23; try clear hcz6; try clear hfz10; try clear hfz15; try clear hfz19; try clear hfz23; try clear hfz6
     obtain ⟨kq, x30_20, rfl, HA, HJ20, BK202, HB⟩ := hcut
     cases kq with
     | zero => exact absurd HA.out (by simp [spec_Wants.j0])
     | succ kj20 =>
      have H := HA.out
      clear HA
      simp only [spec_Wants.j0] at H
      by_cases c25 : x30_20 = true
      ·subst c25
       rw [if_pos rfl] at H
       obtain ⟨t205, A26, H⟩ := zO H; try dsimp only at H
       obtain rfl := Option.some.inj H
       have hcz27 := zc5 BK202.out
       have hfz27 := zf5 BK202.out
       go_wp2_with (first | ((with_reducible refine gC 61 rfl ?_); refine gL 35 Try.func61 #[.agg #[.int .i64 a0_0, .int .i64 a0_1, .string a0_2, .string a0_3, .slice A0_4 l0_4.length c0_4], .slice A1 l1.length c1] ?_; (with_reducible refine (spec_l6Some.calls kj20 a0_0 a0_1 a0_2 a0_3 _ _ l0_4 _ _ l1 t205 _ ?side1 ?side2 ?side3 ?side4 A26.out).mono ?_); (case side1 => exact zC (Kd.C_below HR0_4.out HB.out)); (case side2 => exact HC0_4.out); (case side3 => exact zC (Kd.C_below HR1.out HB.out)); (case side4 => exact HC1.out); rintro e w28 ⟨rfl, hb⟩; refine ⟨_, rfl, ?_⟩; replace BK202 := zBB BK202 hb; replace HB := zLB (zL1 HB.out GE202.out) hb; clear hb))
       go_ret
       exact ⟨zW, zL1 HB.out GE202.out⟩
      ·obtain rfl := Bool.eq_false_iff.mpr c25
       rw [if_neg zn] at H
       by_cases c29 : a0_0 = 6
       ·rw [if_pos c29] at H
        obtain ⟨c29b0, c29b1⟩ := zt c29
        clear c29
        obtain rfl := Option.some.inj H
        go_wp2
        go_ret
        exact ⟨zW, zL1 HB.out GE202.out⟩
       ·rw [if_neg c29] at H
        obtain ⟨c29b0, c29b1⟩ := zf c29
        by_cases c30 : a0_0 = 7
        ·rw [if_pos c30] at H
         obtain ⟨c30b0, c30b1⟩ := zt c30
         clear c30
         have H' := Aside0.mk H
         clear H
         go_wp2
         go_loopg [7] kj20 (fun kq v7 w' => ∃ (x7_2 : Int), v7 = .int .i64 x7_2 ∧ Aside0 (spec_Wants.l0 kq l1 a2 x7_2 a0_0 a0_1 a0_2 a0_3 l0_4 = some r) ∧ Aside0 (kq ≤ kj20) ∧ Aside0 (w'.heap[gb202]? = some (.cells #[.int .i64 a0_0, .int .i64 a0_1, .string a0_2, .string a0_3, (.slice A0_4 l0_4.length c0_4)] 29 (0, 0))) ∧ Aside0 (Below w.heap.size w w'))
         case atStart => exact ⟨(0), zV, H', ⟨Nat.le_refl _⟩, ⟨zB BK202.out⟩, ⟨zL1 HB.out GE202.out⟩⟩
         case round =>
          clear H'
          try clear c1
          try clear c2
          try clear p2
          try clear c3
          try clear c4
          try clear c4b0
          try clear c4b1
          try clear c6
          try clear c7
          try clear c7b0
          try clear c7b1
          try clear c11
          try clear c11b0
          try clear c11b1
          try clear c12
          try clear c12b0
          try clear c12b1
          try clear c23
          try clear c24
          try clear c24b0
          try clear c24b1
          try clear c25
          try clear c29
          try clear c29b0
          try clear c29b1
          try clear c30
          try clear c30b0
          try clear c30b1
          try clear hcz10; try clear hcz15; try clear hcz19; try clear hcz23; try clear hcz27; try clear hcz6; try clear hfz10; try clear hfz15; try clear hfz19; try clear hfz23; try clear hfz27; try clear hfz6
          try clear p2
          try clear BK202
          obtain ⟨x7_2, rfl, HA, HK2, BK202, HB⟩ := hrel
          cases gk with
          | zero => exact absurd HA.out (by simp [spec_Wants.l0])
          | succ k2 =>
           have H := HA.out
           clear HA
           simp only [spec_Wants.l0] at H
           by_cases c31 : x7_2 < (l0_4.length : Int)
           ·rw [if_pos c31] at H
            have c31b0 := decide_eq_true c31
            clear c31
            by_cases c32 : 0 ≤ x7_2
            ·rw [if_pos c32] at H
             have c32b0 := decide_eq_true c32
             clear c32
             obtain ⟨t207, A33, H⟩ := zO H; try dsimp only at H
             by_cases c34 : t207 = true
             ·subst c34
              rw [if_pos rfl] at H
              have H' := Aside0.mk H
              clear H
              have hcz35 := zc5 BK202.out
              have hfz35 := zf5 BK202.out
              have p206 : 0 ≤ (x7_2 : Int) := zD
              have q206 : x7_2 < (l0_4.length : Int) := zD
              obtain ⟨ad206, A206_4, c206_4, e206, hx206_0, hx206_1, hx206_2, hx206_3, hx206_4, hl206_4, hi206_4⟩ := at_T29 HR0_4.out x7_2 p206 q206
              cases e206
              replace hx206_0 := zh HB.out hx206_0
              replace hx206_1 := zh HB.out hx206_1
              replace hx206_2 := zh HB.out hx206_2
              replace hx206_3 := zh HB.out hx206_3
              replace hx206_4 := zh HB.out hx206_4
              have HR206_4 := Aside0.mk hi206_4
              have HC206_4 := Aside0.mk hl206_4
              clear hi206_4 hl206_4
              replace p206 := eq_true p206
              replace q206 := eq_true q206
              go_wp2_with (first | ((with_reducible refine gC 38 rfl ?_); refine gL 58 Try.func38 #[.agg #[.int .i64 ((rd_T29 l0_4 x7_2).f0), .int .i64 ((rd_T29 l0_4 x7_2).f1), .string ((rd_T29 l0_4 x7_2).f2), .string ((rd_T29 l0_4 x7_2).f3), .slice A206_4 ((rd_T29 l0_4 x7_2).f4).length c206_4], .slice A1 l1.length c1, .int .i64 a2] ?_; (with_reducible refine (ih k2 (by have := HJ20.out; have := HK2.out; omega) ((rd_T29 l0_4 x7_2).f0) ((rd_T29 l0_4 x7_2).f1) ((rd_T29 l0_4 x7_2).f2) ((rd_T29 l0_4 x7_2).f3) _ _ ((rd_T29 l0_4 x7_2).f4) _ _ l1 a2 true _ ?side1 ?side2 ?side3 ?side4 A33.out).mono ?_); (case side1 => exact zC (Kd.C_below HR206_4.out HB.out)); (case side2 => exact HC206_4.out); (case side3 => exact zC (Kd.C_below HR1.out HB.out)); (case side4 => exact HC1.out); rintro e w36 ⟨rfl, hb⟩; refine ⟨_, rfl, ?_⟩; replace BK202 := zBB BK202 hb; replace HB := zLB (zL1 HB.out GE202.out) hb; clear hb))
              go_roundg k2
              case measure => have := HJ20.out; have := HK2.out; omega
              case rel => exact ⟨(wrap64 (x7_2 + 1)), zV, H', ⟨by have := HJ20.out; have := HK2.out; omega⟩, ⟨zB BK202.out⟩, ⟨zL1 HB.out GE202.out⟩⟩
             ·obtain rfl := Bool.eq_false_iff.mpr c34
              rw [if_neg zn] at H
              obtain rfl := Option.some.inj H
              have hcz37 := zc5 BK202.out
              have hfz37 := zf5 BK202.out
              have p206 : 0 ≤ (x7_2 : Int) := zD
              have q206 : x7_2 < (l0_4.length : Int) := zD
              obtain ⟨ad206, A206_4, c206_4, e206, hx206_0, hx206_1, hx206_2, hx206_3, hx206_4, hl206_4, hi206_4⟩ := at_T29 HR0_4.out x7_2 p206 q206
              cases e206
              replace hx206_0 := zh HB.out hx206_0
              replace hx206_1 := zh HB.out hx206_1
              replace hx206_2 := zh HB.out hx206_2
              replace hx206_3 := zh HB.out hx206_3
              replace hx206_4 := zh HB.out hx206_4
              have HR206_4 := Aside0.mk hi206_4
              have HC206_4 := Aside0.mk hl206_4
              clear hi206_4 hl206_4
              replace p206 := eq_true p206
              replace q206 := eq_true q206
              go_wp2_with (first | ((with_reducible refine gC 38 rfl ?_); refine gL 58 Try.func38 #[.agg #[.int .i64 ((rd_T29 l0_4 x7_2).f0), .int .i64 ((rd_T29 l0_4 x7_2).f1), .string ((rd_T29 l0_4 x7_2).f2), .string ((rd_T29 l0_4 x7_2).f3), .slice A206_4 ((rd_T29 l0_4 x7_2).f4).length c206_4], .slice A1 l1.length c1, .int .i64 a2] ?_; (with_reducible refine (ih k2 (by have := HJ20.out; have := HK2.out; omega) ((rd_T29 l0_4 x7_2).f0) ((rd_T29 l0_4 x7_2).f1) ((rd_T29 l0_4 x7_2).f2) ((rd_T29 l0_4 x7_2).f3) _ _ ((rd_T29 l0_4 x7_2).f4) _ _ l1 a2 false _ ?side1 ?side2 ?side3 ?side4 A33.out).mono ?_); (case side1 => exact zC (Kd.C_below HR206_4.out HB.out)); (case side2 => exact HC206_4.out); (case side3 => exact zC (Kd.C_below HR1.out HB.out)); (case side4 => exact HC1.out); rintro e w38 ⟨rfl, hb⟩; refine ⟨_, rfl, ?_⟩; replace BK202 := zBB BK202 hb; replace HB := zLB (zL1 HB.out GE202.out) hb; clear hb))
              go_ret
              exact ⟨zW, zL1 HB.out GE202.out⟩
            ·rw [if_neg c32] at H
             exact absurd H (by simp)
           ·rw [if_neg c31] at H
            have c31b0 := decide_eq_false c31
            clear c31
            obtain rfl := Option.some.inj H
            have hcz39 := zc5 BK202.out
            have hfz39 := zf5 BK202.out
            go_wp2
            go_ret
            exact ⟨zW, zL1 HB.out GE202.out⟩
        ·rw [if_neg c30] at H
         obtain ⟨c30b0, c30b1⟩ := zf c30
         by_cases c40 : a0_0 = 8
         ·rw [if_pos c40] at H
          obtain ⟨c40b0, c40b1⟩ := zt c40
          clear c40
          have H' := Aside0.mk H
          clear H
          go_wp2
          go_loopg [8] kj20 (fun kq v8 w' => ∃ (x8_2 : Int), v8 = .int .i64 x8_2 ∧ Aside0 (spec_Wants.l1 kq l1 a2 x8_2 a0_0 a0_1 a0_2 a0_3 l0_4 = some r) ∧ Aside0 (kq ≤ kj20) ∧ Aside0 (w'.heap[gb202]? = some (.cells #[.int .i64 a0_0, .int .i64 a0_1, .string a0_2, .string a0_3, (.slice A0_4 l0_4.length c0_4)] 29 (0, 0))) ∧ Aside0 (Below w.heap.size w w'))
          case atStart => exact ⟨(0), zV, H', ⟨Nat.le_refl _⟩, ⟨zB BK202.out⟩, ⟨zL1 HB.out GE202.out⟩⟩
          case round =>
           clear H'
           try clear c1
           try clear c2
           try clear p2
           try clear q2
           try clear hx2
           try clear c3
           try clear c4
           try clear c4b0
           try clear c4b1
           try clear c6
           try clear p6
           try clear c7
           try clear c7b0
           try clear c7b1
           try clear c11
           try clear c11b0
           try clear c11b1
           try clear c12
           try clear c12b0
           try clear c12b1
           try clear c20
           try clear p20
           try clear q20
           try clear hx20
           try clear c23
           try clear c24
           try clear c24b0
           try clear c24b1
           try clear c25
           try clear c29
           try clear c29b0
           try clear c29b1
           try clear c30
           try clear c30b0
           try clear c30b1
           try clear c31
           try clear c31b0
           try clear c32
           try clear c32b0
           try clear c34
           try clear c38
           try clear c40
           try clear c40b0
           try clear c40b1
           try clear hcz10; try clear hcz15; try clear hcz19; try clear hcz23; try clear hcz27; try clear hcz35; try clear hcz37; try clear hcz39; try clear hcz6; try clear hfz10; try clear hfz15; try clear hfz19; try clear hfz23; try clear hfz27; try clear hfz35; try clear hfz37; try clear hfz39; try clear hfz6
           try clear hx206_0
           try clear hx206_1
           try clear hx206_2
           try clear hx206_3
           try clear hx206_4
           try clear p2
           try clear p206
           try clear q206
           try clear BK202
           obtain ⟨x8_2, rfl, HA, HK2, BK202, HB⟩ := hrel
           cases gk with
           | zero => exact absurd HA.out (by simp [spec_Wants.l1])
           | succ k2 =>
            have H := HA.out
            clear HA
            simp only [spec_Wants.l1] at H
            by_cases c41 : x8_2 < (l0_4.length : Int)
            ·rw [if_pos c41] at H
             have c41b0 := decide_eq_true c41
             clear c41
             by_cases c42 : 0 ≤ x8_2
             ·rw [if_pos c42] at H
              have c42b0 := decide_eq_true c42
              clear c42
              obtain ⟨t209, A43, H⟩ := zO H; try dsimp only at H
              by_cases c44 : t209 = true
              ·subst c44
               rw [if_pos rfl] at H
               obtain rfl := Option.some.inj H
               have hcz45 := zc5 BK202.out
               have hfz45 := zf5 BK202.out
               have p208 : 0 ≤ (x8_2 : Int) := zD
               have q208 : x8_2 < (l0_4.length : Int) := zD
               obtain ⟨ad208, A208_4, c208_4, e208, hx208_0, hx208_1, hx208_2, hx208_3, hx208_4, hl208_4, hi208_4⟩ := at_T29 HR0_4.out x8_2 p208 q208
               cases e208
               replace hx208_0 := zh HB.out hx208_0
               replace hx208_1 := zh HB.out hx208_1
               replace hx208_2 := zh HB.out hx208_2
               replace hx208_3 := zh HB.out hx208_3
               replace hx208_4 := zh HB.out hx208_4
               have HR208_4 := Aside0.mk hi208_4
               have HC208_4 := Aside0.mk hl208_4
               clear hi208_4 hl208_4
               replace p208 := eq_true p208
               replace q208 := eq_true q208
               go_wp2_with (first | ((with_reducible refine gC 38 rfl ?_); refine gL 76 Try.func38 #[.agg #[.int .i64 ((rd_T29 l0_4 x8_2).f0), .int .i64 ((rd_T29 l0_4 x8_2).f1), .string ((rd_T29 l0_4 x8_2).f2), .string ((rd_T29 l0_4 x8_2).f3), .slice A208_4 ((rd_T29 l0_4 x8_2).f4).length c208_4], .slice A1 l1.length c1, .int .i64 a2] ?_; (with_reducible refine (ih k2 (by have := HJ20.out; have := HK2.out; omega) ((rd_T29 l0_4 x8_2).f0) ((rd_T29 l0_4 x8_2).f1) ((rd_T29 l0_4 x8_2).f2) ((rd_T29 l0_4 x8_2).f3) _ _ ((rd_T29 l0_4 x8_2).f4) _ _ l1 a2 true _ ?side1 ?side2 ?side3 ?side4 A43.out).mono ?_); (case side1 => exact zC (Kd.C_below HR208_4.out HB.out)); (case side2 => exact HC208_4.out); (case side3 => exact zC (Kd.C_below HR1.out HB.out)); (case side4 => exact HC1.out); rintro e w46 ⟨rfl, hb⟩; refine ⟨_, rfl, ?_⟩; replace BK202 := zBB BK202 hb; replace HB := zLB (zL1 HB.out GE202.out) hb; clear hb))
               go_ret
               exact ⟨zW, zL1 HB.out GE202.out⟩
              ·obtain rfl := Bool.eq_false_iff.mpr c44
               rw [if_neg zn] at H
               have H' := Aside0.mk H
               clear H
               have hcz47 := zc5 BK202.out
               have hfz47 := zf5 BK202.out
               have p208 : 0 ≤ (x8_2 : Int) := zD
               have q208 : x8_2 < (l0_4.length : Int) := zD
               obtain ⟨ad208, A208_4, c208_4, e208, hx208_0, hx208_1, hx208_2, hx208_3, hx208_4, hl208_4, hi208_4⟩ := at_T29 HR0_4.out x8_2 p208 q208
               cases e208
               replace hx208_0 := zh HB.out hx208_0
               replace hx208_1 := zh HB.out hx208_1
               replace hx208_2 := zh HB.out hx208_2
               replace hx208_3 := zh HB.out hx208_3
               replace hx208_4 := zh HB.out hx208_4
               have HR208_4 := Aside0.mk hi208_4
               have HC208_4 := Aside0.mk hl208_4
               clear hi208_4 hl208_4
               replace p208 := eq_true p208
               replace q208 := eq_true q208
               go_wp2_with (first | ((with_reducible refine gC 38 rfl ?_); refine gL 76 Try.func38 #[.agg #[.int .i64 ((rd_T29 l0_4 x8_2).f0), .int .i64 ((rd_T29 l0_4 x8_2).f1), .string ((rd_T29 l0_4 x8_2).f2), .string ((rd_T29 l0_4 x8_2).f3), .slice A208_4 ((rd_T29 l0_4 x8_2).f4).length c208_4], .slice A1 l1.length c1, .int .i64 a2] ?_; (with_reducible refine (ih k2 (by have := HJ20.out; have := HK2.out; omega) ((rd_T29 l0_4 x8_2).f0) ((rd_T29 l0_4 x8_2).f1) ((rd_T29 l0_4 x8_2).f2) ((rd_T29 l0_4 x8_2).f3) _ _ ((rd_T29 l0_4 x8_2).f4) _ _ l1 a2 false _ ?side1 ?side2 ?side3 ?side4 A43.out).mono ?_); (case side1 => exact zC (Kd.C_below HR208_4.out HB.out)); (case side2 => exact HC208_4.out); (case side3 => exact zC (Kd.C_below HR1.out HB.out)); (case side4 => exact HC1.out); rintro e w48 ⟨rfl, hb⟩; refine ⟨_, rfl, ?_⟩; replace BK202 := zBB BK202 hb; replace HB := zLB (zL1 HB.out GE202.out) hb; clear hb))
               go_roundg k2
               case measure => have := HJ20.out; have := HK2.out; omega
               case rel => exact ⟨(wrap64 (x8_2 + 1)), zV, H', ⟨by have := HJ20.out; have := HK2.out; omega⟩, ⟨zB BK202.out⟩, ⟨zL1 HB.out GE202.out⟩⟩
             ·rw [if_neg c42] at H
              exact absurd H (by simp)
            ·rw [if_neg c41] at H
             have c41b0 := decide_eq_false c41
             clear c41
             obtain rfl := Option.some.inj H
             have hcz49 := zc5 BK202.out
             have hfz49 := zf5 BK202.out
             go_wp2
             go_ret
             exact ⟨zW, zL1 HB.out GE202.out⟩
         ·rw [if_neg c40] at H
          obtain ⟨c40b0, c40b1⟩ := zf c40
          by_cases c50 : a0_0 = 9
          ·rw [if_pos c50] at H
           obtain ⟨c50b0, c50b1⟩ := zt c50
           clear c50
           by_cases c51 : (l0_4.length : Int) = 0
           ·rw [if_pos c51] at H
            obtain ⟨c51b0, c51b1⟩ := zt c51
            clear c51
            obtain rfl := Option.some.inj H
            have hcz52 := zc5 BK202.out
            have hfz52 := zf5 BK202.out
            go_wp2
            go_ret
            exact ⟨zW, zL1 HB.out GE202.out⟩
           ·rw [if_neg c51] at H
            obtain ⟨c51b0, c51b1⟩ := zf c51
            have c51b2 : ¬ (l0_4 = []) := fun h_ => c51 (by rw [h_]; rfl)
            by_cases c53 : 0 < (l0_4.length : Int)
            ·rw [if_pos c53] at H
             have c53b0 := decide_eq_true c53
             have c53b1 : decide (0 < l0_4.length) = true := decide_eq_true (by omega)
             clear c53
             obtain ⟨t211, A54, H⟩ := zO H; try dsimp only at H
             obtain rfl := Option.some.inj H
             have hcz55 := zc5 BK202.out
             have hfz55 := zf5 BK202.out
             have p210 : 0 ≤ (0 : Int) := (by omega)
             have q210 : 0 < (l0_4.length : Int) := zD
             obtain ⟨ad210, A210_4, c210_4, e210, hx210_0, hx210_1, hx210_2, hx210_3, hx210_4, hl210_4, hi210_4⟩ := at_T29 HR0_4.out 0 p210 q210
             cases e210
             have qi210 : (0 < l0_4.length) = True := eq_true (by omega)
             (try rw [show ((0 : Int)).toNat = 0 from rfl] at hx210_0)
             (try rw [show 0 * 5 = 0 from rfl] at hx210_0)
             (try rw [Addr.add_zero'] at hx210_0)
             (try rw [show ((0 : Int)).toNat = 0 from rfl] at hx210_1)
             (try rw [show 0 * 5 = 0 from rfl] at hx210_1)
             (try rw [Addr.add_zero'] at hx210_1)
             (try rw [show ((0 : Int)).toNat = 0 from rfl] at hx210_2)
             (try rw [show 0 * 5 = 0 from rfl] at hx210_2)
             (try rw [Addr.add_zero'] at hx210_2)
             (try rw [show ((0 : Int)).toNat = 0 from rfl] at hx210_3)
             (try rw [show 0 * 5 = 0 from rfl] at hx210_3)
             (try rw [Addr.add_zero'] at hx210_3)
             (try rw [show ((0 : Int)).toNat = 0 from rfl] at hx210_4)
             (try rw [show 0 * 5 = 0 from rfl] at hx210_4)
             (try rw [Addr.add_zero'] at hx210_4)
             replace hx210_0 := zh HB.out hx210_0
             replace hx210_1 := zh HB.out hx210_1
             replace hx210_2 := zh HB.out hx210_2
             replace hx210_3 := zh HB.out hx210_3
             replace hx210_4 := zh HB.out hx210_4
             have HR210_4 := Aside0.mk hi210_4
             have HC210_4 := Aside0.mk hl210_4
             clear hi210_4 hl210_4
             replace p210 := eq_true p210
             replace q210 := eq_true q210
             go_wp2_with (first | (go_at_call 38; (with_reducible refine (ih kj20 (by have := HJ20.out; omega) ((rd_T29 l0_4 0).f0) ((rd_T29 l0_4 0).f1) ((rd_T29 l0_4 0).f2) ((rd_T29 l0_4 0).f3) _ _ ((rd_T29 l0_4 0).f4) _ _ l1 a2 t211 _ ?side1 ?side2 ?side3 ?side4 A54.out).mono ?_); (case side1 => exact zC (Kd.C_below HR210_4.out HB.out)); (case side2 => exact HC210_4.out); (case side3 => exact zC (Kd.C_below HR1.out HB.out)); (case side4 => exact HC1.out); rintro e w56 ⟨rfl, hb⟩; replace BK202 := zBB BK202 hb; replace HB := zLB (zL1 HB.out GE202.out) hb; clear hb))
             go_ret
             exact ⟨zW, zL1 HB.out GE202.out⟩
            ·rw [if_neg c53] at H
             exact absurd H (by simp)
          ·rw [if_neg c50] at H
           obtain ⟨c50b0, c50b1⟩ := zf c50
           obtain rfl := Option.some.inj H
           go_wp2
           go_ret
           exact ⟨zW, zL1 HB.out GE202.out⟩

open Go.Proofs.YtfhblnbicnmndaaW.PrintWords renaming blk_drewN → bN, blk_drew → bD, blk_alloc → bA, blk_cell → bC, blk_below → bB, below_set → bS
/-! ### spec_Judge: function 40 -/
def spec_Judge.f (k : Nat) (a0_0 : Int) (a0_1 : Int) (a0_2 : ByteArray) (a0_3 : ByteArray) (l0_4 : List (S29)) (l1 : List (S73)) (a2 : Int) : Option (Bool × Int) := (spec_Wants.f k a0_0 a0_1 a0_2 a0_3 l0_4 l1 a2).bind fun t213 => (if t213 = true then ((spec_HasRate.f k a0_0 a0_1 a0_2 a0_3 l0_4).bind fun t214 => (if t214 = true then ((spec_Cap.f a2).bind fun t215 => (if (l1.length : Int) > t215 then ((spec_Cap.f a2).bind fun t216 => (some (true, t216))) else (some (true, (l1.length : Int))))) else (some (true, 0)))) else (some (false, 0)))
theorem spec_Judge.mono : ∀ a0 a1 a2 a3 a4 a5 a6 k, LeO (spec_Judge.f k a0 a1 a2 a3 a4 a5 a6) (spec_Judge.f (k + 1) a0 a1 a2 a3 a4 a5 a6) := by
 intro a0 a1 a2 a3 a4 a5 a6 k
 unfold spec_Judge.f
 repeat' first
   | (with_reducible apply spec_HasRate.mono)
   | (with_reducible apply spec_Wants.mono)
   | (with_reducible exact LeO.refl _)
   | (with_reducible exact LeO.none _)
   | (with_reducible refine LeO.ite ?_ ?_)
   | (with_reducible refine LeO.bind ?_ (fun _ => ?_))
   | apply spec_HasRate.mono
   | apply spec_Wants.mono
   | exact LeO.none _
   | refine LeO.ite ?_ ?_
   | refine LeO.bind ?_ (fun _ => ?_)
set_option maxHeartbeats 8000000 in
set_option maxRecDepth 100000 in
theorem spec_Judge.calls (k : Nat) (a0_0 : Int) (a0_1 : Int) (a0_2 : ByteArray) (a0_3 : ByteArray) (A0_4 : Option Addr) (c0_4 : Nat) (l0_4 : List (S29)) (A1 : Option Addr) (c1 : Nat) (l1 : List (S73)) (a2 : Int) (r1 : Bool) (r2 : Int) (w : World) (hr0_4 : Kd.C k29 w A0_4 l0_4.length l0_4) (hc0_4 : l0_4.length ≤ c0_4) (hr1 : Kd.C k73 w A1 l1.length l1) (hc1 : l1.length ≤ c1) (h : spec_Judge.f k a0_0 a0_1 a0_2 a0_3 l0_4 l1 a2 = some (r1, r2)) :
  Calls Try.prog 40 #[.agg #[.int .i64 a0_0, .int .i64 a0_1, .string a0_2, .string a0_3, .slice A0_4 l0_4.length c0_4], .slice A1 l1.length c1, .int .i64 a2] w fun e w' => e = .returned (.tuple #[.bool r1, .int .i64 r2]) ∧ Below w.heap.size w w' := by
 have hu29 := Try.underlying29
 have HR0_4 := Aside0.mk hr0_4
 have HC0_4 := Aside0.mk hc0_4
 clear hr0_4 hc0_4
 have HR1 := Aside0.mk hr1
 have HC1 := Aside0.mk hc1
 clear hr1 hc1
 have HB := Aside0.mk (Below.refl w.heap.size w)
 unfold spec_Judge.f at h; have H := h
 clear h
 obtain ⟨t213, A4, H⟩ := zO H; try dsimp only at H
 by_cases c5 : t213 = true
 ·subst c5
  rw [if_pos rfl] at H
  obtain ⟨t214, A6, H⟩ := zO H; try dsimp only at H
  by_cases c7 : t214 = true
  ·subst c7
   rw [if_pos rfl] at H
   obtain ⟨t215, A8, H⟩ := zO H; try dsimp only at H
   by_cases c9 : (l1.length : Int) > t215
   ·rw [if_pos c9] at H
    have c9b0 := decide_eq_true c9
    clear c9
    obtain ⟨t216, A10, H⟩ := zO H; try dsimp only at H
    obtain rfl : t215 = t216 := Option.some.inj (A8.out.symm.trans A10.out)
    clear A10
    simp only [Option.some.injEq, Prod.mk.injEq] at H
    obtain ⟨rfl, rfl⟩ := H
    go_enter Try.func40, Try.ntmps40
    go_wp2_with (first | ((with_reducible refine gD 3 rfl ?_); refine bE 3 #[.int .i64 a0_0, .int .i64 a0_1, .string a0_2, .string a0_3, .slice A0_4 l0_4.length c0_4] 29 ?_; intro gb212 hg w11 hbox hb; have BK212 := Aside0.mk hbox; have GW212 := Aside0.mk (zg (zL HB.out) hg : w.heap.size ≤ gb212); have GE212 := GW212; replace HB := zLB (zL HB.out) hb; clear hb hbox hg; have hcz12 := zc5 BK212.out; have hfz12 := zf5 BK212.out) | ((with_reducible refine gC 38 rfl ?_); refine gL 12 Try.func38 #[.agg #[.int .i64 a0_0, .int .i64 a0_1, .string a0_2, .string a0_3, .slice A0_4 l0_4.length c0_4], .slice A1 l1.length c1, .int .i64 a2] ?_; (with_reducible refine (spec_Wants.calls k a0_0 a0_1 a0_2 a0_3 _ _ l0_4 _ _ l1 a2 true _ ?side1 ?side2 ?side3 ?side4 A4.out).mono ?_); (case side1 => exact zC (Kd.C_below HR0_4.out HB.out)); (case side2 => exact HC0_4.out); (case side3 => exact zC (Kd.C_below HR1.out HB.out)); (case side4 => exact HC1.out); rintro e w13 ⟨rfl, hb⟩; refine ⟨_, rfl, ?_⟩; replace BK212 := zBB BK212 hb; replace HB := zLB (zL1 HB.out GE212.out) hb; clear hb; have hcz14 := zc5 BK212.out; have hfz14 := zf5 BK212.out) | ((with_reducible refine gC 18 rfl ?_); refine gL 15 Try.func18 #[.agg #[.int .i64 a0_0, .int .i64 a0_1, .string a0_2, .string a0_3, .slice A0_4 l0_4.length c0_4]] ?_; (with_reducible refine (spec_HasRate.calls k a0_0 a0_1 a0_2 a0_3 _ _ l0_4 true _ ?side1 ?side2 A6.out).mono ?_); (case side1 => exact zC (Kd.C_below HR0_4.out HB.out)); (case side2 => exact HC0_4.out); rintro e w15 ⟨rfl, hb⟩; refine ⟨_, rfl, ?_⟩; replace BK212 := zBB BK212 hb; replace HB := zLB (zL1 HB.out GE212.out) hb; clear hb) | ((with_reducible refine gC 70 rfl ?_); refine gL 21 Try.func70 #[.int .i64 a2] ?_; (with_reducible refine (spec_Cap.calls a2 t215 _ A8.out).mono ?_); rintro e w' ⟨rfl, ⟨nd, rfl⟩⟩; refine ⟨_, rfl, ?_⟩) | ((with_reducible refine gC 70 rfl ?_); refine gL 24 Try.func70 #[.int .i64 a2] ?_; (with_reducible refine (spec_Cap.calls a2 t215 _ A8.out).mono ?_); rintro e w' ⟨rfl, ⟨nd, rfl⟩⟩; refine ⟨_, rfl, ?_⟩))
    go_ret2
    exact ⟨zW, zL1 HB.out GE212.out⟩
   ·rw [if_neg c9] at H
    have c9b0 := decide_eq_false c9
    clear c9
    simp only [Option.some.injEq, Prod.mk.injEq] at H
    obtain ⟨rfl, rfl⟩ := H
    go_enter Try.func40, Try.ntmps40
    go_wp2_with (first | ((with_reducible refine gD 3 rfl ?_); refine bE 3 #[.int .i64 a0_0, .int .i64 a0_1, .string a0_2, .string a0_3, .slice A0_4 l0_4.length c0_4] 29 ?_; intro gb212 hg w16 hbox hb; have BK212 := Aside0.mk hbox; have GW212 := Aside0.mk (zg (zL HB.out) hg : w.heap.size ≤ gb212); have GE212 := GW212; replace HB := zLB (zL HB.out) hb; clear hb hbox hg; have hcz17 := zc5 BK212.out; have hfz17 := zf5 BK212.out) | ((with_reducible refine gC 38 rfl ?_); refine gL 12 Try.func38 #[.agg #[.int .i64 a0_0, .int .i64 a0_1, .string a0_2, .string a0_3, .slice A0_4 l0_4.length c0_4], .slice A1 l1.length c1, .int .i64 a2] ?_; (with_reducible refine (spec_Wants.calls k a0_0 a0_1 a0_2 a0_3 _ _ l0_4 _ _ l1 a2 true _ ?side1 ?side2 ?side3 ?side4 A4.out).mono ?_); (case side1 => exact zC (Kd.C_below HR0_4.out HB.out)); (case side2 => exact HC0_4.out); (case side3 => exact zC (Kd.C_below HR1.out HB.out)); (case side4 => exact HC1.out); rintro e w18 ⟨rfl, hb⟩; refine ⟨_, rfl, ?_⟩; replace BK212 := zBB BK212 hb; replace HB := zLB (zL1 HB.out GE212.out) hb; clear hb; have hcz19 := zc5 BK212.out; have hfz19 := zf5 BK212.out) | ((with_reducible refine gC 18 rfl ?_); refine gL 15 Try.func18 #[.agg #[.int .i64 a0_0, .int .i64 a0_1, .string a0_2, .string a0_3, .slice A0_4 l0_4.length c0_4]] ?_; (with_reducible refine (spec_HasRate.calls k a0_0 a0_1 a0_2 a0_3 _ _ l0_4 true _ ?side1 ?side2 A6.out).mono ?_); (case side1 => exact zC (Kd.C_below HR0_4.out HB.out)); (case side2 => exact HC0_4.out); rintro e w20 ⟨rfl, hb⟩; refine ⟨_, rfl, ?_⟩; replace BK212 := zBB BK212 hb; replace HB := zLB (zL1 HB.out GE212.out) hb; clear hb) | ((with_reducible refine gC 70 rfl ?_); refine gL 21 Try.func70 #[.int .i64 a2] ?_; (with_reducible refine (spec_Cap.calls a2 t215 _ A8.out).mono ?_); rintro e w' ⟨rfl, ⟨nd, rfl⟩⟩; refine ⟨_, rfl, ?_⟩))
    go_ret2
    exact ⟨zW, zL1 HB.out GE212.out⟩
  ·obtain rfl := Bool.eq_false_iff.mpr c7
   rw [if_neg zn] at H
   simp only [Option.some.injEq, Prod.mk.injEq] at H
   obtain ⟨rfl, rfl⟩ := H
   go_enter Try.func40, Try.ntmps40
   go_wp2_with (first | ((with_reducible refine gD 3 rfl ?_); refine bE 3 #[.int .i64 a0_0, .int .i64 a0_1, .string a0_2, .string a0_3, .slice A0_4 l0_4.length c0_4] 29 ?_; intro gb212 hg w21 hbox hb; have BK212 := Aside0.mk hbox; have GW212 := Aside0.mk (zg (zL HB.out) hg : w.heap.size ≤ gb212); have GE212 := GW212; replace HB := zLB (zL HB.out) hb; clear hb hbox hg; have hcz22 := zc5 BK212.out; have hfz22 := zf5 BK212.out) | ((with_reducible refine gC 38 rfl ?_); refine gL 12 Try.func38 #[.agg #[.int .i64 a0_0, .int .i64 a0_1, .string a0_2, .string a0_3, .slice A0_4 l0_4.length c0_4], .slice A1 l1.length c1, .int .i64 a2] ?_; (with_reducible refine (spec_Wants.calls k a0_0 a0_1 a0_2 a0_3 _ _ l0_4 _ _ l1 a2 true _ ?side1 ?side2 ?side3 ?side4 A4.out).mono ?_); (case side1 => exact zC (Kd.C_below HR0_4.out HB.out)); (case side2 => exact HC0_4.out); (case side3 => exact zC (Kd.C_below HR1.out HB.out)); (case side4 => exact HC1.out); rintro e w23 ⟨rfl, hb⟩; refine ⟨_, rfl, ?_⟩; replace BK212 := zBB BK212 hb; replace HB := zLB (zL1 HB.out GE212.out) hb; clear hb; have hcz24 := zc5 BK212.out; have hfz24 := zf5 BK212.out) | ((with_reducible refine gC 18 rfl ?_); refine gL 15 Try.func18 #[.agg #[.int .i64 a0_0, .int .i64 a0_1, .string a0_2, .string a0_3, .slice A0_4 l0_4.length c0_4]] ?_; (with_reducible refine (spec_HasRate.calls k a0_0 a0_1 a0_2 a0_3 _ _ l0_4 false _ ?side1 ?side2 A6.out).mono ?_); (case side1 => exact zC (Kd.C_below HR0_4.out HB.out)); (case side2 => exact HC0_4.out); rintro e w25 ⟨rfl, hb⟩; refine ⟨_, rfl, ?_⟩; replace BK212 := zBB BK212 hb; replace HB := zLB (zL1 HB.out GE212.out) hb; clear hb))
   go_ret2
   exact ⟨zW, zL1 HB.out GE212.out⟩
 ·obtain rfl := Bool.eq_false_iff.mpr c5
  rw [if_neg zn] at H
  simp only [Option.some.injEq, Prod.mk.injEq] at H
  obtain ⟨rfl, rfl⟩ := H
  go_enter Try.func40, Try.ntmps40
  go_wp2_with (first | ((with_reducible refine gD 3 rfl ?_); refine bE 3 #[.int .i64 a0_0, .int .i64 a0_1, .string a0_2, .string a0_3, .slice A0_4 l0_4.length c0_4] 29 ?_; intro gb212 hg w26 hbox hb; have BK212 := Aside0.mk hbox; have GW212 := Aside0.mk (zg (zL HB.out) hg : w.heap.size ≤ gb212); have GE212 := GW212; replace HB := zLB (zL HB.out) hb; clear hb hbox hg; have hcz27 := zc5 BK212.out; have hfz27 := zf5 BK212.out) | ((with_reducible refine gC 38 rfl ?_); refine gL 12 Try.func38 #[.agg #[.int .i64 a0_0, .int .i64 a0_1, .string a0_2, .string a0_3, .slice A0_4 l0_4.length c0_4], .slice A1 l1.length c1, .int .i64 a2] ?_; (with_reducible refine (spec_Wants.calls k a0_0 a0_1 a0_2 a0_3 _ _ l0_4 _ _ l1 a2 false _ ?side1 ?side2 ?side3 ?side4 A4.out).mono ?_); (case side1 => exact zC (Kd.C_below HR0_4.out HB.out)); (case side2 => exact HC0_4.out); (case side3 => exact zC (Kd.C_below HR1.out HB.out)); (case side4 => exact HC1.out); rintro e w28 ⟨rfl, hb⟩; refine ⟨_, rfl, ?_⟩; replace BK212 := zBB BK212 hb; replace HB := zLB (zL1 HB.out GE212.out) hb; clear hb))
  go_ret2
  exact ⟨zW, zL1 HB.out GE212.out⟩

section
variable {P : Program} {ops : Array Oper} {rest : List Oper} {Q : Exit → Act → World → Prop} {W : World} {a : Act}
/-- The operation is a call of a function value in a place. -/
theorem gate_calleeC {o : Oper} {t : Tmp} {us : Array Operand} {ts : Array TypeId} (_ho : o.op = .call { callee := .value (.tmp t), args := us, argTypes := ts }) (h : wpList P ops Q (o :: rest) a W) : wpList P ops Q (o :: rest) a W := h
/-- A call of a closure, in a plain region. -/
theorem goesC_ {oi : Oper} {w : World} {t : Tmp} {f : FuncId} {cap : Array Value} (hv : a.eval (.tmp t) = .func (.func f) #[] cap) (N : Option Tmp) (hd : oi.dst = N) (hg : oi.guard = none) {fn : Func} {us : Array Operand} {ts : Array TypeId} (hf : P.funcs[f]? = some fn) (hname : (fn.name == "runtime.NumGoroutine") = false) (hb : fn.body.isSome = true) (args : Array Value)
    (hop : oi.op = .call { callee := .value (.tmp t), args := us, argTypes := ts }) (hargs : us.map a.eval = args)
    (h : Calls P f (args ++ cap) w fun e w' => ∃ v, e = .returned v ∧ wpList P ops Q rest (a.put N v) w') : wpList P ops Q (oi :: rest) a w := by
  refine wpList_plain hg fun K hK => ?_
  have he := enters_ hf hname hb (args ++ cap) w
  have hrun : (execOp a.eval oi).run P w = .ok (.enter f (args ++ cap)) w := by
    unfold execOp
    simp [hop, resolve, Deferred.ofValue, invoke, hv, hargs, he]
  unfold Oper.wp
  rw [hrun, Oper.upon_enter]
  refine h.mono fun e w'' hh => ?_
  obtain ⟨v, rfl, hk⟩ := hh
  subst hd
  exact hK _ _ hk
end
open Go.Proofs.YtfhblnbicnmndaaW.PrintWords renaming blk_drewN → bN, blk_drew → bD, blk_alloc → bA, blk_cell → bC, blk_below → bB, below_set → bS
/-! ### impl_Pol_78: function 78 -/
def impl_Pol_78.l0 (F_ : Int → Int → ByteArray → ByteArray → List S29 → Option (Bool)) : Nat → List (S29) → Int → Int → Option (Int)
 | 0, _, _, _ => none
 | k + 1, x0, x7, x8 => if x8 < x7 then (if 0 ≤ x8 then (if x8 < (x0.length : Int) then ((F_ ((rd_T29 x0 x8).f0) ((rd_T29 x0 x8).f1) ((rd_T29 x0 x8).f2) ((rd_T29 x0 x8).f3) ((rd_T29 x0 x8).f4)).bind fun t218 => (if t218 = true then (some x8) else (impl_Pol_78.l0 F_ k x0 x7 (wrap64 (x8 + 1))))) else (none)) else (none)) else (some (-1))
def impl_Pol_78.f (F_ : Int → Int → ByteArray → ByteArray → List S29 → Option (Bool)) (k : Nat) (l0 : List (S29)) : Option (Int) := impl_Pol_78.l0 F_ k l0 (l0.length : Int) 0
set_option maxHeartbeats 8000000 in
set_option maxRecDepth 100000 in
theorem impl_Pol_78.calls {F_ : Int → Int → ByteArray → ByteArray → List S29 → Option (Bool)} {f_ : FuncId} {fn_ : Func} {c_ : Array Value} (hf_ : Try.prog.funcs[f_]? = some fn_) (hn_ : (fn_.name == "runtime.NumGoroutine") = false) (hb_ : fn_.body.isSome = true) (k : Nat) (A0 : Option Addr) (c0 : Nat) (l0 : List (S29)) (r : Int) (w : World) (hF_ : ∀ (x0_ x1_ : Int) (x2_ x3_ : ByteArray) (A4_ : Option Addr) (c4_ : Nat) (x4_ : List S29) (q_ : Bool) (W_ : World), Below w.heap.size w W_ → Kd.C k29 W_ A4_ x4_.length x4_ → x4_.length ≤ c4_ → F_ x0_ x1_ x2_ x3_ x4_ = some q_ → Calls Try.prog f_ (#[.agg #[.int .i64 x0_, .int .i64 x1_, .string x2_, .string x3_, .slice A4_ x4_.length c4_]] ++ c_) W_ fun e w' => e = .returned (.bool q_) ∧ Below W_.heap.size W_ w') (hr0 : Kd.C k29 w A0 l0.length l0) (hc0 : l0.length ≤ c0) (h : impl_Pol_78.f F_ k l0 = some r) :
  Calls Try.prog 78 #[.slice A0 l0.length c0, .func (.func f_) #[] c_] w fun e w' => e = .returned (.int .i64 r) ∧ Below w.heap.size w w' := by
 have hu29 := Try.underlying29
 have HR0 := Aside0.mk hr0
 have HC0 := Aside0.mk hc0
 clear hr0 hc0
 have HB := Aside0.mk (Below.refl w.heap.size w)
 unfold impl_Pol_78.f at h; have H := h
 clear h
 have H' := Aside0.mk H
 clear H
 go_enter Try.func78, Try.ntmps78
 go_wp2
 go_loopg [8] k (fun kq v8 w' => ∃ (x8_1 : Int), v8 = .int .i64 x8_1 ∧ Aside0 (impl_Pol_78.l0 F_ kq l0 (l0.length : Int) x8_1 = some r) ∧ Aside0 (kq ≤ k) ∧ Aside0 (Below w.heap.size w w'))
 case atStart => exact ⟨(0), zV, H', ⟨Nat.le_refl _⟩, ⟨zL HB.out⟩⟩
 case round =>
  clear H'
  obtain ⟨x8_1, rfl, HA, HK1, HB⟩ := hrel
  cases gk with
  | zero => exact absurd HA.out (by simp [impl_Pol_78.l0])
  | succ k1 =>
   have H := HA.out
   clear HA
   simp only [impl_Pol_78.l0] at H
   by_cases c2 : x8_1 < (l0.length : Int)
   ·rw [if_pos c2] at H
    have c2b0 := decide_eq_true c2
    clear c2
    by_cases c3 : 0 ≤ x8_1
    ·rw [if_pos c3] at H
     have c3b0 := decide_eq_true c3
     clear c3
     by_cases c4 : x8_1 < (l0.length : Int)
     ·rw [if_pos c4] at H
      have c4b0 := decide_eq_true c4
      clear c4
      obtain ⟨t218, A5, H⟩ := zO H; try dsimp only at H
      by_cases c6 : t218 = true
      ·subst c6
       rw [if_pos rfl] at H
       obtain rfl := Option.some.inj H
       have p217 : 0 ≤ (x8_1 : Int) := zD
       have q217 : x8_1 < (l0.length : Int) := zD
       obtain ⟨ad217, A217_4, c217_4, e217, hx217_0, hx217_1, hx217_2, hx217_3, hx217_4, hl217_4, hi217_4⟩ := at_T29 HR0.out x8_1 p217 q217
       cases e217
       replace hx217_0 := zh HB.out hx217_0
       replace hx217_1 := zh HB.out hx217_1
       replace hx217_2 := zh HB.out hx217_2
       replace hx217_3 := zh HB.out hx217_3
       replace hx217_4 := zh HB.out hx217_4
       have HR217_4 := Aside0.mk hi217_4
       have HC217_4 := Aside0.mk hl217_4
       clear hi217_4 hl217_4
       replace p217 := eq_true p217
       replace q217 := eq_true q217
       go_wp2_with (first | ((with_reducible refine gate_calleeC (t := 11) rfl ?_); refine goesC_ (t := 11) (f := f_) (cap := c_) (by rfl) (some 16) rfl rfl hf_ hn_ hb_ #[.agg #[.int .i64 ((rd_T29 l0 x8_1).f0), .int .i64 ((rd_T29 l0 x8_1).f1), .string ((rd_T29 l0 x8_1).f2), .string ((rd_T29 l0 x8_1).f3), .slice A217_4 ((rd_T29 l0 x8_1).f4).length c217_4]] rfl zE ?_; (with_reducible refine (hF_ ((rd_T29 l0 x8_1).f0) ((rd_T29 l0 x8_1).f1) ((rd_T29 l0 x8_1).f2) ((rd_T29 l0 x8_1).f3) _ _ ((rd_T29 l0 x8_1).f4) true _ HB.out ?side1 ?side2 A5.out).mono ?_); (case side1 => exact zC (Kd.C_below HR217_4.out HB.out)); (case side2 => exact HC217_4.out); rintro e w7 ⟨rfl, hb⟩; refine ⟨_, rfl, ?_⟩; replace HB := zLB (zL HB.out) hb; clear hb))
       go_ret
       exact ⟨zW, zL HB.out⟩
      ·obtain rfl := Bool.eq_false_iff.mpr c6
       rw [if_neg zn] at H
       have H' := Aside0.mk H
       clear H
       have p217 : 0 ≤ (x8_1 : Int) := zD
       have q217 : x8_1 < (l0.length : Int) := zD
       obtain ⟨ad217, A217_4, c217_4, e217, hx217_0, hx217_1, hx217_2, hx217_3, hx217_4, hl217_4, hi217_4⟩ := at_T29 HR0.out x8_1 p217 q217
       cases e217
       replace hx217_0 := zh HB.out hx217_0
       replace hx217_1 := zh HB.out hx217_1
       replace hx217_2 := zh HB.out hx217_2
       replace hx217_3 := zh HB.out hx217_3
       replace hx217_4 := zh HB.out hx217_4
       have HR217_4 := Aside0.mk hi217_4
       have HC217_4 := Aside0.mk hl217_4
       clear hi217_4 hl217_4
       replace p217 := eq_true p217
       replace q217 := eq_true q217
       go_wp2_with (first | ((with_reducible refine gate_calleeC (t := 11) rfl ?_); refine goesC_ (t := 11) (f := f_) (cap := c_) (by rfl) (some 16) rfl rfl hf_ hn_ hb_ #[.agg #[.int .i64 ((rd_T29 l0 x8_1).f0), .int .i64 ((rd_T29 l0 x8_1).f1), .string ((rd_T29 l0 x8_1).f2), .string ((rd_T29 l0 x8_1).f3), .slice A217_4 ((rd_T29 l0 x8_1).f4).length c217_4]] rfl zE ?_; (with_reducible refine (hF_ ((rd_T29 l0 x8_1).f0) ((rd_T29 l0 x8_1).f1) ((rd_T29 l0 x8_1).f2) ((rd_T29 l0 x8_1).f3) _ _ ((rd_T29 l0 x8_1).f4) false _ HB.out ?side1 ?side2 A5.out).mono ?_); (case side1 => exact zC (Kd.C_below HR217_4.out HB.out)); (case side2 => exact HC217_4.out); rintro e w8 ⟨rfl, hb⟩; refine ⟨_, rfl, ?_⟩; replace HB := zLB (zL HB.out) hb; clear hb))
       go_roundg k1
       case measure => have := HK1.out; omega
       case rel => exact ⟨(wrap64 (x8_1 + 1)), zV, H', ⟨by have := HK1.out; omega⟩, ⟨zL HB.out⟩⟩
     ·rw [if_neg c4] at H
      exact absurd H (by simp)
    ·rw [if_neg c3] at H
     exact absurd H (by simp)
   ·rw [if_neg c2] at H
    have c2b0 := decide_eq_false c2
    clear c2
    obtain rfl := Option.some.inj H
    go_wp2
    go_ret
    exact ⟨zW, zL HB.out⟩

/-! ### impl_Pol_49: function 49, by hand -/
/-- The function value of code f_ and captures c_ answers of a rule as F_ does, in each later world. -/
@[reducible] def CloP (F_ : Int → Int → ByteArray → ByteArray → List S29 → Option (Bool)) (f_ : FuncId) (c_ : Array Value) (w : World) : Prop := ∀ (x0_ x1_ : Int) (x2_ x3_ : ByteArray) (A4_ : Option Addr) (c4_ : Nat) (x4_ : List S29) (q_ : Bool) (W_ : World), Below w.heap.size w W_ → Kd.C k29 W_ A4_ x4_.length x4_ → x4_.length ≤ c4_ → F_ x0_ x1_ x2_ x3_ x4_ = some q_ → Calls Try.prog f_ (#[.agg #[.int .i64 x0_, .int .i64 x1_, .string x2_, .string x3_, .slice A4_ x4_.length c4_]] ++ c_) W_ fun e w' => e = .returned (.bool q_) ∧ Below W_.heap.size W_ w'
def impl_Pol_49.f (F_ : Int → Int → ByteArray → ByteArray → List S29 → Option (Bool)) (k : Nat) (l0 : List (S29)) : Option Bool := (impl_Pol_78.f F_ k l0).bind fun t => some (decide (0 ≤ t))
section
variable {f_ : FuncId} {fn_ : Func} {c_ : Array Value} (hf_ : Try.prog.funcs[f_]? = some fn_) (hn_ : (fn_.name == "runtime.NumGoroutine") = false) (hb_ : fn_.body.isSome = true) (k : Nat) (A0 : Option Addr) (c0 : Nat)
set_option maxHeartbeats 8000000 in
set_option maxRecDepth 100000 in
include hf_ hn_ hb_ in
theorem impl_Pol_49.calls {F_ : Int → Int → ByteArray → ByteArray → List S29 → Option (Bool)} (l0 : List S29) (r : Bool) (w : World) (hF_ : CloP F_ f_ c_ w) (hr0 : Kd.C k29 w A0 l0.length l0) (hc0 : l0.length ≤ c0) (h : impl_Pol_49.f F_ k l0 = some r) :
    Calls Try.prog 49 #[.slice A0 l0.length c0, .func (.func f_) #[] c_] w fun e w' => e = .returned (.bool r) ∧ Below w.heap.size w w' := by
  unfold impl_Pol_49.f at h
  obtain ⟨t, ht, h⟩ := Option.bind_eq_some_iff.mp h
  obtain rfl := Option.some.inj h
  have HX := Aside0.mk (impl_Pol_78.calls hf_ hn_ hb_ k A0 c0 l0 t w hF_ hr0 hc0 ht)
  clear hF_ hr0 hc0 ht h
  go_enter Try.func49, Try.ntmps49
  go_wp2_with (go_at_call 78; refine HX.out.mono ?_; rintro e w7 ⟨rfl, hb⟩; have HB := Aside0.mk hb; clear hb)
  go_ret
  exact ⟨rfl, HB.out⟩
end

end Go.Proofs.Ytfhblnbicnmndaa.QFnExactJudge
