/- What the Go functions that the law FnTimes reaches answer: each as a Lean function, with its walk. Written by a program of this session. Conditions: those that each theorem names. -/
import Derived.Test.YtggenhomnbnodaaQFnTimesx0
import Derived.Test.YtggenhomnbnodaaQFnTimesx3
import Derived.Test.YtggenhomnbnodaaQFnTimesx4
namespace Go.Proofs.Ytggenhomnbnodaa.QFnTimes
open Go.RowKit Go.Proofs.YtggenhomnbnodaaW.PrintWords Go.Proofs.YtggenhomnbnodaaW.PrintLast Go.Proofs.YtggenhomnbnodaaW.PrintMore
attribute [local go_sem] max2_int min2_int max_two min_two max_three min_three max_four min_four   -- for this text's walks alone
set_option linter.unusedVariables false
set_option linter.unusedSimpArgs false

open Go.Proofs.YtggenhomnbnodaaW.PrintWords renaming blk_drewN → bN, blk_drew → bD, blk_alloc → bA, blk_cell → bC, blk_below → bB, below_set → bS
mutual
def spec_WheelOk.j0 : Nat → Bool → Int → List (List (S46)) → List (List (S46)) → List (S46) → Option (Bool)
 | 0, _, _, _, _, _ => none
 | k + 1, x29, x156000, x156001, x156002, x156003 => if x29 = true then (some false) else (spec_WheelOk.l0 k 0 x156000 x156001 x156002 x156003)
def spec_WheelOk.l0 : Nat → Int → Int → List (List (S46)) → List (List (S46)) → List (S46) → Option (Bool)
 | 0, _, _, _, _, _ => none
 | k + 1, x3, x156000, x156001, x156002, x156003 => if x3 < 8 then (if 0 ≤ x3 then (if x3 < (x156001.length : Int) then ((spec_l8Slot.f k x156000 x156001 x156002 x156003 (rd_L2 x156001 x3) 1 x3).bind fun t159 => (if t159 = true then (if x3 < (x156002.length : Int) then ((spec_l8Slot.f k x156000 x156001 x156002 x156003 (rd_L2 x156002 x3) 2 x3).bind fun t161 => (if t161 = true then (spec_WheelOk.l0 k (wrap64 (x3 + 1)) x156000 x156001 x156002 x156003) else (some false))) else (none)) else (some false))) else (none)) else (none)) else ((spec_Timers.f k x156000 x156001 x156002 x156003).bind fun t162 => (spec_WheelOk.l1 k t162 0))
def spec_WheelOk.l1 : Nat → List (S46) → Int → Option (Bool)
 | 0, _, _ => none
 | k + 1, x4, x5 => if x5 < (x4.length : Int) then (spec_WheelOk.l2 k x4 x5 0) else (some (decide ((x4.length : Int) ≤ 16)))
def spec_WheelOk.l2 : Nat → List (S46) → Int → Int → Option (Bool)
 | 0, _, _, _ => none
 | k + 1, x4, x5, x6 => if x6 < x5 then (if 0 ≤ x6 then (if x6 < (x4.length : Int) then (if 0 ≤ x5 then (if x5 < (x4.length : Int) then (if ((rd_T46 x4 x6).f0) = ((rd_T46 x4 x5).f0) then (some false) else (spec_WheelOk.l2 k x4 x5 (wrap64 (x6 + 1)))) else (none)) else (none)) else (none)) else (none)) else (spec_WheelOk.l1 k x4 (wrap64 (x5 + 1)))
end
def spec_WheelOk.f (k : Nat) (a0_0 : Int) (l0_1 : List (List (S46))) (l0_2 : List (List (S46))) (l0_3 : List (S46)) : Option (Bool) := if (l0_1.length : Int) = 8 then (if (l0_2.length : Int) = 8 then ((spec_l1In.f a0_0 0 2147483647).bind fun t156 => (if t156 = true then ((spec_l8Slot.f k a0_0 l0_1 l0_2 l0_3 l0_3 3 0).bind fun t157 => (spec_WheelOk.j0 k (!t157) a0_0 l0_1 l0_2 l0_3)) else (spec_WheelOk.j0 k true a0_0 l0_1 l0_2 l0_3))) else (spec_WheelOk.j0 k true a0_0 l0_1 l0_2 l0_3)) else (spec_WheelOk.j0 k true a0_0 l0_1 l0_2 l0_3)
def spec_WheelOk.T6 : Bool × List (List Nat × List Nat) := (true, [([], []), ([], []), ([1], [1]), ([], []), ([2, 3], [2, 3]), ([4], [4]), ([], []), ([0, 5, 6], [0, 5, 6]), ([7], [7]), ([8, 7], [8]), ([9], [9]), ([9], [9]), ([11, 9], [9, 11]), ([9], [9]), ([12, 13, 9], [9, 12, 13]), ([14, 9], [9, 14]), ([9], [9]), ([10, 15, 16, 9, 9], [9, 10, 15, 16]), ([17, 9], [9, 17]), ([9, 18], [9, 18])])
def spec_WheelOk.B6 : List Nat := [0, 0, 2, 0, 14, 30, 0, 127, 255, 511, 1023, 1023, 3071, 1023, 15359, 31743, 1023, 131071, 262143, 524287]
theorem spec_WheelOk.tab6 : rtab .any (opsOf Try.f29 6) = spec_WheelOk.T6 := by kernel_rfl
theorem spec_WheelOk.bits6 : waitsOk spec_WheelOk.T6.2 spec_WheelOk.B6 = true := by kernel_rfl
def spec_WheelOk.T15 : Bool × List (List Nat × List Nat) := (true, [([], []), ([], []), ([0, 1], [0, 1]), ([2], [2]), ([3], [3]), ([], []), ([], []), ([5, 6], [5, 6]), ([7], [7]), ([8], [8]), ([4, 9], [4, 9])])
def spec_WheelOk.B15 : List Nat := [0, 0, 3, 7, 15, 0, 0, 96, 224, 480, 1023]
theorem spec_WheelOk.tab15 : rtab .any (opsOf Try.f29 15) = spec_WheelOk.T15 := by kernel_rfl
theorem spec_WheelOk.bits15 : waitsOk spec_WheelOk.T15.2 spec_WheelOk.B15 = true := by kernel_rfl
set_option maxHeartbeats 8000000 in
set_option maxRecDepth 100000 in
theorem spec_WheelOk.calls (k : Nat) (a0_0 : Int) (A0_1 : Option Addr) (c0_1 : Nat) (l0_1 : List (List (S46))) (A0_2 : Option Addr) (c0_2 : Nat) (l0_2 : List (List (S46))) (A0_3 : Option Addr) (c0_3 : Nat) (l0_3 : List (S46)) (r : Bool) (w : World) (hr0_1 : Kd.C (Kd.slice 46 k46) w A0_1 l0_1.length l0_1) (hc0_1 : l0_1.length ≤ c0_1) (hr0_2 : Kd.C (Kd.slice 46 k46) w A0_2 l0_2.length l0_2) (hc0_2 : l0_2.length ≤ c0_2) (hr0_3 : Kd.C k46 w A0_3 l0_3.length l0_3) (hc0_3 : l0_3.length ≤ c0_3) (h : spec_WheelOk.f k a0_0 l0_1 l0_2 l0_3 = some r) :
  Calls Try.prog 29 #[.agg #[.int .i64 a0_0, .slice A0_1 l0_1.length c0_1, .slice A0_2 l0_2.length c0_2, .slice A0_3 l0_3.length c0_3]] w fun e w' => e = .returned (.bool r) ∧ Below w.heap.size w w' := by
 have hu25 := Try.underlying25
 have HR0_1 := aM hr0_1
 have HC0_1 := aM hc0_1
 clear hr0_1 hc0_1
 have HR0_2 := aM hr0_2
 have HC0_2 := aM hc0_2
 clear hr0_2 hc0_2
 have HR0_3 := aM hr0_3
 have HC0_3 := aM hc0_3
 clear hr0_3 hc0_3
 have HB := aM (Below.refl w.heap.size w)
 unfold spec_WheelOk.f at h; have H := h
 clear h
 have HC2 := aM H
 clear H
 go_enter Try.func29, Try.ntmps29
 go_upto_region 1 with (first | ((with_reducible refine gD 1 rfl ?_); (try (refine gate_guard (by rfl) ?_; dsimp only)); refine box_event ?hg (N := 1) ?hd (cs := #[.int .i64 a0_0, .slice A0_1 l0_1.length c0_1, .slice A0_2 l0_2.length c0_2, .slice A0_3 l0_3.length c0_3]) (t := 25) ?hr ?_; (case hd => rfl); (case hg => rfl); (case hr => first | (go_simp; done) | (go_simp; rfl)); intro gb155 hg w3 hbox hb; have BK155 := aM hbox; have GW155 := aM (zg (zL HB.out) hg : w.heap.size ≤ gb155); have GE155 := GW155; replace HB := zLB (zL HB.out) hb; clear hb hbox hg))
 (try simp only [Act.put, List.setIfInBounds_toArray, List.set_cons_zero, List.set_cons_succ])
 go_cut [29] (fun v29 wc => ∃ (kq : Nat) (x29_1 : Bool), v29 = .bool x29_1 ∧ Aside0 (spec_WheelOk.j0 kq x29_1 a0_0 l0_1 l0_2 l0_3 = some r) ∧ Aside0 (kq ≤ k) ∧ Aside0 (wc.heap[gb155]? = some (.cells #[.int .i64 a0_0, (.slice A0_1 l0_1.length c0_1), (.slice A0_2 l0_2.length c0_2), (.slice A0_3 l0_3.length c0_3)] 25 (0, 0))) ∧ Aside0 (Below w.heap.size w wc))
 case first =>
  have H := HC2.out
  clear HC2
  by_cases c4 : (l0_1.length : Int) = 8
  ·rw [if_pos c4] at H
   obtain ⟨c4b0, c4b1⟩ := zt c4
   clear c4
   (first | rw [c4b0] | (simp only [i64_w, i32_w]; rw [c4b0]) | skip)
   by_cases c5 : (l0_2.length : Int) = 8
   ·rw [if_pos c5] at H
    obtain ⟨c5b0, c5b1⟩ := zt c5
    clear c5
    obtain ⟨t156, A6, H⟩ := zO H; try dsimp only at H
    by_cases c7 : t156 = true
    ·subst c7
     rw [if_pos rfl] at H
     obtain ⟨t157, A8, H⟩ := zO H; try dsimp only at H
     have H' := aM H
     clear H
     have hcz9 := zc4 BK155.out
     have hfz9 := zf4 BK155.out
     go_wp2_with (first | (go_at_call 67; (with_reducible refine (spec_l1In.calls a0_0 0 2147483647 true _ A6.out).mono ?_); rintro e w' ⟨rfl, ⟨nd, rfl⟩⟩) | (go_at_call 68; (with_reducible refine (spec_l8Slot.calls k a0_0 _ _ l0_1 _ _ l0_2 _ _ l0_3 _ _ l0_3 3 0 t157 _ ?side1 ?side2 ?side3 ?side4 ?side5 ?side6 ?side7 ?side8 A8.out).mono ?_); (case side1 => repeat (first | exact (Kd.C_below HR0_1.out (zL1 HB.out GE155.out)) | (with_reducible refine Kd.C_alloc ?_ _) | (with_reducible refine Kd.C_drewN ?_ _) | (with_reducible refine Kd.C_drew ?_))); (case side2 => exact HC0_1.out); (case side3 => repeat (first | exact (Kd.C_below HR0_2.out (zL1 HB.out GE155.out)) | (with_reducible refine Kd.C_alloc ?_ _) | (with_reducible refine Kd.C_drewN ?_ _) | (with_reducible refine Kd.C_drew ?_))); (case side4 => exact HC0_2.out); (case side5 => repeat (first | exact (Kd.C_below HR0_3.out (zL1 HB.out GE155.out)) | (with_reducible refine Kd.C_alloc ?_ _) | (with_reducible refine Kd.C_drewN ?_ _) | (with_reducible refine Kd.C_drew ?_))); (case side6 => exact HC0_3.out); (case side7 => repeat (first | exact (Kd.C_below HR0_3.out (zL1 HB.out GE155.out)) | (with_reducible refine Kd.C_alloc ?_ _) | (with_reducible refine Kd.C_drewN ?_ _) | (with_reducible refine Kd.C_drew ?_))); (case side8 => exact HC0_3.out); rintro e w10 ⟨rfl, hb⟩; replace BK155 := zBB BK155 hb; replace HB := zLB (zL1 HB.out GE155.out) hb; clear hb))
     go_meet
     case rel => exact ⟨_, (!t157), zV, H', ⟨by first | omega | exact Nat.le_refl _⟩, ⟨zB BK155.out⟩, ⟨zL1 HB.out GE155.out⟩⟩
    ·obtain rfl := Bool.eq_false_iff.mpr c7
     rw [if_neg zn] at H
     have H' := aM H
     clear H
     have hcz11 := zc4 BK155.out
     have hfz11 := zf4 BK155.out
     go_wp2_with (first | (go_at_call 67; (with_reducible refine (spec_l1In.calls a0_0 0 2147483647 false _ A6.out).mono ?_); rintro e w' ⟨rfl, ⟨nd, rfl⟩⟩))
     go_meet
     case rel => exact ⟨_, (true), zV, H', ⟨by first | omega | exact Nat.le_refl _⟩, ⟨zB BK155.out⟩, ⟨zL1 HB.out GE155.out⟩⟩
   ·rw [if_neg c5] at H
    obtain ⟨c5b0, c5b1⟩ := zf c5
    have H' := aM H
    clear H
    have hcz12 := zc4 BK155.out
    have hfz12 := zf4 BK155.out
    go_wp2
    go_meet
    case rel => exact ⟨_, (true), zV, H', ⟨by first | omega | exact Nat.le_refl _⟩, ⟨zB BK155.out⟩, ⟨zL1 HB.out GE155.out⟩⟩
  ·rw [if_neg c4] at H
   obtain ⟨c4b0, c4b1⟩ := zf c4
   (first | rw [c4b0] | (simp only [i64_w, i32_w]; rw [c4b0]) | skip)
   have H' := aM H
   clear H
   have hcz13 := zc4 BK155.out
   have hfz13 := zf4 BK155.out
   go_wp2
   go_meet
   case rel => exact ⟨_, (true), zV, H', ⟨by first | omega | exact Nat.le_refl _⟩, ⟨zB BK155.out⟩, ⟨zL1 HB.out GE155.out⟩⟩
 case rest =>
  clear HC2
  try clear c2
  try clear p2
  try clear c4
  try clear c4b0
  try clear c4b1
  try clear c5
  try clear c5b0
  try clear c5b1
  try clear c7
  try clear hcz11; try clear hcz12; try clear hcz13; try clear hcz9; try clear hfz11; try clear hfz12; try clear hfz13; try clear hfz9
  obtain ⟨kq, x29_1, rfl, HA, HJ1, BK155, HB⟩ := hcut
  cases kq with
  | zero => exact absurd HA.out (by simp [spec_WheelOk.j0])
  | succ kj1 =>
   have H := HA.out
   clear HA
   simp only [spec_WheelOk.j0] at H
   by_cases c14 : x29_1 = true
   ·subst c14
    rw [if_pos rfl] at H
    obtain rfl := Option.some.inj H
    go_wp2
    go_ret
    exact ⟨zW, zL1 HB.out GE155.out⟩
   ·obtain rfl := Bool.eq_false_iff.mpr c14
    rw [if_neg zn] at H
    have H' := aM H
    clear H
    go_wp2
    go_loopg [3] kj1 (fun kq v3 w' => ∃ (x3_2 : Int), v3 = .int .i64 x3_2 ∧ Aside0 (spec_WheelOk.l0 kq x3_2 a0_0 l0_1 l0_2 l0_3 = some r) ∧ Aside0 (kq ≤ kj1) ∧ Aside0 (w'.heap[gb155]? = some (.cells #[.int .i64 a0_0, (.slice A0_1 l0_1.length c0_1), (.slice A0_2 l0_2.length c0_2), (.slice A0_3 l0_3.length c0_3)] 25 (0, 0))) ∧ Aside0 (Below w.heap.size w w'))
    case atStart => exact ⟨(0), zV, H', ⟨Nat.le_refl _⟩, ⟨zB BK155.out⟩, ⟨zL1 HB.out GE155.out⟩⟩
    case round =>
     clear H'
     try clear c1
     try clear c2
     try clear p2
     try clear c4
     try clear c4b0
     try clear c4b1
     try clear c5
     try clear c5b0
     try clear c5b1
     try clear c7
     try clear c14
     try clear hcz11; try clear hcz12; try clear hcz13; try clear hcz9; try clear hfz11; try clear hfz12; try clear hfz13; try clear hfz9
     try clear p2
     try clear BK155
     obtain ⟨x3_2, rfl, HA, HK2, BK155, HB⟩ := hrel
     cases gk with
     | zero => exact absurd HA.out (by simp [spec_WheelOk.l0])
     | succ k2 =>
      have H := HA.out
      clear HA
      simp only [spec_WheelOk.l0] at H
      by_cases c15 : x3_2 < 8
      ·rw [if_pos c15] at H
       have c15b0 := dT c15
       clear c15
       by_cases c16 : 0 ≤ x3_2
       ·rw [if_pos c16] at H
        have c16b0 := dT c16
        clear c16
        by_cases c17 : x3_2 < (l0_1.length : Int)
        ·rw [if_pos c17] at H
         have c17b0 := dT c17
         clear c17
         obtain ⟨t159, A18, H⟩ := zO H; try dsimp only at H
         by_cases c19 : t159 = true
         ·subst c19
          rw [if_pos rfl] at H
          by_cases c20 : x3_2 < (l0_2.length : Int)
          ·rw [if_pos c20] at H
           have c20b0 := dT c20
           clear c20
           obtain ⟨t161, A21, H⟩ := zO H; try dsimp only at H
           by_cases c22 : t161 = true
           ·subst c22
            rw [if_pos rfl] at H
            have H' := aM H
            clear H
            try go_wp2
            replace BK155 := zBD BK155; replace HB := zLD HB
            have p158 : 0 ≤ (x3_2 : Int) := zD
            have q158 : x3_2 < (l0_1.length : Int) := zD
            obtain ⟨ad158, A158_0, c158_0, e158, hx158_0, hl158_0, hi158_0⟩ := at_L2 HR0_1.out x3_2 p158 q158
            have hw158_0 := hx158_0
            cases e158
            replace hx158_0 := zh HB.out hx158_0
            have HR158_0 := aM hi158_0
            have HC158_0 := aM hl158_0
            clear hi158_0 hl158_0
            replace p158 := eq_true p158
            replace q158 := eq_true q158
            have p160 : 0 ≤ (x3_2 : Int) := zD
            have q160 : x3_2 < (l0_2.length : Int) := zD
            obtain ⟨ad160, A160_0, c160_0, e160, hx160_0, hl160_0, hi160_0⟩ := at_L2 HR0_2.out x3_2 p160 q160
            have hw160_0 := hx160_0
            cases e160
            replace hx160_0 := zh HB.out hx160_0
            have HR160_0 := aM hi160_0
            have HC160_0 := aM hl160_0
            clear hi160_0 hl160_0
            replace p160 := eq_true p160
            replace q160 := eq_true q160
            refine start_ (n := 20) (S := fun w' => w'.cell? ⟨gb155, 0, none⟩ = some (.int .i64 a0_0) ∧ w'.cell? ⟨gb155, 1, none⟩ = some (.slice (some ad158) l0_1.length c0_1) ∧ w'.cell? ⟨gb155, 2, none⟩ = some (.slice (some ad160) l0_2.length c0_2) ∧ w'.cell? ⟨gb155, 3, none⟩ = some (.slice A0_3 l0_3.length c0_3) ∧ w'.cell? (ad158.add (x3_2).toNat) = some (.slice A158_0 (rd_L2 l0_1 x3_2).length c158_0) ∧ w'.cell? (ad160.add (x3_2).toNat) = some (.slice A160_0 (rd_L2 l0_2 x3_2).length c160_0)) (ds := []) (fB 20 0) (by kernel_rfl) rfl rfl ⟨(bC BK155.out 0).trans rfl, (bC BK155.out 1).trans rfl, (bC BK155.out 2).trans rfl, (bC BK155.out 3).trans rfl, (zh HB.out hw158_0), (zh HB.out hw160_0)⟩ (fun hHeld => ?_); refine with_tabW spec_WheelOk.tab6 spec_WheelOk.bits6 (fun HT_ HW_ => ?_)
            generalize wr.drew = w23 at BK155 HB HR158_0 HR160_0 hx158_0 hx160_0 hHeld ⊢
            refine pY 1 35 (fB 20 2) HT_.out ?_
            refine pY 3 37 (fB 20 10) HT_.out ?_
            refine pY 6 40 (fB 20 74) HT_.out ?_
            refine tY 0 34 (fB 20 75) HT_.out HW_.out hHeld ?_
            refine tY 2 36 (fB 20 79) HT_.out HW_.out hHeld ?_
            refine pY 4 38 (fB 20 95) HT_.out ?_
            refine tY 5 39 (fB 20 127) HT_.out HW_.out hHeld ?_
            refine oN 7 41 (fB 20 255) HT_.out fun K hK => ?_
            refine gS Try.func68 #[.agg #[.int .i64 a0_0, .slice (some ad158) l0_1.length c0_1, .slice (some ad160) l0_2.length c0_2, .slice A0_3 l0_3.length c0_3], .slice A158_0 (rd_L2 l0_1 x3_2).length c158_0, .int .i64 1, .int .i64 x3_2] ?_
            with_reducible refine (spec_l8Slot.calls k2 a0_0 _ _ l0_1 _ _ l0_2 _ _ l0_3 _ _ (rd_L2 l0_1 x3_2) 1 x3_2 true _ ?side1 ?side2 ?side3 ?side4 ?side5 ?side6 ?side7 ?side8 A18.out).mono ?_
            (case side1 => exact zC (Kd.C_below HR0_1.out HB.out))
            (case side2 => exact HC0_1.out)
            (case side3 => exact zC (Kd.C_below HR0_2.out HB.out))
            (case side4 => exact HC0_2.out)
            (case side5 => exact zC (Kd.C_below HR0_3.out HB.out))
            (case side6 => exact HC0_3.out)
            (case side7 => exact zC (Kd.C_below HR158_0.out HB.out))
            (case side8 => exact HC158_0.out)
            rintro e w24 ⟨rfl, hb⟩
            refine ⟨_, rfl, ?_⟩
            replace BK155 := zBB BK155 hb; replace HB := zLB (zL1 HB.out GE155.out) hb
            clear hb
            refine hK.out _ _ ⟨(bC BK155.out 0).trans rfl, (bC BK155.out 1).trans rfl, (bC BK155.out 2).trans rfl, (bC BK155.out 3).trans rfl, (zh HB.out hw158_0), (zh HB.out hw160_0)⟩ fun hHeld => ?_; clear hK K
            refine nZ 41 ?_
            refine pY 8 42 (fB 20 511) HT_.out ?_
            refine pY 9 43 (fB 20 1023) HT_.out ?_
            refine pY 11 45 (fB 20 3071) HT_.out ?_
            refine pY 13 47 (fB 20 11263) HT_.out ?_
            refine pY 16 50 (fB 20 76799) HT_.out ?_
            refine tY 10 44 (fB 20 77823) HT_.out HW_.out hHeld ?_
            refine tY 12 46 (fB 20 81919) HT_.out HW_.out hHeld ?_
            refine pY 14 48 (fB 20 98303) HT_.out ?_
            refine tY 15 49 (fB 20 131071) HT_.out HW_.out hHeld ?_
            refine oN 17 51 (fB 20 262143) HT_.out fun K hK => ?_
            refine gS Try.func68 #[.agg #[.int .i64 a0_0, .slice (some ad158) l0_1.length c0_1, .slice (some ad160) l0_2.length c0_2, .slice A0_3 l0_3.length c0_3], .slice A160_0 (rd_L2 l0_2 x3_2).length c160_0, .int .i64 2, .int .i64 x3_2] ?_
            with_reducible refine (spec_l8Slot.calls k2 a0_0 _ _ l0_1 _ _ l0_2 _ _ l0_3 _ _ (rd_L2 l0_2 x3_2) 2 x3_2 true _ ?side1 ?side2 ?side3 ?side4 ?side5 ?side6 ?side7 ?side8 A21.out).mono ?_
            (case side1 => exact zC (Kd.C_below HR0_1.out HB.out))
            (case side2 => exact HC0_1.out)
            (case side3 => exact zC (Kd.C_below HR0_2.out HB.out))
            (case side4 => exact HC0_2.out)
            (case side5 => exact zC (Kd.C_below HR0_3.out HB.out))
            (case side6 => exact HC0_3.out)
            (case side7 => exact zC (Kd.C_below HR160_0.out HB.out))
            (case side8 => exact HC160_0.out)
            rintro e w25 ⟨rfl, hb⟩
            refine ⟨_, rfl, ?_⟩
            replace BK155 := zBB BK155 hb; replace HB := zLB (zL1 HB.out GE155.out) hb
            clear hb
            refine hK.out _ _ ⟨(bC BK155.out 0).trans rfl, (bC BK155.out 1).trans rfl, (bC BK155.out 2).trans rfl, (bC BK155.out 3).trans rfl, (zh HB.out hw158_0), (zh HB.out hw160_0)⟩ fun hHeld => ?_; clear hK K
            refine nZ 51 ?_
            refine pY 18 52 (fB 20 524287) HT_.out ?_
            refine pY 19 53 (fB 20 1048575) HT_.out ?_
            refine done_ (done_of HT_.out (by kernel_rfl)) ?_
            try go_wp2
            go_roundg k2
            case measure => have := HJ1.out; have := HK2.out; omega
            case rel => exact ⟨(wrap64 (x3_2 + 1)), zV, H', ⟨by have := HJ1.out; have := HK2.out; omega⟩, ⟨zB BK155.out⟩, ⟨zL1 HB.out GE155.out⟩⟩
           ·obtain rfl := Bool.eq_false_iff.mpr c22
            rw [if_neg zn] at H
            obtain rfl := Option.some.inj H
            try go_wp2
            replace BK155 := zBD BK155; replace HB := zLD HB
            have p158 : 0 ≤ (x3_2 : Int) := zD
            have q158 : x3_2 < (l0_1.length : Int) := zD
            obtain ⟨ad158, A158_0, c158_0, e158, hx158_0, hl158_0, hi158_0⟩ := at_L2 HR0_1.out x3_2 p158 q158
            have hw158_0 := hx158_0
            cases e158
            replace hx158_0 := zh HB.out hx158_0
            have HR158_0 := aM hi158_0
            have HC158_0 := aM hl158_0
            clear hi158_0 hl158_0
            replace p158 := eq_true p158
            replace q158 := eq_true q158
            have p160 : 0 ≤ (x3_2 : Int) := zD
            have q160 : x3_2 < (l0_2.length : Int) := zD
            obtain ⟨ad160, A160_0, c160_0, e160, hx160_0, hl160_0, hi160_0⟩ := at_L2 HR0_2.out x3_2 p160 q160
            have hw160_0 := hx160_0
            cases e160
            replace hx160_0 := zh HB.out hx160_0
            have HR160_0 := aM hi160_0
            have HC160_0 := aM hl160_0
            clear hi160_0 hl160_0
            replace p160 := eq_true p160
            replace q160 := eq_true q160
            refine start_ (n := 20) (S := fun w' => w'.cell? ⟨gb155, 0, none⟩ = some (.int .i64 a0_0) ∧ w'.cell? ⟨gb155, 1, none⟩ = some (.slice (some ad158) l0_1.length c0_1) ∧ w'.cell? ⟨gb155, 2, none⟩ = some (.slice (some ad160) l0_2.length c0_2) ∧ w'.cell? ⟨gb155, 3, none⟩ = some (.slice A0_3 l0_3.length c0_3) ∧ w'.cell? (ad158.add (x3_2).toNat) = some (.slice A158_0 (rd_L2 l0_1 x3_2).length c158_0) ∧ w'.cell? (ad160.add (x3_2).toNat) = some (.slice A160_0 (rd_L2 l0_2 x3_2).length c160_0)) (ds := []) (fB 20 0) (by kernel_rfl) rfl rfl ⟨(bC BK155.out 0).trans rfl, (bC BK155.out 1).trans rfl, (bC BK155.out 2).trans rfl, (bC BK155.out 3).trans rfl, (zh HB.out hw158_0), (zh HB.out hw160_0)⟩ (fun hHeld => ?_); refine with_tabW spec_WheelOk.tab6 spec_WheelOk.bits6 (fun HT_ HW_ => ?_)
            generalize wr.drew = w26 at BK155 HB HR158_0 HR160_0 hx158_0 hx160_0 hHeld ⊢
            refine pY 1 35 (fB 20 2) HT_.out ?_
            refine pY 3 37 (fB 20 10) HT_.out ?_
            refine pY 6 40 (fB 20 74) HT_.out ?_
            refine tY 0 34 (fB 20 75) HT_.out HW_.out hHeld ?_
            refine tY 2 36 (fB 20 79) HT_.out HW_.out hHeld ?_
            refine pY 4 38 (fB 20 95) HT_.out ?_
            refine tY 5 39 (fB 20 127) HT_.out HW_.out hHeld ?_
            refine oN 7 41 (fB 20 255) HT_.out fun K hK => ?_
            refine gS Try.func68 #[.agg #[.int .i64 a0_0, .slice (some ad158) l0_1.length c0_1, .slice (some ad160) l0_2.length c0_2, .slice A0_3 l0_3.length c0_3], .slice A158_0 (rd_L2 l0_1 x3_2).length c158_0, .int .i64 1, .int .i64 x3_2] ?_
            with_reducible refine (spec_l8Slot.calls k2 a0_0 _ _ l0_1 _ _ l0_2 _ _ l0_3 _ _ (rd_L2 l0_1 x3_2) 1 x3_2 true _ ?side1 ?side2 ?side3 ?side4 ?side5 ?side6 ?side7 ?side8 A18.out).mono ?_
            (case side1 => exact zC (Kd.C_below HR0_1.out HB.out))
            (case side2 => exact HC0_1.out)
            (case side3 => exact zC (Kd.C_below HR0_2.out HB.out))
            (case side4 => exact HC0_2.out)
            (case side5 => exact zC (Kd.C_below HR0_3.out HB.out))
            (case side6 => exact HC0_3.out)
            (case side7 => exact zC (Kd.C_below HR158_0.out HB.out))
            (case side8 => exact HC158_0.out)
            rintro e w27 ⟨rfl, hb⟩
            refine ⟨_, rfl, ?_⟩
            replace BK155 := zBB BK155 hb; replace HB := zLB (zL1 HB.out GE155.out) hb
            clear hb
            refine hK.out _ _ ⟨(bC BK155.out 0).trans rfl, (bC BK155.out 1).trans rfl, (bC BK155.out 2).trans rfl, (bC BK155.out 3).trans rfl, (zh HB.out hw158_0), (zh HB.out hw160_0)⟩ fun hHeld => ?_; clear hK K
            refine nZ 41 ?_
            refine pY 8 42 (fB 20 511) HT_.out ?_
            refine pY 9 43 (fB 20 1023) HT_.out ?_
            refine pY 11 45 (fB 20 3071) HT_.out ?_
            refine pY 13 47 (fB 20 11263) HT_.out ?_
            refine pY 16 50 (fB 20 76799) HT_.out ?_
            refine tY 10 44 (fB 20 77823) HT_.out HW_.out hHeld ?_
            refine tY 12 46 (fB 20 81919) HT_.out HW_.out hHeld ?_
            refine pY 14 48 (fB 20 98303) HT_.out ?_
            refine tY 15 49 (fB 20 131071) HT_.out HW_.out hHeld ?_
            refine oN 17 51 (fB 20 262143) HT_.out fun K hK => ?_
            refine gS Try.func68 #[.agg #[.int .i64 a0_0, .slice (some ad158) l0_1.length c0_1, .slice (some ad160) l0_2.length c0_2, .slice A0_3 l0_3.length c0_3], .slice A160_0 (rd_L2 l0_2 x3_2).length c160_0, .int .i64 2, .int .i64 x3_2] ?_
            with_reducible refine (spec_l8Slot.calls k2 a0_0 _ _ l0_1 _ _ l0_2 _ _ l0_3 _ _ (rd_L2 l0_2 x3_2) 2 x3_2 false _ ?side1 ?side2 ?side3 ?side4 ?side5 ?side6 ?side7 ?side8 A21.out).mono ?_
            (case side1 => exact zC (Kd.C_below HR0_1.out HB.out))
            (case side2 => exact HC0_1.out)
            (case side3 => exact zC (Kd.C_below HR0_2.out HB.out))
            (case side4 => exact HC0_2.out)
            (case side5 => exact zC (Kd.C_below HR0_3.out HB.out))
            (case side6 => exact HC0_3.out)
            (case side7 => exact zC (Kd.C_below HR160_0.out HB.out))
            (case side8 => exact HC160_0.out)
            rintro e w28 ⟨rfl, hb⟩
            refine ⟨_, rfl, ?_⟩
            replace BK155 := zBB BK155 hb; replace HB := zLB (zL1 HB.out GE155.out) hb
            clear hb
            refine hK.out _ _ ⟨(bC BK155.out 0).trans rfl, (bC BK155.out 1).trans rfl, (bC BK155.out 2).trans rfl, (bC BK155.out 3).trans rfl, (zh HB.out hw158_0), (zh HB.out hw160_0)⟩ fun hHeld => ?_; clear hK K
            refine nZ 51 ?_
            refine pY 18 52 (fB 20 524287) HT_.out ?_
            refine pY 19 53 (fB 20 1048575) HT_.out ?_
            refine done_ (done_of HT_.out (by kernel_rfl)) ?_
            try go_wp2
            go_ret
            exact ⟨zW, zL1 HB.out GE155.out⟩
          ·rw [if_neg c20] at H
           exact absurd H (by simp)
         ·obtain rfl := Bool.eq_false_iff.mpr c19
          rw [if_neg zn] at H
          obtain rfl := Option.some.inj H
          try go_wp2
          replace BK155 := zBD BK155; replace HB := zLD HB
          have p158 : 0 ≤ (x3_2 : Int) := zD
          have q158 : x3_2 < (l0_1.length : Int) := zD
          obtain ⟨ad158, A158_0, c158_0, e158, hx158_0, hl158_0, hi158_0⟩ := at_L2 HR0_1.out x3_2 p158 q158
          have hw158_0 := hx158_0
          cases e158
          replace hx158_0 := zh HB.out hx158_0
          have HR158_0 := aM hi158_0
          have HC158_0 := aM hl158_0
          clear hi158_0 hl158_0
          replace p158 := eq_true p158
          replace q158 := eq_true q158
          refine start_ (n := 20) (S := fun w' => w'.cell? ⟨gb155, 0, none⟩ = some (.int .i64 a0_0) ∧ w'.cell? ⟨gb155, 1, none⟩ = some (.slice (some ad158) l0_1.length c0_1) ∧ w'.cell? ⟨gb155, 2, none⟩ = some (.slice A0_2 l0_2.length c0_2) ∧ w'.cell? ⟨gb155, 3, none⟩ = some (.slice A0_3 l0_3.length c0_3) ∧ w'.cell? (ad158.add (x3_2).toNat) = some (.slice A158_0 (rd_L2 l0_1 x3_2).length c158_0)) (ds := []) (fB 20 0) (by kernel_rfl) rfl rfl ⟨(bC BK155.out 0).trans rfl, (bC BK155.out 1).trans rfl, (bC BK155.out 2).trans rfl, (bC BK155.out 3).trans rfl, (zh HB.out hw158_0)⟩ (fun hHeld => ?_); refine with_tabW spec_WheelOk.tab6 spec_WheelOk.bits6 (fun HT_ HW_ => ?_)
          generalize wr.drew = w29 at BK155 HB HR158_0 hx158_0 hHeld ⊢
          refine pY 1 35 (fB 20 2) HT_.out ?_
          refine pY 3 37 (fB 20 10) HT_.out ?_
          refine pY 6 40 (fB 20 74) HT_.out ?_
          refine tY 0 34 (fB 20 75) HT_.out HW_.out hHeld ?_
          refine tY 2 36 (fB 20 79) HT_.out HW_.out hHeld ?_
          refine pY 4 38 (fB 20 95) HT_.out ?_
          refine tY 5 39 (fB 20 127) HT_.out HW_.out hHeld ?_
          refine oN 7 41 (fB 20 255) HT_.out fun K hK => ?_
          refine gS Try.func68 #[.agg #[.int .i64 a0_0, .slice (some ad158) l0_1.length c0_1, .slice A0_2 l0_2.length c0_2, .slice A0_3 l0_3.length c0_3], .slice A158_0 (rd_L2 l0_1 x3_2).length c158_0, .int .i64 1, .int .i64 x3_2] ?_
          with_reducible refine (spec_l8Slot.calls k2 a0_0 _ _ l0_1 _ _ l0_2 _ _ l0_3 _ _ (rd_L2 l0_1 x3_2) 1 x3_2 false _ ?side1 ?side2 ?side3 ?side4 ?side5 ?side6 ?side7 ?side8 A18.out).mono ?_
          (case side1 => exact zC (Kd.C_below HR0_1.out HB.out))
          (case side2 => exact HC0_1.out)
          (case side3 => exact zC (Kd.C_below HR0_2.out HB.out))
          (case side4 => exact HC0_2.out)
          (case side5 => exact zC (Kd.C_below HR0_3.out HB.out))
          (case side6 => exact HC0_3.out)
          (case side7 => exact zC (Kd.C_below HR158_0.out HB.out))
          (case side8 => exact HC158_0.out)
          rintro e w30 ⟨rfl, hb⟩
          refine ⟨_, rfl, ?_⟩
          replace BK155 := zBB BK155 hb; replace HB := zLB (zL1 HB.out GE155.out) hb
          clear hb
          refine hK.out _ _ ⟨(bC BK155.out 0).trans rfl, (bC BK155.out 1).trans rfl, (bC BK155.out 2).trans rfl, (bC BK155.out 3).trans rfl, (zh HB.out hw158_0)⟩ fun hHeld => ?_; clear hK K
          refine nZ 41 ?_
          refine pY 8 42 (fB 20 511) HT_.out ?_
          refine pY 9 43 (fB 20 1023) HT_.out ?_
          refine pN 10 44 (fB 20 2047) HT_.out ?_
          refine pN 11 45 (fB 20 4095) HT_.out ?_
          refine pN 12 46 (fB 20 8191) HT_.out ?_
          refine pN 13 47 (fB 20 16383) HT_.out ?_
          refine pN 14 48 (fB 20 32767) HT_.out ?_
          refine pN 15 49 (fB 20 65535) HT_.out ?_
          refine pN 16 50 (fB 20 131071) HT_.out ?_
          refine pN 17 51 (fB 20 262143) HT_.out ?_
          refine pN 18 52 (fB 20 524287) HT_.out ?_
          refine pY 19 53 (fB 20 1048575) HT_.out ?_
          refine done_ (done_of HT_.out (by kernel_rfl)) ?_
          try go_wp2
          go_ret
          exact ⟨zW, zL1 HB.out GE155.out⟩
        ·rw [if_neg c17] at H
         exact absurd H (by simp)
       ·rw [if_neg c16] at H
        exact absurd H (by simp)
      ·rw [if_neg c15] at H
       have c15b0 := dF c15
       clear c15
       obtain ⟨t162, A31, H⟩ := zO H; try dsimp only at H
       have H' := aM H
       clear H
       have hcz32 := zc4 BK155.out
       have hfz32 := zf4 BK155.out
       go_wp2_with (first | ((with_reducible refine gC 24 rfl ?_); refine gL 55 Try.func24 #[.agg #[.int .i64 a0_0, .slice A0_1 l0_1.length c0_1, .slice A0_2 l0_2.length c0_2, .slice A0_3 l0_3.length c0_3]] ?_; (with_reducible refine (spec_Timers.calls k2 a0_0 _ _ l0_1 _ _ l0_2 _ _ l0_3 t162 _ ?side1 ?side2 ?side3 ?side4 ?side5 ?side6 A31.out).mono ?_); (case side1 => exact zC (Kd.C_below HR0_1.out HB.out)); (case side2 => exact HC0_1.out); (case side3 => exact zC (Kd.C_below HR0_2.out HB.out)); (case side4 => exact HC0_2.out); (case side5 => exact zC (Kd.C_below HR0_3.out HB.out)); (case side6 => exact HC0_3.out); rintro e w33 ⟨v163, rfl, ho0, hb⟩; refine ⟨_, rfl, ?_⟩; have HO164 := aM (Kd.R_lower ho0 (below_size (zL1 HB.out GE155.out))); replace BK155 := zBB BK155 hb; replace HB := zLB (zL1 HB.out GE155.out) hb; clear ho0 hb))
       go_loopg [5] k2 (fun kq v5 w' => ∃ (x5_3 : Int), v5 = .int .i64 x5_3 ∧ Aside0 (spec_WheelOk.l1 kq t162 x5_3 = some r) ∧ Aside0 (kq ≤ k2) ∧ Aside0 (Kd.R k46 46 w' w.heap.size (fun _ => True) v163 t162) ∧ Aside0 (w'.heap[gb155]? = some (.cells #[.int .i64 a0_0, (.slice A0_1 l0_1.length c0_1), (.slice A0_2 l0_2.length c0_2), (.slice A0_3 l0_3.length c0_3)] 25 (0, 0))) ∧ Aside0 (Below w.heap.size w w'))
       case atStart => exact ⟨(0), zV, H', ⟨Nat.le_refl _⟩, ⟨zR HO164.out⟩, ⟨zB BK155.out⟩, ⟨zL1 HB.out GE155.out⟩⟩
       case round =>
        clear H'
        try clear c1
        try clear p1
        try clear q1
        try clear hx1
        try clear c2
        try clear p2
        try clear c6
        try clear p6
        try clear c15
        try clear c15b0
        try clear p15
        try clear q15
        try clear hx15
        try clear c16
        try clear p16
        try clear q16
        try clear hx16
        try clear c17
        try clear c19
        try clear c20
        try clear c22
        try clear c24
        try clear hcz32; try clear hfz32
        try clear hx158_0
        try clear hx160_0
        try clear p158
        try clear p160
        try clear q158
        try clear q160
        try clear BK155
        obtain ⟨x5_3, rfl, HA, HK3, HO_4, BK155, HB⟩ := hrel
        cases gk with
        | zero => exact absurd HA.out (by simp [spec_WheelOk.l1])
        | succ k3 =>
         have H := HA.out
         clear HA
         simp only [spec_WheelOk.l1] at H
         by_cases c34 : x5_3 < (t162.length : Int)
         ·rw [if_pos c34] at H
          have c34b0 := dT c34
          clear c34
          have H' := aM H
          clear H
          obtain ⟨Ao35, co35, eo35⟩ := Kd.R_slice HO_4.out
          subst eo35
          go_wp2
          go_loopg [6] k3 (fun kq v6 w' => ∃ (x6_4 : Int), v6 = .int .i64 x6_4 ∧ Aside0 (spec_WheelOk.l2 kq t162 x5_3 x6_4 = some r) ∧ Aside0 (kq ≤ k3) ∧ Aside0 (Kd.R k46 46 w' w.heap.size (fun _ => True) (.slice Ao35 t162.length co35) t162) ∧ Aside0 (w'.heap[gb155]? = some (.cells #[.int .i64 a0_0, (.slice A0_1 l0_1.length c0_1), (.slice A0_2 l0_2.length c0_2), (.slice A0_3 l0_3.length c0_3)] 25 (0, 0))) ∧ Aside0 (Below w.heap.size w w'))
          case atStart => exact ⟨(0), zV, H', ⟨Nat.le_refl _⟩, ⟨zR HO_4.out⟩, ⟨zB BK155.out⟩, ⟨zL1 HB.out GE155.out⟩⟩
          case round =>
           clear H'
           try clear c1
           try clear p1
           try clear q1
           try clear hx1
           try clear c2
           try clear p2
           try clear c3
           try clear c6
           try clear p6
           try clear c15
           try clear c15b0
           try clear p15
           try clear q15
           try clear hx15
           try clear c16
           try clear p16
           try clear q16
           try clear hx16
           try clear c17
           try clear c19
           try clear c20
           try clear c22
           try clear c24
           try clear c34
           try clear c34b0
           try clear hcz32; try clear hfz32
           try clear hx158_0
           try clear hx160_0
           try clear p1
           try clear p15
           try clear p158
           try clear p16
           try clear p160
           try clear p2
           try clear p6
           try clear q1
           try clear q15
           try clear q158
           try clear q16
           try clear q160
           try clear BK155
           obtain ⟨x6_4, rfl, HA, HK4, HO_4, BK155, HB⟩ := hrel
           cases gk with
           | zero => exact absurd HA.out (by simp [spec_WheelOk.l2])
           | succ k4 =>
            have H := HA.out
            clear HA
            simp only [spec_WheelOk.l2] at H
            by_cases c36 : x6_4 < x5_3
            ·rw [if_pos c36] at H
             have c36b0 := dT c36
             clear c36
             by_cases c37 : 0 ≤ x6_4
             ·rw [if_pos c37] at H
              have c37b0 := dT c37
              clear c37
              by_cases c38 : x6_4 < (t162.length : Int)
              ·rw [if_pos c38] at H
               have c38b0 := dT c38
               clear c38
               by_cases c39 : 0 ≤ x5_3
               ·rw [if_pos c39] at H
                have c39b0 := dT c39
                clear c39
                by_cases c40 : x5_3 < (t162.length : Int)
                ·rw [if_pos c40] at H
                 have c40b0 := dT c40
                 clear c40
                 by_cases c41 : ((rd_T46 t162 x6_4).f0) = ((rd_T46 t162 x5_3).f0)
                 ·rw [if_pos c41] at H
                  obtain ⟨c41b0, c41b1⟩ := zt c41
                  clear c41
                  obtain rfl := Option.some.inj H
                  try go_wp2
                  replace HO_4 := zRD HO_4; replace BK155 := zBD BK155; replace HB := zLD HB
                  have p165 : 0 ≤ (x6_4 : Int) := zD
                  have q165 : x6_4 < (t162.length : Int) := zD
                  obtain ⟨ad165, e165, hx165_0, hx165_1, hx165_2⟩ := at_T46 (Kd.R_reads' HO_4.out).2.2 x6_4 p165 q165
                  cases e165
                  replace p165 := eq_true p165
                  replace q165 := eq_true q165
                  have p166 : 0 ≤ (x5_3 : Int) := zD
                  have q166 : x5_3 < (t162.length : Int) := zD
                  obtain ⟨ad166, e166, hx166_0, hx166_1, hx166_2⟩ := at_T46 (Kd.R_reads' HO_4.out).2.2 x5_3 p166 q166
                  obtain rfl : ad165 = ad166 := (by injection e166)
                  replace p166 := eq_true p166
                  replace q166 := eq_true q166
                  refine start_ (n := 11) (S := fun w' => w'.cell? (ad165.add ((x6_4).toNat * 3)) = some (.int .i64 ((rd_T46 t162 x6_4).f0)) ∧ w'.cell? ⟨(ad165.add ((x6_4).toNat * 3)).block, (ad165.add ((x6_4).toNat * 3)).off + 1, none⟩ = some (.int .i64 ((rd_T46 t162 x6_4).f1)) ∧ w'.cell? ⟨(ad165.add ((x6_4).toNat * 3)).block, (ad165.add ((x6_4).toNat * 3)).off + 2, none⟩ = some (.int .i64 ((rd_T46 t162 x6_4).f2)) ∧ w'.cell? (ad165.add ((x5_3).toNat * 3)) = some (.int .i64 ((rd_T46 t162 x5_3).f0)) ∧ w'.cell? ⟨(ad165.add ((x5_3).toNat * 3)).block, (ad165.add ((x5_3).toNat * 3)).off + 1, none⟩ = some (.int .i64 ((rd_T46 t162 x5_3).f1)) ∧ w'.cell? ⟨(ad165.add ((x5_3).toNat * 3)).block, (ad165.add ((x5_3).toNat * 3)).off + 2, none⟩ = some (.int .i64 ((rd_T46 t162 x5_3).f2))) (ds := []) (fB 11 0) (by kernel_rfl) rfl rfl ⟨hx165_0, hx165_1, hx165_2, hx166_0, hx166_1, hx166_2⟩ (fun hHeld => ?_); refine with_tabW spec_WheelOk.tab15 spec_WheelOk.bits15 (fun HT_ HW_ => ?_)
                  generalize wr.drew = w42 at HO_4 BK155 HB hx165_0 hx165_1 hx165_2 hx166_0 hx166_1 hx166_2 hHeld ⊢
                  refine pY 0 67 (fB 11 1) HT_.out ?_
                  refine pY 1 68 (fB 11 3) HT_.out ?_
                  refine pY 2 69 (fB 11 7) HT_.out ?_
                  refine pY 3 70 (fB 11 15) HT_.out ?_
                  refine pY 5 72 (fB 11 47) HT_.out ?_
                  refine pY 6 73 (fB 11 111) HT_.out ?_
                  refine pY 7 74 (fB 11 239) HT_.out ?_
                  refine pY 8 75 (fB 11 495) HT_.out ?_
                  refine tY 4 71 (fB 11 511) HT_.out HW_.out hHeld ?_
                  refine tY 9 76 (fB 11 1023) HT_.out HW_.out hHeld ?_
                  refine pY 10 77 (fB 11 2047) HT_.out ?_
                  refine done_ (done_of HT_.out (by kernel_rfl)) ?_
                  try go_wp2
                  go_ret
                  exact ⟨zW, zL1 HB.out GE155.out⟩
                 ·rw [if_neg c41] at H
                  obtain ⟨c41b0, c41b1⟩ := zf c41
                  have H' := aM H
                  clear H
                  try go_wp2
                  replace HO_4 := zRD HO_4; replace BK155 := zBD BK155; replace HB := zLD HB
                  have p165 : 0 ≤ (x6_4 : Int) := zD
                  have q165 : x6_4 < (t162.length : Int) := zD
                  obtain ⟨ad165, e165, hx165_0, hx165_1, hx165_2⟩ := at_T46 (Kd.R_reads' HO_4.out).2.2 x6_4 p165 q165
                  cases e165
                  replace p165 := eq_true p165
                  replace q165 := eq_true q165
                  have p166 : 0 ≤ (x5_3 : Int) := zD
                  have q166 : x5_3 < (t162.length : Int) := zD
                  obtain ⟨ad166, e166, hx166_0, hx166_1, hx166_2⟩ := at_T46 (Kd.R_reads' HO_4.out).2.2 x5_3 p166 q166
                  obtain rfl : ad165 = ad166 := (by injection e166)
                  replace p166 := eq_true p166
                  replace q166 := eq_true q166
                  refine start_ (n := 11) (S := fun w' => w'.cell? (ad165.add ((x6_4).toNat * 3)) = some (.int .i64 ((rd_T46 t162 x6_4).f0)) ∧ w'.cell? ⟨(ad165.add ((x6_4).toNat * 3)).block, (ad165.add ((x6_4).toNat * 3)).off + 1, none⟩ = some (.int .i64 ((rd_T46 t162 x6_4).f1)) ∧ w'.cell? ⟨(ad165.add ((x6_4).toNat * 3)).block, (ad165.add ((x6_4).toNat * 3)).off + 2, none⟩ = some (.int .i64 ((rd_T46 t162 x6_4).f2)) ∧ w'.cell? (ad165.add ((x5_3).toNat * 3)) = some (.int .i64 ((rd_T46 t162 x5_3).f0)) ∧ w'.cell? ⟨(ad165.add ((x5_3).toNat * 3)).block, (ad165.add ((x5_3).toNat * 3)).off + 1, none⟩ = some (.int .i64 ((rd_T46 t162 x5_3).f1)) ∧ w'.cell? ⟨(ad165.add ((x5_3).toNat * 3)).block, (ad165.add ((x5_3).toNat * 3)).off + 2, none⟩ = some (.int .i64 ((rd_T46 t162 x5_3).f2))) (ds := []) (fB 11 0) (by kernel_rfl) rfl rfl ⟨hx165_0, hx165_1, hx165_2, hx166_0, hx166_1, hx166_2⟩ (fun hHeld => ?_); refine with_tabW spec_WheelOk.tab15 spec_WheelOk.bits15 (fun HT_ HW_ => ?_)
                  generalize wr.drew = w43 at HO_4 BK155 HB hx165_0 hx165_1 hx165_2 hx166_0 hx166_1 hx166_2 hHeld ⊢
                  refine pY 0 67 (fB 11 1) HT_.out ?_
                  refine pY 1 68 (fB 11 3) HT_.out ?_
                  refine pY 2 69 (fB 11 7) HT_.out ?_
                  refine pY 3 70 (fB 11 15) HT_.out ?_
                  refine pY 5 72 (fB 11 47) HT_.out ?_
                  refine pY 6 73 (fB 11 111) HT_.out ?_
                  refine pY 7 74 (fB 11 239) HT_.out ?_
                  refine pY 8 75 (fB 11 495) HT_.out ?_
                  refine tY 4 71 (fB 11 511) HT_.out HW_.out hHeld ?_
                  refine tY 9 76 (fB 11 1023) HT_.out HW_.out hHeld ?_
                  refine pY 10 77 (fB 11 2047) HT_.out ?_
                  refine done_ (done_of HT_.out (by kernel_rfl)) ?_
                  try go_wp2
                  go_roundg k4
                  case measure => have := HJ1.out; have := HK2.out; have := HK3.out; have := HK4.out; omega
                  case rel => exact ⟨(wrap64 (x6_4 + 1)), zV, H', ⟨by have := HJ1.out; have := HK2.out; have := HK3.out; have := HK4.out; omega⟩, ⟨zR HO_4.out⟩, ⟨zB BK155.out⟩, ⟨zL1 HB.out GE155.out⟩⟩
                ·rw [if_neg c40] at H
                 exact absurd H (by simp)
               ·rw [if_neg c39] at H
                exact absurd H (by simp)
              ·rw [if_neg c38] at H
               exact absurd H (by simp)
             ·rw [if_neg c37] at H
              exact absurd H (by simp)
            ·rw [if_neg c36] at H
             have c36b0 := dF c36
             clear c36
             have H' := aM H
             clear H
             go_wp2
             go_roundg k4
             case measure => have := HJ1.out; have := HK2.out; have := HK3.out; have := HK4.out; omega
             case rel => exact ⟨(wrap64 (x5_3 + 1)), zV, H', ⟨by have := HJ1.out; have := HK2.out; have := HK3.out; have := HK4.out; omega⟩, ⟨zR HO_4.out⟩, ⟨zB BK155.out⟩, ⟨zL1 HB.out GE155.out⟩⟩
         ·rw [if_neg c34] at H
          have c34b0 := dF c34
          clear c34
          obtain rfl := Option.some.inj H
          obtain ⟨Ao44, co44, eo44⟩ := Kd.R_slice HO_4.out
          subst eo44
          go_wp2
          go_ret
          exact ⟨zW, zL1 HB.out GE155.out⟩

open Go.Proofs.YtggenhomnbnodaaW.PrintWords renaming blk_drewN → bN, blk_drew → bD, blk_alloc → bA, blk_cell → bC, blk_below → bB, below_set → bS
def spec_l8Lists.l0 : Nat → List (List (S46)) → List (List (S46)) → Int → Option ((List (List (S46))))
 | 0, _, _, _ => none
 | k + 1, x0, x3, x4 => if x4 < (x0.length : Int) then ((some (([] : List (S46)) : List (S46))).bind fun y170 => (if 0 ≤ x4 then (if y170.length + (rd_L2 x0 x4).length < 5864062014805 then (if x3.length < 5864062014805 then (spec_l8Lists.l0 k x0 (x3 ++ [(y170 ++ (rd_L2 x0 x4))]) (wrap64 (x4 + 1))) else (none)) else (none)) else (none))) else (some x3)
def spec_l8Lists.f (k : Nat) (l0 : List (List (S46))) : Option ((List (List (S46)))) := spec_l8Lists.l0 k l0 (([] : List (List (S46)))) 0
set_option maxHeartbeats 8000000 in
set_option maxRecDepth 100000 in
theorem spec_l8Lists.calls (k : Nat) (A0 : Option Addr) (c0 : Nat) (l0 : List (List (S46))) (r : List (List (S46))) (w : World) (hr0 : Kd.C (Kd.slice 46 k46) w A0 l0.length l0) (hc0 : l0.length ≤ c0) (h : spec_l8Lists.f k l0 = some r) :
  Calls Try.prog 91 #[.slice A0 l0.length c0] w fun e w' => ∃ v0_ : Value, e = .returned (v0_) ∧ Kd.S (Kd.slice 46 k46) 23 w' w.heap.size (fun _ => True) v0_ r ∧ Below w.heap.size w w' := by
 have HR0 := aM hr0
 have HC0 := aM hc0
 clear hr0 hc0
 have HB := aM (Below.refl w.heap.size w)
 unfold spec_l8Lists.f at h; have H := h
 clear h
 obtain ⟨y167, hy167⟩ : ∃ y_ : List (List (S46)), y_ = (([] : List (List (S46)))) := ⟨_, rfl⟩
 replace H : (spec_l8Lists.l0 k l0 y167 0) = some r := by first | (rw [hy167]; with_reducible exact H) | (have H2_ := (Option.bind_some _ _).symm.trans H; rw [hy167]; with_reducible exact H2_) | (have H2_ := (Option.bind_some _ _).symm.trans H; with_reducible exact H2_) | with_reducible exact H | (rw [hy167]; exact H) | exact H
 have Ny167 := aM hy167
 clear hy167
 have H' := aM H
 clear H
 go_enter Try.func91, Try.ntmps91
 go_wp2_with (first | ((with_reducible refine gD 5 rfl ?_); refine Kd.S_lit (Kd.slice 46 k46) _ 23 ?hg (N := 5) ?hd (xs := ([] : List (List (S46)))) (inner := []) (ok := fun _ => True) (okp := fun _ => True) ?hr ?hp (fun _ hk => hk) trivial (Below.refl _ _) (Nat.le_refl _) (by simp) ?_; (case hd => rfl); (case hg => rfl); (case hr => first | (go_simp; done) | (go_simp; rfl)); (case hp => exact (Reps.none _ _)); intro v168 w2 ho3 hb hg_ hnew_; clear hg_ hnew_; (first | rw [← Ny167.out] at ho3 | (simp only [Int.reduceToNat] at ho3; rw [← Ny167.out] at ho3)); have HO169 := aM (Kd.S_lower ho3 (below_size (zL HB.out))); replace HB := zLB (zL HB.out) hb; clear hb ho3))
 go_loopg [3, 4] k (fun kq v3 v4 w' => ∃ (x3_1 : List (List (S46))) (x4_1 : Int), v4 = .int .i64 x4_1 ∧ Aside0 (spec_l8Lists.l0 kq l0 x3_1 x4_1 = some r) ∧ Aside0 (kq ≤ k) ∧ Aside0 (Kd.S (Kd.slice 46 k46) 23 w' w.heap.size (fun _ => True) v3 x3_1) ∧ Aside0 (Below w.heap.size w w'))
 case atStart => exact ⟨(y167), (0), zV, H', ⟨Nat.le_refl _⟩, ⟨zS HO169.out⟩, ⟨zL HB.out⟩⟩
 case round =>
  clear H'
  try clear p2
  obtain ⟨x3_1, x4_1, rfl, HA, HK1, HO_3, HB⟩ := hrel
  cases gk with
  | zero => exact absurd HA.out (by simp [spec_l8Lists.l0])
  | succ k1 =>
   have H := HA.out
   clear HA
   simp only [spec_l8Lists.l0] at H
   by_cases c4 : x4_1 < (l0.length : Int)
   ·rw [if_pos c4] at H
    have c4b0 := dT c4
    clear c4
    obtain ⟨y170, hy170⟩ : ∃ y_ : List (S46), y_ = (([] : List (S46))) := ⟨_, rfl⟩
    replace H : (if 0 ≤ x4_1 then (if y170.length + (rd_L2 l0 x4_1).length < 5864062014805 then (if x3_1.length < 5864062014805 then (spec_l8Lists.l0 k1 l0 (x3_1 ++ [(y170 ++ (rd_L2 l0 x4_1))]) (wrap64 (x4_1 + 1))) else (none)) else (none)) else (none)) = some r := by first | (rw [hy170]; with_reducible exact H) | (have H2_ := (Option.bind_some _ _).symm.trans H; rw [hy170]; with_reducible exact H2_) | (have H2_ := (Option.bind_some _ _).symm.trans H; with_reducible exact H2_) | with_reducible exact H | (rw [hy170]; exact H) | exact H
    have Ny170 := aM hy170
    clear hy170
    by_cases c5 : 0 ≤ x4_1
    ·rw [if_pos c5] at H
     have c5b0 := dT c5
     clear c5
     by_cases c6 : y170.length + (rd_L2 l0 x4_1).length < 5864062014805
     ·rw [if_pos c6] at H
      have LMc6 := aM c6
      clear c6
      generalize hy174 : (y170 ++ (rd_L2 l0 x4_1)) = y174 at H; (try rw [Option.bind_some] at H); have Ny174 := aM hy174.symm; clear hy174
      by_cases c7 : x3_1.length < 5864062014805
      ·rw [if_pos c7] at H
       have LMc7 := aM c7
       clear c7
       generalize hy177 : (x3_1 ++ [y174]) = y177 at H; (try rw [Option.bind_some] at H); have Ny177 := aM hy177.symm; clear hy177
       have H' := aM H
       clear H
       go_wp2_with (first | ((with_reducible refine gD 13 rfl ?_); refine Kd.R_lit k46 _ 46 ?hg (N := 13) ?hd (xs := ([] : List (S46))) (inner := []) (ok := fun _ => True) (okp := fun _ => True) ?hr ?hp (fun _ hk => hk) trivial (Below.refl _ _) (Nat.le_refl _) (by simp) ?_; (case hd => rfl); (case hg => rfl); (case hr => first | (go_simp; done) | (go_simp; rfl)); (case hp => exact (Reps.none _ _)); intro v171 w8 ho9 hb hg_ hnew_; clear hg_ hnew_; (first | rw [← Ny170.out] at ho9 | (simp only [Int.reduceToNat] at ho9; rw [← Ny170.out] at ho9)); replace HO_3 := aM (Kd.S_elder' (zS HO_3.out) (Kd.R_base ho9) hb); have HO172 := aM (Kd.R_lower ho9 (below_size (zL HB.out))); replace HB := zLB (zL HB.out) hb; clear hb ho9; have p173 : 0 ≤ (x4_1 : Int) := zD; have q173 : x4_1 < (l0.length : Int) := zD; obtain ⟨ad173, A173_0, c173_0, e173, hx173_0, hl173_0, hi173_0⟩ := at_L2 HR0.out x4_1 p173 q173; cases e173; replace hx173_0 := zh HB.out hx173_0; have HR173_0 := aM hi173_0; have HC173_0 := aM hl173_0; clear hi173_0 hl173_0; replace p173 := eq_true p173; replace q173 := eq_true q173) | ((with_reducible refine gate_builtin (b := .append) (xs := #[.tmp 13, .tmp 17]) rfl ?_); at_builtin; refine Kd.R_append_rows k46 (w0 := w) w.heap.size rfl (.tmp 13) (.tmp 17) 23 46 (.agg #[(.int .i64 0), (.int .i64 0), (.int .i64 0)]) 24 rfl Try.underlying23 info46 rfl (by decide) (by omega) v171 y170 (rd_L2 l0 x4_1) _ _ _ (fun _ => True) (fun _ => False) rfl rfl ?aO ?aR (fun _ _ h => h) (fun _ h => h.elim) ?aF ?aB ?aS ?aL ?_; (case aR => repeat (first | exact (Kd.C_below HR173_0.out HB.out) | (with_reducible refine Kd.C_alloc ?_ _) | (with_reducible refine Kd.C_drewN ?_ _) | (with_reducible refine Kd.C_drew ?_))); (case aB => exact (zL HB.out)); (case aF => exact (fun _ _ => trivial)); (case aO => exact (zR HO172.out)); (case aS => exact (below_size (zL HB.out))); (case aL => have := LMc6.out; omega); intro v175 w10 ho hb hg hat; rw [← Ny174.out] at ho; replace HO_3 := aM (Kd.S_after (ok := (fun _ => True)) (zS HO_3.out) hg hat); replace HB := aM hb; have HO176 := aM (ho); clear HO172; clear ho hb hg hat; obtain ⟨Ao12, co12, eo12⟩ := Kd.R_slice HO176.out; subst eo12) | ((with_reducible refine gate_builtin (b := .append) (xs := #[.tmp 12, .tmp 19]) rfl ?_); at_builtin; refine Kd.S_append (Kd.slice 46 k46) (w0 := w) w.heap.size rfl (.tmp 12) (.tmp 19) 22 23 (.slice none 0 0) 24 rfl Try.underlying22 info23 rfl (by decide) (by omega) u3 x3_1 y174 [.slice Ao12 y174.length co12] (fun _ => True) (fun k_ => some k_ = (.slice Ao12 y174.length co12 : Value).ownBlock) rfl rfl ?aP (fun k_ hk_ => ((Kd.R_mono (ok' := fun k_ => ((fun _ => True)) k_ ∧ some k_ ≠ (u3 : Value).ownBlock) (Kd.R_apart' (HO176.out) (Kd.S_typed HO_3.out) (by decide)) (fun k_ hk => ⟨trivial, hk.2⟩))).1 k_ hk_.symm) ?aF ?aO ?aB ?aS ?aL ?_; (case aP => exact Kd.M_row (Kd.R_mono (Kd.R_tight rfl (Kd.R_mono (ok' := fun k_ => ((fun _ => True)) k_ ∧ some k_ ≠ (u3 : Value).ownBlock) (Kd.R_apart' (HO176.out) (Kd.S_typed HO_3.out) (by decide)) (fun k_ hk => ⟨trivial, hk.2⟩))) (fun _ h_ => h_))); (case aB => exact (zL HB.out)); (case aF => exact (fun _ _ => trivial)); (case aO => exact (zSm HO_3.out (fun k_ hk => ⟨trivial, fun e_ => hk.2 e_⟩))); (case aS => exact (below_size (zL HB.out))); (case aL => have := LMc7.out; omega); intro v178 w11 ho hb hg hat; rw [← Ny177.out] at ho; replace HB := aM hb; have HO179 := aM (ho); clear HO_3 HO176; clear ho hb hg hat))
       go_roundg k1
       case measure => have := HK1.out; omega
       case rel => exact ⟨(y177), (wrap64 (x4_1 + 1)), zV, H', ⟨by have := HK1.out; omega⟩, ⟨zS HO179.out⟩, ⟨zL HB.out⟩⟩
      ·rw [if_neg c7] at H
       exact absurd H (by simp)
     ·rw [if_neg c6] at H
      exact absurd H (by simp)
    ·rw [if_neg c5] at H
     exact absurd H (by simp)
   ·rw [if_neg c4] at H
    have c4b0 := dF c4
    clear c4
    obtain rfl := Option.some.inj H
    go_wp2
    go_ret
    exact ⟨_, zW, zS HO_3.out, zL HB.out⟩

end Go.Proofs.Ytggenhomnbnodaa.QFnTimes
