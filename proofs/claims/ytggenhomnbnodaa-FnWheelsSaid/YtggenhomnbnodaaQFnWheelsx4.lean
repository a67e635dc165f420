/- What functions that the law reaches answer, with their walks. Conditions: those that each theorem names. -/
import Derived.Test.YtggenhomnbnodaaQFnWheelsx0
import Derived.Test.YtggenhomnbnodaaQFnWheelsx2
import Derived.Test.YtggenhomnbnodaaQFnWheelsx3
namespace Go.Proofs.Ytggenhomnbnodaa.QFnWheels
open Go.RowKit Go.Proofs.YtggenhomnbnodaaW.PrintWords Go.Proofs.YtggenhomnbnodaaW.PrintLast Go.Proofs.YtggenhomnbnodaaW.PrintMore
attribute [local go_sem] max2_int min2_int max_two min_two max_three min_three max_four min_four
set_option linter.unusedVariables false
set_option linter.unusedSimpArgs false

open Go.Proofs.YtggenhomnbnodaaW.PrintWords renaming blk_drewN → bN, blk_drew → bD, blk_alloc → bA, blk_cell → bC, blk_below → bB, below_set → bS
mutual
def spec_WheelOk.j0 : Nat → Bool → Int → List (List (S46)) → List (List (S46)) → List (S46) → Option (Bool)
 | 0, _, _, _, _, _ => none
 | k + 1, x29, xI, xG, xH, xJ => if x29 = true then (some false) else (spec_WheelOk.l0 k 0 xI xG xH xJ)
def spec_WheelOk.l0 : Nat → Int → Int → List (List (S46)) → List (List (S46)) → List (S46) → Option (Bool)
 | 0, _, _, _, _, _ => none
 | k + 1, x3, xI, xG, xH, xJ => if x3 < 8 then (if 0 ≤ x3 then (if x3 < (xG.length : Int) then ((spec_l8Slot.f k xI xG xH xJ (rd_L2 xG x3) 1 x3).bind fun tL => (if tL = true then (if x3 < (xH.length : Int) then ((spec_l8Slot.f k xI xG xH xJ (rd_L2 xH x3) 2 x3).bind fun tM => (if tM = true then (spec_WheelOk.l0 k (wrap64 (x3 + 1)) xI xG xH xJ) else (some false))) else (none)) else (some false))) else (none)) else (none)) else ((spec_Timers.f k xI xG xH xJ).bind fun tF => (spec_WheelOk.l1 k tF 0))
def spec_WheelOk.l1 : Nat → List (S46) → Int → Option (Bool)
 | 0, _, _ => none
 | k + 1, x4, x5 => if x5 < (x4.length : Int) then (spec_WheelOk.l2 k x4 x5 0) else (some (decide ((x4.length : Int) ≤ 16)))
def spec_WheelOk.l2 : Nat → List (S46) → Int → Int → Option (Bool)
 | 0, _, _, _ => none
 | k + 1, x4, x5, x6 => if x6 < x5 then (if 0 ≤ x6 then (if x6 < (x4.length : Int) then (if 0 ≤ x5 then (if x5 < (x4.length : Int) then (if ((rd_T46 x4 x6).f0) = ((rd_T46 x4 x5).f0) then (some false) else (spec_WheelOk.l2 k x4 x5 (wrap64 (x6 + 1)))) else (none)) else (none)) else (none)) else (none)) else (spec_WheelOk.l1 k x4 (wrap64 (x5 + 1)))
end
def spec_WheelOk.f (k : Nat) (a0_0 : Int) (l0_1 : List (List (S46))) (l0_2 : List (List (S46))) (l0_3 : List (S46)) : Option (Bool) := if (l0_1.length : Int) = 8 then (if (l0_2.length : Int) = 8 then ((spec_l1In.f a0_0 0 2147483647).bind fun tN => (if tN = true then ((spec_l8Slot.f k a0_0 l0_1 l0_2 l0_3 l0_3 3 0).bind fun tK => (spec_WheelOk.j0 k (!tK) a0_0 l0_1 l0_2 l0_3)) else (spec_WheelOk.j0 k true a0_0 l0_1 l0_2 l0_3))) else (spec_WheelOk.j0 k true a0_0 l0_1 l0_2 l0_3)) else (spec_WheelOk.j0 k true a0_0 l0_1 l0_2 l0_3)
def spec_WheelOk.T6 : Bool × List (List Nat × List Nat) := (true, [([], []), ([], []), ([1], [1]), ([], []), ([2, 3], [2, 3]), ([4], [4]), ([], []), ([0, 5, 6], [0, 5, 6]), ([7], [7]), ([8, 7], [8]), ([9], [9]), ([9], [9]), ([11, 9], [9, 11]), ([9], [9]), ([12, 13, 9], [9, 12, 13]), ([14, 9], [9, 14]), ([9], [9]), ([10, 15, 16, 9, 9], [9, 10, 15, 16]), ([17, 9], [9, 17]), ([9, 18], [9, 18])])
def spec_WheelOk.B6 : List Nat := [0, 0, 2, 0, 14, 30, 0, 127, 255, 511, 1023, 1023, 3071, 1023, 15359, 31743, 1023, 131071, 262143, 524287]
theorem spec_WheelOk.tab6 : rtab .any (opsOf Try.f29 6) = spec_WheelOk.T6 := by kernel_rfl
theorem spec_WheelOk.bits6 : waitsOk spec_WheelOk.T6.2 spec_WheelOk.B6 = true := by kernel_rfl
def spec_WheelOk.T15 : Bool × List (List Nat × List Nat) := (true, [([], []), ([], []), ([0, 1], [0, 1]), ([2], [2]), ([3], [3]), ([], []), ([], []), ([5, 6], [5, 6]), ([7], [7]), ([8], [8]), ([4, 9], [4, 9])])
def spec_WheelOk.B15 : List Nat := [0, 0, 3, 7, 15, 0, 0, 96, 224, 480, 1023]
theorem spec_WheelOk.tab15 : rtab .any (opsOf Try.f29 15) = spec_WheelOk.T15 := by kernel_rfl
theorem spec_WheelOk.bits15 : waitsOk spec_WheelOk.T15.2 spec_WheelOk.B15 = true := by kernel_rfl
set_option maxHeartbeats 8000000 in
set_option maxRecDepth 100000 in
theorem spec_WheelOk.calls (k : Nat) (a0_0 : Int) (A0_1 : Option Addr) (c0_1 : Nat) (l0_1 : List (List (S46))) (A0_2 : Option Addr) (c0_2 : Nat) (l0_2 : List (List (S46))) (A0_3 : Option Addr) (c0_3 : Nat) (l0_3 : List (S46)) (r : Bool) (w : World) (hr0_1 : Kd.C (Kd.slice 46 k46) w A0_1 l0_1.length l0_1) (hc0_1 : l0_1.length ≤ c0_1) (hr0_2 : Kd.C (Kd.slice 46 k46) w A0_2 l0_2.length l0_2) (hc0_2 : l0_2.length ≤ c0_2) (hr0_3 : Kd.C k46 w A0_3 l0_3.length l0_3) (hc0_3 : l0_3.length ≤ c0_3) (h : spec_WheelOk.f k a0_0 l0_1 l0_2 l0_3 = some r) :
  Calls Try.prog 29 #[.agg #[.int .i64 a0_0, .slice A0_1 l0_1.length c0_1, .slice A0_2 l0_2.length c0_2, .slice A0_3 l0_3.length c0_3]] w fun e w' => e = .returned (.bool r) ∧ Below w.heap.size w w' := by
 have hu25 := Try.underlying25
 have HR0_1 := aM hr0_1
 have HC0_1 := aM hc0_1
 clear hr0_1 hc0_1
 have HR0_2 := aM hr0_2
 have HC0_2 := aM hc0_2
 clear hr0_2 hc0_2
 have HR0_3 := aM hr0_3
 have HC0_3 := aM hc0_3
 clear hr0_3 hc0_3
 have HB := aM (Below.refl w.heap.size w)
 unfold spec_WheelOk.f at h; have H := h
 clear h
 have HC2 := aM H
 clear H
 go_enter Try.func29, Try.ntmps29
 go_upto_region 1 with (first | ((with_reducible refine gD 1 rfl ?_); (try (refine gate_guard (by rfl) ?_; dsimp only)); refine box_event ?hg (N := 1) ?hd (cs := #[.int .i64 a0_0, .slice A0_1 l0_1.length c0_1, .slice A0_2 l0_2.length c0_2, .slice A0_3 l0_3.length c0_3]) (t := 25) ?hr ?_; (case hd => rfl); (case hg => rfl); (case hr => first | (go_simp; done) | (go_simp; rfl)); intro gbA hg w3 hbox hb; have BKA := aM hbox; have GWA := aM (zg (zL HB.o) hg : w.heap.size ≤ gbA); have GEA := GWA; replace HB := zLB (zL HB.o) hb; clear hb hbox hg))
 (try simp only [Act.put, List.setIfInBounds_toArray, List.set_cons_zero, List.set_cons_succ])
 go_cut [29] (fun v29 wc => ∃ (kq : Nat) (x29_1 : Bool), v29 = .bool x29_1 ∧ Aside0 (spec_WheelOk.j0 kq x29_1 a0_0 l0_1 l0_2 l0_3 = some r) ∧ Aside0 (kq ≤ k) ∧ Aside0 (wc.heap[gbA]? = some (.cells #[.int .i64 a0_0, (.slice A0_1 l0_1.length c0_1), (.slice A0_2 l0_2.length c0_2), (.slice A0_3 l0_3.length c0_3)] 25 (0, 0))) ∧ Aside0 (Below w.heap.size w wc))
 case first =>
  have H := HC2.o
  clear HC2
  by_cases c4 : (l0_1.length : Int) = 8
  ·rw [if_pos c4] at H
   obtain ⟨c4b0, c4b1⟩ := zt c4
   clear c4
   (first | rw [c4b0] | (simp only [i64_w, i32_w]; rw [c4b0]) | skip)
   by_cases c5 : (l0_2.length : Int) = 8
   ·rw [if_pos c5] at H
    obtain ⟨c5b0, c5b1⟩ := zt c5
    clear c5
    obtain ⟨tN, A6, H⟩ := zO H; try dsimp only at H
    by_cases c7 : tN = true
    ·subst c7
     rw [if_pos rfl] at H
     obtain ⟨tK, A8, H⟩ := zO H; try dsimp only at H
     have H' := aM H
     clear H
     have hcz9 := zc4 BKA.o
     have hfz9 := zf4 BKA.o
     go_wp2_with (first | (go_at_call 67; (with_reducible refine (spec_l1In.calls a0_0 0 2147483647 true _ A6.o).mono ?_); rintro e w' ⟨rfl, ⟨nd, rfl⟩⟩) | (go_at_call 68; (with_reducible refine (spec_l8Slot.calls k a0_0 _ _ l0_1 _ _ l0_2 _ _ l0_3 _ _ l0_3 3 0 tK _ ?side1 ?side2 ?side3 ?side4 ?side5 ?side6 ?side7 ?side8 A8.o).mono ?_); (case side1 => repeat (first | exact (Kd.C_below HR0_1.o (zL1 HB.o GEA.o)) | (with_reducible refine Kd.C_alloc ?_ _) | (with_reducible refine Kd.C_drewN ?_ _) | (with_reducible refine Kd.C_drew ?_))); (case side2 => exact HC0_1.o); (case side3 => repeat (first | exact (Kd.C_below HR0_2.o (zL1 HB.o GEA.o)) | (with_reducible refine Kd.C_alloc ?_ _) | (with_reducible refine Kd.C_drewN ?_ _) | (with_reducible refine Kd.C_drew ?_))); (case side4 => exact HC0_2.o); (case side5 => repeat (first | exact (Kd.C_below HR0_3.o (zL1 HB.o GEA.o)) | (with_reducible refine Kd.C_alloc ?_ _) | (with_reducible refine Kd.C_drewN ?_ _) | (with_reducible refine Kd.C_drew ?_))); (case side6 => exact HC0_3.o); (case side7 => repeat (first | exact (Kd.C_below HR0_3.o (zL1 HB.o GEA.o)) | (with_reducible refine Kd.C_alloc ?_ _) | (with_reducible refine Kd.C_drewN ?_ _) | (with_reducible refine Kd.C_drew ?_))); (case side8 => exact HC0_3.o); rintro e w10 ⟨rfl, hb⟩; replace BKA := zBB BKA hb; replace HB := zLB (zL1 HB.o GEA.o) hb; clear hb))
     go_meet
     case rel => exact ⟨_, (!tK), zV, H', ⟨by first | omega | exact Nat.le_refl _⟩, ⟨zB BKA.o⟩, ⟨zL1 HB.o GEA.o⟩⟩
    ·obtain rfl := Bool.eq_false_iff.mpr c7
     rw [if_neg zn] at H
     have H' := aM H
     clear H
     have hcz11 := zc4 BKA.o
     have hfz11 := zf4 BKA.o
     go_wp2_with (first | (go_at_call 67; (with_reducible refine (spec_l1In.calls a0_0 0 2147483647 false _ A6.o).mono ?_); rintro e w' ⟨rfl, ⟨nd, rfl⟩⟩))
     go_meet
     case rel => exact ⟨_, (true), zV, H', ⟨by first | omega | exact Nat.le_refl _⟩, ⟨zB BKA.o⟩, ⟨zL1 HB.o GEA.o⟩⟩
   ·rw [if_neg c5] at H
    obtain ⟨c5b0, c5b1⟩ := zf c5
    have H' := aM H
    clear H
    have hcz12 := zc4 BKA.o
    have hfz12 := zf4 BKA.o
    go_wp2
    go_meet
    case rel => exact ⟨_, (true), zV, H', ⟨by first | omega | exact Nat.le_refl _⟩, ⟨zB BKA.o⟩, ⟨zL1 HB.o GEA.o⟩⟩
  ·rw [if_neg c4] at H
   obtain ⟨c4b0, c4b1⟩ := zf c4
   (first | rw [c4b0] | (simp only [i64_w, i32_w]; rw [c4b0]) | skip)
   have H' := aM H
   clear H
   have hcz13 := zc4 BKA.o
   have hfz13 := zf4 BKA.o
   go_wp2
   go_meet
   case rel => exact ⟨_, (true), zV, H', ⟨by first | omega | exact Nat.le_refl _⟩, ⟨zB BKA.o⟩, ⟨zL1 HB.o GEA.o⟩⟩
 case rest =>
  clear HC2
  try clear c2
  try clear p2
  try clear c4
  try clear c4b0
  try clear c4b1
  try clear c5
  try clear c5b0
  try clear c5b1
  try clear c7
  try clear hcz11; try clear hcz12; try clear hcz13; try clear hcz9; try clear hfz11; try clear hfz12; try clear hfz13; try clear hfz9
  obtain ⟨kq, x29_1, rfl, HA, HJ1, BKA, HB⟩ := hcut
  cases kq with
  | zero => exact absurd HA.o (by simp [spec_WheelOk.j0])
  | succ kj1 =>
   have H := HA.o
   clear HA
   simp only [spec_WheelOk.j0] at H
   by_cases c14 : x29_1 = true
   ·subst c14
    rw [if_pos rfl] at H
    obtain rfl := Option.some.inj H
    go_wp2
    go_ret
    exact ⟨zW, zL1 HB.o GEA.o⟩
   ·obtain rfl := Bool.eq_false_iff.mpr c14
    rw [if_neg zn] at H
    have H' := aM H
    clear H
    go_wp2
    go_loopg [3] kj1 (fun kq v3 w' => ∃ (x3_2 : Int), v3 = .int .i64 x3_2 ∧ Aside0 (spec_WheelOk.l0 kq x3_2 a0_0 l0_1 l0_2 l0_3 = some r) ∧ Aside0 (kq ≤ kj1) ∧ Aside0 (w'.heap[gbA]? = some (.cells #[.int .i64 a0_0, (.slice A0_1 l0_1.length c0_1), (.slice A0_2 l0_2.length c0_2), (.slice A0_3 l0_3.length c0_3)] 25 (0, 0))) ∧ Aside0 (Below w.heap.size w w'))
    case atStart => exact ⟨(0), zV, H', ⟨Nat.le_refl _⟩, ⟨zB BKA.o⟩, ⟨zL1 HB.o GEA.o⟩⟩
    case round =>
     clear H'
     try clear c1
     try clear c2
     try clear p2
     try clear c4
     try clear c4b0
     try clear c4b1
     try clear c5
     try clear c5b0
     try clear c5b1
     try clear c7
     try clear c14
     try clear hcz11; try clear hcz12; try clear hcz13; try clear hcz9; try clear hfz11; try clear hfz12; try clear hfz13; try clear hfz9
     try clear p2
     try clear BKA
     obtain ⟨x3_2, rfl, HA, HK2, BKA, HB⟩ := hrel
     cases gk with
     | zero => exact absurd HA.o (by simp [spec_WheelOk.l0])
     | succ k2 =>
      have H := HA.o
      clear HA
      simp only [spec_WheelOk.l0] at H
      by_cases c15 : x3_2 < 8
      ·rw [if_pos c15] at H
       have c15b0 := dT c15
       clear c15
       by_cases c16 : 0 ≤ x3_2
       ·rw [if_pos c16] at H
        have c16b0 := dT c16
        clear c16
        by_cases c17 : x3_2 < (l0_1.length : Int)
        ·rw [if_pos c17] at H
         have c17b0 := dT c17
         clear c17
         obtain ⟨tL, A18, H⟩ := zO H; try dsimp only at H
         by_cases c19 : tL = true
         ·subst c19
          rw [if_pos rfl] at H
          by_cases c20 : x3_2 < (l0_2.length : Int)
          ·rw [if_pos c20] at H
           have c20b0 := dT c20
           clear c20
           obtain ⟨tM, A21, H⟩ := zO H; try dsimp only at H
           by_cases c22 : tM = true
           ·subst c22
            rw [if_pos rfl] at H
            have H' := aM H
            clear H
            try go_wp2
            replace BKA := zBD BKA; replace HB := zLD HB
            have pB : 0 ≤ (x3_2 : Int) := zD
            have qB : x3_2 < (l0_1.length : Int) := zD
            obtain ⟨adB, AB_0, cB_0, eB, hxB_0, hlB_0, hiB_0⟩ := at_L2 HR0_1.o x3_2 pB qB
            have hwB_0 := hxB_0
            cases eB
            replace hxB_0 := zh HB.o hxB_0
            have HRB_0 := aM hiB_0
            have HCB_0 := aM hlB_0
            clear hiB_0 hlB_0
            replace pB := eq_true pB
            replace qB := eq_true qB
            have pC : 0 ≤ (x3_2 : Int) := zD
            have qC : x3_2 < (l0_2.length : Int) := zD
            obtain ⟨adC, AC_0, cC_0, eC, hxC_0, hlC_0, hiC_0⟩ := at_L2 HR0_2.o x3_2 pC qC
            have hwC_0 := hxC_0
            cases eC
            replace hxC_0 := zh HB.o hxC_0
            have HRC_0 := aM hiC_0
            have HCC_0 := aM hlC_0
            clear hiC_0 hlC_0
            replace pC := eq_true pC
            replace qC := eq_true qC
            refine start_ (n := 20) (S := fun w' => w'.cell? ⟨gbA, 0, none⟩ = some (.int .i64 a0_0) ∧ w'.cell? ⟨gbA, 1, none⟩ = some (.slice (some adB) l0_1.length c0_1) ∧ w'.cell? ⟨gbA, 2, none⟩ = some (.slice (some adC) l0_2.length c0_2) ∧ w'.cell? ⟨gbA, 3, none⟩ = some (.slice A0_3 l0_3.length c0_3) ∧ w'.cell? (adB.add (x3_2).toNat) = some (.slice AB_0 (rd_L2 l0_1 x3_2).length cB_0) ∧ w'.cell? (adC.add (x3_2).toNat) = some (.slice AC_0 (rd_L2 l0_2 x3_2).length cC_0)) (ds := []) (fB 20 0) (by kernel_rfl) rfl rfl ⟨(bC BKA.o 0).trans rfl, (bC BKA.o 1).trans rfl, (bC BKA.o 2).trans rfl, (bC BKA.o 3).trans rfl, (zh HB.o hwB_0), (zh HB.o hwC_0)⟩ (fun hHeld => ?_); refine with_tabW spec_WheelOk.tab6 spec_WheelOk.bits6 (fun HT_ HW_ => ?_)
            generalize wr.drew = w23 at BKA HB HRB_0 HRC_0 hxB_0 hxC_0 hHeld ⊢
            refine pY 1 35 (fB 20 2) HT_.o ?_
            refine pY 3 37 (fB 20 10) HT_.o ?_
            refine pY 6 40 (fB 20 74) HT_.o ?_
            refine tY 0 34 (fB 20 75) HT_.o HW_.o hHeld ?_
            refine tY 2 36 (fB 20 79) HT_.o HW_.o hHeld ?_
            refine pY 4 38 (fB 20 95) HT_.o ?_
            refine tY 5 39 (fB 20 127) HT_.o HW_.o hHeld ?_
            refine oN 7 41 (fB 20 255) HT_.o fun K hK => ?_
            refine gS Try.func68 #[.agg #[.int .i64 a0_0, .slice (some adB) l0_1.length c0_1, .slice (some adC) l0_2.length c0_2, .slice A0_3 l0_3.length c0_3], .slice AB_0 (rd_L2 l0_1 x3_2).length cB_0, .int .i64 1, .int .i64 x3_2] ?_
            with_reducible refine (spec_l8Slot.calls k2 a0_0 _ _ l0_1 _ _ l0_2 _ _ l0_3 _ _ (rd_L2 l0_1 x3_2) 1 x3_2 true _ ?side1 ?side2 ?side3 ?side4 ?side5 ?side6 ?side7 ?side8 A18.o).mono ?_
            (case side1 => exact zC (Kd.C_below HR0_1.o HB.o))
            (case side2 => exact HC0_1.o)
            (case side3 => exact zC (Kd.C_below HR0_2.o HB.o))
            (case side4 => exact HC0_2.o)
            (case side5 => exact zC (Kd.C_below HR0_3.o HB.o))
            (case side6 => exact HC0_3.o)
            (case side7 => exact zC (Kd.C_below HRB_0.o HB.o))
            (case side8 => exact HCB_0.o)
            rintro e w24 ⟨rfl, hb⟩
            refine ⟨_, rfl, ?_⟩
            replace BKA := zBB BKA hb; replace HB := zLB (zL1 HB.o GEA.o) hb
            clear hb
            refine hK.out _ _ ⟨(bC BKA.o 0).trans rfl, (bC BKA.o 1).trans rfl, (bC BKA.o 2).trans rfl, (bC BKA.o 3).trans rfl, (zh HB.o hwB_0), (zh HB.o hwC_0)⟩ fun hHeld => ?_; clear hK K
            refine nZ 41 ?_
            refine pY 8 42 (fB 20 511) HT_.o ?_
            refine pY 9 43 (fB 20 1023) HT_.o ?_
            refine pY 11 45 (fB 20 3071) HT_.o ?_
            refine pY 13 47 (fB 20 11263) HT_.o ?_
            refine pY 16 50 (fB 20 76799) HT_.o ?_
            refine tY 10 44 (fB 20 77823) HT_.o HW_.o hHeld ?_
            refine tY 12 46 (fB 20 81919) HT_.o HW_.o hHeld ?_
            refine pY 14 48 (fB 20 98303) HT_.o ?_
            refine tY 15 49 (fB 20 131071) HT_.o HW_.o hHeld ?_
            refine oN 17 51 (fB 20 262143) HT_.o fun K hK => ?_
            refine gS Try.func68 #[.agg #[.int .i64 a0_0, .slice (some adB) l0_1.length c0_1, .slice (some adC) l0_2.length c0_2, .slice A0_3 l0_3.length c0_3], .slice AC_0 (rd_L2 l0_2 x3_2).length cC_0, .int .i64 2, .int .i64 x3_2] ?_
            with_reducible refine (spec_l8Slot.calls k2 a0_0 _ _ l0_1 _ _ l0_2 _ _ l0_3 _ _ (rd_L2 l0_2 x3_2) 2 x3_2 true _ ?side1 ?side2 ?side3 ?side4 ?side5 ?side6 ?side7 ?side8 A21.o).mono ?_
            (case side1 => exact zC (Kd.C_below HR0_1.o HB.o))
            (case side2 => exact HC0_1.o)
            (case side3 => exact zC (Kd.C_below HR0_2.o HB.o))
            (case side4 => exact HC0_2.o)
            (case side5 => exact zC (Kd.C_below HR0_3.o HB.o))
            (case side6 => exact HC0_3.o)
            (case side7 => exact zC (Kd.C_below HRC_0.o HB.o))
            (case side8 => exact HCC_0.o)
            rintro e w25 ⟨rfl, hb⟩
            refine ⟨_, rfl, ?_⟩
            replace BKA := zBB BKA hb; replace HB := zLB (zL1 HB.o GEA.o) hb
            clear hb
            refine hK.out _ _ ⟨(bC BKA.o 0).trans rfl, (bC BKA.o 1).trans rfl, (bC BKA.o 2).trans rfl, (bC BKA.o 3).trans rfl, (zh HB.o hwB_0), (zh HB.o hwC_0)⟩ fun hHeld => ?_; clear hK K
            refine nZ 51 ?_
            refine pY 18 52 (fB 20 524287) HT_.o ?_
            refine pY 19 53 (fB 20 1048575) HT_.o ?_
            refine done_ (done_of HT_.o (by kernel_rfl)) ?_
            try go_wp2
            go_roundg k2
            case measure => have := HJ1.o; have := HK2.o; omega
            case rel => exact ⟨(wrap64 (x3_2 + 1)), zV, H', ⟨by have := HJ1.o; have := HK2.o; omega⟩, ⟨zB BKA.o⟩, ⟨zL1 HB.o GEA.o⟩⟩
           ·obtain rfl := Bool.eq_false_iff.mpr c22
            rw [if_neg zn] at H
            obtain rfl := Option.some.inj H
            try go_wp2
            replace BKA := zBD BKA; replace HB := zLD HB
            have pB : 0 ≤ (x3_2 : Int) := zD
            have qB : x3_2 < (l0_1.length : Int) := zD
            obtain ⟨adB, AB_0, cB_0, eB, hxB_0, hlB_0, hiB_0⟩ := at_L2 HR0_1.o x3_2 pB qB
            have hwB_0 := hxB_0
            cases eB
            replace hxB_0 := zh HB.o hxB_0
            have HRB_0 := aM hiB_0
            have HCB_0 := aM hlB_0
            clear hiB_0 hlB_0
            replace pB := eq_true pB
            replace qB := eq_true qB
            have pC : 0 ≤ (x3_2 : Int) := zD
            have qC : x3_2 < (l0_2.length : Int) := zD
            obtain ⟨adC, AC_0, cC_0, eC, hxC_0, hlC_0, hiC_0⟩ := at_L2 HR0_2.o x3_2 pC qC
            have hwC_0 := hxC_0
            cases eC
            replace hxC_0 := zh HB.o hxC_0
            have HRC_0 := aM hiC_0
            have HCC_0 := aM hlC_0
            clear hiC_0 hlC_0
            replace pC := eq_true pC
            replace qC := eq_true qC
            refine start_ (n := 20) (S := fun w' => w'.cell? ⟨gbA, 0, none⟩ = some (.int .i64 a0_0) ∧ w'.cell? ⟨gbA, 1, none⟩ = some (.slice (some adB) l0_1.length c0_1) ∧ w'.cell? ⟨gbA, 2, none⟩ = some (.slice (some adC) l0_2.length c0_2) ∧ w'.cell? ⟨gbA, 3, none⟩ = some (.slice A0_3 l0_3.length c0_3) ∧ w'.cell? (adB.add (x3_2).toNat) = some (.slice AB_0 (rd_L2 l0_1 x3_2).length cB_0) ∧ w'.cell? (adC.add (x3_2).toNat) = some (.slice AC_0 (rd_L2 l0_2 x3_2).length cC_0)) (ds := []) (fB 20 0) (by kernel_rfl) rfl rfl ⟨(bC BKA.o 0).trans rfl, (bC BKA.o 1).trans rfl, (bC BKA.o 2).trans rfl, (bC BKA.o 3).trans rfl, (zh HB.o hwB_0), (zh HB.o hwC_0)⟩ (fun hHeld => ?_); refine with_tabW spec_WheelOk.tab6 spec_WheelOk.bits6 (fun HT_ HW_ => ?_)
            generalize wr.drew = w26 at BKA HB HRB_0 HRC_0 hxB_0 hxC_0 hHeld ⊢
            refine pY 1 35 (fB 20 2) HT_.o ?_
            refine pY 3 37 (fB 20 10) HT_.o ?_
            refine pY 6 40 (fB 20 74) HT_.o ?_
            refine tY 0 34 (fB 20 75) HT_.o HW_.o hHeld ?_
            refine tY 2 36 (fB 20 79) HT_.o HW_.o hHeld ?_
            refine pY 4 38 (fB 20 95) HT_.o ?_
            refine tY 5 39 (fB 20 127) HT_.o HW_.o hHeld ?_
            refine oN 7 41 (fB 20 255) HT_.o fun K hK => ?_
            refine gS Try.func68 #[.agg #[.int .i64 a0_0, .slice (some adB) l0_1.length c0_1, .slice (some adC) l0_2.length c0_2, .slice A0_3 l0_3.length c0_3], .slice AB_0 (rd_L2 l0_1 x3_2).length cB_0, .int .i64 1, .int .i64 x3_2] ?_
            with_reducible refine (spec_l8Slot.calls k2 a0_0 _ _ l0_1 _ _ l0_2 _ _ l0_3 _ _ (rd_L2 l0_1 x3_2) 1 x3_2 true _ ?side1 ?side2 ?side3 ?side4 ?side5 ?side6 ?side7 ?side8 A18.o).mono ?_
            (case side1 => exact zC (Kd.C_below HR0_1.o HB.o))
            (case side2 => exact HC0_1.o)
            (case side3 => exact zC (Kd.C_below HR0_2.o HB.o))
            (case side4 => exact HC0_2.o)
            (case side5 => exact zC (Kd.C_below HR0_3.o HB.o))
            (case side6 => exact HC0_3.o)
            (case side7 => exact zC (Kd.C_below HRB_0.o HB.o))
            (case side8 => exact HCB_0.o)
            rintro e w27 ⟨rfl, hb⟩
            refine ⟨_, rfl, ?_⟩
            replace BKA := zBB BKA hb; replace HB := zLB (zL1 HB.o GEA.o) hb
            clear hb
            refine hK.out _ _ ⟨(bC BKA.o 0).trans rfl, (bC BKA.o 1).trans rfl, (bC BKA.o 2).trans rfl, (bC BKA.o 3).trans rfl, (zh HB.o hwB_0), (zh HB.o hwC_0)⟩ fun hHeld => ?_; clear hK K
            refine nZ 41 ?_
            refine pY 8 42 (fB 20 511) HT_.o ?_
            refine pY 9 43 (fB 20 1023) HT_.o ?_
            refine pY 11 45 (fB 20 3071) HT_.o ?_
            refine pY 13 47 (fB 20 11263) HT_.o ?_
            refine pY 16 50 (fB 20 76799) HT_.o ?_
            refine tY 10 44 (fB 20 77823) HT_.o HW_.o hHeld ?_
            refine tY 12 46 (fB 20 81919) HT_.o HW_.o hHeld ?_
            refine pY 14 48 (fB 20 98303) HT_.o ?_
            refine tY 15 49 (fB 20 131071) HT_.o HW_.o hHeld ?_
            refine oN 17 51 (fB 20 262143) HT_.o fun K hK => ?_
            refine gS Try.func68 #[.agg #[.int .i64 a0_0, .slice (some adB) l0_1.length c0_1, .slice (some adC) l0_2.length c0_2, .slice A0_3 l0_3.length c0_3], .slice AC_0 (rd_L2 l0_2 x3_2).length cC_0, .int .i64 2, .int .i64 x3_2] ?_
            with_reducible refine (spec_l8Slot.calls k2 a0_0 _ _ l0_1 _ _ l0_2 _ _ l0_3 _ _ (rd_L2 l0_2 x3_2) 2 x3_2 false _ ?side1 ?side2 ?side3 ?side4 ?side5 ?side6 ?side7 ?side8 A21.o).mono ?_
            (case side1 => exact zC (Kd.C_below HR0_1.o HB.o))
            (case side2 => exact HC0_1.o)
            (case side3 => exact zC (Kd.C_below HR0_2.o HB.o))
            (case side4 => exact HC0_2.o)
            (case side5 => exact zC (Kd.C_below HR0_3.o HB.o))
            (case side6 => exact HC0_3.o)
            (case side7 => exact zC (Kd.C_below HRC_0.o HB.o))
            (case side8 => exact HCC_0.o)
            rintro e w28 ⟨rfl, hb⟩
            refine ⟨_, rfl, ?_⟩
            replace BKA := zBB BKA hb; replace HB := zLB (zL1 HB.o GEA.o) hb
            clear hb
            refine hK.out _ _ ⟨(bC BKA.o 0).trans rfl, (bC BKA.o 1).trans rfl, (bC BKA.o 2).trans rfl, (bC BKA.o 3).trans rfl, (zh HB.o hwB_0), (zh HB.o hwC_0)⟩ fun hHeld => ?_; clear hK K
            refine nZ 51 ?_
            refine pY 18 52 (fB 20 524287) HT_.o ?_
            refine pY 19 53 (fB 20 1048575) HT_.o ?_
            refine done_ (done_of HT_.o (by kernel_rfl)) ?_
            try go_wp2
            go_ret
            exact ⟨zW, zL1 HB.o GEA.o⟩
          ·rw [if_neg c20] at H
           exact absurd H (by simp)
         ·obtain rfl := Bool.eq_false_iff.mpr c19
          rw [if_neg zn] at H
          obtain rfl := Option.some.inj H
          try go_wp2
          replace BKA := zBD BKA; replace HB := zLD HB
          have pB : 0 ≤ (x3_2 : Int) := zD
          have qB : x3_2 < (l0_1.length : Int) := zD
          obtain ⟨adB, AB_0, cB_0, eB, hxB_0, hlB_0, hiB_0⟩ := at_L2 HR0_1.o x3_2 pB qB
          have hwB_0 := hxB_0
          cases eB
          replace hxB_0 := zh HB.o hxB_0
          have HRB_0 := aM hiB_0
          have HCB_0 := aM hlB_0
          clear hiB_0 hlB_0
          replace pB := eq_true pB
          replace qB := eq_true qB
          refine start_ (n := 20) (S := fun w' => w'.cell? ⟨gbA, 0, none⟩ = some (.int .i64 a0_0) ∧ w'.cell? ⟨gbA, 1, none⟩ = some (.slice (some adB) l0_1.length c0_1) ∧ w'.cell? ⟨gbA, 2, none⟩ = some (.slice A0_2 l0_2.length c0_2) ∧ w'.cell? ⟨gbA, 3, none⟩ = some (.slice A0_3 l0_3.length c0_3) ∧ w'.cell? (adB.add (x3_2).toNat) = some (.slice AB_0 (rd_L2 l0_1 x3_2).length cB_0)) (ds := []) (fB 20 0) (by kernel_rfl) rfl rfl ⟨(bC BKA.o 0).trans rfl, (bC BKA.o 1).trans rfl, (bC BKA.o 2).trans rfl, (bC BKA.o 3).trans rfl, (zh HB.o hwB_0)⟩ (fun hHeld => ?_); refine with_tabW spec_WheelOk.tab6 spec_WheelOk.bits6 (fun HT_ HW_ => ?_)
          generalize wr.drew = w29 at BKA HB HRB_0 hxB_0 hHeld ⊢
          refine pY 1 35 (fB 20 2) HT_.o ?_
          refine pY 3 37 (fB 20 10) HT_.o ?_
          refine pY 6 40 (fB 20 74) HT_.o ?_
          refine tY 0 34 (fB 20 75) HT_.o HW_.o hHeld ?_
          refine tY 2 36 (fB 20 79) HT_.o HW_.o hHeld ?_
          refine pY 4 38 (fB 20 95) HT_.o ?_
          refine tY 5 39 (fB 20 127) HT_.o HW_.o hHeld ?_
          refine oN 7 41 (fB 20 255) HT_.o fun K hK => ?_
          refine gS Try.func68 #[.agg #[.int .i64 a0_0, .slice (some adB) l0_1.length c0_1, .slice A0_2 l0_2.length c0_2, .slice A0_3 l0_3.length c0_3], .slice AB_0 (rd_L2 l0_1 x3_2).length cB_0, .int .i64 1, .int .i64 x3_2] ?_
          with_reducible refine (spec_l8Slot.calls k2 a0_0 _ _ l0_1 _ _ l0_2 _ _ l0_3 _ _ (rd_L2 l0_1 x3_2) 1 x3_2 false _ ?side1 ?side2 ?side3 ?side4 ?side5 ?side6 ?side7 ?side8 A18.o).mono ?_
          (case side1 => exact zC (Kd.C_below HR0_1.o HB.o))
          (case side2 => exact HC0_1.o)
          (case side3 => exact zC (Kd.C_below HR0_2.o HB.o))
          (case side4 => exact HC0_2.o)
          (case side5 => exact zC (Kd.C_below HR0_3.o HB.o))
          (case side6 => exact HC0_3.o)
          (case side7 => exact zC (Kd.C_below HRB_0.o HB.o))
          (case side8 => exact HCB_0.o)
          rintro e w30 ⟨rfl, hb⟩
          refine ⟨_, rfl, ?_⟩
          replace BKA := zBB BKA hb; replace HB := zLB (zL1 HB.o GEA.o) hb
          clear hb
          refine hK.out _ _ ⟨(bC BKA.o 0).trans rfl, (bC BKA.o 1).trans rfl, (bC BKA.o 2).trans rfl, (bC BKA.o 3).trans rfl, (zh HB.o hwB_0)⟩ fun hHeld => ?_; clear hK K
          refine nZ 41 ?_
          refine pY 8 42 (fB 20 511) HT_.o ?_
          refine pY 9 43 (fB 20 1023) HT_.o ?_
          refine pN 10 44 (fB 20 2047) HT_.o ?_
          refine pN 11 45 (fB 20 4095) HT_.o ?_
          refine pN 12 46 (fB 20 8191) HT_.o ?_
          refine pN 13 47 (fB 20 16383) HT_.o ?_
          refine pN 14 48 (fB 20 32767) HT_.o ?_
          refine pN 15 49 (fB 20 65535) HT_.o ?_
          refine pN 16 50 (fB 20 131071) HT_.o ?_
          refine pN 17 51 (fB 20 262143) HT_.o ?_
          refine pN 18 52 (fB 20 524287) HT_.o ?_
          refine pY 19 53 (fB 20 1048575) HT_.o ?_
          refine done_ (done_of HT_.o (by kernel_rfl)) ?_
          try go_wp2
          go_ret
          exact ⟨zW, zL1 HB.o GEA.o⟩
        ·rw [if_neg c17] at H
         exact absurd H (by simp)
       ·rw [if_neg c16] at H
        exact absurd H (by simp)
      ·rw [if_neg c15] at H
       have c15b0 := dF c15
       clear c15
       obtain ⟨tF, A31, H⟩ := zO H; try dsimp only at H
       have H' := aM H
       clear H
       have hcz32 := zc4 BKA.o
       have hfz32 := zf4 BKA.o
       go_wp2_with (first | ((with_reducible refine gC 24 rfl ?_); refine gL 55 Try.func24 #[.agg #[.int .i64 a0_0, .slice A0_1 l0_1.length c0_1, .slice A0_2 l0_2.length c0_2, .slice A0_3 l0_3.length c0_3]] ?_; (with_reducible refine (spec_Timers.calls k2 a0_0 _ _ l0_1 _ _ l0_2 _ _ l0_3 tF _ ?side1 ?side2 ?side3 ?side4 ?side5 ?side6 A31.o).mono ?_); (case side1 => exact zC (Kd.C_below HR0_1.o HB.o)); (case side2 => exact HC0_1.o); (case side3 => exact zC (Kd.C_below HR0_2.o HB.o)); (case side4 => exact HC0_2.o); (case side5 => exact zC (Kd.C_below HR0_3.o HB.o)); (case side6 => exact HC0_3.o); rintro e w33 ⟨vO, rfl, ho0, hb⟩; refine ⟨_, rfl, ?_⟩; have HOP := aM (Kd.R_lower ho0 (below_size (zL1 HB.o GEA.o))); replace BKA := zBB BKA hb; replace HB := zLB (zL1 HB.o GEA.o) hb; clear ho0 hb))
       go_loopg [5] k2 (fun kq v5 w' => ∃ (x5_3 : Int), v5 = .int .i64 x5_3 ∧ Aside0 (spec_WheelOk.l1 kq tF x5_3 = some r) ∧ Aside0 (kq ≤ k2) ∧ Aside0 (Kd.R k46 46 w' w.heap.size (fun _ => True) vO tF) ∧ Aside0 (w'.heap[gbA]? = some (.cells #[.int .i64 a0_0, (.slice A0_1 l0_1.length c0_1), (.slice A0_2 l0_2.length c0_2), (.slice A0_3 l0_3.length c0_3)] 25 (0, 0))) ∧ Aside0 (Below w.heap.size w w'))
       case atStart => exact ⟨(0), zV, H', ⟨Nat.le_refl _⟩, ⟨zR HOP.o⟩, ⟨zB BKA.o⟩, ⟨zL1 HB.o GEA.o⟩⟩
       case round =>
        clear H'
        try clear c1
        try clear p1
        try clear q1
        try clear hx1
        try clear c2
        try clear p2
        try clear c6
        try clear p6
        try clear c14
        try clear p14
        try clear q14
        try clear hx14
        try clear c15
        try clear c15b0
        try clear c16
        try clear c17
        try clear c19
        try clear c20
        try clear c22
        try clear c24
        try clear hcz32; try clear hfz32
        try clear hxB_0
        try clear hxC_0
        try clear pB
        try clear pC
        try clear qB
        try clear qC
        try clear BKA
        obtain ⟨x5_3, rfl, HA, HK3, HO_4, BKA, HB⟩ := hrel
        cases gk with
        | zero => exact absurd HA.o (by simp [spec_WheelOk.l1])
        | succ k3 =>
         have H := HA.o
         clear HA
         simp only [spec_WheelOk.l1] at H
         by_cases c34 : x5_3 < (tF.length : Int)
         ·rw [if_pos c34] at H
          have c34b0 := dT c34
          clear c34
          have H' := aM H
          clear H
          obtain ⟨Ao35, co35, eo35⟩ := Kd.R_slice HO_4.o
          subst eo35
          go_wp2
          go_loopg [6] k3 (fun kq v6 w' => ∃ (x6_4 : Int), v6 = .int .i64 x6_4 ∧ Aside0 (spec_WheelOk.l2 kq tF x5_3 x6_4 = some r) ∧ Aside0 (kq ≤ k3) ∧ Aside0 (Kd.R k46 46 w' w.heap.size (fun _ => True) (.slice Ao35 tF.length co35) tF) ∧ Aside0 (w'.heap[gbA]? = some (.cells #[.int .i64 a0_0, (.slice A0_1 l0_1.length c0_1), (.slice A0_2 l0_2.length c0_2), (.slice A0_3 l0_3.length c0_3)] 25 (0, 0))) ∧ Aside0 (Below w.heap.size w w'))
          case atStart => exact ⟨(0), zV, H', ⟨Nat.le_refl _⟩, ⟨zR HO_4.o⟩, ⟨zB BKA.o⟩, ⟨zL1 HB.o GEA.o⟩⟩
          case round =>
           clear H'
           try clear c1
           try clear p1
           try clear q1
           try clear hx1
           try clear c2
           try clear p2
           try clear c3
           try clear c6
           try clear p6
           try clear c14
           try clear p14
           try clear q14
           try clear hx14
           try clear c15
           try clear c15b0
           try clear c16
           try clear c17
           try clear c19
           try clear c20
           try clear c22
           try clear c24
           try clear c34
           try clear c34b0
           try clear hcz32; try clear hfz32
           try clear hxB_0
           try clear hxC_0
           try clear p1
           try clear p14
           try clear pB
           try clear pC
           try clear p2
           try clear p6
           try clear q1
           try clear q14
           try clear qB
           try clear qC
           try clear BKA
           obtain ⟨x6_4, rfl, HA, HK4, HO_4, BKA, HB⟩ := hrel
           cases gk with
           | zero => exact absurd HA.o (by simp [spec_WheelOk.l2])
           | succ k4 =>
            have H := HA.o
            clear HA
            simp only [spec_WheelOk.l2] at H
            by_cases c36 : x6_4 < x5_3
            ·rw [if_pos c36] at H
             have c36b0 := dT c36
             clear c36
             by_cases c37 : 0 ≤ x6_4
             ·rw [if_pos c37] at H
              have c37b0 := dT c37
              clear c37
              by_cases c38 : x6_4 < (tF.length : Int)
              ·rw [if_pos c38] at H
               have c38b0 := dT c38
               clear c38
               by_cases c39 : 0 ≤ x5_3
               ·rw [if_pos c39] at H
                have c39b0 := dT c39
                clear c39
                by_cases c40 : x5_3 < (tF.length : Int)
                ·rw [if_pos c40] at H
                 have c40b0 := dT c40
                 clear c40
                 by_cases c41 : ((rd_T46 tF x6_4).f0) = ((rd_T46 tF x5_3).f0)
                 ·rw [if_pos c41] at H
                  obtain ⟨c41b0, c41b1⟩ := zt c41
                  clear c41
                  obtain rfl := Option.some.inj H
                  try go_wp2
                  replace HO_4 := zRD HO_4; replace BKA := zBD BKA; replace HB := zLD HB
                  have pD : 0 ≤ (x6_4 : Int) := zD
                  have qD : x6_4 < (tF.length : Int) := zD
                  obtain ⟨adD, eD, hxD_0, hxD_1, hxD_2⟩ := at_T46 (Kd.R_reads' HO_4.o).2.2 x6_4 pD qD
                  cases eD
                  replace pD := eq_true pD
                  replace qD := eq_true qD
                  have pE : 0 ≤ (x5_3 : Int) := zD
                  have qE : x5_3 < (tF.length : Int) := zD
                  obtain ⟨adE, eE, hxE_0, hxE_1, hxE_2⟩ := at_T46 (Kd.R_reads' HO_4.o).2.2 x5_3 pE qE
                  obtain rfl : adD = adE := (by injection eE)
                  replace pE := eq_true pE
                  replace qE := eq_true qE
                  refine start_ (n := 11) (S := fun w' => w'.cell? (adD.add ((x6_4).toNat * 3)) = some (.int .i64 ((rd_T46 tF x6_4).f0)) ∧ w'.cell? ⟨(adD.add ((x6_4).toNat * 3)).block, (adD.add ((x6_4).toNat * 3)).off + 1, none⟩ = some (.int .i64 ((rd_T46 tF x6_4).f1)) ∧ w'.cell? ⟨(adD.add ((x6_4).toNat * 3)).block, (adD.add ((x6_4).toNat * 3)).off + 2, none⟩ = some (.int .i64 ((rd_T46 tF x6_4).f2)) ∧ w'.cell? (adD.add ((x5_3).toNat * 3)) = some (.int .i64 ((rd_T46 tF x5_3).f0)) ∧ w'.cell? ⟨(adD.add ((x5_3).toNat * 3)).block, (adD.add ((x5_3).toNat * 3)).off + 1, none⟩ = some (.int .i64 ((rd_T46 tF x5_3).f1)) ∧ w'.cell? ⟨(adD.add ((x5_3).toNat * 3)).block, (adD.add ((x5_3).toNat * 3)).off + 2, none⟩ = some (.int .i64 ((rd_T46 tF x5_3).f2))) (ds := []) (fB 11 0) (by kernel_rfl) rfl rfl ⟨hxD_0, hxD_1, hxD_2, hxE_0, hxE_1, hxE_2⟩ (fun hHeld => ?_); refine with_tabW spec_WheelOk.tab15 spec_WheelOk.bits15 (fun HT_ HW_ => ?_)
                  generalize wr.drew = w42 at HO_4 BKA HB hxD_0 hxD_1 hxD_2 hxE_0 hxE_1 hxE_2 hHeld ⊢
                  refine pY 0 67 (fB 11 1) HT_.o ?_
                  refine pY 1 68 (fB 11 3) HT_.o ?_
                  refine pY 2 69 (fB 11 7) HT_.o ?_
                  refine pY 3 70 (fB 11 15) HT_.o ?_
                  refine pY 5 72 (fB 11 47) HT_.o ?_
                  refine pY 6 73 (fB 11 111) HT_.o ?_
                  refine pY 7 74 (fB 11 239) HT_.o ?_
                  refine pY 8 75 (fB 11 495) HT_.o ?_
                  refine tY 4 71 (fB 11 511) HT_.o HW_.o hHeld ?_
                  refine tY 9 76 (fB 11 1023) HT_.o HW_.o hHeld ?_
                  refine pY 10 77 (fB 11 2047) HT_.o ?_
                  refine done_ (done_of HT_.o (by kernel_rfl)) ?_
                  try go_wp2
                  go_ret
                  exact ⟨zW, zL1 HB.o GEA.o⟩
                 ·rw [if_neg c41] at H
                  obtain ⟨c41b0, c41b1⟩ := zf c41
                  have H' := aM H
                  clear H
                  try go_wp2
                  replace HO_4 := zRD HO_4; replace BKA := zBD BKA; replace HB := zLD HB
                  have pD : 0 ≤ (x6_4 : Int) := zD
                  have qD : x6_4 < (tF.length : Int) := zD
                  obtain ⟨adD, eD, hxD_0, hxD_1, hxD_2⟩ := at_T46 (Kd.R_reads' HO_4.o).2.2 x6_4 pD qD
                  cases eD
                  replace pD := eq_true pD
                  replace qD := eq_true qD
                  have pE : 0 ≤ (x5_3 : Int) := zD
                  have qE : x5_3 < (tF.length : Int) := zD
                  obtain ⟨adE, eE, hxE_0, hxE_1, hxE_2⟩ := at_T46 (Kd.R_reads' HO_4.o).2.2 x5_3 pE qE
                  obtain rfl : adD = adE := (by injection eE)
                  replace pE := eq_true pE
                  replace qE := eq_true qE
                  refine start_ (n := 11) (S := fun w' => w'.cell? (adD.add ((x6_4).toNat * 3)) = some (.int .i64 ((rd_T46 tF x6_4).f0)) ∧ w'.cell? ⟨(adD.add ((x6_4).toNat * 3)).block, (adD.add ((x6_4).toNat * 3)).off + 1, none⟩ = some (.int .i64 ((rd_T46 tF x6_4).f1)) ∧ w'.cell? ⟨(adD.add ((x6_4).toNat * 3)).block, (adD.add ((x6_4).toNat * 3)).off + 2, none⟩ = some (.int .i64 ((rd_T46 tF x6_4).f2)) ∧ w'.cell? (adD.add ((x5_3).toNat * 3)) = some (.int .i64 ((rd_T46 tF x5_3).f0)) ∧ w'.cell? ⟨(adD.add ((x5_3).toNat * 3)).block, (adD.add ((x5_3).toNat * 3)).off + 1, none⟩ = some (.int .i64 ((rd_T46 tF x5_3).f1)) ∧ w'.cell? ⟨(adD.add ((x5_3).toNat * 3)).block, (adD.add ((x5_3).toNat * 3)).off + 2, none⟩ = some (.int .i64 ((rd_T46 tF x5_3).f2))) (ds := []) (fB 11 0) (by kernel_rfl) rfl rfl ⟨hxD_0, hxD_1, hxD_2, hxE_0, hxE_1, hxE_2⟩ (fun hHeld => ?_); refine with_tabW spec_WheelOk.tab15 spec_WheelOk.bits15 (fun HT_ HW_ => ?_)
                  generalize wr.drew = w43 at HO_4 BKA HB hxD_0 hxD_1 hxD_2 hxE_0 hxE_1 hxE_2 hHeld ⊢
                  refine pY 0 67 (fB 11 1) HT_.o ?_
                  refine pY 1 68 (fB 11 3) HT_.o ?_
                  refine pY 2 69 (fB 11 7) HT_.o ?_
                  refine pY 3 70 (fB 11 15) HT_.o ?_
                  refine pY 5 72 (fB 11 47) HT_.o ?_
                  refine pY 6 73 (fB 11 111) HT_.o ?_
                  refine pY 7 74 (fB 11 239) HT_.o ?_
                  refine pY 8 75 (fB 11 495) HT_.o ?_
                  refine tY 4 71 (fB 11 511) HT_.o HW_.o hHeld ?_
                  refine tY 9 76 (fB 11 1023) HT_.o HW_.o hHeld ?_
                  refine pY 10 77 (fB 11 2047) HT_.o ?_
                  refine done_ (done_of HT_.o (by kernel_rfl)) ?_
                  try go_wp2
                  go_roundg k4
                  case measure => have := HJ1.o; have := HK2.o; have := HK3.o; have := HK4.o; omega
                  case rel => exact ⟨(wrap64 (x6_4 + 1)), zV, H', ⟨by have := HJ1.o; have := HK2.o; have := HK3.o; have := HK4.o; omega⟩, ⟨zR HO_4.o⟩, ⟨zB BKA.o⟩, ⟨zL1 HB.o GEA.o⟩⟩
                ·rw [if_neg c40] at H
                 exact absurd H (by simp)
               ·rw [if_neg c39] at H
                exact absurd H (by simp)
              ·rw [if_neg c38] at H
               exact absurd H (by simp)
             ·rw [if_neg c37] at H
              exact absurd H (by simp)
            ·rw [if_neg c36] at H
             have c36b0 := dF c36
             clear c36
             have H' := aM H
             clear H
             go_wp2
             go_roundg k4
             case measure => have := HJ1.o; have := HK2.o; have := HK3.o; have := HK4.o; omega
             case rel => exact ⟨(wrap64 (x5_3 + 1)), zV, H', ⟨by have := HJ1.o; have := HK2.o; have := HK3.o; have := HK4.o; omega⟩, ⟨zR HO_4.o⟩, ⟨zB BKA.o⟩, ⟨zL1 HB.o GEA.o⟩⟩
         ·rw [if_neg c34] at H
          have c34b0 := dF c34
          clear c34
          obtain rfl := Option.some.inj H
          obtain ⟨Ao44, co44, eo44⟩ := Kd.R_slice HO_4.o
          subst eo44
          go_wp2
          go_ret
          exact ⟨zW, zL1 HB.o GEA.o⟩

open Go.Proofs.YtggenhomnbnodaaW.PrintWords renaming blk_drewN → bN, blk_drew → bD, blk_alloc → bA, blk_cell → bC, blk_below → bB, below_set → bS
def impl_within.f (a0 : Int) (a1 : Int) (a2 : Int) : Option (Bool) := if a0 ≥ a1 then (some (decide (a0 ≤ a2))) else (some false)
set_option maxHeartbeats 8000000 in
set_option maxRecDepth 100000 in
theorem impl_within.calls (a0 : Int) (a1 : Int) (a2 : Int) (r : Bool) (w : World) (h : impl_within.f a0 a1 a2 = some r) :
  Calls Try.prog 69 #[.int .i64 a0, .int .i64 a1, .int .i64 a2] w fun e w' => e = .returned (.bool r) ∧ Drawn0 w w' := by
 unfold impl_within.f at h; have H := h
 clear h
 by_cases c4 : a0 ≥ a1
 ·rw [if_pos c4] at H
  have c4b0 := dT c4
  clear c4
  obtain rfl := Option.some.inj H
  go_enter Try.func69, Try.ntmps69
  go_wp2
  go_ret
  exact ⟨zV, zU⟩
 ·rw [if_neg c4] at H
  have c4b0 := dF c4
  clear c4
  obtain rfl := Option.some.inj H
  go_enter Try.func69, Try.ntmps69
  go_wp2
  go_ret
  exact ⟨zV, zU⟩

end Go.Proofs.Ytggenhomnbnodaa.QFnWheels
