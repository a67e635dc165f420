/- What functions that the law reaches answer, with their walks. Conditions: those that each theorem names. -/
import Derived.Test.YtggenhomnbnodaaQFnWheelsx0
import Derived.Test.YtggenhomnbnodaaQFnWheelsx2
import Derived.Test.YtggenhomnbnodaaQFnWheelsx4
import Derived.Test.YtggenhomnbnodaaQFnWheelsx5
namespace Go.Proofs.Ytggenhomnbnodaa.QFnWheels
open Go.RowKit Go.Proofs.YtggenhomnbnodaaW.PrintWords Go.Proofs.YtggenhomnbnodaaW.PrintLast Go.Proofs.YtggenhomnbnodaaW.PrintMore
attribute [local go_sem] max2_int min2_int max_two min_two max_three min_three max_four min_four
set_option linter.unusedVariables false
set_option linter.unusedSimpArgs false

open Go.Proofs.YtggenhomnbnodaaW.PrintWords renaming blk_drewN → bN, blk_drew → bD, blk_alloc → bA, blk_cell → bC, blk_below → bB, below_set → bS
mutual
def impl_WheelOk.j0 : Nat → Bool → Int → List (List (S46)) → List (List (S46)) → List (S46) → Option (Bool)
 | 0, _, _, _, _, _ => none
 | k + 1, x29, xM, xK, xL, xN => if x29 = true then (some false) else (impl_WheelOk.l0 k 0 xM xK xL xN)
def impl_WheelOk.l0 : Nat → Int → Int → List (List (S46)) → List (List (S46)) → List (S46) → Option (Bool)
 | 0, _, _, _, _, _ => none
 | k + 1, x3, xM, xK, xL, xN => if x3 < 8 then (if 0 ≤ x3 then (if x3 < (xK.length : Int) then ((impl_belongs.f k xM xK xL xN (rd_L2 xK x3) 0 x3).bind fun tS => (if tS = true then (if x3 < (xL.length : Int) then ((impl_belongs.f k xM xK xL xN (rd_L2 xL x3) 1 x3).bind fun tT => (if tT = true then (impl_WheelOk.l0 k (wrap64 (x3 + 1)) xM xK xL xN) else (some false))) else (none)) else (some false))) else (none)) else (none)) else ((impl_Timers.f k xM xK xL xN).bind fun tE => (impl_WheelOk.l1 k tE tE (tE.length : Int) 0))
def impl_WheelOk.l1 : Nat → List (S46) → List (S46) → Int → Int → Option (Bool)
 | 0, _, _, _, _ => none
 | k + 1, x4, x56, x57, x58 => if x58 < x57 then (if 0 ≤ x58 then (if x58 < (x56.length : Int) then ((impl_timerAt.f k x4 ((rd_T46 x56 x58).f0)).bind fun tP => (if tP = x58 then (impl_WheelOk.l1 k x4 x56 x57 (wrap64 (x58 + 1))) else (some false))) else (none)) else (none)) else (some (decide ((x4.length : Int) ≤ 16)))
end
def impl_WheelOk.f (k : Nat) (a0_0 : Int) (l0_1 : List (List (S46))) (l0_2 : List (List (S46))) (l0_3 : List (S46)) : Option (Bool) := (impl_within.f a0_0 0 2147483647).bind fun tU => (if tU = true then (if (l0_1.length : Int) = 8 then (if (l0_2.length : Int) = 8 then ((impl_belongs.f k a0_0 l0_1 l0_2 l0_3 l0_3 2 0).bind fun tQ => (impl_WheelOk.j0 k (!tQ) a0_0 l0_1 l0_2 l0_3)) else (impl_WheelOk.j0 k true a0_0 l0_1 l0_2 l0_3)) else (impl_WheelOk.j0 k true a0_0 l0_1 l0_2 l0_3)) else (impl_WheelOk.j0 k true a0_0 l0_1 l0_2 l0_3))
def impl_WheelOk.T6 : Bool × List (List Nat × List Nat) := (true, [([], []), ([], []), ([1], [1]), ([], []), ([2, 3], [2, 3]), ([4], [4]), ([], []), ([0, 5, 6], [0, 5, 6]), ([7], [7]), ([8, 7], [8]), ([9], [9]), ([9], [9]), ([11, 9], [9, 11]), ([9], [9]), ([12, 13, 9], [9, 12, 13]), ([14, 9], [9, 14]), ([9], [9]), ([10, 15, 16, 9, 9], [9, 10, 15, 16]), ([17, 9], [9, 17]), ([9, 18], [9, 18])])
def impl_WheelOk.B6 : List Nat := [0, 0, 2, 0, 14, 30, 0, 127, 255, 511, 1023, 1023, 3071, 1023, 15359, 31743, 1023, 131071, 262143, 524287]
theorem impl_WheelOk.tab6 : rtab .any (opsOf Try.f30 6) = impl_WheelOk.T6 := by kernel_rfl
theorem impl_WheelOk.bits6 : waitsOk impl_WheelOk.T6.2 impl_WheelOk.B6 = true := by kernel_rfl
set_option maxHeartbeats 8000000 in
set_option maxRecDepth 100000 in
theorem impl_WheelOk.calls (k : Nat) (a0_0 : Int) (A0_1 : Option Addr) (c0_1 : Nat) (l0_1 : List (List (S46))) (A0_2 : Option Addr) (c0_2 : Nat) (l0_2 : List (List (S46))) (A0_3 : Option Addr) (c0_3 : Nat) (l0_3 : List (S46)) (r : Bool) (w : World) (hr0_1 : Kd.C (Kd.slice 46 k46) w A0_1 l0_1.length l0_1) (hc0_1 : l0_1.length ≤ c0_1) (hr0_2 : Kd.C (Kd.slice 46 k46) w A0_2 l0_2.length l0_2) (hc0_2 : l0_2.length ≤ c0_2) (hr0_3 : Kd.C k46 w A0_3 l0_3.length l0_3) (hc0_3 : l0_3.length ≤ c0_3) (h : impl_WheelOk.f k a0_0 l0_1 l0_2 l0_3 = some r) :
  Calls Try.prog 30 #[.agg #[.int .i64 a0_0, .slice A0_1 l0_1.length c0_1, .slice A0_2 l0_2.length c0_2, .slice A0_3 l0_3.length c0_3]] w fun e w' => e = .returned (.bool r) ∧ Below w.heap.size w w' := by
 have hu25 := Try.underlying25
 have hu46 := Try.underlying46
 have HR0_1 := aM hr0_1
 have HC0_1 := aM hc0_1
 clear hr0_1 hc0_1
 have HR0_2 := aM hr0_2
 have HC0_2 := aM hc0_2
 clear hr0_2 hc0_2
 have HR0_3 := aM hr0_3
 have HC0_3 := aM hc0_3
 clear hr0_3 hc0_3
 have HB := aM (Below.refl w.heap.size w)
 unfold impl_WheelOk.f at h; have H := h
 clear h
 have HC2 := aM H
 clear H
 go_enter Try.func30, Try.ntmps30
 go_upto_region 1 with (first | ((with_reducible refine gD 1 rfl ?_); (try (refine gate_guard (by rfl) ?_; dsimp only)); refine box_event ?hg (N := 1) ?hd (cs := #[.int .i64 a0_0, .slice A0_1 l0_1.length c0_1, .slice A0_2 l0_2.length c0_2, .slice A0_3 l0_3.length c0_3]) (t := 25) ?hr ?_; (case hd => rfl); (case hg => rfl); (case hr => first | (go_simp; done) | (go_simp; rfl)); intro gbA hg w3 hbox hb; have BKA := aM hbox; have GWA := aM (zg (zL HB.o) hg : w.heap.size ≤ gbA); have GEA := GWA; replace HB := zLB (zL HB.o) hb; clear hb hbox hg))
 (try simp only [Act.put, List.setIfInBounds_toArray, List.set_cons_zero, List.set_cons_succ])
 go_cut [29] (fun v29 wc => ∃ (kq : Nat) (x29_1 : Bool), v29 = .bool x29_1 ∧ Aside0 (impl_WheelOk.j0 kq x29_1 a0_0 l0_1 l0_2 l0_3 = some r) ∧ Aside0 (kq ≤ k) ∧ Aside0 (wc.heap[gbA]? = some (.cells #[.int .i64 a0_0, (.slice A0_1 l0_1.length c0_1), (.slice A0_2 l0_2.length c0_2), (.slice A0_3 l0_3.length c0_3)] 25 (0, 0))) ∧ Aside0 (Below w.heap.size w wc))
 case first =>
  have H := HC2.o
  clear HC2
  obtain ⟨tU, A4, H⟩ := zO H; try dsimp only at H
  by_cases c5 : tU = true
  ·subst c5
   rw [if_pos rfl] at H
   by_cases c6 : (l0_1.length : Int) = 8
   ·rw [if_pos c6] at H
    obtain ⟨c6b0, c6b1⟩ := zt c6
    clear c6
    (first | rw [c6b0] | (simp only [i64_w, i32_w]; rw [c6b0]) | skip)
    by_cases c7 : (l0_2.length : Int) = 8
    ·rw [if_pos c7] at H
     obtain ⟨c7b0, c7b1⟩ := zt c7
     clear c7
     obtain ⟨tQ, A8, H⟩ := zO H; try dsimp only at H
     have H' := aM H
     clear H
     have hcz9 := zc4 BKA.o
     have hfz9 := zf4 BKA.o
     go_wp2_with (first | ((with_reducible refine gC 69 rfl ?_); refine gL 9 Try.func69 #[.int .i64 a0_0, .int .i64 0, .int .i64 2147483647] ?_; (with_reducible refine (impl_within.calls a0_0 0 2147483647 true _ A4.o).mono ?_); rintro e w' ⟨rfl, ⟨nd, rfl⟩⟩; refine ⟨_, rfl, ?_⟩) | (go_at_call 70; (with_reducible refine (impl_belongs.calls k a0_0 _ _ l0_1 _ _ l0_2 _ _ l0_3 _ _ l0_3 2 0 tQ _ ?side1 ?side2 ?side3 ?side4 ?side5 ?side6 ?side7 ?side8 A8.o).mono ?_); (case side1 => repeat (first | exact (Kd.C_below HR0_1.o (zL1 HB.o GEA.o)) | (with_reducible refine Kd.C_alloc ?_ _) | (with_reducible refine Kd.C_drewN ?_ _) | (with_reducible refine Kd.C_drew ?_))); (case side2 => exact HC0_1.o); (case side3 => repeat (first | exact (Kd.C_below HR0_2.o (zL1 HB.o GEA.o)) | (with_reducible refine Kd.C_alloc ?_ _) | (with_reducible refine Kd.C_drewN ?_ _) | (with_reducible refine Kd.C_drew ?_))); (case side4 => exact HC0_2.o); (case side5 => repeat (first | exact (Kd.C_below HR0_3.o (zL1 HB.o GEA.o)) | (with_reducible refine Kd.C_alloc ?_ _) | (with_reducible refine Kd.C_drewN ?_ _) | (with_reducible refine Kd.C_drew ?_))); (case side6 => exact HC0_3.o); (case side7 => repeat (first | exact (Kd.C_below HR0_3.o (zL1 HB.o GEA.o)) | (with_reducible refine Kd.C_alloc ?_ _) | (with_reducible refine Kd.C_drewN ?_ _) | (with_reducible refine Kd.C_drew ?_))); (case side8 => exact HC0_3.o); rintro e w10 ⟨rfl, hb⟩; replace BKA := zBB BKA hb; replace HB := zLB (zL1 HB.o GEA.o) hb; clear hb))
     go_meet
     case rel => exact ⟨_, (!tQ), zV, H', ⟨by first | omega | exact Nat.le_refl _⟩, ⟨zB BKA.o⟩, ⟨zL1 HB.o GEA.o⟩⟩
    ·rw [if_neg c7] at H
     obtain ⟨c7b0, c7b1⟩ := zf c7
     have H' := aM H
     clear H
     have hcz11 := zc4 BKA.o
     have hfz11 := zf4 BKA.o
     go_wp2_with (first | ((with_reducible refine gC 69 rfl ?_); refine gL 9 Try.func69 #[.int .i64 a0_0, .int .i64 0, .int .i64 2147483647] ?_; (with_reducible refine (impl_within.calls a0_0 0 2147483647 true _ A4.o).mono ?_); rintro e w' ⟨rfl, ⟨nd, rfl⟩⟩; refine ⟨_, rfl, ?_⟩))
     go_meet
     case rel => exact ⟨_, (true), zV, H', ⟨by first | omega | exact Nat.le_refl _⟩, ⟨zB BKA.o⟩, ⟨zL1 HB.o GEA.o⟩⟩
   ·rw [if_neg c6] at H
    obtain ⟨c6b0, c6b1⟩ := zf c6
    (first | rw [c6b0] | (simp only [i64_w, i32_w]; rw [c6b0]) | skip)
    have H' := aM H
    clear H
    have hcz12 := zc4 BKA.o
    have hfz12 := zf4 BKA.o
    go_wp2_with (first | ((with_reducible refine gC 69 rfl ?_); refine gL 9 Try.func69 #[.int .i64 a0_0, .int .i64 0, .int .i64 2147483647] ?_; (with_reducible refine (impl_within.calls a0_0 0 2147483647 true _ A4.o).mono ?_); rintro e w' ⟨rfl, ⟨nd, rfl⟩⟩; refine ⟨_, rfl, ?_⟩))
    go_meet
    case rel => exact ⟨_, (true), zV, H', ⟨by first | omega | exact Nat.le_refl _⟩, ⟨zB BKA.o⟩, ⟨zL1 HB.o GEA.o⟩⟩
  ·obtain rfl := Bool.eq_false_iff.mpr c5
   rw [if_neg zn] at H
   have H' := aM H
   clear H
   have hcz13 := zc4 BKA.o
   have hfz13 := zf4 BKA.o
   go_wp2_with (first | ((with_reducible refine gC 69 rfl ?_); refine gL 9 Try.func69 #[.int .i64 a0_0, .int .i64 0, .int .i64 2147483647] ?_; (with_reducible refine (impl_within.calls a0_0 0 2147483647 false _ A4.o).mono ?_); rintro e w' ⟨rfl, ⟨nd, rfl⟩⟩; refine ⟨_, rfl, ?_⟩))
   go_meet
   case rel => exact ⟨_, (true), zV, H', ⟨by first | omega | exact Nat.le_refl _⟩, ⟨zB BKA.o⟩, ⟨zL1 HB.o GEA.o⟩⟩
 case rest =>
  clear HC2
  try clear p2
  try clear c3
  try clear c5
  try clear c6
  try clear c6b0
  try clear c6b1
  try clear c7
  try clear c7b0
  try clear c7b1
  try clear hcz11; try clear hcz12; try clear hcz13; try clear hcz9; try clear hfz11; try clear hfz12; try clear hfz13; try clear hfz9
  obtain ⟨kq, x29_1, rfl, HA, HJ1, BKA, HB⟩ := hcut
  cases kq with
  | zero => exact absurd HA.o (by simp [impl_WheelOk.j0])
  | succ kj1 =>
   have H := HA.o
   clear HA
   simp only [impl_WheelOk.j0] at H
   by_cases c14 : x29_1 = true
   ·subst c14
    rw [if_pos rfl] at H
    obtain rfl := Option.some.inj H
    go_wp2
    go_ret
    exact ⟨zW, zL1 HB.o GEA.o⟩
   ·obtain rfl := Bool.eq_false_iff.mpr c14
    rw [if_neg zn] at H
    have H' := aM H
    clear H
    go_wp2
    go_loopg [3] kj1 (fun kq v3 w' => ∃ (x3_2 : Int), v3 = .int .i64 x3_2 ∧ Aside0 (impl_WheelOk.l0 kq x3_2 a0_0 l0_1 l0_2 l0_3 = some r) ∧ Aside0 (kq ≤ kj1) ∧ Aside0 (w'.heap[gbA]? = some (.cells #[.int .i64 a0_0, (.slice A0_1 l0_1.length c0_1), (.slice A0_2 l0_2.length c0_2), (.slice A0_3 l0_3.length c0_3)] 25 (0, 0))) ∧ Aside0 (Below w.heap.size w w'))
    case atStart => exact ⟨(0), zV, H', ⟨Nat.le_refl _⟩, ⟨zB BKA.o⟩, ⟨zL1 HB.o GEA.o⟩⟩
    case round =>
     clear H'
     try clear c1
     try clear p2
     try clear c3
     try clear c5
     try clear c6
     try clear c6b0
     try clear c6b1
     try clear c7
     try clear c7b0
     try clear c7b1
     try clear c14
     try clear hcz11; try clear hcz12; try clear hcz13; try clear hcz9; try clear hfz11; try clear hfz12; try clear hfz13; try clear hfz9
     try clear p2
     try clear BKA
     obtain ⟨x3_2, rfl, HA, HK2, BKA, HB⟩ := hrel
     cases gk with
     | zero => exact absurd HA.o (by simp [impl_WheelOk.l0])
     | succ k2 =>
      have H := HA.o
      clear HA
      simp only [impl_WheelOk.l0] at H
      by_cases c15 : x3_2 < 8
      ·rw [if_pos c15] at H
       have c15b0 := dT c15
       clear c15
       by_cases c16 : 0 ≤ x3_2
       ·rw [if_pos c16] at H
        have c16b0 := dT c16
        clear c16
        by_cases c17 : x3_2 < (l0_1.length : Int)
        ·rw [if_pos c17] at H
         have c17b0 := dT c17
         clear c17
         obtain ⟨tS, A18, H⟩ := zO H; try dsimp only at H
         by_cases c19 : tS = true
         ·subst c19
          rw [if_pos rfl] at H
          by_cases c20 : x3_2 < (l0_2.length : Int)
          ·rw [if_pos c20] at H
           have c20b0 := dT c20
           clear c20
           obtain ⟨tT, A21, H⟩ := zO H; try dsimp only at H
           by_cases c22 : tT = true
           ·subst c22
            rw [if_pos rfl] at H
            have H' := aM H
            clear H
            try go_wp2
            replace BKA := zBD BKA; replace HB := zLD HB
            have pB : 0 ≤ (x3_2 : Int) := zD
            have qB : x3_2 < (l0_1.length : Int) := zD
            obtain ⟨adB, AB_0, cB_0, eB, hxB_0, hlB_0, hiB_0⟩ := at_L2 HR0_1.o x3_2 pB qB
            have hwB_0 := hxB_0
            cases eB
            replace hxB_0 := zh HB.o hxB_0
            have HRB_0 := aM hiB_0
            have HCB_0 := aM hlB_0
            clear hiB_0 hlB_0
            replace pB := eq_true pB
            replace qB := eq_true qB
            have pD : 0 ≤ (x3_2 : Int) := zD
            have qD : x3_2 < (l0_2.length : Int) := zD
            obtain ⟨adD, AD_0, cD_0, eD, hxD_0, hlD_0, hiD_0⟩ := at_L2 HR0_2.o x3_2 pD qD
            have hwD_0 := hxD_0
            cases eD
            replace hxD_0 := zh HB.o hxD_0
            have HRD_0 := aM hiD_0
            have HCD_0 := aM hlD_0
            clear hiD_0 hlD_0
            replace pD := eq_true pD
            replace qD := eq_true qD
            refine start_ (n := 20) (S := fun w' => w'.cell? ⟨gbA, 0, none⟩ = some (.int .i64 a0_0) ∧ w'.cell? ⟨gbA, 1, none⟩ = some (.slice (some adB) l0_1.length c0_1) ∧ w'.cell? ⟨gbA, 2, none⟩ = some (.slice (some adD) l0_2.length c0_2) ∧ w'.cell? ⟨gbA, 3, none⟩ = some (.slice A0_3 l0_3.length c0_3) ∧ w'.cell? (adB.add (x3_2).toNat) = some (.slice AB_0 (rd_L2 l0_1 x3_2).length cB_0) ∧ w'.cell? (adD.add (x3_2).toNat) = some (.slice AD_0 (rd_L2 l0_2 x3_2).length cD_0)) (ds := []) (fB 20 0) (by kernel_rfl) rfl rfl ⟨(bC BKA.o 0).trans rfl, (bC BKA.o 1).trans rfl, (bC BKA.o 2).trans rfl, (bC BKA.o 3).trans rfl, (zh HB.o hwB_0), (zh HB.o hwD_0)⟩ (fun hHeld => ?_); refine with_tabW impl_WheelOk.tab6 impl_WheelOk.bits6 (fun HT_ HW_ => ?_)
            generalize wr.drew = w23 at BKA HB HRB_0 HRD_0 hxB_0 hxD_0 hHeld ⊢
            refine pY 1 35 (fB 20 2) HT_.o ?_
            refine pY 3 37 (fB 20 10) HT_.o ?_
            refine pY 6 40 (fB 20 74) HT_.o ?_
            refine tY 0 34 (fB 20 75) HT_.o HW_.o hHeld ?_
            refine tY 2 36 (fB 20 79) HT_.o HW_.o hHeld ?_
            refine pY 4 38 (fB 20 95) HT_.o ?_
            refine tY 5 39 (fB 20 127) HT_.o HW_.o hHeld ?_
            refine oN 7 41 (fB 20 255) HT_.o fun K hK => ?_
            refine gS Try.func70 #[.agg #[.int .i64 a0_0, .slice (some adB) l0_1.length c0_1, .slice (some adD) l0_2.length c0_2, .slice A0_3 l0_3.length c0_3], .slice AB_0 (rd_L2 l0_1 x3_2).length cB_0, .int .i64 0, .int .i64 x3_2] ?_
            with_reducible refine (impl_belongs.calls k2 a0_0 _ _ l0_1 _ _ l0_2 _ _ l0_3 _ _ (rd_L2 l0_1 x3_2) 0 x3_2 true _ ?side1 ?side2 ?side3 ?side4 ?side5 ?side6 ?side7 ?side8 A18.o).mono ?_
            (case side1 => exact zC (Kd.C_below HR0_1.o HB.o))
            (case side2 => exact HC0_1.o)
            (case side3 => exact zC (Kd.C_below HR0_2.o HB.o))
            (case side4 => exact HC0_2.o)
            (case side5 => exact zC (Kd.C_below HR0_3.o HB.o))
            (case side6 => exact HC0_3.o)
            (case side7 => exact zC (Kd.C_below HRB_0.o HB.o))
            (case side8 => exact HCB_0.o)
            rintro e w24 ⟨rfl, hb⟩
            refine ⟨_, rfl, ?_⟩
            replace BKA := zBB BKA hb; replace HB := zLB (zL1 HB.o GEA.o) hb
            clear hb
            refine hK.out _ _ ⟨(bC BKA.o 0).trans rfl, (bC BKA.o 1).trans rfl, (bC BKA.o 2).trans rfl, (bC BKA.o 3).trans rfl, (zh HB.o hwB_0), (zh HB.o hwD_0)⟩ fun hHeld => ?_; clear hK K
            refine nZ 41 ?_
            refine pY 8 42 (fB 20 511) HT_.o ?_
            refine pY 9 43 (fB 20 1023) HT_.o ?_
            refine pY 11 45 (fB 20 3071) HT_.o ?_
            refine pY 13 47 (fB 20 11263) HT_.o ?_
            refine pY 16 50 (fB 20 76799) HT_.o ?_
            refine tY 10 44 (fB 20 77823) HT_.o HW_.o hHeld ?_
            refine tY 12 46 (fB 20 81919) HT_.o HW_.o hHeld ?_
            refine pY 14 48 (fB 20 98303) HT_.o ?_
            refine tY 15 49 (fB 20 131071) HT_.o HW_.o hHeld ?_
            refine oN 17 51 (fB 20 262143) HT_.o fun K hK => ?_
            refine gS Try.func70 #[.agg #[.int .i64 a0_0, .slice (some adB) l0_1.length c0_1, .slice (some adD) l0_2.length c0_2, .slice A0_3 l0_3.length c0_3], .slice AD_0 (rd_L2 l0_2 x3_2).length cD_0, .int .i64 1, .int .i64 x3_2] ?_
            with_reducible refine (impl_belongs.calls k2 a0_0 _ _ l0_1 _ _ l0_2 _ _ l0_3 _ _ (rd_L2 l0_2 x3_2) 1 x3_2 true _ ?side1 ?side2 ?side3 ?side4 ?side5 ?side6 ?side7 ?side8 A21.o).mono ?_
            (case side1 => exact zC (Kd.C_below HR0_1.o HB.o))
            (case side2 => exact HC0_1.o)
            (case side3 => exact zC (Kd.C_below HR0_2.o HB.o))
            (case side4 => exact HC0_2.o)
            (case side5 => exact zC (Kd.C_below HR0_3.o HB.o))
            (case side6 => exact HC0_3.o)
            (case side7 => exact zC (Kd.C_below HRD_0.o HB.o))
            (case side8 => exact HCD_0.o)
            rintro e w25 ⟨rfl, hb⟩
            refine ⟨_, rfl, ?_⟩
            replace BKA := zBB BKA hb; replace HB := zLB (zL1 HB.o GEA.o) hb
            clear hb
            refine hK.out _ _ ⟨(bC BKA.o 0).trans rfl, (bC BKA.o 1).trans rfl, (bC BKA.o 2).trans rfl, (bC BKA.o 3).trans rfl, (zh HB.o hwB_0), (zh HB.o hwD_0)⟩ fun hHeld => ?_; clear hK K
            refine nZ 51 ?_
            refine pY 18 52 (fB 20 524287) HT_.o ?_
            refine pY 19 53 (fB 20 1048575) HT_.o ?_
            refine done_ (done_of HT_.o (by kernel_rfl)) ?_
            try go_wp2
            go_roundg k2
            case measure => have := HJ1.o; have := HK2.o; omega
            case rel => exact ⟨(wrap64 (x3_2 + 1)), zV, H', ⟨by have := HJ1.o; have := HK2.o; omega⟩, ⟨zB BKA.o⟩, ⟨zL1 HB.o GEA.o⟩⟩
           ·obtain rfl := Bool.eq_false_iff.mpr c22
            rw [if_neg zn] at H
            obtain rfl := Option.some.inj H
            try go_wp2
            replace BKA := zBD BKA; replace HB := zLD HB
            have pB : 0 ≤ (x3_2 : Int) := zD
            have qB : x3_2 < (l0_1.length : Int) := zD
            obtain ⟨adB, AB_0, cB_0, eB, hxB_0, hlB_0, hiB_0⟩ := at_L2 HR0_1.o x3_2 pB qB
            have hwB_0 := hxB_0
            cases eB
            replace hxB_0 := zh HB.o hxB_0
            have HRB_0 := aM hiB_0
            have HCB_0 := aM hlB_0
            clear hiB_0 hlB_0
            replace pB := eq_true pB
            replace qB := eq_true qB
            have pD : 0 ≤ (x3_2 : Int) := zD
            have qD : x3_2 < (l0_2.length : Int) := zD
            obtain ⟨adD, AD_0, cD_0, eD, hxD_0, hlD_0, hiD_0⟩ := at_L2 HR0_2.o x3_2 pD qD
            have hwD_0 := hxD_0
            cases eD
            replace hxD_0 := zh HB.o hxD_0
            have HRD_0 := aM hiD_0
            have HCD_0 := aM hlD_0
            clear hiD_0 hlD_0
            replace pD := eq_true pD
            replace qD := eq_true qD
            refine start_ (n := 20) (S := fun w' => w'.cell? ⟨gbA, 0, none⟩ = some (.int .i64 a0_0) ∧ w'.cell? ⟨gbA, 1, none⟩ = some (.slice (some adB) l0_1.length c0_1) ∧ w'.cell? ⟨gbA, 2, none⟩ = some (.slice (some adD) l0_2.length c0_2) ∧ w'.cell? ⟨gbA, 3, none⟩ = some (.slice A0_3 l0_3.length c0_3) ∧ w'.cell? (adB.add (x3_2).toNat) = some (.slice AB_0 (rd_L2 l0_1 x3_2).length cB_0) ∧ w'.cell? (adD.add (x3_2).toNat) = some (.slice AD_0 (rd_L2 l0_2 x3_2).length cD_0)) (ds := []) (fB 20 0) (by kernel_rfl) rfl rfl ⟨(bC BKA.o 0).trans rfl, (bC BKA.o 1).trans rfl, (bC BKA.o 2).trans rfl, (bC BKA.o 3).trans rfl, (zh HB.o hwB_0), (zh HB.o hwD_0)⟩ (fun hHeld => ?_); refine with_tabW impl_WheelOk.tab6 impl_WheelOk.bits6 (fun HT_ HW_ => ?_)
            generalize wr.drew = w26 at BKA HB HRB_0 HRD_0 hxB_0 hxD_0 hHeld ⊢
            refine pY 1 35 (fB 20 2) HT_.o ?_
            refine pY 3 37 (fB 20 10) HT_.o ?_
            refine pY 6 40 (fB 20 74) HT_.o ?_
            refine tY 0 34 (fB 20 75) HT_.o HW_.o hHeld ?_
            refine tY 2 36 (fB 20 79) HT_.o HW_.o hHeld ?_
            refine pY 4 38 (fB 20 95) HT_.o ?_
            refine tY 5 39 (fB 20 127) HT_.o HW_.o hHeld ?_
            refine oN 7 41 (fB 20 255) HT_.o fun K hK => ?_
            refine gS Try.func70 #[.agg #[.int .i64 a0_0, .slice (some adB) l0_1.length c0_1, .slice (some adD) l0_2.length c0_2, .slice A0_3 l0_3.length c0_3], .slice AB_0 (rd_L2 l0_1 x3_2).length cB_0, .int .i64 0, .int .i64 x3_2] ?_
            with_reducible refine (impl_belongs.calls k2 a0_0 _ _ l0_1 _ _ l0_2 _ _ l0_3 _ _ (rd_L2 l0_1 x3_2) 0 x3_2 true _ ?side1 ?side2 ?side3 ?side4 ?side5 ?side6 ?side7 ?side8 A18.o).mono ?_
            (case side1 => exact zC (Kd.C_below HR0_1.o HB.o))
            (case side2 => exact HC0_1.o)
            (case side3 => exact zC (Kd.C_below HR0_2.o HB.o))
            (case side4 => exact HC0_2.o)
            (case side5 => exact zC (Kd.C_below HR0_3.o HB.o))
            (case side6 => exact HC0_3.o)
            (case side7 => exact zC (Kd.C_below HRB_0.o HB.o))
            (case side8 => exact HCB_0.o)
            rintro e w27 ⟨rfl, hb⟩
            refine ⟨_, rfl, ?_⟩
            replace BKA := zBB BKA hb; replace HB := zLB (zL1 HB.o GEA.o) hb
            clear hb
            refine hK.out _ _ ⟨(bC BKA.o 0).trans rfl, (bC BKA.o 1).trans rfl, (bC BKA.o 2).trans rfl, (bC BKA.o 3).trans rfl, (zh HB.o hwB_0), (zh HB.o hwD_0)⟩ fun hHeld => ?_; clear hK K
            refine nZ 41 ?_
            refine pY 8 42 (fB 20 511) HT_.o ?_
            refine pY 9 43 (fB 20 1023) HT_.o ?_
            refine pY 11 45 (fB 20 3071) HT_.o ?_
            refine pY 13 47 (fB 20 11263) HT_.o ?_
            refine pY 16 50 (fB 20 76799) HT_.o ?_
            refine tY 10 44 (fB 20 77823) HT_.o HW_.o hHeld ?_
            refine tY 12 46 (fB 20 81919) HT_.o HW_.o hHeld ?_
            refine pY 14 48 (fB 20 98303) HT_.o ?_
            refine tY 15 49 (fB 20 131071) HT_.o HW_.o hHeld ?_
            refine oN 17 51 (fB 20 262143) HT_.o fun K hK => ?_
            refine gS Try.func70 #[.agg #[.int .i64 a0_0, .slice (some adB) l0_1.length c0_1, .slice (some adD) l0_2.length c0_2, .slice A0_3 l0_3.length c0_3], .slice AD_0 (rd_L2 l0_2 x3_2).length cD_0, .int .i64 1, .int .i64 x3_2] ?_
            with_reducible refine (impl_belongs.calls k2 a0_0 _ _ l0_1 _ _ l0_2 _ _ l0_3 _ _ (rd_L2 l0_2 x3_2) 1 x3_2 false _ ?side1 ?side2 ?side3 ?side4 ?side5 ?side6 ?side7 ?side8 A21.o).mono ?_
            (case side1 => exact zC (Kd.C_below HR0_1.o HB.o))
            (case side2 => exact HC0_1.o)
            (case side3 => exact zC (Kd.C_below HR0_2.o HB.o))
            (case side4 => exact HC0_2.o)
            (case side5 => exact zC (Kd.C_below HR0_3.o HB.o))
            (case side6 => exact HC0_3.o)
            (case side7 => exact zC (Kd.C_below HRD_0.o HB.o))
            (case side8 => exact HCD_0.o)
            rintro e w28 ⟨rfl, hb⟩
            refine ⟨_, rfl, ?_⟩
            replace BKA := zBB BKA hb; replace HB := zLB (zL1 HB.o GEA.o) hb
            clear hb
            refine hK.out _ _ ⟨(bC BKA.o 0).trans rfl, (bC BKA.o 1).trans rfl, (bC BKA.o 2).trans rfl, (bC BKA.o 3).trans rfl, (zh HB.o hwB_0), (zh HB.o hwD_0)⟩ fun hHeld => ?_; clear hK K
            refine nZ 51 ?_
            refine pY 18 52 (fB 20 524287) HT_.o ?_
            refine pY 19 53 (fB 20 1048575) HT_.o ?_
            refine done_ (done_of HT_.o (by kernel_rfl)) ?_
            try go_wp2
            go_ret
            exact ⟨zW, zL1 HB.o GEA.o⟩
          ·rw [if_neg c20] at H
           exact absurd H (by simp)
         ·obtain rfl := Bool.eq_false_iff.mpr c19
          rw [if_neg zn] at H
          obtain rfl := Option.some.inj H
          try go_wp2
          replace BKA := zBD BKA; replace HB := zLD HB
          have pB : 0 ≤ (x3_2 : Int) := zD
          have qB : x3_2 < (l0_1.length : Int) := zD
          obtain ⟨adB, AB_0, cB_0, eB, hxB_0, hlB_0, hiB_0⟩ := at_L2 HR0_1.o x3_2 pB qB
          have hwB_0 := hxB_0
          cases eB
          replace hxB_0 := zh HB.o hxB_0
          have HRB_0 := aM hiB_0
          have HCB_0 := aM hlB_0
          clear hiB_0 hlB_0
          replace pB := eq_true pB
          replace qB := eq_true qB
          refine start_ (n := 20) (S := fun w' => w'.cell? ⟨gbA, 0, none⟩ = some (.int .i64 a0_0) ∧ w'.cell? ⟨gbA, 1, none⟩ = some (.slice (some adB) l0_1.length c0_1) ∧ w'.cell? ⟨gbA, 2, none⟩ = some (.slice A0_2 l0_2.length c0_2) ∧ w'.cell? ⟨gbA, 3, none⟩ = some (.slice A0_3 l0_3.length c0_3) ∧ w'.cell? (adB.add (x3_2).toNat) = some (.slice AB_0 (rd_L2 l0_1 x3_2).length cB_0)) (ds := []) (fB 20 0) (by kernel_rfl) rfl rfl ⟨(bC BKA.o 0).trans rfl, (bC BKA.o 1).trans rfl, (bC BKA.o 2).trans rfl, (bC BKA.o 3).trans rfl, (zh HB.o hwB_0)⟩ (fun hHeld => ?_); refine with_tabW impl_WheelOk.tab6 impl_WheelOk.bits6 (fun HT_ HW_ => ?_)
          generalize wr.drew = w29 at BKA HB HRB_0 hxB_0 hHeld ⊢
          refine pY 1 35 (fB 20 2) HT_.o ?_
          refine pY 3 37 (fB 20 10) HT_.o ?_
          refine pY 6 40 (fB 20 74) HT_.o ?_
          refine tY 0 34 (fB 20 75) HT_.o HW_.o hHeld ?_
          refine tY 2 36 (fB 20 79) HT_.o HW_.o hHeld ?_
          refine pY 4 38 (fB 20 95) HT_.o ?_
          refine tY 5 39 (fB 20 127) HT_.o HW_.o hHeld ?_
          refine oN 7 41 (fB 20 255) HT_.o fun K hK => ?_
          refine gS Try.func70 #[.agg #[.int .i64 a0_0, .slice (some adB) l0_1.length c0_1, .slice A0_2 l0_2.length c0_2, .slice A0_3 l0_3.length c0_3], .slice AB_0 (rd_L2 l0_1 x3_2).length cB_0, .int .i64 0, .int .i64 x3_2] ?_
          with_reducible refine (impl_belongs.calls k2 a0_0 _ _ l0_1 _ _ l0_2 _ _ l0_3 _ _ (rd_L2 l0_1 x3_2) 0 x3_2 false _ ?side1 ?side2 ?side3 ?side4 ?side5 ?side6 ?side7 ?side8 A18.o).mono ?_
          (case side1 => exact zC (Kd.C_below HR0_1.o HB.o))
          (case side2 => exact HC0_1.o)
          (case side3 => exact zC (Kd.C_below HR0_2.o HB.o))
          (case side4 => exact HC0_2.o)
          (case side5 => exact zC (Kd.C_below HR0_3.o HB.o))
          (case side6 => exact HC0_3.o)
          (case side7 => exact zC (Kd.C_below HRB_0.o HB.o))
          (case side8 => exact HCB_0.o)
          rintro e w30 ⟨rfl, hb⟩
          refine ⟨_, rfl, ?_⟩
          replace BKA := zBB BKA hb; replace HB := zLB (zL1 HB.o GEA.o) hb
          clear hb
          refine hK.out _ _ ⟨(bC BKA.o 0).trans rfl, (bC BKA.o 1).trans rfl, (bC BKA.o 2).trans rfl, (bC BKA.o 3).trans rfl, (zh HB.o hwB_0)⟩ fun hHeld => ?_; clear hK K
          refine nZ 41 ?_
          refine pY 8 42 (fB 20 511) HT_.o ?_
          refine pY 9 43 (fB 20 1023) HT_.o ?_
          refine pN 10 44 (fB 20 2047) HT_.o ?_
          refine pN 11 45 (fB 20 4095) HT_.o ?_
          refine pN 12 46 (fB 20 8191) HT_.o ?_
          refine pN 13 47 (fB 20 16383) HT_.o ?_
          refine pN 14 48 (fB 20 32767) HT_.o ?_
          refine pN 15 49 (fB 20 65535) HT_.o ?_
          refine pN 16 50 (fB 20 131071) HT_.o ?_
          refine pN 17 51 (fB 20 262143) HT_.o ?_
          refine pN 18 52 (fB 20 524287) HT_.o ?_
          refine pY 19 53 (fB 20 1048575) HT_.o ?_
          refine done_ (done_of HT_.o (by kernel_rfl)) ?_
          try go_wp2
          go_ret
          exact ⟨zW, zL1 HB.o GEA.o⟩
        ·rw [if_neg c17] at H
         exact absurd H (by simp)
       ·rw [if_neg c16] at H
        exact absurd H (by simp)
      ·rw [if_neg c15] at H
       have c15b0 := dF c15
       clear c15
       obtain ⟨tE, A31, H⟩ := zO H; try dsimp only at H
       have H' := aM H
       clear H
       have hcz32 := zc4 BKA.o
       have hfz32 := zf4 BKA.o
       go_wp2_with (first | ((with_reducible refine gC 25 rfl ?_); refine gL 55 Try.func25 #[.agg #[.int .i64 a0_0, .slice A0_1 l0_1.length c0_1, .slice A0_2 l0_2.length c0_2, .slice A0_3 l0_3.length c0_3]] ?_; (with_reducible refine (impl_Timers.calls k2 a0_0 _ _ l0_1 _ _ l0_2 _ _ l0_3 tE _ ?side1 ?side2 ?side3 ?side4 ?side5 ?side6 A31.o).mono ?_); (case side1 => exact zC (Kd.C_below HR0_1.o HB.o)); (case side2 => exact HC0_1.o); (case side3 => exact zC (Kd.C_below HR0_2.o HB.o)); (case side4 => exact HC0_2.o); (case side5 => exact zC (Kd.C_below HR0_3.o HB.o)); (case side6 => exact HC0_3.o); rintro e w33 ⟨vA0, rfl, ho0, hb⟩; refine ⟨_, rfl, ?_⟩; have HOV := aM (Kd.R_lower ho0 (below_size (zL1 HB.o GEA.o))); replace BKA := zBB BKA hb; replace HB := zLB (zL1 HB.o GEA.o) hb; clear ho0 hb; obtain ⟨Ao34, co34, eo34⟩ := Kd.R_slice HOV.o; subst eo34))
       go_loopg [58] k2 (fun kq v58 w' => ∃ (x58_3 : Int), v58 = .int .i64 x58_3 ∧ Aside0 (impl_WheelOk.l1 kq tE tE (tE.length : Int) x58_3 = some r) ∧ Aside0 (kq ≤ k2) ∧ Aside0 (Kd.R k46 46 w' w.heap.size (fun _ => True) (.slice Ao34 tE.length co34) tE) ∧ Aside0 (Kd.R k46 46 w' w.heap.size (fun _ => True) (.slice Ao34 tE.length co34) tE) ∧ Aside0 (w'.heap[gbA]? = some (.cells #[.int .i64 a0_0, (.slice A0_1 l0_1.length c0_1), (.slice A0_2 l0_2.length c0_2), (.slice A0_3 l0_3.length c0_3)] 25 (0, 0))) ∧ Aside0 (Below w.heap.size w w'))
       case atStart => exact ⟨(0), zV, H', ⟨Nat.le_refl _⟩, ⟨zR HOV.o⟩, ⟨zR HOV.o⟩, ⟨zB BKA.o⟩, ⟨zL1 HB.o GEA.o⟩⟩
       case round =>
        clear H'
        try clear c1
        try clear p1
        try clear q1
        try clear hx1
        try clear c2
        try clear p2
        try clear p6
        try clear c7
        try clear c15
        try clear c15b0
        try clear c16
        try clear p16
        try clear q16
        try clear hx16
        try clear c17
        try clear c19
        try clear c20
        try clear c22
        try clear c25
        try clear hcz32; try clear hfz32
        try clear hxB_0
        try clear hxD_0
        try clear pB
        try clear pD
        try clear qB
        try clear qD
        try clear BKA
        obtain ⟨x58_3, rfl, HA, HK3, HO_4, HO_56, BKA, HB⟩ := hrel
        cases gk with
        | zero => exact absurd HA.o (by simp [impl_WheelOk.l1])
        | succ k3 =>
         have H := HA.o
         clear HA
         simp only [impl_WheelOk.l1] at H
         by_cases c35 : x58_3 < (tE.length : Int)
         ·rw [if_pos c35] at H
          have c35b0 := dT c35
          clear c35
          by_cases c36 : 0 ≤ x58_3
          ·rw [if_pos c36] at H
           have c36b0 := dT c36
           clear c36
           by_cases c37 : x58_3 < (tE.length : Int)
           ·rw [if_pos c37] at H
            have c37b0 := dT c37
            clear c37
            obtain ⟨tP, A38, H⟩ := zO H; try dsimp only at H
            by_cases c39 : tP = x58_3
            ·rw [if_pos c39] at H
             obtain ⟨c39b0, c39b1⟩ := zt c39
             clear c39
             have H' := aM H
             clear H
             have pF : 0 ≤ (x58_3 : Int) := zD
             have qF : x58_3 < (tE.length : Int) := zD
             obtain ⟨adF, eF, hxF_0, hxF_1, hxF_2⟩ := at_T46 (Kd.R_reads' HO_56.o).2.2 x58_3 pF qF
             cases eF
             replace pF := eq_true pF
             replace qF := eq_true qF
             go_wp2_with (first | ((with_reducible refine gD 6 rfl ?_); (try (refine gate_guard (by rfl) ?_; dsimp only)); refine box_event ?hg (N := 6) ?hd (cs := #[.int .i64 0, .int .i64 0, .int .i64 0]) (t := 46) ?hr ?_; (case hd => rfl); (case hg => rfl); (case hr => first | (go_simp; done) | (go_simp; rfl)); intro gbC hg w40 hbox hb; replace HO_4 := aM (Kd.R_below (Kd.R_elderB (zR HO_4.o) gbC (Nat.le_of_eq hg.symm)) hb); replace HO_56 := aM (Kd.R_below (Kd.R_elderB (zR HO_56.o) gbC (Nat.le_of_eq hg.symm)) hb); have BKC := aM hbox; have GWC := aM (zg (zL1 HB.o GEA.o) hg : w.heap.size ≤ gbC); have GEC := GWC; replace HB := zLB (zL1 HB.o GEA.o) hb; have NBA_C := aM (zN BKA.o hg : gbA ≠ gbC); have NBC_A := aM (zM BKA.o hg : gbC ≠ gbA); replace BKA := zBB BKA hb; clear hb hbox hg; have hnb41 := NBC_A.o; have hnc41 := NBA_C.o; have hcz42_0 : w40.cell? ⟨gbC, 0, none⟩ = some (.int .i64 0) := (bC BKC.o 0).trans rfl; have hcz42_1 : w40.cell? ⟨gbC, 1, none⟩ = some (.int .i64 0) := (bC BKC.o 1).trans rfl; have hcz42_2 : w40.cell? ⟨gbC, 2, none⟩ = some (.int .i64 0) := (bC BKC.o 2).trans rfl; have hfz42_0 := blk_frozen BKC.o 0; have hfz42_1 := blk_frozen BKC.o 1; have hfz42_2 := blk_frozen BKC.o 2) | ((with_reducible refine gC 71 rfl ?_); refine gL 66 Try.func71 #[.slice (some adF) tE.length co34, .int .i64 ((rd_T46 tE x58_3).f0)] ?_; (with_reducible refine (impl_timerAt.calls k3 _ _ tE ((rd_T46 tE x58_3).f0) tP _ ?side1 ?side2 A38.o).mono ?_); (case side1 => refine (Kd.R_reads' (e := 46) (base := w.heap.size) (ok := fun k_ => (True ∧ k_ ≠ gbC)) (n := tE.length) (c := co34) ?_).2.2; exact (by refine zR ?_; exact (Kd.R_mono (Kd.R_far (p := ⟨gbC, 2, none⟩) (Kd.R_far (p := ⟨gbC, 1, none⟩) (Kd.R_far (p := ⟨gbC, 0, none⟩) (Kd.R_mono HO_4.o (fun k_ hk => (⟨hk, hk.2⟩ : _ ∧ k_ ≠ gbC))) (fun _ hk => hk.2) (.int .i64 ((rd_T46 tE x58_3).f0))) (fun _ hk => hk.2) (.int .i64 ((rd_T46 tE x58_3).f1))) (fun _ hk => hk.2) (.int .i64 ((rd_T46 tE x58_3).f2))) (fun _ h_ => h_.1)))); (case side2 => exact (Kd.R_reads' HO_4.o).2.1); rintro e w43 ⟨rfl, hb⟩; refine ⟨_, rfl, ?_⟩; replace HO_4 := aM (Kd.R_below (by refine zR ?_; exact (Kd.R_mono (Kd.R_far (p := ⟨gbC, 2, none⟩) (Kd.R_far (p := ⟨gbC, 1, none⟩) (Kd.R_far (p := ⟨gbC, 0, none⟩) (Kd.R_mono HO_4.o (fun k_ hk => (⟨hk, hk.2⟩ : _ ∧ k_ ≠ gbC))) (fun _ hk => hk.2) (.int .i64 ((rd_T46 tE x58_3).f0))) (fun _ hk => hk.2) (.int .i64 ((rd_T46 tE x58_3).f1))) (fun _ hk => hk.2) (.int .i64 ((rd_T46 tE x58_3).f2))) (fun _ h_ => h_.1))) hb); replace HO_56 := aM (Kd.R_below (by refine zR ?_; exact (Kd.R_mono (Kd.R_far (p := ⟨gbC, 2, none⟩) (Kd.R_far (p := ⟨gbC, 1, none⟩) (Kd.R_far (p := ⟨gbC, 0, none⟩) (Kd.R_mono HO_56.o (fun k_ hk => (⟨hk, hk.2⟩ : _ ∧ k_ ≠ gbC))) (fun _ hk => hk.2) (.int .i64 ((rd_T46 tE x58_3).f0))) (fun _ hk => hk.2) (.int .i64 ((rd_T46 tE x58_3).f1))) (fun _ hk => hk.2) (.int .i64 ((rd_T46 tE x58_3).f2))) (fun _ h_ => h_.1))) hb); replace BKA := aM (bB (g := gbA) (o := .cells #[.int .i64 a0_0, .slice A0_1 l0_1.length c0_1, .slice A0_2 l0_2.length c0_2, .slice A0_3 l0_3.length c0_3] 25 (0, 0)) (by refine zB ?_; refine blk_far ?_ NBA_C.o _; refine zB ?_; refine blk_far ?_ NBA_C.o _; refine zB ?_; refine blk_far ?_ NBA_C.o _; exact zB BKA.o) hb); replace BKC := aM (bB (g := gbC) (o := .cells #[.int .i64 ((rd_T46 tE x58_3).f0), .int .i64 ((rd_T46 tE x58_3).f1), .int .i64 ((rd_T46 tE x58_3).f2)] 46 (0, 0)) (by refine zB ?_; refine blk_put (cs := #[.int .i64 ((rd_T46 tE x58_3).f0), .int .i64 ((rd_T46 tE x58_3).f1), .int .i64 0]) ?_ 2 _ rfl; refine zB ?_; refine blk_put (cs := #[.int .i64 ((rd_T46 tE x58_3).f0), .int .i64 0, .int .i64 0]) ?_ 1 _ rfl; refine zB ?_; refine blk_put (cs := #[.int .i64 0, .int .i64 0, .int .i64 0]) ?_ 0 _ rfl; exact zB BKC.o) hb); replace HB := zLB (zL2 HB.o GEA.o GEC.o) hb; clear hb))
             go_roundg k3
             case measure => have := HJ1.o; have := HK2.o; have := HK3.o; omega
             case rel => exact ⟨(wrap64 (x58_3 + 1)), zV, H', ⟨by have := HJ1.o; have := HK2.o; have := HK3.o; omega⟩, ⟨zRm HO_4.o (fun _ hk => trivial)⟩, ⟨zRm HO_56.o (fun _ hk => trivial)⟩, ⟨zB BKA.o⟩, ⟨zL2 HB.o GEA.o GEC.o⟩⟩
            ·rw [if_neg c39] at H
             obtain ⟨c39b0, c39b1⟩ := zf c39
             obtain rfl := Option.some.inj H
             have pF : 0 ≤ (x58_3 : Int) := zD
             have qF : x58_3 < (tE.length : Int) := zD
             obtain ⟨adF, eF, hxF_0, hxF_1, hxF_2⟩ := at_T46 (Kd.R_reads' HO_56.o).2.2 x58_3 pF qF
             cases eF
             replace pF := eq_true pF
             replace qF := eq_true qF
             go_wp2_with (first | ((with_reducible refine gD 6 rfl ?_); (try (refine gate_guard (by rfl) ?_; dsimp only)); refine box_event ?hg (N := 6) ?hd (cs := #[.int .i64 0, .int .i64 0, .int .i64 0]) (t := 46) ?hr ?_; (case hd => rfl); (case hg => rfl); (case hr => first | (go_simp; done) | (go_simp; rfl)); intro gbC hg w44 hbox hb; replace HO_4 := aM (Kd.R_below (Kd.R_elderB (zR HO_4.o) gbC (Nat.le_of_eq hg.symm)) hb); replace HO_56 := aM (Kd.R_below (Kd.R_elderB (zR HO_56.o) gbC (Nat.le_of_eq hg.symm)) hb); have BKC := aM hbox; have GWC := aM (zg (zL1 HB.o GEA.o) hg : w.heap.size ≤ gbC); have GEC := GWC; replace HB := zLB (zL1 HB.o GEA.o) hb; have NBA_C := aM (zN BKA.o hg : gbA ≠ gbC); have NBC_A := aM (zM BKA.o hg : gbC ≠ gbA); replace BKA := zBB BKA hb; clear hb hbox hg; have hnb45 := NBC_A.o; have hnc45 := NBA_C.o; have hcz46_0 : w44.cell? ⟨gbC, 0, none⟩ = some (.int .i64 0) := (bC BKC.o 0).trans rfl; have hcz46_1 : w44.cell? ⟨gbC, 1, none⟩ = some (.int .i64 0) := (bC BKC.o 1).trans rfl; have hcz46_2 : w44.cell? ⟨gbC, 2, none⟩ = some (.int .i64 0) := (bC BKC.o 2).trans rfl; have hfz46_0 := blk_frozen BKC.o 0; have hfz46_1 := blk_frozen BKC.o 1; have hfz46_2 := blk_frozen BKC.o 2) | ((with_reducible refine gC 71 rfl ?_); refine gL 66 Try.func71 #[.slice (some adF) tE.length co34, .int .i64 ((rd_T46 tE x58_3).f0)] ?_; (with_reducible refine (impl_timerAt.calls k3 _ _ tE ((rd_T46 tE x58_3).f0) tP _ ?side1 ?side2 A38.o).mono ?_); (case side1 => refine (Kd.R_reads' (e := 46) (base := w.heap.size) (ok := fun k_ => (True ∧ k_ ≠ gbC)) (n := tE.length) (c := co34) ?_).2.2; exact (by refine zR ?_; exact (Kd.R_mono (Kd.R_far (p := ⟨gbC, 2, none⟩) (Kd.R_far (p := ⟨gbC, 1, none⟩) (Kd.R_far (p := ⟨gbC, 0, none⟩) (Kd.R_mono HO_4.o (fun k_ hk => (⟨hk, hk.2⟩ : _ ∧ k_ ≠ gbC))) (fun _ hk => hk.2) (.int .i64 ((rd_T46 tE x58_3).f0))) (fun _ hk => hk.2) (.int .i64 ((rd_T46 tE x58_3).f1))) (fun _ hk => hk.2) (.int .i64 ((rd_T46 tE x58_3).f2))) (fun _ h_ => h_.1)))); (case side2 => exact (Kd.R_reads' HO_4.o).2.1); rintro e w47 ⟨rfl, hb⟩; refine ⟨_, rfl, ?_⟩; replace HO_4 := aM (Kd.R_below (by refine zR ?_; exact (Kd.R_mono (Kd.R_far (p := ⟨gbC, 2, none⟩) (Kd.R_far (p := ⟨gbC, 1, none⟩) (Kd.R_far (p := ⟨gbC, 0, none⟩) (Kd.R_mono HO_4.o (fun k_ hk => (⟨hk, hk.2⟩ : _ ∧ k_ ≠ gbC))) (fun _ hk => hk.2) (.int .i64 ((rd_T46 tE x58_3).f0))) (fun _ hk => hk.2) (.int .i64 ((rd_T46 tE x58_3).f1))) (fun _ hk => hk.2) (.int .i64 ((rd_T46 tE x58_3).f2))) (fun _ h_ => h_.1))) hb); replace HO_56 := aM (Kd.R_below (by refine zR ?_; exact (Kd.R_mono (Kd.R_far (p := ⟨gbC, 2, none⟩) (Kd.R_far (p := ⟨gbC, 1, none⟩) (Kd.R_far (p := ⟨gbC, 0, none⟩) (Kd.R_mono HO_56.o (fun k_ hk => (⟨hk, hk.2⟩ : _ ∧ k_ ≠ gbC))) (fun _ hk => hk.2) (.int .i64 ((rd_T46 tE x58_3).f0))) (fun _ hk => hk.2) (.int .i64 ((rd_T46 tE x58_3).f1))) (fun _ hk => hk.2) (.int .i64 ((rd_T46 tE x58_3).f2))) (fun _ h_ => h_.1))) hb); replace BKA := aM (bB (g := gbA) (o := .cells #[.int .i64 a0_0, .slice A0_1 l0_1.length c0_1, .slice A0_2 l0_2.length c0_2, .slice A0_3 l0_3.length c0_3] 25 (0, 0)) (by refine zB ?_; refine blk_far ?_ NBA_C.o _; refine zB ?_; refine blk_far ?_ NBA_C.o _; refine zB ?_; refine blk_far ?_ NBA_C.o _; exact zB BKA.o) hb); replace BKC := aM (bB (g := gbC) (o := .cells #[.int .i64 ((rd_T46 tE x58_3).f0), .int .i64 ((rd_T46 tE x58_3).f1), .int .i64 ((rd_T46 tE x58_3).f2)] 46 (0, 0)) (by refine zB ?_; refine blk_put (cs := #[.int .i64 ((rd_T46 tE x58_3).f0), .int .i64 ((rd_T46 tE x58_3).f1), .int .i64 0]) ?_ 2 _ rfl; refine zB ?_; refine blk_put (cs := #[.int .i64 ((rd_T46 tE x58_3).f0), .int .i64 0, .int .i64 0]) ?_ 1 _ rfl; refine zB ?_; refine blk_put (cs := #[.int .i64 0, .int .i64 0, .int .i64 0]) ?_ 0 _ rfl; exact zB BKC.o) hb); replace HB := zLB (zL2 HB.o GEA.o GEC.o) hb; clear hb))
             go_ret
             exact ⟨zW, zL2 HB.o GEA.o GEC.o⟩
           ·rw [if_neg c37] at H
            exact absurd H (by simp)
          ·rw [if_neg c36] at H
           exact absurd H (by simp)
         ·rw [if_neg c35] at H
          have c35b0 := dF c35
          clear c35
          obtain rfl := Option.some.inj H
          go_wp2
          go_ret
          exact ⟨zW, zL1 HB.o GEA.o⟩

open Go.Proofs.YtggenhomnbnodaaW.PrintWords renaming blk_drewN → bN, blk_drew → bD, blk_alloc → bA, blk_cell → bC, blk_below → bB, below_set → bS
def spec_l8Lists.l0 : Nat → List (List (S46)) → List (List (S46)) → Int → Option ((List (List (S46))))
 | 0, _, _, _ => none
 | k + 1, x0, x3, x4 => if x4 < (x0.length : Int) then ((some (([] : List (S46)) : List (S46))).bind fun yH => (if 0 ≤ x4 then (if yH.length + (rd_L2 x0 x4).length < 5864062014805 then (if x3.length < 5864062014805 then (spec_l8Lists.l0 k x0 (x3 ++ [(yH ++ (rd_L2 x0 x4))]) (wrap64 (x4 + 1))) else (none)) else (none)) else (none))) else (some x3)
def spec_l8Lists.f (k : Nat) (l0 : List (List (S46))) : Option ((List (List (S46)))) := spec_l8Lists.l0 k l0 (([] : List (List (S46)))) 0
set_option maxHeartbeats 8000000 in
set_option maxRecDepth 100000 in
theorem spec_l8Lists.calls (k : Nat) (A0 : Option Addr) (c0 : Nat) (l0 : List (List (S46))) (r : List (List (S46))) (w : World) (hr0 : Kd.C (Kd.slice 46 k46) w A0 l0.length l0) (hc0 : l0.length ≤ c0) (h : spec_l8Lists.f k l0 = some r) :
  Calls Try.prog 91 #[.slice A0 l0.length c0] w fun e w' => ∃ v0_ : Value, e = .returned (v0_) ∧ Kd.S (Kd.slice 46 k46) 23 w' w.heap.size (fun _ => True) v0_ r ∧ Below w.heap.size w w' := by
 have HR0 := aM hr0
 have HC0 := aM hc0
 clear hr0 hc0
 have HB := aM (Below.refl w.heap.size w)
 unfold spec_l8Lists.f at h; have H := h
 clear h
 obtain ⟨yI, hyI⟩ : ∃ y_ : List (List (S46)), y_ = (([] : List (List (S46)))) := ⟨_, rfl⟩
 replace H : (spec_l8Lists.l0 k l0 yI 0) = some r := by first | (rw [hyI]; with_reducible exact H) | (have H2_ := (Option.bind_some _ _).symm.trans H; rw [hyI]; with_reducible exact H2_) | (have H2_ := (Option.bind_some _ _).symm.trans H; with_reducible exact H2_) | with_reducible exact H | (rw [hyI]; exact H) | exact H
 have NyI := aM hyI
 clear hyI
 have H' := aM H
 clear H
 go_enter Try.func91, Try.ntmps91
 go_wp2_with (first | ((with_reducible refine gD 5 rfl ?_); refine Kd.S_lit (Kd.slice 46 k46) _ 23 ?hg (N := 5) ?hd (xs := ([] : List (List (S46)))) (inner := []) (ok := fun _ => True) (okp := fun _ => True) ?hr ?hp (fun _ hk => hk) trivial (Below.refl _ _) (Nat.le_refl _) (by simp) ?_; (case hd => rfl); (case hg => rfl); (case hr => first | (go_simp; done) | (go_simp; rfl)); (case hp => exact (Reps.none _ _)); intro vA1 w2 ho3 hb hg_ hnew_; clear hg_ hnew_; (first | rw [← NyI.o] at ho3 | (simp only [Int.reduceToNat] at ho3; rw [← NyI.o] at ho3)); have HOX := aM (Kd.S_lower ho3 (below_size (zL HB.o))); replace HB := zLB (zL HB.o) hb; clear hb ho3))
 go_loopg [3, 4] k (fun kq v3 v4 w' => ∃ (x3_1 : List (List (S46))) (x4_1 : Int), v4 = .int .i64 x4_1 ∧ Aside0 (spec_l8Lists.l0 kq l0 x3_1 x4_1 = some r) ∧ Aside0 (kq ≤ k) ∧ Aside0 (Kd.S (Kd.slice 46 k46) 23 w' w.heap.size (fun _ => True) v3 x3_1) ∧ Aside0 (Below w.heap.size w w'))
 case atStart => exact ⟨(yI), (0), zV, H', ⟨Nat.le_refl _⟩, ⟨zS HOX.o⟩, ⟨zL HB.o⟩⟩
 case round =>
  clear H'
  try clear p2
  obtain ⟨x3_1, x4_1, rfl, HA, HK1, HO_3, HB⟩ := hrel
  cases gk with
  | zero => exact absurd HA.o (by simp [spec_l8Lists.l0])
  | succ k1 =>
   have H := HA.o
   clear HA
   simp only [spec_l8Lists.l0] at H
   by_cases c4 : x4_1 < (l0.length : Int)
   ·rw [if_pos c4] at H
    have c4b0 := dT c4
    clear c4
    obtain ⟨yH, hyH⟩ : ∃ y_ : List (S46), y_ = (([] : List (S46))) := ⟨_, rfl⟩
    replace H : (if 0 ≤ x4_1 then (if yH.length + (rd_L2 l0 x4_1).length < 5864062014805 then (if x3_1.length < 5864062014805 then (spec_l8Lists.l0 k1 l0 (x3_1 ++ [(yH ++ (rd_L2 l0 x4_1))]) (wrap64 (x4_1 + 1))) else (none)) else (none)) else (none)) = some r := by first | (rw [hyH]; with_reducible exact H) | (have H2_ := (Option.bind_some _ _).symm.trans H; rw [hyH]; with_reducible exact H2_) | (have H2_ := (Option.bind_some _ _).symm.trans H; with_reducible exact H2_) | with_reducible exact H | (rw [hyH]; exact H) | exact H
    have NyH := aM hyH
    clear hyH
    by_cases c5 : 0 ≤ x4_1
    ·rw [if_pos c5] at H
     have c5b0 := dT c5
     clear c5
     by_cases c6 : yH.length + (rd_L2 l0 x4_1).length < 5864062014805
     ·rw [if_pos c6] at H
      have LMc6 := aM c6
      clear c6
      generalize hyJ : (yH ++ (rd_L2 l0 x4_1)) = yJ at H; (try rw [Option.bind_some] at H); have NyJ := aM hyJ.symm; clear hyJ
      by_cases c7 : x3_1.length < 5864062014805
      ·rw [if_pos c7] at H
       have LMc7 := aM c7
       clear c7
       generalize hyO : (x3_1 ++ [yJ]) = yO at H; (try rw [Option.bind_some] at H); have NyO := aM hyO.symm; clear hyO
       have H' := aM H
       clear H
       go_wp2_with (first | ((with_reducible refine gD 13 rfl ?_); refine Kd.R_lit k46 _ 46 ?hg (N := 13) ?hd (xs := ([] : List (S46))) (inner := []) (ok := fun _ => True) (okp := fun _ => True) ?hr ?hp (fun _ hk => hk) trivial (Below.refl _ _) (Nat.le_refl _) (by simp) ?_; (case hd => rfl); (case hg => rfl); (case hr => first | (go_simp; done) | (go_simp; rfl)); (case hp => exact (Reps.none _ _)); intro vY w8 ho9 hb hg_ hnew_; clear hg_ hnew_; (first | rw [← NyH.o] at ho9 | (simp only [Int.reduceToNat] at ho9; rw [← NyH.o] at ho9)); replace HO_3 := aM (Kd.S_elder' (zS HO_3.o) (Kd.R_base ho9) hb); have HOW := aM (Kd.R_lower ho9 (below_size (zL HB.o))); replace HB := zLB (zL HB.o) hb; clear hb ho9; have pG : 0 ≤ (x4_1 : Int) := zD; have qG : x4_1 < (l0.length : Int) := zD; obtain ⟨adG, AG_0, cG_0, eG, hxG_0, hlG_0, hiG_0⟩ := at_L2 HR0.o x4_1 pG qG; cases eG; replace hxG_0 := zh HB.o hxG_0; have HRG_0 := aM hiG_0; have HCG_0 := aM hlG_0; clear hiG_0 hlG_0; replace pG := eq_true pG; replace qG := eq_true qG) | ((with_reducible refine gate_builtin (b := .append) (xs := #[.tmp 13, .tmp 17]) rfl ?_); at_builtin; refine Kd.R_append_rows k46 (w0 := w) w.heap.size rfl (.tmp 13) (.tmp 17) 23 46 (.agg #[(.int .i64 0), (.int .i64 0), (.int .i64 0)]) 24 rfl Try.underlying23 info46 rfl (by decide) (by omega) vY yH (rd_L2 l0 x4_1) _ _ _ (fun _ => True) (fun _ => False) rfl rfl ?aO ?aR (fun _ _ h => h) (fun _ h => h.elim) ?aF ?aB ?aS ?aL ?_; (case aR => repeat (first | exact (Kd.C_below HRG_0.o HB.o) | (with_reducible refine Kd.C_alloc ?_ _) | (with_reducible refine Kd.C_drewN ?_ _) | (with_reducible refine Kd.C_drew ?_))); (case aB => exact (zL HB.o)); (case aF => exact (fun _ _ => trivial)); (case aO => exact (zR HOW.o)); (case aS => exact (below_size (zL HB.o))); (case aL => have := LMc6.o; omega); intro vA2 w10 ho hb hg hat; rw [← NyJ.o] at ho; replace HO_3 := aM (Kd.S_after (ok := (fun _ => True)) (zS HO_3.o) hg hat); replace HB := aM hb; have HOR := aM (ho); clear HOW; clear ho hb hg hat; obtain ⟨Ao12, co12, eo12⟩ := Kd.R_slice HOR.o; subst eo12) | ((with_reducible refine gate_builtin (b := .append) (xs := #[.tmp 12, .tmp 19]) rfl ?_); at_builtin; refine Kd.S_append (Kd.slice 46 k46) (w0 := w) w.heap.size rfl (.tmp 12) (.tmp 19) 22 23 (.slice none 0 0) 24 rfl Try.underlying22 info23 rfl (by decide) (by omega) u3 x3_1 yJ [.slice Ao12 yJ.length co12] (fun _ => True) (fun k_ => some k_ = (.slice Ao12 yJ.length co12 : Value).ownBlock) rfl rfl ?aP (fun k_ hk_ => ((Kd.R_mono (ok' := fun k_ => ((fun _ => True)) k_ ∧ some k_ ≠ (u3 : Value).ownBlock) (Kd.R_apart' (HOR.o) (Kd.S_typed HO_3.o) (by decide)) (fun k_ hk => ⟨trivial, hk.2⟩))).1 k_ hk_.symm) ?aF ?aO ?aB ?aS ?aL ?_; (case aP => exact Kd.M_row (Kd.R_mono (Kd.R_tight rfl (Kd.R_mono (ok' := fun k_ => ((fun _ => True)) k_ ∧ some k_ ≠ (u3 : Value).ownBlock) (Kd.R_apart' (HOR.o) (Kd.S_typed HO_3.o) (by decide)) (fun k_ hk => ⟨trivial, hk.2⟩))) (fun _ h_ => h_))); (case aB => exact (zL HB.o)); (case aF => exact (fun _ _ => trivial)); (case aO => exact (zSm HO_3.o (fun k_ hk => ⟨trivial, fun e_ => hk.2 e_⟩))); (case aS => exact (below_size (zL HB.o))); (case aL => have := LMc7.o; omega); intro vA3 w11 ho hb hg hat; rw [← NyO.o] at ho; replace HB := aM hb; have HOZ := aM (ho); clear HO_3 HOR; clear ho hb hg hat))
       go_roundg k1
       case measure => have := HK1.o; omega
       case rel => exact ⟨(yO), (wrap64 (x4_1 + 1)), zV, H', ⟨by have := HK1.o; omega⟩, ⟨zS HOZ.o⟩, ⟨zL HB.o⟩⟩
      ·rw [if_neg c7] at H
       exact absurd H (by simp)
     ·rw [if_neg c6] at H
      exact absurd H (by simp)
    ·rw [if_neg c5] at H
     exact absurd H (by simp)
   ·rw [if_neg c4] at H
    have c4b0 := dF c4
    clear c4
    obtain rfl := Option.some.inj H
    go_wp2
    go_ret
    exact ⟨_, zW, zS HO_3.o, zL HB.o⟩

end Go.Proofs.Ytggenhomnbnodaa.QFnWheels
