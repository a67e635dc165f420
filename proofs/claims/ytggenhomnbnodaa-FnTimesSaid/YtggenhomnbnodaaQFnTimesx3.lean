/- What the Go functions that the law FnTimes reaches answer: each as a Lean function, with its walk. Written by a program of this session. Conditions: those that each theorem names. -/
import Derived.Test.YtggenhomnbnodaaQFnTimesx0
import Derived.Test.YtggenhomnbnodaaQFnTimesx2
namespace Go.Proofs.Ytggenhomnbnodaa.QFnTimes
open Go.RowKit Go.Proofs.YtggenhomnbnodaaW.PrintWords Go.Proofs.YtggenhomnbnodaaW.PrintLast Go.Proofs.YtggenhomnbnodaaW.PrintMore
attribute [local go_sem] max2_int min2_int max_two min_two max_three min_three max_four min_four   -- for this text's walks alone
set_option linter.unusedVariables false
set_option linter.unusedSimpArgs false

open Go.Proofs.YtggenhomnbnodaaW.PrintWords renaming blk_drewN → bN, blk_drew → bD, blk_alloc → bA, blk_cell → bC, blk_below → bB, below_set → bS
mutual
def impl_WheelOk.j0 : Nat → Bool → Int → List (List (S46)) → List (List (S46)) → List (S46) → Option (Bool)
 | 0, _, _, _, _, _ => none
 | k + 1, x29, x121000, x121001, x121002, x121003 => if x29 = true then (some false) else (impl_WheelOk.l0 k 0 x121000 x121001 x121002 x121003)
def impl_WheelOk.l0 : Nat → Int → Int → List (List (S46)) → List (List (S46)) → List (S46) → Option (Bool)
 | 0, _, _, _, _, _ => none
 | k + 1, x3, x121000, x121001, x121002, x121003 => if x3 < 8 then (if 0 ≤ x3 then (if x3 < (x121001.length : Int) then ((impl_belongs.f k x121000 x121001 x121002 x121003 (rd_L2 x121001 x3) 0 x3).bind fun t124 => (if t124 = true then (if x3 < (x121002.length : Int) then ((impl_belongs.f k x121000 x121001 x121002 x121003 (rd_L2 x121002 x3) 1 x3).bind fun t126 => (if t126 = true then (impl_WheelOk.l0 k (wrap64 (x3 + 1)) x121000 x121001 x121002 x121003) else (some false))) else (none)) else (some false))) else (none)) else (none)) else ((impl_Timers.f k x121000 x121001 x121002 x121003).bind fun t127 => (impl_WheelOk.l1 k t127 t127 (t127.length : Int) 0))
def impl_WheelOk.l1 : Nat → List (S46) → List (S46) → Int → Int → Option (Bool)
 | 0, _, _, _, _ => none
 | k + 1, x4, x56, x57, x58 => if x58 < x57 then (if 0 ≤ x58 then (if x58 < (x56.length : Int) then ((impl_timerAt.f k x4 ((rd_T46 x56 x58).f0)).bind fun t132 => (if t132 = x58 then (impl_WheelOk.l1 k x4 x56 x57 (wrap64 (x58 + 1))) else (some false))) else (none)) else (none)) else (some (decide ((x4.length : Int) ≤ 16)))
end
def impl_WheelOk.f (k : Nat) (a0_0 : Int) (l0_1 : List (List (S46))) (l0_2 : List (List (S46))) (l0_3 : List (S46)) : Option (Bool) := (impl_within.f a0_0 0 2147483647).bind fun t121 => (if t121 = true then (if (l0_1.length : Int) = 8 then (if (l0_2.length : Int) = 8 then ((impl_belongs.f k a0_0 l0_1 l0_2 l0_3 l0_3 2 0).bind fun t122 => (impl_WheelOk.j0 k (!t122) a0_0 l0_1 l0_2 l0_3)) else (impl_WheelOk.j0 k true a0_0 l0_1 l0_2 l0_3)) else (impl_WheelOk.j0 k true a0_0 l0_1 l0_2 l0_3)) else (impl_WheelOk.j0 k true a0_0 l0_1 l0_2 l0_3))
def impl_WheelOk.T6 : Bool × List (List Nat × List Nat) := (true, [([], []), ([], []), ([1], [1]), ([], []), ([2, 3], [2, 3]), ([4], [4]), ([], []), ([0, 5, 6], [0, 5, 6]), ([7], [7]), ([8, 7], [8]), ([9], [9]), ([9], [9]), ([11, 9], [9, 11]), ([9], [9]), ([12, 13, 9], [9, 12, 13]), ([14, 9], [9, 14]), ([9], [9]), ([10, 15, 16, 9, 9], [9, 10, 15, 16]), ([17, 9], [9, 17]), ([9, 18], [9, 18])])
def impl_WheelOk.B6 : List Nat := [0, 0, 2, 0, 14, 30, 0, 127, 255, 511, 1023, 1023, 3071, 1023, 15359, 31743, 1023, 131071, 262143, 524287]
theorem impl_WheelOk.tab6 : rtab .any (opsOf Try.f30 6) = impl_WheelOk.T6 := by kernel_rfl
theorem impl_WheelOk.bits6 : waitsOk impl_WheelOk.T6.2 impl_WheelOk.B6 = true := by kernel_rfl
set_option maxHeartbeats 8000000 in
set_option maxRecDepth 100000 in
theorem impl_WheelOk.calls (k : Nat) (a0_0 : Int) (A0_1 : Option Addr) (c0_1 : Nat) (l0_1 : List (List (S46))) (A0_2 : Option Addr) (c0_2 : Nat) (l0_2 : List (List (S46))) (A0_3 : Option Addr) (c0_3 : Nat) (l0_3 : List (S46)) (r : Bool) (w : World) (hr0_1 : Kd.C (Kd.slice 46 k46) w A0_1 l0_1.length l0_1) (hc0_1 : l0_1.length ≤ c0_1) (hr0_2 : Kd.C (Kd.slice 46 k46) w A0_2 l0_2.length l0_2) (hc0_2 : l0_2.length ≤ c0_2) (hr0_3 : Kd.C k46 w A0_3 l0_3.length l0_3) (hc0_3 : l0_3.length ≤ c0_3) (h : impl_WheelOk.f k a0_0 l0_1 l0_2 l0_3 = some r) :
  Calls Try.prog 30 #[.agg #[.int .i64 a0_0, .slice A0_1 l0_1.length c0_1, .slice A0_2 l0_2.length c0_2, .slice A0_3 l0_3.length c0_3]] w fun e w' => e = .returned (.bool r) ∧ Below w.heap.size w w' := by
 have hu25 := Try.underlying25
 have hu46 := Try.underlying46
 have HR0_1 := aM hr0_1
 have HC0_1 := aM hc0_1
 clear hr0_1 hc0_1
 have HR0_2 := aM hr0_2
 have HC0_2 := aM hc0_2
 clear hr0_2 hc0_2
 have HR0_3 := aM hr0_3
 have HC0_3 := aM hc0_3
 clear hr0_3 hc0_3
 have HB := aM (Below.refl w.heap.size w)
 unfold impl_WheelOk.f at h; have H := h
 clear h
 have HC2 := aM H
 clear H
 go_enter Try.func30, Try.ntmps30
 go_upto_region 1 with (first | ((with_reducible refine gD 1 rfl ?_); (try (refine gate_guard (by rfl) ?_; dsimp only)); refine box_event ?hg (N := 1) ?hd (cs := #[.int .i64 a0_0, .slice A0_1 l0_1.length c0_1, .slice A0_2 l0_2.length c0_2, .slice A0_3 l0_3.length c0_3]) (t := 25) ?hr ?_; (case hd => rfl); (case hg => rfl); (case hr => first | (go_simp; done) | (go_simp; rfl)); intro gb120 hg w3 hbox hb; have BK120 := aM hbox; have GW120 := aM (zg (zL HB.out) hg : w.heap.size ≤ gb120); have GE120 := GW120; replace HB := zLB (zL HB.out) hb; clear hb hbox hg))
 (try simp only [Act.put, List.setIfInBounds_toArray, List.set_cons_zero, List.set_cons_succ])
 go_cut [29] (fun v29 wc => ∃ (kq : Nat) (x29_1 : Bool), v29 = .bool x29_1 ∧ Aside0 (impl_WheelOk.j0 kq x29_1 a0_0 l0_1 l0_2 l0_3 = some r) ∧ Aside0 (kq ≤ k) ∧ Aside0 (wc.heap[gb120]? = some (.cells #[.int .i64 a0_0, (.slice A0_1 l0_1.length c0_1), (.slice A0_2 l0_2.length c0_2), (.slice A0_3 l0_3.length c0_3)] 25 (0, 0))) ∧ Aside0 (Below w.heap.size w wc))
 case first =>
  have H := HC2.out
  clear HC2
  obtain ⟨t121, A4, H⟩ := zO H; try dsimp only at H
  by_cases c5 : t121 = true
  ·subst c5
   rw [if_pos rfl] at H
   by_cases c6 : (l0_1.length : Int) = 8
   ·rw [if_pos c6] at H
    obtain ⟨c6b0, c6b1⟩ := zt c6
    clear c6
    (first | rw [c6b0] | (simp only [i64_w, i32_w]; rw [c6b0]) | skip)
    by_cases c7 : (l0_2.length : Int) = 8
    ·rw [if_pos c7] at H
     obtain ⟨c7b0, c7b1⟩ := zt c7
     clear c7
     obtain ⟨t122, A8, H⟩ := zO H; try dsimp only at H
     have H' := aM H
     clear H
     have hcz9 := zc4 BK120.out
     have hfz9 := zf4 BK120.out
     go_wp2_with (first | ((with_reducible refine gC 69 rfl ?_); refine gL 9 Try.func69 #[.int .i64 a0_0, .int .i64 0, .int .i64 2147483647] ?_; (with_reducible refine (impl_within.calls a0_0 0 2147483647 true _ A4.out).mono ?_); rintro e w' ⟨rfl, ⟨nd, rfl⟩⟩; refine ⟨_, rfl, ?_⟩) | (go_at_call 70; (with_reducible refine (impl_belongs.calls k a0_0 _ _ l0_1 _ _ l0_2 _ _ l0_3 _ _ l0_3 2 0 t122 _ ?side1 ?side2 ?side3 ?side4 ?side5 ?side6 ?side7 ?side8 A8.out).mono ?_); (case side1 => repeat (first | exact (Kd.C_below HR0_1.out (zL1 HB.out GE120.out)) | (with_reducible refine Kd.C_alloc ?_ _) | (with_reducible refine Kd.C_drewN ?_ _) | (with_reducible refine Kd.C_drew ?_))); (case side2 => exact HC0_1.out); (case side3 => repeat (first | exact (Kd.C_below HR0_2.out (zL1 HB.out GE120.out)) | (with_reducible refine Kd.C_alloc ?_ _) | (with_reducible refine Kd.C_drewN ?_ _) | (with_reducible refine Kd.C_drew ?_))); (case side4 => exact HC0_2.out); (case side5 => repeat (first | exact (Kd.C_below HR0_3.out (zL1 HB.out GE120.out)) | (with_reducible refine Kd.C_alloc ?_ _) | (with_reducible refine Kd.C_drewN ?_ _) | (with_reducible refine Kd.C_drew ?_))); (case side6 => exact HC0_3.out); (case side7 => repeat (first | exact (Kd.C_below HR0_3.out (zL1 HB.out GE120.out)) | (with_reducible refine Kd.C_alloc ?_ _) | (with_reducible refine Kd.C_drewN ?_ _) | (with_reducible refine Kd.C_drew ?_))); (case side8 => exact HC0_3.out); rintro e w10 ⟨rfl, hb⟩; replace BK120 := zBB BK120 hb; replace HB := zLB (zL1 HB.out GE120.out) hb; clear hb))
     go_meet
     case rel => exact ⟨_, (!t122), zV, H', ⟨by first | omega | exact Nat.le_refl _⟩, ⟨zB BK120.out⟩, ⟨zL1 HB.out GE120.out⟩⟩
    ·rw [if_neg c7] at H
     obtain ⟨c7b0, c7b1⟩ := zf c7
     have H' := aM H
     clear H
     have hcz11 := zc4 BK120.out
     have hfz11 := zf4 BK120.out
     go_wp2_with (first | ((with_reducible refine gC 69 rfl ?_); refine gL 9 Try.func69 #[.int .i64 a0_0, .int .i64 0, .int .i64 2147483647] ?_; (with_reducible refine (impl_within.calls a0_0 0 2147483647 true _ A4.out).mono ?_); rintro e w' ⟨rfl, ⟨nd, rfl⟩⟩; refine ⟨_, rfl, ?_⟩))
     go_meet
     case rel => exact ⟨_, (true), zV, H', ⟨by first | omega | exact Nat.le_refl _⟩, ⟨zB BK120.out⟩, ⟨zL1 HB.out GE120.out⟩⟩
   ·rw [if_neg c6] at H
    obtain ⟨c6b0, c6b1⟩ := zf c6
    (first | rw [c6b0] | (simp only [i64_w, i32_w]; rw [c6b0]) | skip)
    have H' := aM H
    clear H
    have hcz12 := zc4 BK120.out
    have hfz12 := zf4 BK120.out
    go_wp2_with (first | ((with_reducible refine gC 69 rfl ?_); refine gL 9 Try.func69 #[.int .i64 a0_0, .int .i64 0, .int .i64 2147483647] ?_; (with_reducible refine (impl_within.calls a0_0 0 2147483647 true _ A4.out).mono ?_); rintro e w' ⟨rfl, ⟨nd, rfl⟩⟩; refine ⟨_, rfl, ?_⟩))
    go_meet
    case rel => exact ⟨_, (true), zV, H', ⟨by first | omega | exact Nat.le_refl _⟩, ⟨zB BK120.out⟩, ⟨zL1 HB.out GE120.out⟩⟩
  ·obtain rfl := Bool.eq_false_iff.mpr c5
   rw [if_neg zn] at H
   have H' := aM H
   clear H
   have hcz13 := zc4 BK120.out
   have hfz13 := zf4 BK120.out
   go_wp2_with (first | ((with_reducible refine gC 69 rfl ?_); refine gL 9 Try.func69 #[.int .i64 a0_0, .int .i64 0, .int .i64 2147483647] ?_; (with_reducible refine (impl_within.calls a0_0 0 2147483647 false _ A4.out).mono ?_); rintro e w' ⟨rfl, ⟨nd, rfl⟩⟩; refine ⟨_, rfl, ?_⟩))
   go_meet
   case rel => exact ⟨_, (true), zV, H', ⟨by first | omega | exact Nat.le_refl _⟩, ⟨zB BK120.out⟩, ⟨zL1 HB.out GE120.out⟩⟩
 case rest =>
  clear HC2
  try clear p2
  try clear c3
  try clear c5
  try clear c6
  try clear c6b0
  try clear c6b1
  try clear c7
  try clear c7b0
  try clear c7b1
  try clear hcz11; try clear hcz12; try clear hcz13; try clear hcz9; try clear hfz11; try clear hfz12; try clear hfz13; try clear hfz9
  obtain ⟨kq, x29_1, rfl, HA, HJ1, BK120, HB⟩ := hcut
  cases kq with
  | zero => exact absurd HA.out (by simp [impl_WheelOk.j0])
  | succ kj1 =>
   have H := HA.out
   clear HA
   simp only [impl_WheelOk.j0] at H
   by_cases c14 : x29_1 = true
   ·subst c14
    rw [if_pos rfl] at H
    obtain rfl := Option.some.inj H
    go_wp2
    go_ret
    exact ⟨zW, zL1 HB.out GE120.out⟩
   ·obtain rfl := Bool.eq_false_iff.mpr c14
    rw [if_neg zn] at H
    have H' := aM H
    clear H
    go_wp2
    go_loopg [3] kj1 (fun kq v3 w' => ∃ (x3_2 : Int), v3 = .int .i64 x3_2 ∧ Aside0 (impl_WheelOk.l0 kq x3_2 a0_0 l0_1 l0_2 l0_3 = some r) ∧ Aside0 (kq ≤ kj1) ∧ Aside0 (w'.heap[gb120]? = some (.cells #[.int .i64 a0_0, (.slice A0_1 l0_1.length c0_1), (.slice A0_2 l0_2.length c0_2), (.slice A0_3 l0_3.length c0_3)] 25 (0, 0))) ∧ Aside0 (Below w.heap.size w w'))
    case atStart => exact ⟨(0), zV, H', ⟨Nat.le_refl _⟩, ⟨zB BK120.out⟩, ⟨zL1 HB.out GE120.out⟩⟩
    case round =>
     clear H'
     try clear c1
     try clear p2
     try clear c3
     try clear c5
     try clear c6
     try clear c6b0
     try clear c6b1
     try clear c7
     try clear c7b0
     try clear c7b1
     try clear c14
     try clear hcz11; try clear hcz12; try clear hcz13; try clear hcz9; try clear hfz11; try clear hfz12; try clear hfz13; try clear hfz9
     try clear p2
     try clear BK120
     obtain ⟨x3_2, rfl, HA, HK2, BK120, HB⟩ := hrel
     cases gk with
     | zero => exact absurd HA.out (by simp [impl_WheelOk.l0])
     | succ k2 =>
      have H := HA.out
      clear HA
      simp only [impl_WheelOk.l0] at H
      by_cases c15 : x3_2 < 8
      ·rw [if_pos c15] at H
       have c15b0 := dT c15
       clear c15
       by_cases c16 : 0 ≤ x3_2
       ·rw [if_pos c16] at H
        have c16b0 := dT c16
        clear c16
        by_cases c17 : x3_2 < (l0_1.length : Int)
        ·rw [if_pos c17] at H
         have c17b0 := dT c17
         clear c17
         obtain ⟨t124, A18, H⟩ := zO H; try dsimp only at H
         by_cases c19 : t124 = true
         ·subst c19
          rw [if_pos rfl] at H
          by_cases c20 : x3_2 < (l0_2.length : Int)
          ·rw [if_pos c20] at H
           have c20b0 := dT c20
           clear c20
           obtain ⟨t126, A21, H⟩ := zO H; try dsimp only at H
           by_cases c22 : t126 = true
           ·subst c22
            rw [if_pos rfl] at H
            have H' := aM H
            clear H
            try go_wp2
            replace BK120 := zBD BK120; replace HB := zLD HB
            have p123 : 0 ≤ (x3_2 : Int) := zD
            have q123 : x3_2 < (l0_1.length : Int) := zD
            obtain ⟨ad123, A123_0, c123_0, e123, hx123_0, hl123_0, hi123_0⟩ := at_L2 HR0_1.out x3_2 p123 q123
            have hw123_0 := hx123_0
            cases e123
            replace hx123_0 := zh HB.out hx123_0
            have HR123_0 := aM hi123_0
            have HC123_0 := aM hl123_0
            clear hi123_0 hl123_0
            replace p123 := eq_true p123
            replace q123 := eq_true q123
            have p125 : 0 ≤ (x3_2 : Int) := zD
            have q125 : x3_2 < (l0_2.length : Int) := zD
            obtain ⟨ad125, A125_0, c125_0, e125, hx125_0, hl125_0, hi125_0⟩ := at_L2 HR0_2.out x3_2 p125 q125
            have hw125_0 := hx125_0
            cases e125
            replace hx125_0 := zh HB.out hx125_0
            have HR125_0 := aM hi125_0
            have HC125_0 := aM hl125_0
            clear hi125_0 hl125_0
            replace p125 := eq_true p125
            replace q125 := eq_true q125
            refine start_ (n := 20) (S := fun w' => w'.cell? ⟨gb120, 0, none⟩ = some (.int .i64 a0_0) ∧ w'.cell? ⟨gb120, 1, none⟩ = some (.slice (some ad123) l0_1.length c0_1) ∧ w'.cell? ⟨gb120, 2, none⟩ = some (.slice (some ad125) l0_2.length c0_2) ∧ w'.cell? ⟨gb120, 3, none⟩ = some (.slice A0_3 l0_3.length c0_3) ∧ w'.cell? (ad123.add (x3_2).toNat) = some (.slice A123_0 (rd_L2 l0_1 x3_2).length c123_0) ∧ w'.cell? (ad125.add (x3_2).toNat) = some (.slice A125_0 (rd_L2 l0_2 x3_2).length c125_0)) (ds := []) (fB 20 0) (by kernel_rfl) rfl rfl ⟨(bC BK120.out 0).trans rfl, (bC BK120.out 1).trans rfl, (bC BK120.out 2).trans rfl, (bC BK120.out 3).trans rfl, (zh HB.out hw123_0), (zh HB.out hw125_0)⟩ (fun hHeld => ?_); refine with_tabW impl_WheelOk.tab6 impl_WheelOk.bits6 (fun HT_ HW_ => ?_)
            generalize wr.drew = w23 at BK120 HB HR123_0 HR125_0 hx123_0 hx125_0 hHeld ⊢
            refine pY 1 35 (fB 20 2) HT_.out ?_
            refine pY 3 37 (fB 20 10) HT_.out ?_
            refine pY 6 40 (fB 20 74) HT_.out ?_
            refine tY 0 34 (fB 20 75) HT_.out HW_.out hHeld ?_
            refine tY 2 36 (fB 20 79) HT_.out HW_.out hHeld ?_
            refine pY 4 38 (fB 20 95) HT_.out ?_
            refine tY 5 39 (fB 20 127) HT_.out HW_.out hHeld ?_
            refine oN 7 41 (fB 20 255) HT_.out fun K hK => ?_
            refine gS Try.func70 #[.agg #[.int .i64 a0_0, .slice (some ad123) l0_1.length c0_1, .slice (some ad125) l0_2.length c0_2, .slice A0_3 l0_3.length c0_3], .slice A123_0 (rd_L2 l0_1 x3_2).length c123_0, .int .i64 0, .int .i64 x3_2] ?_
            with_reducible refine (impl_belongs.calls k2 a0_0 _ _ l0_1 _ _ l0_2 _ _ l0_3 _ _ (rd_L2 l0_1 x3_2) 0 x3_2 true _ ?side1 ?side2 ?side3 ?side4 ?side5 ?side6 ?side7 ?side8 A18.out).mono ?_
            (case side1 => exact zC (Kd.C_below HR0_1.out HB.out))
            (case side2 => exact HC0_1.out)
            (case side3 => exact zC (Kd.C_below HR0_2.out HB.out))
            (case side4 => exact HC0_2.out)
            (case side5 => exact zC (Kd.C_below HR0_3.out HB.out))
            (case side6 => exact HC0_3.out)
            (case side7 => exact zC (Kd.C_below HR123_0.out HB.out))
            (case side8 => exact HC123_0.out)
            rintro e w24 ⟨rfl, hb⟩
            refine ⟨_, rfl, ?_⟩
            replace BK120 := zBB BK120 hb; replace HB := zLB (zL1 HB.out GE120.out) hb
            clear hb
            refine hK.out _ _ ⟨(bC BK120.out 0).trans rfl, (bC BK120.out 1).trans rfl, (bC BK120.out 2).trans rfl, (bC BK120.out 3).trans rfl, (zh HB.out hw123_0), (zh HB.out hw125_0)⟩ fun hHeld => ?_; clear hK K
            refine nZ 41 ?_
            refine pY 8 42 (fB 20 511) HT_.out ?_
            refine pY 9 43 (fB 20 1023) HT_.out ?_
            refine pY 11 45 (fB 20 3071) HT_.out ?_
            refine pY 13 47 (fB 20 11263) HT_.out ?_
            refine pY 16 50 (fB 20 76799) HT_.out ?_
            refine tY 10 44 (fB 20 77823) HT_.out HW_.out hHeld ?_
            refine tY 12 46 (fB 20 81919) HT_.out HW_.out hHeld ?_
            refine pY 14 48 (fB 20 98303) HT_.out ?_
            refine tY 15 49 (fB 20 131071) HT_.out HW_.out hHeld ?_
            refine oN 17 51 (fB 20 262143) HT_.out fun K hK => ?_
            refine gS Try.func70 #[.agg #[.int .i64 a0_0, .slice (some ad123) l0_1.length c0_1, .slice (some ad125) l0_2.length c0_2, .slice A0_3 l0_3.length c0_3], .slice A125_0 (rd_L2 l0_2 x3_2).length c125_0, .int .i64 1, .int .i64 x3_2] ?_
            with_reducible refine (impl_belongs.calls k2 a0_0 _ _ l0_1 _ _ l0_2 _ _ l0_3 _ _ (rd_L2 l0_2 x3_2) 1 x3_2 true _ ?side1 ?side2 ?side3 ?side4 ?side5 ?side6 ?side7 ?side8 A21.out).mono ?_
            (case side1 => exact zC (Kd.C_below HR0_1.out HB.out))
            (case side2 => exact HC0_1.out)
            (case side3 => exact zC (Kd.C_below HR0_2.out HB.out))
            (case side4 => exact HC0_2.out)
            (case side5 => exact zC (Kd.C_below HR0_3.out HB.out))
            (case side6 => exact HC0_3.out)
            (case side7 => exact zC (Kd.C_below HR125_0.out HB.out))
            (case side8 => exact HC125_0.out)
            rintro e w25 ⟨rfl, hb⟩
            refine ⟨_, rfl, ?_⟩
            replace BK120 := zBB BK120 hb; replace HB := zLB (zL1 HB.out GE120.out) hb
            clear hb
            refine hK.out _ _ ⟨(bC BK120.out 0).trans rfl, (bC BK120.out 1).trans rfl, (bC BK120.out 2).trans rfl, (bC BK120.out 3).trans rfl, (zh HB.out hw123_0), (zh HB.out hw125_0)⟩ fun hHeld => ?_; clear hK K
            refine nZ 51 ?_
            refine pY 18 52 (fB 20 524287) HT_.out ?_
            refine pY 19 53 (fB 20 1048575) HT_.out ?_
            refine done_ (done_of HT_.out (by kernel_rfl)) ?_
            try go_wp2
            go_roundg k2
            case measure => have := HJ1.out; have := HK2.out; omega
            case rel => exact ⟨(wrap64 (x3_2 + 1)), zV, H', ⟨by have := HJ1.out; have := HK2.out; omega⟩, ⟨zB BK120.out⟩, ⟨zL1 HB.out GE120.out⟩⟩
           ·obtain rfl := Bool.eq_false_iff.mpr c22
            rw [if_neg zn] at H
            obtain rfl := Option.some.inj H
            try go_wp2
            replace BK120 := zBD BK120; replace HB := zLD HB
            have p123 : 0 ≤ (x3_2 : Int) := zD
            have q123 : x3_2 < (l0_1.length : Int) := zD
            obtain ⟨ad123, A123_0, c123_0, e123, hx123_0, hl123_0, hi123_0⟩ := at_L2 HR0_1.out x3_2 p123 q123
            have hw123_0 := hx123_0
            cases e123
            replace hx123_0 := zh HB.out hx123_0
            have HR123_0 := aM hi123_0
            have HC123_0 := aM hl123_0
            clear hi123_0 hl123_0
            replace p123 := eq_true p123
            replace q123 := eq_true q123
            have p125 : 0 ≤ (x3_2 : Int) := zD
            have q125 : x3_2 < (l0_2.length : Int) := zD
            obtain ⟨ad125, A125_0, c125_0, e125, hx125_0, hl125_0, hi125_0⟩ := at_L2 HR0_2.out x3_2 p125 q125
            have hw125_0 := hx125_0
            cases e125
            replace hx125_0 := zh HB.out hx125_0
            have HR125_0 := aM hi125_0
            have HC125_0 := aM hl125_0
            clear hi125_0 hl125_0
            replace p125 := eq_true p125
            replace q125 := eq_true q125
            refine start_ (n := 20) (S := fun w' => w'.cell? ⟨gb120, 0, none⟩ = some (.int .i64 a0_0) ∧ w'.cell? ⟨gb120, 1, none⟩ = some (.slice (some ad123) l0_1.length c0_1) ∧ w'.cell? ⟨gb120, 2, none⟩ = some (.slice (some ad125) l0_2.length c0_2) ∧ w'.cell? ⟨gb120, 3, none⟩ = some (.slice A0_3 l0_3.length c0_3) ∧ w'.cell? (ad123.add (x3_2).toNat) = some (.slice A123_0 (rd_L2 l0_1 x3_2).length c123_0) ∧ w'.cell? (ad125.add (x3_2).toNat) = some (.slice A125_0 (rd_L2 l0_2 x3_2).length c125_0)) (ds := []) (fB 20 0) (by kernel_rfl) rfl rfl ⟨(bC BK120.out 0).trans rfl, (bC BK120.out 1).trans rfl, (bC BK120.out 2).trans rfl, (bC BK120.out 3).trans rfl, (zh HB.out hw123_0), (zh HB.out hw125_0)⟩ (fun hHeld => ?_); refine with_tabW impl_WheelOk.tab6 impl_WheelOk.bits6 (fun HT_ HW_ => ?_)
            generalize wr.drew = w26 at BK120 HB HR123_0 HR125_0 hx123_0 hx125_0 hHeld ⊢
            refine pY 1 35 (fB 20 2) HT_.out ?_
            refine pY 3 37 (fB 20 10) HT_.out ?_
            refine pY 6 40 (fB 20 74) HT_.out ?_
            refine tY 0 34 (fB 20 75) HT_.out HW_.out hHeld ?_
            refine tY 2 36 (fB 20 79) HT_.out HW_.out hHeld ?_
            refine pY 4 38 (fB 20 95) HT_.out ?_
            refine tY 5 39 (fB 20 127) HT_.out HW_.out hHeld ?_
            refine oN 7 41 (fB 20 255) HT_.out fun K hK => ?_
            refine gS Try.func70 #[.agg #[.int .i64 a0_0, .slice (some ad123) l0_1.length c0_1, .slice (some ad125) l0_2.length c0_2, .slice A0_3 l0_3.length c0_3], .slice A123_0 (rd_L2 l0_1 x3_2).length c123_0, .int .i64 0, .int .i64 x3_2] ?_
            with_reducible refine (impl_belongs.calls k2 a0_0 _ _ l0_1 _ _ l0_2 _ _ l0_3 _ _ (rd_L2 l0_1 x3_2) 0 x3_2 true _ ?side1 ?side2 ?side3 ?side4 ?side5 ?side6 ?side7 ?side8 A18.out).mono ?_
            (case side1 => exact zC (Kd.C_below HR0_1.out HB.out))
            (case side2 => exact HC0_1.out)
            (case side3 => exact zC (Kd.C_below HR0_2.out HB.out))
            (case side4 => exact HC0_2.out)
            (case side5 => exact zC (Kd.C_below HR0_3.out HB.out))
            (case side6 => exact HC0_3.out)
            (case side7 => exact zC (Kd.C_below HR123_0.out HB.out))
            (case side8 => exact HC123_0.out)
            rintro e w27 ⟨rfl, hb⟩
            refine ⟨_, rfl, ?_⟩
            replace BK120 := zBB BK120 hb; replace HB := zLB (zL1 HB.out GE120.out) hb
            clear hb
            refine hK.out _ _ ⟨(bC BK120.out 0).trans rfl, (bC BK120.out 1).trans rfl, (bC BK120.out 2).trans rfl, (bC BK120.out 3).trans rfl, (zh HB.out hw123_0), (zh HB.out hw125_0)⟩ fun hHeld => ?_; clear hK K
            refine nZ 41 ?_
            refine pY 8 42 (fB 20 511) HT_.out ?_
            refine pY 9 43 (fB 20 1023) HT_.out ?_
            refine pY 11 45 (fB 20 3071) HT_.out ?_
            refine pY 13 47 (fB 20 11263) HT_.out ?_
            refine pY 16 50 (fB 20 76799) HT_.out ?_
            refine tY 10 44 (fB 20 77823) HT_.out HW_.out hHeld ?_
            refine tY 12 46 (fB 20 81919) HT_.out HW_.out hHeld ?_
            refine pY 14 48 (fB 20 98303) HT_.out ?_
            refine tY 15 49 (fB 20 131071) HT_.out HW_.out hHeld ?_
            refine oN 17 51 (fB 20 262143) HT_.out fun K hK => ?_
            refine gS Try.func70 #[.agg #[.int .i64 a0_0, .slice (some ad123) l0_1.length c0_1, .slice (some ad125) l0_2.length c0_2, .slice A0_3 l0_3.length c0_3], .slice A125_0 (rd_L2 l0_2 x3_2).length c125_0, .int .i64 1, .int .i64 x3_2] ?_
            with_reducible refine (impl_belongs.calls k2 a0_0 _ _ l0_1 _ _ l0_2 _ _ l0_3 _ _ (rd_L2 l0_2 x3_2) 1 x3_2 false _ ?side1 ?side2 ?side3 ?side4 ?side5 ?side6 ?side7 ?side8 A21.out).mono ?_
            (case side1 => exact zC (Kd.C_below HR0_1.out HB.out))
            (case side2 => exact HC0_1.out)
            (case side3 => exact zC (Kd.C_below HR0_2.out HB.out))
            (case side4 => exact HC0_2.out)
            (case side5 => exact zC (Kd.C_below HR0_3.out HB.out))
            (case side6 => exact HC0_3.out)
            (case side7 => exact zC (Kd.C_below HR125_0.out HB.out))
            (case side8 => exact HC125_0.out)
            rintro e w28 ⟨rfl, hb⟩
            refine ⟨_, rfl, ?_⟩
            replace BK120 := zBB BK120 hb; replace HB := zLB (zL1 HB.out GE120.out) hb
            clear hb
            refine hK.out _ _ ⟨(bC BK120.out 0).trans rfl, (bC BK120.out 1).trans rfl, (bC BK120.out 2).trans rfl, (bC BK120.out 3).trans rfl, (zh HB.out hw123_0), (zh HB.out hw125_0)⟩ fun hHeld => ?_; clear hK K
            refine nZ 51 ?_
            refine pY 18 52 (fB 20 524287) HT_.out ?_
            refine pY 19 53 (fB 20 1048575) HT_.out ?_
            refine done_ (done_of HT_.out (by kernel_rfl)) ?_
            try go_wp2
            go_ret
            exact ⟨zW, zL1 HB.out GE120.out⟩
          ·rw [if_neg c20] at H
           exact absurd H (by simp)
         ·obtain rfl := Bool.eq_false_iff.mpr c19
          rw [if_neg zn] at H
          obtain rfl := Option.some.inj H
          try go_wp2
          replace BK120 := zBD BK120; replace HB := zLD HB
          have p123 : 0 ≤ (x3_2 : Int) := zD
          have q123 : x3_2 < (l0_1.length : Int) := zD
          obtain ⟨ad123, A123_0, c123_0, e123, hx123_0, hl123_0, hi123_0⟩ := at_L2 HR0_1.out x3_2 p123 q123
          have hw123_0 := hx123_0
          cases e123
          replace hx123_0 := zh HB.out hx123_0
          have HR123_0 := aM hi123_0
          have HC123_0 := aM hl123_0
          clear hi123_0 hl123_0
          replace p123 := eq_true p123
          replace q123 := eq_true q123
          refine start_ (n := 20) (S := fun w' => w'.cell? ⟨gb120, 0, none⟩ = some (.int .i64 a0_0) ∧ w'.cell? ⟨gb120, 1, none⟩ = some (.slice (some ad123) l0_1.length c0_1) ∧ w'.cell? ⟨gb120, 2, none⟩ = some (.slice A0_2 l0_2.length c0_2) ∧ w'.cell? ⟨gb120, 3, none⟩ = some (.slice A0_3 l0_3.length c0_3) ∧ w'.cell? (ad123.add (x3_2).toNat) = some (.slice A123_0 (rd_L2 l0_1 x3_2).length c123_0)) (ds := []) (fB 20 0) (by kernel_rfl) rfl rfl ⟨(bC BK120.out 0).trans rfl, (bC BK120.out 1).trans rfl, (bC BK120.out 2).trans rfl, (bC BK120.out 3).trans rfl, (zh HB.out hw123_0)⟩ (fun hHeld => ?_); refine with_tabW impl_WheelOk.tab6 impl_WheelOk.bits6 (fun HT_ HW_ => ?_)
          generalize wr.drew = w29 at BK120 HB HR123_0 hx123_0 hHeld ⊢
          refine pY 1 35 (fB 20 2) HT_.out ?_
          refine pY 3 37 (fB 20 10) HT_.out ?_
          refine pY 6 40 (fB 20 74) HT_.out ?_
          refine tY 0 34 (fB 20 75) HT_.out HW_.out hHeld ?_
          refine tY 2 36 (fB 20 79) HT_.out HW_.out hHeld ?_
          refine pY 4 38 (fB 20 95) HT_.out ?_
          refine tY 5 39 (fB 20 127) HT_.out HW_.out hHeld ?_
          refine oN 7 41 (fB 20 255) HT_.out fun K hK => ?_
          refine gS Try.func70 #[.agg #[.int .i64 a0_0, .slice (some ad123) l0_1.length c0_1, .slice A0_2 l0_2.length c0_2, .slice A0_3 l0_3.length c0_3], .slice A123_0 (rd_L2 l0_1 x3_2).length c123_0, .int .i64 0, .int .i64 x3_2] ?_
          with_reducible refine (impl_belongs.calls k2 a0_0 _ _ l0_1 _ _ l0_2 _ _ l0_3 _ _ (rd_L2 l0_1 x3_2) 0 x3_2 false _ ?side1 ?side2 ?side3 ?side4 ?side5 ?side6 ?side7 ?side8 A18.out).mono ?_
          (case side1 => exact zC (Kd.C_below HR0_1.out HB.out))
          (case side2 => exact HC0_1.out)
          (case side3 => exact zC (Kd.C_below HR0_2.out HB.out))
          (case side4 => exact HC0_2.out)
          (case side5 => exact zC (Kd.C_below HR0_3.out HB.out))
          (case side6 => exact HC0_3.out)
          (case side7 => exact zC (Kd.C_below HR123_0.out HB.out))
          (case side8 => exact HC123_0.out)
          rintro e w30 ⟨rfl, hb⟩
          refine ⟨_, rfl, ?_⟩
          replace BK120 := zBB BK120 hb; replace HB := zLB (zL1 HB.out GE120.out) hb
          clear hb
          refine hK.out _ _ ⟨(bC BK120.out 0).trans rfl, (bC BK120.out 1).trans rfl, (bC BK120.out 2).trans rfl, (bC BK120.out 3).trans rfl, (zh HB.out hw123_0)⟩ fun hHeld => ?_; clear hK K
          refine nZ 41 ?_
          refine pY 8 42 (fB 20 511) HT_.out ?_
          refine pY 9 43 (fB 20 1023) HT_.out ?_
          refine pN 10 44 (fB 20 2047) HT_.out ?_
          refine pN 11 45 (fB 20 4095) HT_.out ?_
          refine pN 12 46 (fB 20 8191) HT_.out ?_
          refine pN 13 47 (fB 20 16383) HT_.out ?_
          refine pN 14 48 (fB 20 32767) HT_.out ?_
          refine pN 15 49 (fB 20 65535) HT_.out ?_
          refine pN 16 50 (fB 20 131071) HT_.out ?_
          refine pN 17 51 (fB 20 262143) HT_.out ?_
          refine pN 18 52 (fB 20 524287) HT_.out ?_
          refine pY 19 53 (fB 20 1048575) HT_.out ?_
          refine done_ (done_of HT_.out (by kernel_rfl)) ?_
          try go_wp2
          go_ret
          exact ⟨zW, zL1 HB.out GE120.out⟩
        ·rw [if_neg c17] at H
         exact absurd H (by simp)
       ·rw [if_neg c16] at H
        exact absurd H (by simp)
      ·rw [if_neg c15] at H
       have c15b0 := dF c15
       clear c15
       obtain ⟨t127, A31, H⟩ := zO H; try dsimp only at H
       have H' := aM H
       clear H
       have hcz32 := zc4 BK120.out
       have hfz32 := zf4 BK120.out
       go_wp2_with (first | ((with_reducible refine gC 25 rfl ?_); refine gL 55 Try.func25 #[.agg #[.int .i64 a0_0, .slice A0_1 l0_1.length c0_1, .slice A0_2 l0_2.length c0_2, .slice A0_3 l0_3.length c0_3]] ?_; (with_reducible refine (impl_Timers.calls k2 a0_0 _ _ l0_1 _ _ l0_2 _ _ l0_3 t127 _ ?side1 ?side2 ?side3 ?side4 ?side5 ?side6 A31.out).mono ?_); (case side1 => exact zC (Kd.C_below HR0_1.out HB.out)); (case side2 => exact HC0_1.out); (case side3 => exact zC (Kd.C_below HR0_2.out HB.out)); (case side4 => exact HC0_2.out); (case side5 => exact zC (Kd.C_below HR0_3.out HB.out)); (case side6 => exact HC0_3.out); rintro e w33 ⟨v128, rfl, ho0, hb⟩; refine ⟨_, rfl, ?_⟩; have HO129 := aM (Kd.R_lower ho0 (below_size (zL1 HB.out GE120.out))); replace BK120 := zBB BK120 hb; replace HB := zLB (zL1 HB.out GE120.out) hb; clear ho0 hb; obtain ⟨Ao34, co34, eo34⟩ := Kd.R_slice HO129.out; subst eo34))
       go_loopg [58] k2 (fun kq v58 w' => ∃ (x58_3 : Int), v58 = .int .i64 x58_3 ∧ Aside0 (impl_WheelOk.l1 kq t127 t127 (t127.length : Int) x58_3 = some r) ∧ Aside0 (kq ≤ k2) ∧ Aside0 (Kd.R k46 46 w' w.heap.size (fun _ => True) (.slice Ao34 t127.length co34) t127) ∧ Aside0 (Kd.R k46 46 w' w.heap.size (fun _ => True) (.slice Ao34 t127.length co34) t127) ∧ Aside0 (w'.heap[gb120]? = some (.cells #[.int .i64 a0_0, (.slice A0_1 l0_1.length c0_1), (.slice A0_2 l0_2.length c0_2), (.slice A0_3 l0_3.length c0_3)] 25 (0, 0))) ∧ Aside0 (Below w.heap.size w w'))
       case atStart => exact ⟨(0), zV, H', ⟨Nat.le_refl _⟩, ⟨zR HO129.out⟩, ⟨zR HO129.out⟩, ⟨zB BK120.out⟩, ⟨zL1 HB.out GE120.out⟩⟩
       case round =>
        clear H'
        try clear c1
        try clear p1
        try clear q1
        try clear hx1
        try clear c2
        try clear p2
        try clear p6
        try clear c7
        try clear c12
        try clear p12
        try clear q12
        try clear hx12
        try clear c15
        try clear c15b0
        try clear c16
        try clear c17
        try clear c19
        try clear c20
        try clear c22
        try clear c25
        try clear hcz32; try clear hfz32
        try clear hx123_0
        try clear hx125_0
        try clear p123
        try clear p125
        try clear q123
        try clear q125
        try clear BK120
        obtain ⟨x58_3, rfl, HA, HK3, HO_4, HO_56, BK120, HB⟩ := hrel
        cases gk with
        | zero => exact absurd HA.out (by simp [impl_WheelOk.l1])
        | succ k3 =>
         have H := HA.out
         clear HA
         simp only [impl_WheelOk.l1] at H
         by_cases c35 : x58_3 < (t127.length : Int)
         ·rw [if_pos c35] at H
          have c35b0 := dT c35
          clear c35
          by_cases c36 : 0 ≤ x58_3
          ·rw [if_pos c36] at H
           have c36b0 := dT c36
           clear c36
           by_cases c37 : x58_3 < (t127.length : Int)
           ·rw [if_pos c37] at H
            have c37b0 := dT c37
            clear c37
            obtain ⟨t132, A38, H⟩ := zO H; try dsimp only at H
            by_cases c39 : t132 = x58_3
            ·rw [if_pos c39] at H
             obtain ⟨c39b0, c39b1⟩ := zt c39
             clear c39
             have H' := aM H
             clear H
             have p130 : 0 ≤ (x58_3 : Int) := zD
             have q130 : x58_3 < (t127.length : Int) := zD
             obtain ⟨ad130, e130, hx130_0, hx130_1, hx130_2⟩ := at_T46 (Kd.R_reads' HO_56.out).2.2 x58_3 p130 q130
             cases e130
             replace p130 := eq_true p130
             replace q130 := eq_true q130
             go_wp2_with (first | ((with_reducible refine gD 6 rfl ?_); (try (refine gate_guard (by rfl) ?_; dsimp only)); refine box_event ?hg (N := 6) ?hd (cs := #[.int .i64 0, .int .i64 0, .int .i64 0]) (t := 46) ?hr ?_; (case hd => rfl); (case hg => rfl); (case hr => first | (go_simp; done) | (go_simp; rfl)); intro gb131 hg w40 hbox hb; replace HO_4 := aM (Kd.R_below (Kd.R_elderB (zR HO_4.out) gb131 (Nat.le_of_eq hg.symm)) hb); replace HO_56 := aM (Kd.R_below (Kd.R_elderB (zR HO_56.out) gb131 (Nat.le_of_eq hg.symm)) hb); have BK131 := aM hbox; have GW131 := aM (zg (zL1 HB.out GE120.out) hg : w.heap.size ≤ gb131); have GE131 := GW131; replace HB := zLB (zL1 HB.out GE120.out) hb; have NB120_131 := aM (zN BK120.out hg : gb120 ≠ gb131); have NB131_120 := aM (zM BK120.out hg : gb131 ≠ gb120); replace BK120 := zBB BK120 hb; clear hb hbox hg; have hnb41 := NB131_120.out; have hnc41 := NB120_131.out; have hcz42_0 : w40.cell? ⟨gb131, 0, none⟩ = some (.int .i64 0) := (bC BK131.out 0).trans rfl; have hcz42_1 : w40.cell? ⟨gb131, 1, none⟩ = some (.int .i64 0) := (bC BK131.out 1).trans rfl; have hcz42_2 : w40.cell? ⟨gb131, 2, none⟩ = some (.int .i64 0) := (bC BK131.out 2).trans rfl; have hfz42_0 := blk_frozen BK131.out 0; have hfz42_1 := blk_frozen BK131.out 1; have hfz42_2 := blk_frozen BK131.out 2) | ((with_reducible refine gC 71 rfl ?_); refine gL 66 Try.func71 #[.slice (some ad130) t127.length co34, .int .i64 ((rd_T46 t127 x58_3).f0)] ?_; (with_reducible refine (impl_timerAt.calls k3 _ _ t127 ((rd_T46 t127 x58_3).f0) t132 _ ?side1 ?side2 A38.out).mono ?_); (case side1 => refine (Kd.R_reads' (e := 46) (base := w.heap.size) (ok := fun k_ => (True ∧ k_ ≠ gb131)) (n := t127.length) (c := co34) ?_).2.2; exact (by (with_reducible repeat (first | apply Kd.R_alloc | apply Kd.R_drewN | apply Kd.R_drew)); exact (Kd.R_mono (Kd.R_far (p := ⟨gb131, 2, none⟩) (Kd.R_far (p := ⟨gb131, 1, none⟩) (Kd.R_far (p := ⟨gb131, 0, none⟩) (Kd.R_mono HO_4.out (fun k_ hk => (⟨hk, hk.2⟩ : _ ∧ k_ ≠ gb131))) (fun _ hk => hk.2) (.int .i64 ((rd_T46 t127 x58_3).f0))) (fun _ hk => hk.2) (.int .i64 ((rd_T46 t127 x58_3).f1))) (fun _ hk => hk.2) (.int .i64 ((rd_T46 t127 x58_3).f2))) (fun _ h_ => h_.1)))); (case side2 => exact (Kd.R_reads' HO_4.out).2.1); rintro e w43 ⟨rfl, hb⟩; refine ⟨_, rfl, ?_⟩; replace HO_4 := aM (Kd.R_below (by (with_reducible repeat (first | apply Kd.R_alloc | apply Kd.R_drewN | apply Kd.R_drew)); exact (Kd.R_mono (Kd.R_far (p := ⟨gb131, 2, none⟩) (Kd.R_far (p := ⟨gb131, 1, none⟩) (Kd.R_far (p := ⟨gb131, 0, none⟩) (Kd.R_mono HO_4.out (fun k_ hk => (⟨hk, hk.2⟩ : _ ∧ k_ ≠ gb131))) (fun _ hk => hk.2) (.int .i64 ((rd_T46 t127 x58_3).f0))) (fun _ hk => hk.2) (.int .i64 ((rd_T46 t127 x58_3).f1))) (fun _ hk => hk.2) (.int .i64 ((rd_T46 t127 x58_3).f2))) (fun _ h_ => h_.1))) hb); replace HO_56 := aM (Kd.R_below (by (with_reducible repeat (first | apply Kd.R_alloc | apply Kd.R_drewN | apply Kd.R_drew)); exact (Kd.R_mono (Kd.R_far (p := ⟨gb131, 2, none⟩) (Kd.R_far (p := ⟨gb131, 1, none⟩) (Kd.R_far (p := ⟨gb131, 0, none⟩) (Kd.R_mono HO_56.out (fun k_ hk => (⟨hk, hk.2⟩ : _ ∧ k_ ≠ gb131))) (fun _ hk => hk.2) (.int .i64 ((rd_T46 t127 x58_3).f0))) (fun _ hk => hk.2) (.int .i64 ((rd_T46 t127 x58_3).f1))) (fun _ hk => hk.2) (.int .i64 ((rd_T46 t127 x58_3).f2))) (fun _ h_ => h_.1))) hb); replace BK120 := aM (bB (g := gb120) (o := .cells #[.int .i64 a0_0, .slice A0_1 l0_1.length c0_1, .slice A0_2 l0_2.length c0_2, .slice A0_3 l0_3.length c0_3] 25 (0, 0)) (by (with_reducible repeat (first | refine bN ?_ _ | refine bD ?_ | refine bA ?_ _)); refine blk_far ?_ NB120_131.out _; (with_reducible repeat (first | refine bN ?_ _ | refine bD ?_ | refine bA ?_ _)); refine blk_far ?_ NB120_131.out _; (with_reducible repeat (first | refine bN ?_ _ | refine bD ?_ | refine bA ?_ _)); refine blk_far ?_ NB120_131.out _; exact zB BK120.out) hb); replace BK131 := aM (bB (g := gb131) (o := .cells #[.int .i64 ((rd_T46 t127 x58_3).f0), .int .i64 ((rd_T46 t127 x58_3).f1), .int .i64 ((rd_T46 t127 x58_3).f2)] 46 (0, 0)) (by (with_reducible repeat (first | refine bN ?_ _ | refine bD ?_ | refine bA ?_ _)); refine blk_put (cs := #[.int .i64 ((rd_T46 t127 x58_3).f0), .int .i64 ((rd_T46 t127 x58_3).f1), .int .i64 0]) ?_ 2 _ rfl; (with_reducible repeat (first | refine bN ?_ _ | refine bD ?_ | refine bA ?_ _)); refine blk_put (cs := #[.int .i64 ((rd_T46 t127 x58_3).f0), .int .i64 0, .int .i64 0]) ?_ 1 _ rfl; (with_reducible repeat (first | refine bN ?_ _ | refine bD ?_ | refine bA ?_ _)); refine blk_put (cs := #[.int .i64 0, .int .i64 0, .int .i64 0]) ?_ 0 _ rfl; exact zB BK131.out) hb); replace HB := zLB (zL2 HB.out GE120.out GE131.out) hb; clear hb))
             go_roundg k3
             case measure => have := HJ1.out; have := HK2.out; have := HK3.out; omega
             case rel => exact ⟨(wrap64 (x58_3 + 1)), zV, H', ⟨by have := HJ1.out; have := HK2.out; have := HK3.out; omega⟩, ⟨zRm HO_4.out (fun _ hk => trivial)⟩, ⟨zRm HO_56.out (fun _ hk => trivial)⟩, ⟨zB BK120.out⟩, ⟨zL2 HB.out GE120.out GE131.out⟩⟩
            ·rw [if_neg c39] at H
             obtain ⟨c39b0, c39b1⟩ := zf c39
             obtain rfl := Option.some.inj H
             have p130 : 0 ≤ (x58_3 : Int) := zD
             have q130 : x58_3 < (t127.length : Int) := zD
             obtain ⟨ad130, e130, hx130_0, hx130_1, hx130_2⟩ := at_T46 (Kd.R_reads' HO_56.out).2.2 x58_3 p130 q130
             cases e130
             replace p130 := eq_true p130
             replace q130 := eq_true q130
             go_wp2_with (first | ((with_reducible refine gD 6 rfl ?_); (try (refine gate_guard (by rfl) ?_; dsimp only)); refine box_event ?hg (N := 6) ?hd (cs := #[.int .i64 0, .int .i64 0, .int .i64 0]) (t := 46) ?hr ?_; (case hd => rfl); (case hg => rfl); (case hr => first | (go_simp; done) | (go_simp; rfl)); intro gb131 hg w44 hbox hb; replace HO_4 := aM (Kd.R_below (Kd.R_elderB (zR HO_4.out) gb131 (Nat.le_of_eq hg.symm)) hb); replace HO_56 := aM (Kd.R_below (Kd.R_elderB (zR HO_56.out) gb131 (Nat.le_of_eq hg.symm)) hb); have BK131 := aM hbox; have GW131 := aM (zg (zL1 HB.out GE120.out) hg : w.heap.size ≤ gb131); have GE131 := GW131; replace HB := zLB (zL1 HB.out GE120.out) hb; have NB120_131 := aM (zN BK120.out hg : gb120 ≠ gb131); have NB131_120 := aM (zM BK120.out hg : gb131 ≠ gb120); replace BK120 := zBB BK120 hb; clear hb hbox hg; have hnb45 := NB131_120.out; have hnc45 := NB120_131.out; have hcz46_0 : w44.cell? ⟨gb131, 0, none⟩ = some (.int .i64 0) := (bC BK131.out 0).trans rfl; have hcz46_1 : w44.cell? ⟨gb131, 1, none⟩ = some (.int .i64 0) := (bC BK131.out 1).trans rfl; have hcz46_2 : w44.cell? ⟨gb131, 2, none⟩ = some (.int .i64 0) := (bC BK131.out 2).trans rfl; have hfz46_0 := blk_frozen BK131.out 0; have hfz46_1 := blk_frozen BK131.out 1; have hfz46_2 := blk_frozen BK131.out 2) | ((with_reducible refine gC 71 rfl ?_); refine gL 66 Try.func71 #[.slice (some ad130) t127.length co34, .int .i64 ((rd_T46 t127 x58_3).f0)] ?_; (with_reducible refine (impl_timerAt.calls k3 _ _ t127 ((rd_T46 t127 x58_3).f0) t132 _ ?side1 ?side2 A38.out).mono ?_); (case side1 => refine (Kd.R_reads' (e := 46) (base := w.heap.size) (ok := fun k_ => (True ∧ k_ ≠ gb131)) (n := t127.length) (c := co34) ?_).2.2; exact (by (with_reducible repeat (first | apply Kd.R_alloc | apply Kd.R_drewN | apply Kd.R_drew)); exact (Kd.R_mono (Kd.R_far (p := ⟨gb131, 2, none⟩) (Kd.R_far (p := ⟨gb131, 1, none⟩) (Kd.R_far (p := ⟨gb131, 0, none⟩) (Kd.R_mono HO_4.out (fun k_ hk => (⟨hk, hk.2⟩ : _ ∧ k_ ≠ gb131))) (fun _ hk => hk.2) (.int .i64 ((rd_T46 t127 x58_3).f0))) (fun _ hk => hk.2) (.int .i64 ((rd_T46 t127 x58_3).f1))) (fun _ hk => hk.2) (.int .i64 ((rd_T46 t127 x58_3).f2))) (fun _ h_ => h_.1)))); (case side2 => exact (Kd.R_reads' HO_4.out).2.1); rintro e w47 ⟨rfl, hb⟩; refine ⟨_, rfl, ?_⟩; replace HO_4 := aM (Kd.R_below (by (with_reducible repeat (first | apply Kd.R_alloc | apply Kd.R_drewN | apply Kd.R_drew)); exact (Kd.R_mono (Kd.R_far (p := ⟨gb131, 2, none⟩) (Kd.R_far (p := ⟨gb131, 1, none⟩) (Kd.R_far (p := ⟨gb131, 0, none⟩) (Kd.R_mono HO_4.out (fun k_ hk => (⟨hk, hk.2⟩ : _ ∧ k_ ≠ gb131))) (fun _ hk => hk.2) (.int .i64 ((rd_T46 t127 x58_3).f0))) (fun _ hk => hk.2) (.int .i64 ((rd_T46 t127 x58_3).f1))) (fun _ hk => hk.2) (.int .i64 ((rd_T46 t127 x58_3).f2))) (fun _ h_ => h_.1))) hb); replace HO_56 := aM (Kd.R_below (by (with_reducible repeat (first | apply Kd.R_alloc | apply Kd.R_drewN | apply Kd.R_drew)); exact (Kd.R_mono (Kd.R_far (p := ⟨gb131, 2, none⟩) (Kd.R_far (p := ⟨gb131, 1, none⟩) (Kd.R_far (p := ⟨gb131, 0, none⟩) (Kd.R_mono HO_56.out (fun k_ hk => (⟨hk, hk.2⟩ : _ ∧ k_ ≠ gb131))) (fun _ hk => hk.2) (.int .i64 ((rd_T46 t127 x58_3).f0))) (fun _ hk => hk.2) (.int .i64 ((rd_T46 t127 x58_3).f1))) (fun _ hk => hk.2) (.int .i64 ((rd_T46 t127 x58_3).f2))) (fun _ h_ => h_.1))) hb); replace BK120 := aM (bB (g := gb120) (o := .cells #[.int .i64 a0_0, .slice A0_1 l0_1.length c0_1, .slice A0_2 l0_2.length c0_2, .slice A0_3 l0_3.length c0_3] 25 (0, 0)) (by (with_reducible repeat (first | refine bN ?_ _ | refine bD ?_ | refine bA ?_ _)); refine blk_far ?_ NB120_131.out _; (with_reducible repeat (first | refine bN ?_ _ | refine bD ?_ | refine bA ?_ _)); refine blk_far ?_ NB120_131.out _; (with_reducible repeat (first | refine bN ?_ _ | refine bD ?_ | refine bA ?_ _)); refine blk_far ?_ NB120_131.out _; exact zB BK120.out) hb); replace BK131 := aM (bB (g := gb131) (o := .cells #[.int .i64 ((rd_T46 t127 x58_3).f0), .int .i64 ((rd_T46 t127 x58_3).f1), .int .i64 ((rd_T46 t127 x58_3).f2)] 46 (0, 0)) (by (with_reducible repeat (first | refine bN ?_ _ | refine bD ?_ | refine bA ?_ _)); refine blk_put (cs := #[.int .i64 ((rd_T46 t127 x58_3).f0), .int .i64 ((rd_T46 t127 x58_3).f1), .int .i64 0]) ?_ 2 _ rfl; (with_reducible repeat (first | refine bN ?_ _ | refine bD ?_ | refine bA ?_ _)); refine blk_put (cs := #[.int .i64 ((rd_T46 t127 x58_3).f0), .int .i64 0, .int .i64 0]) ?_ 1 _ rfl; (with_reducible repeat (first | refine bN ?_ _ | refine bD ?_ | refine bA ?_ _)); refine blk_put (cs := #[.int .i64 0, .int .i64 0, .int .i64 0]) ?_ 0 _ rfl; exact zB BK131.out) hb); replace HB := zLB (zL2 HB.out GE120.out GE131.out) hb; clear hb))
             go_ret
             exact ⟨zW, zL2 HB.out GE120.out GE131.out⟩
           ·rw [if_neg c37] at H
            exact absurd H (by simp)
          ·rw [if_neg c36] at H
           exact absurd H (by simp)
         ·rw [if_neg c35] at H
          have c35b0 := dF c35
          clear c35
          obtain rfl := Option.some.inj H
          go_wp2
          go_ret
          exact ⟨zW, zL1 HB.out GE120.out⟩

open Go.Proofs.YtggenhomnbnodaaW.PrintWords renaming blk_drewN → bN, blk_drew → bD, blk_alloc → bA, blk_cell → bC, blk_below → bB, below_set → bS
mutual
def spec_Timers.l0 : Nat → List (S46) → Int → Int → List (List (S46)) → List (List (S46)) → List (S46) → Option ((List (S46)))
 | 0, _, _, _, _, _, _ => none
 | k + 1, x3, x4, x134000, x134001, x134002, x134003 => if x4 < (x134001.length : Int) then (if 0 ≤ x4 then (if x3.length + (rd_L2 x134001 x4).length < 5864062014805 then (spec_Timers.l0 k (x3 ++ (rd_L2 x134001 x4)) (wrap64 (x4 + 1)) x134000 x134001 x134002 x134003) else (none)) else (none)) else (spec_Timers.l1 k x3 0 x134000 x134001 x134002 x134003)
def spec_Timers.l1 : Nat → List (S46) → Int → Int → List (List (S46)) → List (List (S46)) → List (S46) → Option ((List (S46)))
 | 0, _, _, _, _, _, _ => none
 | k + 1, x3, x5, x134000, x134001, x134002, x134003 => if x5 < (x134002.length : Int) then (if 0 ≤ x5 then (if x3.length + (rd_L2 x134002 x5).length < 5864062014805 then (spec_Timers.l1 k (x3 ++ (rd_L2 x134002 x5)) (wrap64 (x5 + 1)) x134000 x134001 x134002 x134003) else (none)) else (none)) else (if x3.length + x134003.length < 5864062014805 then (some (x3 ++ x134003)) else (none))
end
def spec_Timers.f (k : Nat) (a0_0 : Int) (l0_1 : List (List (S46))) (l0_2 : List (List (S46))) (l0_3 : List (S46)) : Option ((List (S46))) := spec_Timers.l0 k (([] : List (S46))) 0 a0_0 l0_1 l0_2 l0_3
set_option maxHeartbeats 8000000 in
set_option maxRecDepth 100000 in
theorem spec_Timers.calls (k : Nat) (a0_0 : Int) (A0_1 : Option Addr) (c0_1 : Nat) (l0_1 : List (List (S46))) (A0_2 : Option Addr) (c0_2 : Nat) (l0_2 : List (List (S46))) (A0_3 : Option Addr) (c0_3 : Nat) (l0_3 : List (S46)) (r : List (S46)) (w : World) (hr0_1 : Kd.C (Kd.slice 46 k46) w A0_1 l0_1.length l0_1) (hc0_1 : l0_1.length ≤ c0_1) (hr0_2 : Kd.C (Kd.slice 46 k46) w A0_2 l0_2.length l0_2) (hc0_2 : l0_2.length ≤ c0_2) (hr0_3 : Kd.C k46 w A0_3 l0_3.length l0_3) (hc0_3 : l0_3.length ≤ c0_3) (h : spec_Timers.f k a0_0 l0_1 l0_2 l0_3 = some r) :
  Calls Try.prog 24 #[.agg #[.int .i64 a0_0, .slice A0_1 l0_1.length c0_1, .slice A0_2 l0_2.length c0_2, .slice A0_3 l0_3.length c0_3]] w fun e w' => ∃ v0_ : Value, e = .returned (v0_) ∧ Kd.R k46 46 w' w.heap.size (fun _ => True) v0_ r ∧ Below w.heap.size w w' := by
 have hu25 := Try.underlying25
 have HR0_1 := aM hr0_1
 have HC0_1 := aM hc0_1
 clear hr0_1 hc0_1
 have HR0_2 := aM hr0_2
 have HC0_2 := aM hc0_2
 clear hr0_2 hc0_2
 have HR0_3 := aM hr0_3
 have HC0_3 := aM hc0_3
 clear hr0_3 hc0_3
 have HB := aM (Below.refl w.heap.size w)
 unfold spec_Timers.f at h; have H := h
 clear h
 obtain ⟨y134, hy134⟩ : ∃ y_ : List (S46), y_ = (([] : List (S46))) := ⟨_, rfl⟩
 replace H : (spec_Timers.l0 k y134 0 a0_0 l0_1 l0_2 l0_3) = some r := by first | (rw [hy134]; with_reducible exact H) | (have H2_ := (Option.bind_some _ _).symm.trans H; rw [hy134]; with_reducible exact H2_) | (have H2_ := (Option.bind_some _ _).symm.trans H; with_reducible exact H2_) | with_reducible exact H | (rw [hy134]; exact H) | exact H
 have Ny134 := aM hy134
 clear hy134
 have H' := aM H
 clear H
 go_enter Try.func24, Try.ntmps24
 go_wp2_with (first | ((with_reducible refine gD 1 rfl ?_); refine bE 1 #[.int .i64 a0_0, .slice A0_1 l0_1.length c0_1, .slice A0_2 l0_2.length c0_2, .slice A0_3 l0_3.length c0_3] 25 ?_; intro gb133 hg w2 hbox hb; have BK133 := aM hbox; have GW133 := aM (zg (zL HB.out) hg : w.heap.size ≤ gb133); have GE133 := GW133; replace HB := zLB (zL HB.out) hb; clear hb hbox hg) | ((with_reducible refine gD 6 rfl ?_); refine Kd.R_lit k46 _ 46 ?hg (N := 6) ?hd (xs := ([] : List (S46))) (inner := []) (ok := fun _ => True) (okp := fun _ => True) ?hr ?hp (fun _ hk => hk) trivial (Below.refl _ _) (Nat.le_refl _) (by simp) ?_; (case hd => rfl); (case hg => rfl); (case hr => first | (go_simp; done) | (go_simp; rfl)); (case hp => exact (Reps.none _ _)); intro v135 w3 ho4 hb hg_ hnew_; clear hg_ hnew_; (first | rw [← Ny134.out] at ho4 | (simp only [Int.reduceToNat] at ho4; rw [← Ny134.out] at ho4)); have HO136 := aM (Kd.R_lower ho4 (below_size (zL1 HB.out GE133.out))); replace BK133 := zBB BK133 hb; replace HB := zLB (zL1 HB.out GE133.out) hb; clear hb ho4))
 go_loopg [3, 4] k (fun kq v3 v4 w' => ∃ (x3_1 : List (S46)) (x4_1 : Int), v4 = .int .i64 x4_1 ∧ Aside0 (spec_Timers.l0 kq x3_1 x4_1 a0_0 l0_1 l0_2 l0_3 = some r) ∧ Aside0 (kq ≤ k) ∧ Aside0 (Kd.R k46 46 w' w.heap.size (fun _ => True) v3 x3_1) ∧ Aside0 (w'.heap[gb133]? = some (.cells #[.int .i64 a0_0, (.slice A0_1 l0_1.length c0_1), (.slice A0_2 l0_2.length c0_2), (.slice A0_3 l0_3.length c0_3)] 25 (0, 0))) ∧ Aside0 (Below w.heap.size w w'))
 case atStart => exact ⟨(y134), (0), zV, H', ⟨Nat.le_refl _⟩, ⟨zR HO136.out⟩, ⟨zB BK133.out⟩, ⟨zL1 HB.out GE133.out⟩⟩
 case round =>
  clear H'
  try clear c2
  try clear p2
  try clear BK133
  obtain ⟨x3_1, x4_1, rfl, HA, HK1, HO_3, BK133, HB⟩ := hrel
  cases gk with
  | zero => exact absurd HA.out (by simp [spec_Timers.l0])
  | succ k1 =>
   have H := HA.out
   clear HA
   simp only [spec_Timers.l0] at H
   by_cases c5 : x4_1 < (l0_1.length : Int)
   ·rw [if_pos c5] at H
    have c5b0 := dT c5
    clear c5
    by_cases c6 : 0 ≤ x4_1
    ·rw [if_pos c6] at H
     have c6b0 := dT c6
     clear c6
     by_cases c7 : x3_1.length + (rd_L2 l0_1 x4_1).length < 5864062014805
     ·rw [if_pos c7] at H
      have LMc7 := aM c7
      clear c7
      generalize hy138 : (x3_1 ++ (rd_L2 l0_1 x4_1)) = y138 at H; (try rw [Option.bind_some] at H); have Ny138 := aM hy138.symm; clear hy138
      have H' := aM H
      clear H
      have hcz8 := zc4 BK133.out
      have hfz8 := zf4 BK133.out
      have p137 : 0 ≤ (x4_1 : Int) := zD
      have q137 : x4_1 < (l0_1.length : Int) := zD
      obtain ⟨ad137, A137_0, c137_0, e137, hx137_0, hl137_0, hi137_0⟩ := at_L2 HR0_1.out x4_1 p137 q137
      cases e137
      replace hx137_0 := zh HB.out hx137_0
      have HR137_0 := aM hi137_0
      have HC137_0 := aM hl137_0
      clear hi137_0 hl137_0
      replace p137 := eq_true p137
      replace q137 := eq_true q137
      go_wp2_with (first | ((with_reducible refine gate_builtin (b := .append) (xs := #[.tmp 14, .tmp 19]) rfl ?_); at_builtin; refine Kd.R_append_rows k46 (w0 := w) w.heap.size rfl (.tmp 14) (.tmp 19) 23 46 (.agg #[(.int .i64 0), (.int .i64 0), (.int .i64 0)]) 24 rfl Try.underlying23 info46 rfl (by decide) (by omega) u3 x3_1 (rd_L2 l0_1 x4_1) _ _ _ (fun _ => True) (fun _ => False) rfl rfl ?aO ?aR (fun _ _ h => h) (fun _ h => h.elim) ?aF ?aB ?aS ?aL ?_; (case aR => repeat (first | exact (Kd.C_below HR137_0.out HB.out) | (with_reducible refine Kd.C_alloc ?_ _) | (with_reducible refine Kd.C_drewN ?_ _) | (with_reducible refine Kd.C_drew ?_))); (case aB => exact (zL1 HB.out GE133.out)); (case aF => exact (fun _ _ => trivial)); (case aO => exact (zR HO_3.out)); (case aS => exact (below_size (zL1 HB.out GE133.out))); (case aL => have := LMc7.out; omega); intro v139 w9 ho hb hg hat; rw [← Ny138.out] at ho; replace BK133 := aM (blk_grown (g := gb133) (o := .cells #[.int .i64 a0_0, .slice (some ad137) l0_1.length c0_1, .slice A0_2 l0_2.length c0_2, .slice A0_3 l0_3.length c0_3] 25 (0, 0)) (zB BK133.out) hg (Kd.R_ne HO_3.out BK133.out (by decide))); replace HB := aM hb; have HO140 := aM (ho); clear HO_3; clear ho hb hg hat))
      go_roundg k1
      case measure => have := HK1.out; omega
      case rel => exact ⟨(y138), (wrap64 (x4_1 + 1)), zV, H', ⟨by have := HK1.out; omega⟩, ⟨zR HO140.out⟩, ⟨zB BK133.out⟩, ⟨zL1 HB.out GE133.out⟩⟩
     ·rw [if_neg c7] at H
      exact absurd H (by simp)
    ·rw [if_neg c6] at H
     exact absurd H (by simp)
   ·rw [if_neg c5] at H
    have c5b0 := dF c5
    clear c5
    have H' := aM H
    clear H
    have hcz10 := zc4 BK133.out
    have hfz10 := zf4 BK133.out
    go_wp2
    go_loopg [3, 5] k1 (fun kq v3 v5 w' => ∃ (x3_2 : List (S46)) (x5_2 : Int), v5 = .int .i64 x5_2 ∧ Aside0 (spec_Timers.l1 kq x3_2 x5_2 a0_0 l0_1 l0_2 l0_3 = some r) ∧ Aside0 (kq ≤ k1) ∧ Aside0 (Kd.R k46 46 w' w.heap.size (fun _ => True) v3 x3_2) ∧ Aside0 (w'.heap[gb133]? = some (.cells #[.int .i64 a0_0, (.slice A0_1 l0_1.length c0_1), (.slice A0_2 l0_2.length c0_2), (.slice A0_3 l0_3.length c0_3)] 25 (0, 0))) ∧ Aside0 (Below w.heap.size w w'))
    case atStart => exact ⟨(x3_1), (0), zV, H', ⟨Nat.le_refl _⟩, ⟨zR HO_3.out⟩, ⟨zB BK133.out⟩, ⟨zL1 HB.out GE133.out⟩⟩
    case round =>
     clear H'
     try clear c1
     try clear p1
     try clear q1
     try clear hx1
     try clear c2
     try clear p2
     try clear c5
     try clear c5b0
     try clear c6
     try clear c6b0
     try clear p6
     try clear c7
     try clear hcz10; try clear hcz8; try clear hfz10; try clear hfz8
     try clear hx137_0
     try clear p137
     try clear p2
     try clear q137
     try clear BK133
     obtain ⟨x3_2, x5_2, rfl, HA, HK2, HO_3, BK133, HB⟩ := hrel
     cases gk with
     | zero => exact absurd HA.out (by simp [spec_Timers.l1])
     | succ k2 =>
      have H := HA.out
      clear HA
      simp only [spec_Timers.l1] at H
      by_cases c11 : x5_2 < (l0_2.length : Int)
      ·rw [if_pos c11] at H
       have c11b0 := dT c11
       clear c11
       by_cases c12 : 0 ≤ x5_2
       ·rw [if_pos c12] at H
        have c12b0 := dT c12
        clear c12
        by_cases c13 : x3_2.length + (rd_L2 l0_2 x5_2).length < 5864062014805
        ·rw [if_pos c13] at H
         have LMc13 := aM c13
         clear c13
         generalize hy142 : (x3_2 ++ (rd_L2 l0_2 x5_2)) = y142 at H; (try rw [Option.bind_some] at H); have Ny142 := aM hy142.symm; clear hy142
         have H' := aM H
         clear H
         have hcz14 := zc4 BK133.out
         have hfz14 := zf4 BK133.out
         have p141 : 0 ≤ (x5_2 : Int) := zD
         have q141 : x5_2 < (l0_2.length : Int) := zD
         obtain ⟨ad141, A141_0, c141_0, e141, hx141_0, hl141_0, hi141_0⟩ := at_L2 HR0_2.out x5_2 p141 q141
         cases e141
         replace hx141_0 := zh HB.out hx141_0
         have HR141_0 := aM hi141_0
         have HC141_0 := aM hl141_0
         clear hi141_0 hl141_0
         replace p141 := eq_true p141
         replace q141 := eq_true q141
         go_wp2_with (first | ((with_reducible refine gate_builtin (b := .append) (xs := #[.tmp 28, .tmp 33]) rfl ?_); at_builtin; refine Kd.R_append_rows k46 (w0 := w) w.heap.size rfl (.tmp 28) (.tmp 33) 23 46 (.agg #[(.int .i64 0), (.int .i64 0), (.int .i64 0)]) 24 rfl Try.underlying23 info46 rfl (by decide) (by omega) u3 x3_2 (rd_L2 l0_2 x5_2) _ _ _ (fun _ => True) (fun _ => False) rfl rfl ?aO ?aR (fun _ _ h => h) (fun _ h => h.elim) ?aF ?aB ?aS ?aL ?_; (case aR => repeat (first | exact (Kd.C_below HR141_0.out HB.out) | (with_reducible refine Kd.C_alloc ?_ _) | (with_reducible refine Kd.C_drewN ?_ _) | (with_reducible refine Kd.C_drew ?_))); (case aB => exact (zL1 HB.out GE133.out)); (case aF => exact (fun _ _ => trivial)); (case aO => exact (zR HO_3.out)); (case aS => exact (below_size (zL1 HB.out GE133.out))); (case aL => have := LMc13.out; omega); intro v143 w15 ho hb hg hat; rw [← Ny142.out] at ho; replace BK133 := aM (blk_grown (g := gb133) (o := .cells #[.int .i64 a0_0, .slice A0_1 l0_1.length c0_1, .slice (some ad141) l0_2.length c0_2, .slice A0_3 l0_3.length c0_3] 25 (0, 0)) (zB BK133.out) hg (Kd.R_ne HO_3.out BK133.out (by decide))); replace HB := aM hb; have HO144 := aM (ho); clear HO_3; clear ho hb hg hat))
         go_roundg k2
         case measure => have := HK1.out; have := HK2.out; omega
         case rel => exact ⟨(y142), (wrap64 (x5_2 + 1)), zV, H', ⟨by have := HK1.out; have := HK2.out; omega⟩, ⟨zR HO144.out⟩, ⟨zB BK133.out⟩, ⟨zL1 HB.out GE133.out⟩⟩
        ·rw [if_neg c13] at H
         exact absurd H (by simp)
       ·rw [if_neg c12] at H
        exact absurd H (by simp)
      ·rw [if_neg c11] at H
       have c11b0 := dF c11
       clear c11
       by_cases c16 : x3_2.length + l0_3.length < 5864062014805
       ·rw [if_pos c16] at H
        have LMc16 := aM c16
        clear c16
        generalize hy145 : (x3_2 ++ l0_3) = y145 at H; (try rw [Option.bind_some] at H); have Ny145 := aM hy145.symm; clear hy145
        obtain rfl := Option.some.inj H
        have hcz17 := zc4 BK133.out
        have hfz17 := zf4 BK133.out
        go_wp2_with (first | ((with_reducible refine gate_builtin (b := .append) (xs := #[.tmp 35, .tmp 37]) rfl ?_); at_builtin; refine Kd.R_append_rows k46 (w0 := w) w.heap.size rfl (.tmp 35) (.tmp 37) 23 46 (.agg #[(.int .i64 0), (.int .i64 0), (.int .i64 0)]) 24 rfl Try.underlying23 info46 rfl (by decide) (by omega) u3 x3_2 l0_3 _ _ _ (fun _ => True) (fun _ => False) rfl rfl ?aO ?aR (fun _ _ h => h) (fun _ h => h.elim) ?aF ?aB ?aS ?aL ?_; (case aR => repeat (first | exact (Kd.C_below HR0_3.out HB.out) | (with_reducible refine Kd.C_alloc ?_ _) | (with_reducible refine Kd.C_drewN ?_ _) | (with_reducible refine Kd.C_drew ?_))); (case aB => exact (zL1 HB.out GE133.out)); (case aF => exact (fun _ _ => trivial)); (case aO => exact (zR HO_3.out)); (case aS => exact (below_size (zL1 HB.out GE133.out))); (case aL => have := LMc16.out; omega); intro v146 w18 ho hb hg hat; rw [← Ny145.out] at ho; replace BK133 := aM (blk_grown (g := gb133) (o := .cells #[.int .i64 a0_0, .slice A0_1 l0_1.length c0_1, .slice A0_2 l0_2.length c0_2, .slice A0_3 l0_3.length c0_3] 25 (0, 0)) (zB BK133.out) hg (Kd.R_ne HO_3.out BK133.out (by decide))); replace HB := aM hb; have HO147 := aM (ho); clear HO_3; clear ho hb hg hat))
        go_ret
        exact ⟨_, zW, zR HO147.out, zL1 HB.out GE133.out⟩
       ·rw [if_neg c16] at H
        exact absurd H (by simp)

open Go.Proofs.YtggenhomnbnodaaW.PrintWords renaming blk_drewN → bN, blk_drew → bD, blk_alloc → bA, blk_cell → bC, blk_below → bB, below_set → bS
def spec_l1In.f (a0 : Int) (a1 : Int) (a2 : Int) : Option (Bool) := if a0 ≥ a1 then (some (decide (a0 ≤ a2))) else (some false)
set_option maxHeartbeats 8000000 in
set_option maxRecDepth 100000 in
theorem spec_l1In.calls (a0 : Int) (a1 : Int) (a2 : Int) (r : Bool) (w : World) (h : spec_l1In.f a0 a1 a2 = some r) :
  Calls Try.prog 67 #[.int .i64 a0, .int .i64 a1, .int .i64 a2] w fun e w' => e = .returned (.bool r) ∧ Drawn0 w w' := by
 unfold spec_l1In.f at h; have H := h
 clear h
 by_cases c4 : a0 ≥ a1
 ·rw [if_pos c4] at H
  have c4b0 := dT c4
  clear c4
  obtain rfl := Option.some.inj H
  go_enter Try.func67, Try.ntmps67
  go_wp2
  go_ret
  exact ⟨zV, zU⟩
 ·rw [if_neg c4] at H
  have c4b0 := dF c4
  clear c4
  obtain rfl := Option.some.inj H
  go_enter Try.func67, Try.ntmps67
  go_wp2
  go_ret
  exact ⟨zV, zU⟩

open Go.Proofs.YtggenhomnbnodaaW.PrintWords renaming blk_drewN → bN, blk_drew → bD, blk_alloc → bA, blk_cell → bC, blk_below → bB, below_set → bS
def spec_l8Place.f (a0 : Int) (a1 : Int) : Option (Int × Int) := if (wrap64 (Int.tdiv a1 8)) = (wrap64 (Int.tdiv a0 8)) then (some (1, Int.tmod a1 8)) else (if (wrap64 ((wrap64 (Int.tdiv a1 8)) - (wrap64 (Int.tdiv a0 8)))) < 8 then (some (2, Int.tmod (wrap64 (Int.tdiv a1 8)) 8)) else (some (3, 0)))
set_option maxHeartbeats 8000000 in
set_option maxRecDepth 100000 in
theorem spec_l8Place.calls (a0 : Int) (a1 : Int) (r1 : Int) (r2 : Int) (w : World) (h : spec_l8Place.f a0 a1 = some (r1, r2)) :
  Calls Try.prog 88 #[.int .i64 a0, .int .i64 a1] w fun e w' => e = .returned (.tuple #[.int .i64 r1, .int .i64 r2]) ∧ Drawn0 w w' := by
 unfold spec_l8Place.f at h; have H := h
 clear h
 by_cases c3 : (wrap64 (Int.tdiv a1 8)) = (wrap64 (Int.tdiv a0 8))
 ·rw [if_pos c3] at H
  obtain ⟨c3b0, c3b1⟩ := zt c3
  clear c3
  simp only [Option.some.injEq, Prod.mk.injEq] at H
  obtain ⟨rfl, rfl⟩ := H
  go_enter Try.func88, Try.ntmps88
  go_wp2
  go_ret2
  exact ⟨zV, zU⟩
 ·rw [if_neg c3] at H
  obtain ⟨c3b0, c3b1⟩ := zf c3
  by_cases c4 : (wrap64 ((wrap64 (Int.tdiv a1 8)) - (wrap64 (Int.tdiv a0 8)))) < 8
  ·rw [if_pos c4] at H
   have c4b0 := dT c4
   clear c4
   simp only [Option.some.injEq, Prod.mk.injEq] at H
   obtain ⟨rfl, rfl⟩ := H
   go_enter Try.func88, Try.ntmps88
   go_wp2
   go_ret2
   exact ⟨zV, zU⟩
  ·rw [if_neg c4] at H
   have c4b0 := dF c4
   clear c4
   simp only [Option.some.injEq, Prod.mk.injEq] at H
   obtain ⟨rfl, rfl⟩ := H
   go_enter Try.func88, Try.ntmps88
   go_wp2
   go_ret2
   exact ⟨zV, zU⟩

end Go.Proofs.Ytggenhomnbnodaa.QFnTimes
