/- What the Go functions that the law FnTicks reaches answer: each as a Lean function, with its walk. Written by a program of this session. Conditions: those that each theorem names. -/
import Derived.Test.YtggenhomnbnodaaQFnTicksx0
import Derived.Test.YtggenhomnbnodaaQFnTicksx2
import Derived.Test.YtggenhomnbnodaaQFnTicksx3
namespace Go.Proofs.Ytggenhomnbnodaa.QFnTicks
open Go.RowKit Go.Proofs.YtggenhomnbnodaaW.PrintWords Go.Proofs.YtggenhomnbnodaaW.PrintLast Go.Proofs.YtggenhomnbnodaaW.PrintMore
attribute [local go_sem] max2_int min2_int max_two min_two max_three min_three max_four min_four   -- for this text's walks alone
set_option linter.unusedVariables false
set_option linter.unusedSimpArgs false

open Go.Proofs.YtggenhomnbnodaaW.PrintWords renaming blk_drewN → bN, blk_drew → bD, blk_alloc → bA, blk_cell → bC, blk_below → bB, below_set → bS
mutual
def impl_WheelOk.j0 : Nat → Bool → Int → List (List (S46)) → List (List (S46)) → List (S46) → Option (Bool)
 | 0, _, _, _, _, _ => none
 | k + 1, x29, x150000, x150001, x150002, x150003 => if x29 = true then (some false) else (impl_WheelOk.l0 k 0 x150000 x150001 x150002 x150003)
def impl_WheelOk.l0 : Nat → Int → Int → List (List (S46)) → List (List (S46)) → List (S46) → Option (Bool)
 | 0, _, _, _, _, _ => none
 | k + 1, x3, x150000, x150001, x150002, x150003 => if x3 < 8 then (if 0 ≤ x3 then (if x3 < (x150001.length : Int) then ((impl_belongs.f k x150000 x150001 x150002 x150003 (rd_L2 x150001 x3) 0 x3).bind fun t153 => (if t153 = true then (if x3 < (x150002.length : Int) then ((impl_belongs.f k x150000 x150001 x150002 x150003 (rd_L2 x150002 x3) 1 x3).bind fun t155 => (if t155 = true then (impl_WheelOk.l0 k (wrap64 (x3 + 1)) x150000 x150001 x150002 x150003) else (some false))) else (none)) else (some false))) else (none)) else (none)) else ((impl_Timers.f k x150000 x150001 x150002 x150003).bind fun t156 => (impl_WheelOk.l1 k t156 t156 (t156.length : Int) 0))
def impl_WheelOk.l1 : Nat → List (S46) → List (S46) → Int → Int → Option (Bool)
 | 0, _, _, _, _ => none
 | k + 1, x4, x56, x57, x58 => if x58 < x57 then (if 0 ≤ x58 then (if x58 < (x56.length : Int) then ((impl_timerAt.f k x4 ((rd_T46 x56 x58).f0)).bind fun t161 => (if t161 = x58 then (impl_WheelOk.l1 k x4 x56 x57 (wrap64 (x58 + 1))) else (some false))) else (none)) else (none)) else (some (decide ((x4.length : Int) ≤ 16)))
end
def impl_WheelOk.f (k : Nat) (a0_0 : Int) (l0_1 : List (List (S46))) (l0_2 : List (List (S46))) (l0_3 : List (S46)) : Option (Bool) := (impl_within.f a0_0 0 2147483647).bind fun t150 => (if t150 = true then (if (l0_1.length : Int) = 8 then (if (l0_2.length : Int) = 8 then ((impl_belongs.f k a0_0 l0_1 l0_2 l0_3 l0_3 2 0).bind fun t151 => (impl_WheelOk.j0 k (!t151) a0_0 l0_1 l0_2 l0_3)) else (impl_WheelOk.j0 k true a0_0 l0_1 l0_2 l0_3)) else (impl_WheelOk.j0 k true a0_0 l0_1 l0_2 l0_3)) else (impl_WheelOk.j0 k true a0_0 l0_1 l0_2 l0_3))
def impl_WheelOk.T6 : Bool × List (List Nat × List Nat) := (true, [([], []), ([], []), ([1], [1]), ([], []), ([2, 3], [2, 3]), ([4], [4]), ([], []), ([0, 5, 6], [0, 5, 6]), ([7], [7]), ([8, 7], [8]), ([9], [9]), ([9], [9]), ([11, 9], [9, 11]), ([9], [9]), ([12, 13, 9], [9, 12, 13]), ([14, 9], [9, 14]), ([9], [9]), ([10, 15, 16, 9, 9], [9, 10, 15, 16]), ([17, 9], [9, 17]), ([9, 18], [9, 18])])
def impl_WheelOk.B6 : List Nat := [0, 0, 2, 0, 14, 30, 0, 127, 255, 511, 1023, 1023, 3071, 1023, 15359, 31743, 1023, 131071, 262143, 524287]
theorem impl_WheelOk.tab6 : rtab .any (opsOf Try.f30 6) = impl_WheelOk.T6 := by kernel_rfl
theorem impl_WheelOk.bits6 : waitsOk impl_WheelOk.T6.2 impl_WheelOk.B6 = true := by kernel_rfl
set_option maxHeartbeats 8000000 in
set_option maxRecDepth 100000 in
theorem impl_WheelOk.calls (k : Nat) (a0_0 : Int) (A0_1 : Option Addr) (c0_1 : Nat) (l0_1 : List (List (S46))) (A0_2 : Option Addr) (c0_2 : Nat) (l0_2 : List (List (S46))) (A0_3 : Option Addr) (c0_3 : Nat) (l0_3 : List (S46)) (r : Bool) (w : World) (hr0_1 : Kd.C (Kd.slice 46 k46) w A0_1 l0_1.length l0_1) (hc0_1 : l0_1.length ≤ c0_1) (hr0_2 : Kd.C (Kd.slice 46 k46) w A0_2 l0_2.length l0_2) (hc0_2 : l0_2.length ≤ c0_2) (hr0_3 : Kd.C k46 w A0_3 l0_3.length l0_3) (hc0_3 : l0_3.length ≤ c0_3) (h : impl_WheelOk.f k a0_0 l0_1 l0_2 l0_3 = some r) :
  Calls Try.prog 30 #[.agg #[.int .i64 a0_0, .slice A0_1 l0_1.length c0_1, .slice A0_2 l0_2.length c0_2, .slice A0_3 l0_3.length c0_3]] w fun e w' => e = .returned (.bool r) ∧ Below w.heap.size w w' := by
 have hu25 := Try.underlying25
 have hu46 := Try.underlying46
 have HR0_1 := aM hr0_1
 have HC0_1 := aM hc0_1
 clear hr0_1 hc0_1
 have HR0_2 := aM hr0_2
 have HC0_2 := aM hc0_2
 clear hr0_2 hc0_2
 have HR0_3 := aM hr0_3
 have HC0_3 := aM hc0_3
 clear hr0_3 hc0_3
 have HB := aM (Below.refl w.heap.size w)
 unfold impl_WheelOk.f at h; have H := h
 clear h
 have HC2 := aM H
 clear H
 go_enter Try.func30, Try.ntmps30
 go_upto_region 1 with (first | ((with_reducible refine gD 1 rfl ?_); (try (refine gate_guard (by rfl) ?_; dsimp only)); refine box_event ?hg (N := 1) ?hd (cs := #[.int .i64 a0_0, .slice A0_1 l0_1.length c0_1, .slice A0_2 l0_2.length c0_2, .slice A0_3 l0_3.length c0_3]) (t := 25) ?hr ?_; (case hd => rfl); (case hg => rfl); (case hr => first | (go_simp; done) | (go_simp; rfl)); intro gb149 hg w3 hbox hb; have BK149 := aM hbox; have GW149 := aM (zg (zL HB.out) hg : w.heap.size ≤ gb149); have GE149 := GW149; replace HB := zLB (zL HB.out) hb; clear hb hbox hg))
 (try simp only [Act.put, List.setIfInBounds_toArray, List.set_cons_zero, List.set_cons_succ])
 go_cut [29] (fun v29 wc => ∃ (kq : Nat) (x29_1 : Bool), v29 = .bool x29_1 ∧ Aside0 (impl_WheelOk.j0 kq x29_1 a0_0 l0_1 l0_2 l0_3 = some r) ∧ Aside0 (kq ≤ k) ∧ Aside0 (wc.heap[gb149]? = some (.cells #[.int .i64 a0_0, (.slice A0_1 l0_1.length c0_1), (.slice A0_2 l0_2.length c0_2), (.slice A0_3 l0_3.length c0_3)] 25 (0, 0))) ∧ Aside0 (Below w.heap.size w wc))
 case first =>
  have H := HC2.out
  clear HC2
  obtain ⟨t150, A4, H⟩ := zO H; try dsimp only at H
  by_cases c5 : t150 = true
  ·subst c5
   rw [if_pos rfl] at H
   by_cases c6 : (l0_1.length : Int) = 8
   ·rw [if_pos c6] at H
    obtain ⟨c6b0, c6b1⟩ := zt c6
    clear c6
    (first | rw [c6b0] | (simp only [i64_w, i32_w]; rw [c6b0]) | skip)
    by_cases c7 : (l0_2.length : Int) = 8
    ·rw [if_pos c7] at H
     obtain ⟨c7b0, c7b1⟩ := zt c7
     clear c7
     obtain ⟨t151, A8, H⟩ := zO H; try dsimp only at H
     have H' := aM H
     clear H
     have hcz9 := zc4 BK149.out
     have hfz9 := zf4 BK149.out
     go_wp2_with (first | ((with_reducible refine gC 69 rfl ?_); refine gL 9 Try.func69 #[.int .i64 a0_0, .int .i64 0, .int .i64 2147483647] ?_; (with_reducible refine (impl_within.calls a0_0 0 2147483647 true _ A4.out).mono ?_); rintro e w' ⟨rfl, ⟨nd, rfl⟩⟩; refine ⟨_, rfl, ?_⟩) | (go_at_call 70; (with_reducible refine (impl_belongs.calls k a0_0 _ _ l0_1 _ _ l0_2 _ _ l0_3 _ _ l0_3 2 0 t151 _ ?side1 ?side2 ?side3 ?side4 ?side5 ?side6 ?side7 ?side8 A8.out).mono ?_); (case side1 => repeat (first | exact (Kd.C_below HR0_1.out (zL1 HB.out GE149.out)) | (with_reducible refine Kd.C_alloc ?_ _) | (with_reducible refine Kd.C_drewN ?_ _) | (with_reducible refine Kd.C_drew ?_))); (case side2 => exact HC0_1.out); (case side3 => repeat (first | exact (Kd.C_below HR0_2.out (zL1 HB.out GE149.out)) | (with_reducible refine Kd.C_alloc ?_ _) | (with_reducible refine Kd.C_drewN ?_ _) | (with_reducible refine Kd.C_drew ?_))); (case side4 => exact HC0_2.out); (case side5 => repeat (first | exact (Kd.C_below HR0_3.out (zL1 HB.out GE149.out)) | (with_reducible refine Kd.C_alloc ?_ _) | (with_reducible refine Kd.C_drewN ?_ _) | (with_reducible refine Kd.C_drew ?_))); (case side6 => exact HC0_3.out); (case side7 => repeat (first | exact (Kd.C_below HR0_3.out (zL1 HB.out GE149.out)) | (with_reducible refine Kd.C_alloc ?_ _) | (with_reducible refine Kd.C_drewN ?_ _) | (with_reducible refine Kd.C_drew ?_))); (case side8 => exact HC0_3.out); rintro e w10 ⟨rfl, hb⟩; replace BK149 := zBB BK149 hb; replace HB := zLB (zL1 HB.out GE149.out) hb; clear hb))
     go_meet
     case rel => exact ⟨_, (!t151), zV, H', ⟨by first | omega | exact Nat.le_refl _⟩, ⟨zB BK149.out⟩, ⟨zL1 HB.out GE149.out⟩⟩
    ·rw [if_neg c7] at H
     obtain ⟨c7b0, c7b1⟩ := zf c7
     have H' := aM H
     clear H
     have hcz11 := zc4 BK149.out
     have hfz11 := zf4 BK149.out
     go_wp2_with (first | ((with_reducible refine gC 69 rfl ?_); refine gL 9 Try.func69 #[.int .i64 a0_0, .int .i64 0, .int .i64 2147483647] ?_; (with_reducible refine (impl_within.calls a0_0 0 2147483647 true _ A4.out).mono ?_); rintro e w' ⟨rfl, ⟨nd, rfl⟩⟩; refine ⟨_, rfl, ?_⟩))
     go_meet
     case rel => exact ⟨_, (true), zV, H', ⟨by first | omega | exact Nat.le_refl _⟩, ⟨zB BK149.out⟩, ⟨zL1 HB.out GE149.out⟩⟩
   ·rw [if_neg c6] at H
    obtain ⟨c6b0, c6b1⟩ := zf c6
    (first | rw [c6b0] | (simp only [i64_w, i32_w]; rw [c6b0]) | skip)
    have H' := aM H
    clear H
    have hcz12 := zc4 BK149.out
    have hfz12 := zf4 BK149.out
    go_wp2_with (first | ((with_reducible refine gC 69 rfl ?_); refine gL 9 Try.func69 #[.int .i64 a0_0, .int .i64 0, .int .i64 2147483647] ?_; (with_reducible refine (impl_within.calls a0_0 0 2147483647 true _ A4.out).mono ?_); rintro e w' ⟨rfl, ⟨nd, rfl⟩⟩; refine ⟨_, rfl, ?_⟩))
    go_meet
    case rel => exact ⟨_, (true), zV, H', ⟨by first | omega | exact Nat.le_refl _⟩, ⟨zB BK149.out⟩, ⟨zL1 HB.out GE149.out⟩⟩
  ·obtain rfl := Bool.eq_false_iff.mpr c5
   rw [if_neg zn] at H
   have H' := aM H
   clear H
   have hcz13 := zc4 BK149.out
   have hfz13 := zf4 BK149.out
   go_wp2_with (first | ((with_reducible refine gC 69 rfl ?_); refine gL 9 Try.func69 #[.int .i64 a0_0, .int .i64 0, .int .i64 2147483647] ?_; (with_reducible refine (impl_within.calls a0_0 0 2147483647 false _ A4.out).mono ?_); rintro e w' ⟨rfl, ⟨nd, rfl⟩⟩; refine ⟨_, rfl, ?_⟩))
   go_meet
   case rel => exact ⟨_, (true), zV, H', ⟨by first | omega | exact Nat.le_refl _⟩, ⟨zB BK149.out⟩, ⟨zL1 HB.out GE149.out⟩⟩
 case rest =>
  clear HC2
  try clear p2
  try clear c3
  try clear c5
  try clear c6
  try clear c6b0
  try clear c6b1
  try clear c7
  try clear c7b0
  try clear c7b1
  try clear hcz11; try clear hcz12; try clear hcz13; try clear hcz9; try clear hfz11; try clear hfz12; try clear hfz13; try clear hfz9
  obtain ⟨kq, x29_1, rfl, HA, HJ1, BK149, HB⟩ := hcut
  cases kq with
  | zero => exact absurd HA.out (by simp [impl_WheelOk.j0])
  | succ kj1 =>
   have H := HA.out
   clear HA
   simp only [impl_WheelOk.j0] at H
   by_cases c14 : x29_1 = true
   ·subst c14
    rw [if_pos rfl] at H
    obtain rfl := Option.some.inj H
    go_wp2
    go_ret
    exact ⟨zW, zL1 HB.out GE149.out⟩
   ·obtain rfl := Bool.eq_false_iff.mpr c14
    rw [if_neg zn] at H
    have H' := aM H
    clear H
    go_wp2
    go_loopg [3] kj1 (fun kq v3 w' => ∃ (x3_2 : Int), v3 = .int .i64 x3_2 ∧ Aside0 (impl_WheelOk.l0 kq x3_2 a0_0 l0_1 l0_2 l0_3 = some r) ∧ Aside0 (kq ≤ kj1) ∧ Aside0 (w'.heap[gb149]? = some (.cells #[.int .i64 a0_0, (.slice A0_1 l0_1.length c0_1), (.slice A0_2 l0_2.length c0_2), (.slice A0_3 l0_3.length c0_3)] 25 (0, 0))) ∧ Aside0 (Below w.heap.size w w'))
    case atStart => exact ⟨(0), zV, H', ⟨Nat.le_refl _⟩, ⟨zB BK149.out⟩, ⟨zL1 HB.out GE149.out⟩⟩
    case round =>
     clear H'
     try clear c1
     try clear p2
     try clear c3
     try clear c5
     try clear c6
     try clear c6b0
     try clear c6b1
     try clear c7
     try clear c7b0
     try clear c7b1
     try clear c14
     try clear hcz11; try clear hcz12; try clear hcz13; try clear hcz9; try clear hfz11; try clear hfz12; try clear hfz13; try clear hfz9
     try clear p2
     try clear BK149
     obtain ⟨x3_2, rfl, HA, HK2, BK149, HB⟩ := hrel
     cases gk with
     | zero => exact absurd HA.out (by simp [impl_WheelOk.l0])
     | succ k2 =>
      have H := HA.out
      clear HA
      simp only [impl_WheelOk.l0] at H
      by_cases c15 : x3_2 < 8
      ·rw [if_pos c15] at H
       have c15b0 := dT c15
       clear c15
       by_cases c16 : 0 ≤ x3_2
       ·rw [if_pos c16] at H
        have c16b0 := dT c16
        clear c16
        by_cases c17 : x3_2 < (l0_1.length : Int)
        ·rw [if_pos c17] at H
         have c17b0 := dT c17
         clear c17
         obtain ⟨t153, A18, H⟩ := zO H; try dsimp only at H
         by_cases c19 : t153 = true
         ·subst c19
          rw [if_pos rfl] at H
          by_cases c20 : x3_2 < (l0_2.length : Int)
          ·rw [if_pos c20] at H
           have c20b0 := dT c20
           clear c20
           obtain ⟨t155, A21, H⟩ := zO H; try dsimp only at H
           by_cases c22 : t155 = true
           ·subst c22
            rw [if_pos rfl] at H
            have H' := aM H
            clear H
            try go_wp2
            replace BK149 := zBD BK149; replace HB := zLD HB
            have p152 : 0 ≤ (x3_2 : Int) := zD
            have q152 : x3_2 < (l0_1.length : Int) := zD
            obtain ⟨ad152, A152_0, c152_0, e152, hx152_0, hl152_0, hi152_0⟩ := at_L2 HR0_1.out x3_2 p152 q152
            have hw152_0 := hx152_0
            cases e152
            replace hx152_0 := zh HB.out hx152_0
            have HR152_0 := aM hi152_0
            have HC152_0 := aM hl152_0
            clear hi152_0 hl152_0
            replace p152 := eq_true p152
            replace q152 := eq_true q152
            have p154 : 0 ≤ (x3_2 : Int) := zD
            have q154 : x3_2 < (l0_2.length : Int) := zD
            obtain ⟨ad154, A154_0, c154_0, e154, hx154_0, hl154_0, hi154_0⟩ := at_L2 HR0_2.out x3_2 p154 q154
            have hw154_0 := hx154_0
            cases e154
            replace hx154_0 := zh HB.out hx154_0
            have HR154_0 := aM hi154_0
            have HC154_0 := aM hl154_0
            clear hi154_0 hl154_0
            replace p154 := eq_true p154
            replace q154 := eq_true q154
            refine start_ (n := 20) (S := fun w' => w'.cell? ⟨gb149, 0, none⟩ = some (.int .i64 a0_0) ∧ w'.cell? ⟨gb149, 1, none⟩ = some (.slice (some ad152) l0_1.length c0_1) ∧ w'.cell? ⟨gb149, 2, none⟩ = some (.slice (some ad154) l0_2.length c0_2) ∧ w'.cell? ⟨gb149, 3, none⟩ = some (.slice A0_3 l0_3.length c0_3) ∧ w'.cell? (ad152.add (x3_2).toNat) = some (.slice A152_0 (rd_L2 l0_1 x3_2).length c152_0) ∧ w'.cell? (ad154.add (x3_2).toNat) = some (.slice A154_0 (rd_L2 l0_2 x3_2).length c154_0)) (ds := []) (fB 20 0) (by kernel_rfl) rfl rfl ⟨(bC BK149.out 0).trans rfl, (bC BK149.out 1).trans rfl, (bC BK149.out 2).trans rfl, (bC BK149.out 3).trans rfl, (zh HB.out hw152_0), (zh HB.out hw154_0)⟩ (fun hHeld => ?_); refine with_tabW impl_WheelOk.tab6 impl_WheelOk.bits6 (fun HT_ HW_ => ?_)
            generalize wr.drew = w23 at BK149 HB HR152_0 HR154_0 hx152_0 hx154_0 hHeld ⊢
            refine pY 1 35 (fB 20 2) HT_.out ?_
            refine pY 3 37 (fB 20 10) HT_.out ?_
            refine pY 6 40 (fB 20 74) HT_.out ?_
            refine tY 0 34 (fB 20 75) HT_.out HW_.out hHeld ?_
            refine tY 2 36 (fB 20 79) HT_.out HW_.out hHeld ?_
            refine pY 4 38 (fB 20 95) HT_.out ?_
            refine tY 5 39 (fB 20 127) HT_.out HW_.out hHeld ?_
            refine oN 7 41 (fB 20 255) HT_.out fun K hK => ?_
            refine gS Try.func70 #[.agg #[.int .i64 a0_0, .slice (some ad152) l0_1.length c0_1, .slice (some ad154) l0_2.length c0_2, .slice A0_3 l0_3.length c0_3], .slice A152_0 (rd_L2 l0_1 x3_2).length c152_0, .int .i64 0, .int .i64 x3_2] ?_
            with_reducible refine (impl_belongs.calls k2 a0_0 _ _ l0_1 _ _ l0_2 _ _ l0_3 _ _ (rd_L2 l0_1 x3_2) 0 x3_2 true _ ?side1 ?side2 ?side3 ?side4 ?side5 ?side6 ?side7 ?side8 A18.out).mono ?_
            (case side1 => exact zC (Kd.C_below HR0_1.out HB.out))
            (case side2 => exact HC0_1.out)
            (case side3 => exact zC (Kd.C_below HR0_2.out HB.out))
            (case side4 => exact HC0_2.out)
            (case side5 => exact zC (Kd.C_below HR0_3.out HB.out))
            (case side6 => exact HC0_3.out)
            (case side7 => exact zC (Kd.C_below HR152_0.out HB.out))
            (case side8 => exact HC152_0.out)
            rintro e w24 ⟨rfl, hb⟩
            refine ⟨_, rfl, ?_⟩
            replace BK149 := zBB BK149 hb; replace HB := zLB (zL1 HB.out GE149.out) hb
            clear hb
            refine hK.out _ _ ⟨(bC BK149.out 0).trans rfl, (bC BK149.out 1).trans rfl, (bC BK149.out 2).trans rfl, (bC BK149.out 3).trans rfl, (zh HB.out hw152_0), (zh HB.out hw154_0)⟩ fun hHeld => ?_; clear hK K
            refine nZ 41 ?_
            refine pY 8 42 (fB 20 511) HT_.out ?_
            refine pY 9 43 (fB 20 1023) HT_.out ?_
            refine pY 11 45 (fB 20 3071) HT_.out ?_
            refine pY 13 47 (fB 20 11263) HT_.out ?_
            refine pY 16 50 (fB 20 76799) HT_.out ?_
            refine tY 10 44 (fB 20 77823) HT_.out HW_.out hHeld ?_
            refine tY 12 46 (fB 20 81919) HT_.out HW_.out hHeld ?_
            refine pY 14 48 (fB 20 98303) HT_.out ?_
            refine tY 15 49 (fB 20 131071) HT_.out HW_.out hHeld ?_
            refine oN 17 51 (fB 20 262143) HT_.out fun K hK => ?_
            refine gS Try.func70 #[.agg #[.int .i64 a0_0, .slice (some ad152) l0_1.length c0_1, .slice (some ad154) l0_2.length c0_2, .slice A0_3 l0_3.length c0_3], .slice A154_0 (rd_L2 l0_2 x3_2).length c154_0, .int .i64 1, .int .i64 x3_2] ?_
            with_reducible refine (impl_belongs.calls k2 a0_0 _ _ l0_1 _ _ l0_2 _ _ l0_3 _ _ (rd_L2 l0_2 x3_2) 1 x3_2 true _ ?side1 ?side2 ?side3 ?side4 ?side5 ?side6 ?side7 ?side8 A21.out).mono ?_
            (case side1 => exact zC (Kd.C_below HR0_1.out HB.out))
            (case side2 => exact HC0_1.out)
            (case side3 => exact zC (Kd.C_below HR0_2.out HB.out))
            (case side4 => exact HC0_2.out)
            (case side5 => exact zC (Kd.C_below HR0_3.out HB.out))
            (case side6 => exact HC0_3.out)
            (case side7 => exact zC (Kd.C_below HR154_0.out HB.out))
            (case side8 => exact HC154_0.out)
            rintro e w25 ⟨rfl, hb⟩
            refine ⟨_, rfl, ?_⟩
            replace BK149 := zBB BK149 hb; replace HB := zLB (zL1 HB.out GE149.out) hb
            clear hb
            refine hK.out _ _ ⟨(bC BK149.out 0).trans rfl, (bC BK149.out 1).trans rfl, (bC BK149.out 2).trans rfl, (bC BK149.out 3).trans rfl, (zh HB.out hw152_0), (zh HB.out hw154_0)⟩ fun hHeld => ?_; clear hK K
            refine nZ 51 ?_
            refine pY 18 52 (fB 20 524287) HT_.out ?_
            refine pY 19 53 (fB 20 1048575) HT_.out ?_
            refine done_ (done_of HT_.out (by kernel_rfl)) ?_
            try go_wp2
            go_roundg k2
            case measure => have := HJ1.out; have := HK2.out; omega
            case rel => exact ⟨(wrap64 (x3_2 + 1)), zV, H', ⟨by have := HJ1.out; have := HK2.out; omega⟩, ⟨zB BK149.out⟩, ⟨zL1 HB.out GE149.out⟩⟩
           ·obtain rfl := Bool.eq_false_iff.mpr c22
            rw [if_neg zn] at H
            obtain rfl := Option.some.inj H
            try go_wp2
            replace BK149 := zBD BK149; replace HB := zLD HB
            have p152 : 0 ≤ (x3_2 : Int) := zD
            have q152 : x3_2 < (l0_1.length : Int) := zD
            obtain ⟨ad152, A152_0, c152_0, e152, hx152_0, hl152_0, hi152_0⟩ := at_L2 HR0_1.out x3_2 p152 q152
            have hw152_0 := hx152_0
            cases e152
            replace hx152_0 := zh HB.out hx152_0
            have HR152_0 := aM hi152_0
            have HC152_0 := aM hl152_0
            clear hi152_0 hl152_0
            replace p152 := eq_true p152
            replace q152 := eq_true q152
            have p154 : 0 ≤ (x3_2 : Int) := zD
            have q154 : x3_2 < (l0_2.length : Int) := zD
            obtain ⟨ad154, A154_0, c154_0, e154, hx154_0, hl154_0, hi154_0⟩ := at_L2 HR0_2.out x3_2 p154 q154
            have hw154_0 := hx154_0
            cases e154
            replace hx154_0 := zh HB.out hx154_0
            have HR154_0 := aM hi154_0
            have HC154_0 := aM hl154_0
            clear hi154_0 hl154_0
            replace p154 := eq_true p154
            replace q154 := eq_true q154
            refine start_ (n := 20) (S := fun w' => w'.cell? ⟨gb149, 0, none⟩ = some (.int .i64 a0_0) ∧ w'.cell? ⟨gb149, 1, none⟩ = some (.slice (some ad152) l0_1.length c0_1) ∧ w'.cell? ⟨gb149, 2, none⟩ = some (.slice (some ad154) l0_2.length c0_2) ∧ w'.cell? ⟨gb149, 3, none⟩ = some (.slice A0_3 l0_3.length c0_3) ∧ w'.cell? (ad152.add (x3_2).toNat) = some (.slice A152_0 (rd_L2 l0_1 x3_2).length c152_0) ∧ w'.cell? (ad154.add (x3_2).toNat) = some (.slice A154_0 (rd_L2 l0_2 x3_2).length c154_0)) (ds := []) (fB 20 0) (by kernel_rfl) rfl rfl ⟨(bC BK149.out 0).trans rfl, (bC BK149.out 1).trans rfl, (bC BK149.out 2).trans rfl, (bC BK149.out 3).trans rfl, (zh HB.out hw152_0), (zh HB.out hw154_0)⟩ (fun hHeld => ?_); refine with_tabW impl_WheelOk.tab6 impl_WheelOk.bits6 (fun HT_ HW_ => ?_)
            generalize wr.drew = w26 at BK149 HB HR152_0 HR154_0 hx152_0 hx154_0 hHeld ⊢
            refine pY 1 35 (fB 20 2) HT_.out ?_
            refine pY 3 37 (fB 20 10) HT_.out ?_
            refine pY 6 40 (fB 20 74) HT_.out ?_
            refine tY 0 34 (fB 20 75) HT_.out HW_.out hHeld ?_
            refine tY 2 36 (fB 20 79) HT_.out HW_.out hHeld ?_
            refine pY 4 38 (fB 20 95) HT_.out ?_
            refine tY 5 39 (fB 20 127) HT_.out HW_.out hHeld ?_
            refine oN 7 41 (fB 20 255) HT_.out fun K hK => ?_
            refine gS Try.func70 #[.agg #[.int .i64 a0_0, .slice (some ad152) l0_1.length c0_1, .slice (some ad154) l0_2.length c0_2, .slice A0_3 l0_3.length c0_3], .slice A152_0 (rd_L2 l0_1 x3_2).length c152_0, .int .i64 0, .int .i64 x3_2] ?_
            with_reducible refine (impl_belongs.calls k2 a0_0 _ _ l0_1 _ _ l0_2 _ _ l0_3 _ _ (rd_L2 l0_1 x3_2) 0 x3_2 true _ ?side1 ?side2 ?side3 ?side4 ?side5 ?side6 ?side7 ?side8 A18.out).mono ?_
            (case side1 => exact zC (Kd.C_below HR0_1.out HB.out))
            (case side2 => exact HC0_1.out)
            (case side3 => exact zC (Kd.C_below HR0_2.out HB.out))
            (case side4 => exact HC0_2.out)
            (case side5 => exact zC (Kd.C_below HR0_3.out HB.out))
            (case side6 => exact HC0_3.out)
            (case side7 => exact zC (Kd.C_below HR152_0.out HB.out))
            (case side8 => exact HC152_0.out)
            rintro e w27 ⟨rfl, hb⟩
            refine ⟨_, rfl, ?_⟩
            replace BK149 := zBB BK149 hb; replace HB := zLB (zL1 HB.out GE149.out) hb
            clear hb
            refine hK.out _ _ ⟨(bC BK149.out 0).trans rfl, (bC BK149.out 1).trans rfl, (bC BK149.out 2).trans rfl, (bC BK149.out 3).trans rfl, (zh HB.out hw152_0), (zh HB.out hw154_0)⟩ fun hHeld => ?_; clear hK K
            refine nZ 41 ?_
            refine pY 8 42 (fB 20 511) HT_.out ?_
            refine pY 9 43 (fB 20 1023) HT_.out ?_
            refine pY 11 45 (fB 20 3071) HT_.out ?_
            refine pY 13 47 (fB 20 11263) HT_.out ?_
            refine pY 16 50 (fB 20 76799) HT_.out ?_
            refine tY 10 44 (fB 20 77823) HT_.out HW_.out hHeld ?_
            refine tY 12 46 (fB 20 81919) HT_.out HW_.out hHeld ?_
            refine pY 14 48 (fB 20 98303) HT_.out ?_
            refine tY 15 49 (fB 20 131071) HT_.out HW_.out hHeld ?_
            refine oN 17 51 (fB 20 262143) HT_.out fun K hK => ?_
            refine gS Try.func70 #[.agg #[.int .i64 a0_0, .slice (some ad152) l0_1.length c0_1, .slice (some ad154) l0_2.length c0_2, .slice A0_3 l0_3.length c0_3], .slice A154_0 (rd_L2 l0_2 x3_2).length c154_0, .int .i64 1, .int .i64 x3_2] ?_
            with_reducible refine (impl_belongs.calls k2 a0_0 _ _ l0_1 _ _ l0_2 _ _ l0_3 _ _ (rd_L2 l0_2 x3_2) 1 x3_2 false _ ?side1 ?side2 ?side3 ?side4 ?side5 ?side6 ?side7 ?side8 A21.out).mono ?_
            (case side1 => exact zC (Kd.C_below HR0_1.out HB.out))
            (case side2 => exact HC0_1.out)
            (case side3 => exact zC (Kd.C_below HR0_2.out HB.out))
            (case side4 => exact HC0_2.out)
            (case side5 => exact zC (Kd.C_below HR0_3.out HB.out))
            (case side6 => exact HC0_3.out)
            (case side7 => exact zC (Kd.C_below HR154_0.out HB.out))
            (case side8 => exact HC154_0.out)
            rintro e w28 ⟨rfl, hb⟩
            refine ⟨_, rfl, ?_⟩
            replace BK149 := zBB BK149 hb; replace HB := zLB (zL1 HB.out GE149.out) hb
            clear hb
            refine hK.out _ _ ⟨(bC BK149.out 0).trans rfl, (bC BK149.out 1).trans rfl, (bC BK149.out 2).trans rfl, (bC BK149.out 3).trans rfl, (zh HB.out hw152_0), (zh HB.out hw154_0)⟩ fun hHeld => ?_; clear hK K
            refine nZ 51 ?_
            refine pY 18 52 (fB 20 524287) HT_.out ?_
            refine pY 19 53 (fB 20 1048575) HT_.out ?_
            refine done_ (done_of HT_.out (by kernel_rfl)) ?_
            try go_wp2
            go_ret
            exact ⟨zW, zL1 HB.out GE149.out⟩
          ·rw [if_neg c20] at H
           exact absurd H (by simp)
         ·obtain rfl := Bool.eq_false_iff.mpr c19
          rw [if_neg zn] at H
          obtain rfl := Option.some.inj H
          try go_wp2
          replace BK149 := zBD BK149; replace HB := zLD HB
          have p152 : 0 ≤ (x3_2 : Int) := zD
          have q152 : x3_2 < (l0_1.length : Int) := zD
          obtain ⟨ad152, A152_0, c152_0, e152, hx152_0, hl152_0, hi152_0⟩ := at_L2 HR0_1.out x3_2 p152 q152
          have hw152_0 := hx152_0
          cases e152
          replace hx152_0 := zh HB.out hx152_0
          have HR152_0 := aM hi152_0
          have HC152_0 := aM hl152_0
          clear hi152_0 hl152_0
          replace p152 := eq_true p152
          replace q152 := eq_true q152
          refine start_ (n := 20) (S := fun w' => w'.cell? ⟨gb149, 0, none⟩ = some (.int .i64 a0_0) ∧ w'.cell? ⟨gb149, 1, none⟩ = some (.slice (some ad152) l0_1.length c0_1) ∧ w'.cell? ⟨gb149, 2, none⟩ = some (.slice A0_2 l0_2.length c0_2) ∧ w'.cell? ⟨gb149, 3, none⟩ = some (.slice A0_3 l0_3.length c0_3) ∧ w'.cell? (ad152.add (x3_2).toNat) = some (.slice A152_0 (rd_L2 l0_1 x3_2).length c152_0)) (ds := []) (fB 20 0) (by kernel_rfl) rfl rfl ⟨(bC BK149.out 0).trans rfl, (bC BK149.out 1).trans rfl, (bC BK149.out 2).trans rfl, (bC BK149.out 3).trans rfl, (zh HB.out hw152_0)⟩ (fun hHeld => ?_); refine with_tabW impl_WheelOk.tab6 impl_WheelOk.bits6 (fun HT_ HW_ => ?_)
          generalize wr.drew = w29 at BK149 HB HR152_0 hx152_0 hHeld ⊢
          refine pY 1 35 (fB 20 2) HT_.out ?_
          refine pY 3 37 (fB 20 10) HT_.out ?_
          refine pY 6 40 (fB 20 74) HT_.out ?_
          refine tY 0 34 (fB 20 75) HT_.out HW_.out hHeld ?_
          refine tY 2 36 (fB 20 79) HT_.out HW_.out hHeld ?_
          refine pY 4 38 (fB 20 95) HT_.out ?_
          refine tY 5 39 (fB 20 127) HT_.out HW_.out hHeld ?_
          refine oN 7 41 (fB 20 255) HT_.out fun K hK => ?_
          refine gS Try.func70 #[.agg #[.int .i64 a0_0, .slice (some ad152) l0_1.length c0_1, .slice A0_2 l0_2.length c0_2, .slice A0_3 l0_3.length c0_3], .slice A152_0 (rd_L2 l0_1 x3_2).length c152_0, .int .i64 0, .int .i64 x3_2] ?_
          with_reducible refine (impl_belongs.calls k2 a0_0 _ _ l0_1 _ _ l0_2 _ _ l0_3 _ _ (rd_L2 l0_1 x3_2) 0 x3_2 false _ ?side1 ?side2 ?side3 ?side4 ?side5 ?side6 ?side7 ?side8 A18.out).mono ?_
          (case side1 => exact zC (Kd.C_below HR0_1.out HB.out))
          (case side2 => exact HC0_1.out)
          (case side3 => exact zC (Kd.C_below HR0_2.out HB.out))
          (case side4 => exact HC0_2.out)
          (case side5 => exact zC (Kd.C_below HR0_3.out HB.out))
          (case side6 => exact HC0_3.out)
          (case side7 => exact zC (Kd.C_below HR152_0.out HB.out))
          (case side8 => exact HC152_0.out)
          rintro e w30 ⟨rfl, hb⟩
          refine ⟨_, rfl, ?_⟩
          replace BK149 := zBB BK149 hb; replace HB := zLB (zL1 HB.out GE149.out) hb
          clear hb
          refine hK.out _ _ ⟨(bC BK149.out 0).trans rfl, (bC BK149.out 1).trans rfl, (bC BK149.out 2).trans rfl, (bC BK149.out 3).trans rfl, (zh HB.out hw152_0)⟩ fun hHeld => ?_; clear hK K
          refine nZ 41 ?_
          refine pY 8 42 (fB 20 511) HT_.out ?_
          refine pY 9 43 (fB 20 1023) HT_.out ?_
          refine pN 10 44 (fB 20 2047) HT_.out ?_
          refine pN 11 45 (fB 20 4095) HT_.out ?_
          refine pN 12 46 (fB 20 8191) HT_.out ?_
          refine pN 13 47 (fB 20 16383) HT_.out ?_
          refine pN 14 48 (fB 20 32767) HT_.out ?_
          refine pN 15 49 (fB 20 65535) HT_.out ?_
          refine pN 16 50 (fB 20 131071) HT_.out ?_
          refine pN 17 51 (fB 20 262143) HT_.out ?_
          refine pN 18 52 (fB 20 524287) HT_.out ?_
          refine pY 19 53 (fB 20 1048575) HT_.out ?_
          refine done_ (done_of HT_.out (by kernel_rfl)) ?_
          try go_wp2
          go_ret
          exact ⟨zW, zL1 HB.out GE149.out⟩
        ·rw [if_neg c17] at H
         exact absurd H (by simp)
       ·rw [if_neg c16] at H
        exact absurd H (by simp)
      ·rw [if_neg c15] at H
       have c15b0 := dF c15
       clear c15
       obtain ⟨t156, A31, H⟩ := zO H; try dsimp only at H
       have H' := aM H
       clear H
       have hcz32 := zc4 BK149.out
       have hfz32 := zf4 BK149.out
       go_wp2_with (first | ((with_reducible refine gC 25 rfl ?_); refine gL 55 Try.func25 #[.agg #[.int .i64 a0_0, .slice A0_1 l0_1.length c0_1, .slice A0_2 l0_2.length c0_2, .slice A0_3 l0_3.length c0_3]] ?_; (with_reducible refine (impl_Timers.calls k2 a0_0 _ _ l0_1 _ _ l0_2 _ _ l0_3 t156 _ ?side1 ?side2 ?side3 ?side4 ?side5 ?side6 A31.out).mono ?_); (case side1 => exact zC (Kd.C_below HR0_1.out HB.out)); (case side2 => exact HC0_1.out); (case side3 => exact zC (Kd.C_below HR0_2.out HB.out)); (case side4 => exact HC0_2.out); (case side5 => exact zC (Kd.C_below HR0_3.out HB.out)); (case side6 => exact HC0_3.out); rintro e w33 ⟨v157, rfl, ho0, hb⟩; refine ⟨_, rfl, ?_⟩; have HO158 := aM (Kd.R_lower ho0 (below_size (zL1 HB.out GE149.out))); replace BK149 := zBB BK149 hb; replace HB := zLB (zL1 HB.out GE149.out) hb; clear ho0 hb; obtain ⟨Ao34, co34, eo34⟩ := Kd.R_slice HO158.out; subst eo34))
       go_loopg [58] k2 (fun kq v58 w' => ∃ (x58_3 : Int), v58 = .int .i64 x58_3 ∧ Aside0 (impl_WheelOk.l1 kq t156 t156 (t156.length : Int) x58_3 = some r) ∧ Aside0 (kq ≤ k2) ∧ Aside0 (Kd.R k46 46 w' w.heap.size (fun _ => True) (.slice Ao34 t156.length co34) t156) ∧ Aside0 (Kd.R k46 46 w' w.heap.size (fun _ => True) (.slice Ao34 t156.length co34) t156) ∧ Aside0 (w'.heap[gb149]? = some (.cells #[.int .i64 a0_0, (.slice A0_1 l0_1.length c0_1), (.slice A0_2 l0_2.length c0_2), (.slice A0_3 l0_3.length c0_3)] 25 (0, 0))) ∧ Aside0 (Below w.heap.size w w'))
       case atStart => exact ⟨(0), zV, H', ⟨Nat.le_refl _⟩, ⟨zR HO158.out⟩, ⟨zR HO158.out⟩, ⟨zB BK149.out⟩, ⟨zL1 HB.out GE149.out⟩⟩
       case round =>
        clear H'
        try clear c1
        try clear p1
        try clear q1
        try clear hx1
        try clear c2
        try clear p2
        try clear p6
        try clear c7
        try clear c15
        try clear c15b0
        try clear p15
        try clear q15
        try clear hx15
        try clear c16
        try clear c17
        try clear c19
        try clear c20
        try clear c22
        try clear c25
        try clear hcz32; try clear hfz32
        try clear hx152_0
        try clear hx154_0
        try clear p152
        try clear p154
        try clear q152
        try clear q154
        try clear BK149
        obtain ⟨x58_3, rfl, HA, HK3, HO_4, HO_56, BK149, HB⟩ := hrel
        cases gk with
        | zero => exact absurd HA.out (by simp [impl_WheelOk.l1])
        | succ k3 =>
         have H := HA.out
         clear HA
         simp only [impl_WheelOk.l1] at H
         by_cases c35 : x58_3 < (t156.length : Int)
         ·rw [if_pos c35] at H
          have c35b0 := dT c35
          clear c35
          by_cases c36 : 0 ≤ x58_3
          ·rw [if_pos c36] at H
           have c36b0 := dT c36
           clear c36
           by_cases c37 : x58_3 < (t156.length : Int)
           ·rw [if_pos c37] at H
            have c37b0 := dT c37
            clear c37
            obtain ⟨t161, A38, H⟩ := zO H; try dsimp only at H
            by_cases c39 : t161 = x58_3
            ·rw [if_pos c39] at H
             obtain ⟨c39b0, c39b1⟩ := zt c39
             clear c39
             have H' := aM H
             clear H
             have p159 : 0 ≤ (x58_3 : Int) := zD
             have q159 : x58_3 < (t156.length : Int) := zD
             obtain ⟨ad159, e159, hx159_0, hx159_1, hx159_2⟩ := at_T46 (Kd.R_reads' HO_56.out).2.2 x58_3 p159 q159
             cases e159
             replace p159 := eq_true p159
             replace q159 := eq_true q159
             go_wp2_with (first | ((with_reducible refine gD 6 rfl ?_); (try (refine gate_guard (by rfl) ?_; dsimp only)); refine box_event ?hg (N := 6) ?hd (cs := #[.int .i64 0, .int .i64 0, .int .i64 0]) (t := 46) ?hr ?_; (case hd => rfl); (case hg => rfl); (case hr => first | (go_simp; done) | (go_simp; rfl)); intro gb160 hg w40 hbox hb; replace HO_4 := aM (Kd.R_below (Kd.R_elderB (zR HO_4.out) gb160 (Nat.le_of_eq hg.symm)) hb); replace HO_56 := aM (Kd.R_below (Kd.R_elderB (zR HO_56.out) gb160 (Nat.le_of_eq hg.symm)) hb); have BK160 := aM hbox; have GW160 := aM (zg (zL1 HB.out GE149.out) hg : w.heap.size ≤ gb160); have GE160 := GW160; replace HB := zLB (zL1 HB.out GE149.out) hb; have NB149_160 := aM (zN BK149.out hg : gb149 ≠ gb160); have NB160_149 := aM (zM BK149.out hg : gb160 ≠ gb149); replace BK149 := zBB BK149 hb; clear hb hbox hg; have hnb41 := NB160_149.out; have hnc41 := NB149_160.out; have hcz42_0 : w40.cell? ⟨gb160, 0, none⟩ = some (.int .i64 0) := (bC BK160.out 0).trans rfl; have hcz42_1 : w40.cell? ⟨gb160, 1, none⟩ = some (.int .i64 0) := (bC BK160.out 1).trans rfl; have hcz42_2 : w40.cell? ⟨gb160, 2, none⟩ = some (.int .i64 0) := (bC BK160.out 2).trans rfl; have hfz42_0 := blk_frozen BK160.out 0; have hfz42_1 := blk_frozen BK160.out 1; have hfz42_2 := blk_frozen BK160.out 2) | ((with_reducible refine gC 71 rfl ?_); refine gL 66 Try.func71 #[.slice (some ad159) t156.length co34, .int .i64 ((rd_T46 t156 x58_3).f0)] ?_; (with_reducible refine (impl_timerAt.calls k3 _ _ t156 ((rd_T46 t156 x58_3).f0) t161 _ ?side1 ?side2 A38.out).mono ?_); (case side1 => refine (Kd.R_reads' (e := 46) (base := w.heap.size) (ok := fun k_ => (True ∧ k_ ≠ gb160)) (n := t156.length) (c := co34) ?_).2.2; exact (by (with_reducible repeat (first | apply Kd.R_alloc | apply Kd.R_drewN | apply Kd.R_drew)); exact (Kd.R_mono (Kd.R_far (p := ⟨gb160, 2, none⟩) (Kd.R_far (p := ⟨gb160, 1, none⟩) (Kd.R_far (p := ⟨gb160, 0, none⟩) (Kd.R_mono HO_4.out (fun k_ hk => (⟨hk, hk.2⟩ : _ ∧ k_ ≠ gb160))) (fun _ hk => hk.2) (.int .i64 ((rd_T46 t156 x58_3).f0))) (fun _ hk => hk.2) (.int .i64 ((rd_T46 t156 x58_3).f1))) (fun _ hk => hk.2) (.int .i64 ((rd_T46 t156 x58_3).f2))) (fun _ h_ => h_.1)))); (case side2 => exact (Kd.R_reads' HO_4.out).2.1); rintro e w43 ⟨rfl, hb⟩; refine ⟨_, rfl, ?_⟩; replace HO_4 := aM (Kd.R_below (by (with_reducible repeat (first | apply Kd.R_alloc | apply Kd.R_drewN | apply Kd.R_drew)); exact (Kd.R_mono (Kd.R_far (p := ⟨gb160, 2, none⟩) (Kd.R_far (p := ⟨gb160, 1, none⟩) (Kd.R_far (p := ⟨gb160, 0, none⟩) (Kd.R_mono HO_4.out (fun k_ hk => (⟨hk, hk.2⟩ : _ ∧ k_ ≠ gb160))) (fun _ hk => hk.2) (.int .i64 ((rd_T46 t156 x58_3).f0))) (fun _ hk => hk.2) (.int .i64 ((rd_T46 t156 x58_3).f1))) (fun _ hk => hk.2) (.int .i64 ((rd_T46 t156 x58_3).f2))) (fun _ h_ => h_.1))) hb); replace HO_56 := aM (Kd.R_below (by (with_reducible repeat (first | apply Kd.R_alloc | apply Kd.R_drewN | apply Kd.R_drew)); exact (Kd.R_mono (Kd.R_far (p := ⟨gb160, 2, none⟩) (Kd.R_far (p := ⟨gb160, 1, none⟩) (Kd.R_far (p := ⟨gb160, 0, none⟩) (Kd.R_mono HO_56.out (fun k_ hk => (⟨hk, hk.2⟩ : _ ∧ k_ ≠ gb160))) (fun _ hk => hk.2) (.int .i64 ((rd_T46 t156 x58_3).f0))) (fun _ hk => hk.2) (.int .i64 ((rd_T46 t156 x58_3).f1))) (fun _ hk => hk.2) (.int .i64 ((rd_T46 t156 x58_3).f2))) (fun _ h_ => h_.1))) hb); replace BK149 := aM (bB (g := gb149) (o := .cells #[.int .i64 a0_0, .slice A0_1 l0_1.length c0_1, .slice A0_2 l0_2.length c0_2, .slice A0_3 l0_3.length c0_3] 25 (0, 0)) (by (with_reducible repeat (first | refine bN ?_ _ | refine bD ?_ | refine bA ?_ _)); refine blk_far ?_ NB149_160.out _; (with_reducible repeat (first | refine bN ?_ _ | refine bD ?_ | refine bA ?_ _)); refine blk_far ?_ NB149_160.out _; (with_reducible repeat (first | refine bN ?_ _ | refine bD ?_ | refine bA ?_ _)); refine blk_far ?_ NB149_160.out _; exact zB BK149.out) hb); replace BK160 := aM (bB (g := gb160) (o := .cells #[.int .i64 ((rd_T46 t156 x58_3).f0), .int .i64 ((rd_T46 t156 x58_3).f1), .int .i64 ((rd_T46 t156 x58_3).f2)] 46 (0, 0)) (by (with_reducible repeat (first | refine bN ?_ _ | refine bD ?_ | refine bA ?_ _)); refine blk_put (cs := #[.int .i64 ((rd_T46 t156 x58_3).f0), .int .i64 ((rd_T46 t156 x58_3).f1), .int .i64 0]) ?_ 2 _ rfl; (with_reducible repeat (first | refine bN ?_ _ | refine bD ?_ | refine bA ?_ _)); refine blk_put (cs := #[.int .i64 ((rd_T46 t156 x58_3).f0), .int .i64 0, .int .i64 0]) ?_ 1 _ rfl; (with_reducible repeat (first | refine bN ?_ _ | refine bD ?_ | refine bA ?_ _)); refine blk_put (cs := #[.int .i64 0, .int .i64 0, .int .i64 0]) ?_ 0 _ rfl; exact zB BK160.out) hb); replace HB := zLB (zL2 HB.out GE149.out GE160.out) hb; clear hb))
             go_roundg k3
             case measure => have := HJ1.out; have := HK2.out; have := HK3.out; omega
             case rel => exact ⟨(wrap64 (x58_3 + 1)), zV, H', ⟨by have := HJ1.out; have := HK2.out; have := HK3.out; omega⟩, ⟨zRm HO_4.out (fun _ hk => trivial)⟩, ⟨zRm HO_56.out (fun _ hk => trivial)⟩, ⟨zB BK149.out⟩, ⟨zL2 HB.out GE149.out GE160.out⟩⟩
            ·rw [if_neg c39] at H
             obtain ⟨c39b0, c39b1⟩ := zf c39
             obtain rfl := Option.some.inj H
             have p159 : 0 ≤ (x58_3 : Int) := zD
             have q159 : x58_3 < (t156.length : Int) := zD
             obtain ⟨ad159, e159, hx159_0, hx159_1, hx159_2⟩ := at_T46 (Kd.R_reads' HO_56.out).2.2 x58_3 p159 q159
             cases e159
             replace p159 := eq_true p159
             replace q159 := eq_true q159
             go_wp2_with (first | ((with_reducible refine gD 6 rfl ?_); (try (refine gate_guard (by rfl) ?_; dsimp only)); refine box_event ?hg (N := 6) ?hd (cs := #[.int .i64 0, .int .i64 0, .int .i64 0]) (t := 46) ?hr ?_; (case hd => rfl); (case hg => rfl); (case hr => first | (go_simp; done) | (go_simp; rfl)); intro gb160 hg w44 hbox hb; replace HO_4 := aM (Kd.R_below (Kd.R_elderB (zR HO_4.out) gb160 (Nat.le_of_eq hg.symm)) hb); replace HO_56 := aM (Kd.R_below (Kd.R_elderB (zR HO_56.out) gb160 (Nat.le_of_eq hg.symm)) hb); have BK160 := aM hbox; have GW160 := aM (zg (zL1 HB.out GE149.out) hg : w.heap.size ≤ gb160); have GE160 := GW160; replace HB := zLB (zL1 HB.out GE149.out) hb; have NB149_160 := aM (zN BK149.out hg : gb149 ≠ gb160); have NB160_149 := aM (zM BK149.out hg : gb160 ≠ gb149); replace BK149 := zBB BK149 hb; clear hb hbox hg; have hnb45 := NB160_149.out; have hnc45 := NB149_160.out; have hcz46_0 : w44.cell? ⟨gb160, 0, none⟩ = some (.int .i64 0) := (bC BK160.out 0).trans rfl; have hcz46_1 : w44.cell? ⟨gb160, 1, none⟩ = some (.int .i64 0) := (bC BK160.out 1).trans rfl; have hcz46_2 : w44.cell? ⟨gb160, 2, none⟩ = some (.int .i64 0) := (bC BK160.out 2).trans rfl; have hfz46_0 := blk_frozen BK160.out 0; have hfz46_1 := blk_frozen BK160.out 1; have hfz46_2 := blk_frozen BK160.out 2) | ((with_reducible refine gC 71 rfl ?_); refine gL 66 Try.func71 #[.slice (some ad159) t156.length co34, .int .i64 ((rd_T46 t156 x58_3).f0)] ?_; (with_reducible refine (impl_timerAt.calls k3 _ _ t156 ((rd_T46 t156 x58_3).f0) t161 _ ?side1 ?side2 A38.out).mono ?_); (case side1 => refine (Kd.R_reads' (e := 46) (base := w.heap.size) (ok := fun k_ => (True ∧ k_ ≠ gb160)) (n := t156.length) (c := co34) ?_).2.2; exact (by (with_reducible repeat (first | apply Kd.R_alloc | apply Kd.R_drewN | apply Kd.R_drew)); exact (Kd.R_mono (Kd.R_far (p := ⟨gb160, 2, none⟩) (Kd.R_far (p := ⟨gb160, 1, none⟩) (Kd.R_far (p := ⟨gb160, 0, none⟩) (Kd.R_mono HO_4.out (fun k_ hk => (⟨hk, hk.2⟩ : _ ∧ k_ ≠ gb160))) (fun _ hk => hk.2) (.int .i64 ((rd_T46 t156 x58_3).f0))) (fun _ hk => hk.2) (.int .i64 ((rd_T46 t156 x58_3).f1))) (fun _ hk => hk.2) (.int .i64 ((rd_T46 t156 x58_3).f2))) (fun _ h_ => h_.1)))); (case side2 => exact (Kd.R_reads' HO_4.out).2.1); rintro e w47 ⟨rfl, hb⟩; refine ⟨_, rfl, ?_⟩; replace HO_4 := aM (Kd.R_below (by (with_reducible repeat (first | apply Kd.R_alloc | apply Kd.R_drewN | apply Kd.R_drew)); exact (Kd.R_mono (Kd.R_far (p := ⟨gb160, 2, none⟩) (Kd.R_far (p := ⟨gb160, 1, none⟩) (Kd.R_far (p := ⟨gb160, 0, none⟩) (Kd.R_mono HO_4.out (fun k_ hk => (⟨hk, hk.2⟩ : _ ∧ k_ ≠ gb160))) (fun _ hk => hk.2) (.int .i64 ((rd_T46 t156 x58_3).f0))) (fun _ hk => hk.2) (.int .i64 ((rd_T46 t156 x58_3).f1))) (fun _ hk => hk.2) (.int .i64 ((rd_T46 t156 x58_3).f2))) (fun _ h_ => h_.1))) hb); replace HO_56 := aM (Kd.R_below (by (with_reducible repeat (first | apply Kd.R_alloc | apply Kd.R_drewN | apply Kd.R_drew)); exact (Kd.R_mono (Kd.R_far (p := ⟨gb160, 2, none⟩) (Kd.R_far (p := ⟨gb160, 1, none⟩) (Kd.R_far (p := ⟨gb160, 0, none⟩) (Kd.R_mono HO_56.out (fun k_ hk => (⟨hk, hk.2⟩ : _ ∧ k_ ≠ gb160))) (fun _ hk => hk.2) (.int .i64 ((rd_T46 t156 x58_3).f0))) (fun _ hk => hk.2) (.int .i64 ((rd_T46 t156 x58_3).f1))) (fun _ hk => hk.2) (.int .i64 ((rd_T46 t156 x58_3).f2))) (fun _ h_ => h_.1))) hb); replace BK149 := aM (bB (g := gb149) (o := .cells #[.int .i64 a0_0, .slice A0_1 l0_1.length c0_1, .slice A0_2 l0_2.length c0_2, .slice A0_3 l0_3.length c0_3] 25 (0, 0)) (by (with_reducible repeat (first | refine bN ?_ _ | refine bD ?_ | refine bA ?_ _)); refine blk_far ?_ NB149_160.out _; (with_reducible repeat (first | refine bN ?_ _ | refine bD ?_ | refine bA ?_ _)); refine blk_far ?_ NB149_160.out _; (with_reducible repeat (first | refine bN ?_ _ | refine bD ?_ | refine bA ?_ _)); refine blk_far ?_ NB149_160.out _; exact zB BK149.out) hb); replace BK160 := aM (bB (g := gb160) (o := .cells #[.int .i64 ((rd_T46 t156 x58_3).f0), .int .i64 ((rd_T46 t156 x58_3).f1), .int .i64 ((rd_T46 t156 x58_3).f2)] 46 (0, 0)) (by (with_reducible repeat (first | refine bN ?_ _ | refine bD ?_ | refine bA ?_ _)); refine blk_put (cs := #[.int .i64 ((rd_T46 t156 x58_3).f0), .int .i64 ((rd_T46 t156 x58_3).f1), .int .i64 0]) ?_ 2 _ rfl; (with_reducible repeat (first | refine bN ?_ _ | refine bD ?_ | refine bA ?_ _)); refine blk_put (cs := #[.int .i64 ((rd_T46 t156 x58_3).f0), .int .i64 0, .int .i64 0]) ?_ 1 _ rfl; (with_reducible repeat (first | refine bN ?_ _ | refine bD ?_ | refine bA ?_ _)); refine blk_put (cs := #[.int .i64 0, .int .i64 0, .int .i64 0]) ?_ 0 _ rfl; exact zB BK160.out) hb); replace HB := zLB (zL2 HB.out GE149.out GE160.out) hb; clear hb))
             go_ret
             exact ⟨zW, zL2 HB.out GE149.out GE160.out⟩
           ·rw [if_neg c37] at H
            exact absurd H (by simp)
          ·rw [if_neg c36] at H
           exact absurd H (by simp)
         ·rw [if_neg c35] at H
          have c35b0 := dF c35
          clear c35
          obtain rfl := Option.some.inj H
          go_wp2
          go_ret
          exact ⟨zW, zL1 HB.out GE149.out⟩

open Go.Proofs.YtggenhomnbnodaaW.PrintWords renaming blk_drewN → bN, blk_drew → bD, blk_alloc → bA, blk_cell → bC, blk_below → bB, below_set → bS
def spec_l1In.f (a0 : Int) (a1 : Int) (a2 : Int) : Option (Bool) := if a0 ≥ a1 then (some (decide (a0 ≤ a2))) else (some false)
set_option maxHeartbeats 8000000 in
set_option maxRecDepth 100000 in
theorem spec_l1In.calls (a0 : Int) (a1 : Int) (a2 : Int) (r : Bool) (w : World) (h : spec_l1In.f a0 a1 a2 = some r) :
  Calls Try.prog 67 #[.int .i64 a0, .int .i64 a1, .int .i64 a2] w fun e w' => e = .returned (.bool r) ∧ Drawn0 w w' := by
 unfold spec_l1In.f at h; have H := h
 clear h
 by_cases c4 : a0 ≥ a1
 ·rw [if_pos c4] at H
  have c4b0 := dT c4
  clear c4
  obtain rfl := Option.some.inj H
  go_enter Try.func67, Try.ntmps67
  go_wp2
  go_ret
  exact ⟨zV, zU⟩
 ·rw [if_neg c4] at H
  have c4b0 := dF c4
  clear c4
  obtain rfl := Option.some.inj H
  go_enter Try.func67, Try.ntmps67
  go_wp2
  go_ret
  exact ⟨zV, zU⟩

open Go.Proofs.YtggenhomnbnodaaW.PrintWords renaming blk_drewN → bN, blk_drew → bD, blk_alloc → bA, blk_cell → bC, blk_below → bB, below_set → bS
def spec_l8Place.f (a0 : Int) (a1 : Int) : Option (Int × Int) := if (wrap64 (Int.tdiv a1 8)) = (wrap64 (Int.tdiv a0 8)) then (some (1, Int.tmod a1 8)) else (if (wrap64 ((wrap64 (Int.tdiv a1 8)) - (wrap64 (Int.tdiv a0 8)))) < 8 then (some (2, Int.tmod (wrap64 (Int.tdiv a1 8)) 8)) else (some (3, 0)))
set_option maxHeartbeats 8000000 in
set_option maxRecDepth 100000 in
theorem spec_l8Place.calls (a0 : Int) (a1 : Int) (r1 : Int) (r2 : Int) (w : World) (h : spec_l8Place.f a0 a1 = some (r1, r2)) :
  Calls Try.prog 88 #[.int .i64 a0, .int .i64 a1] w fun e w' => e = .returned (.tuple #[.int .i64 r1, .int .i64 r2]) ∧ Drawn0 w w' := by
 unfold spec_l8Place.f at h; have H := h
 clear h
 by_cases c3 : (wrap64 (Int.tdiv a1 8)) = (wrap64 (Int.tdiv a0 8))
 ·rw [if_pos c3] at H
  obtain ⟨c3b0, c3b1⟩ := zt c3
  clear c3
  simp only [Option.some.injEq, Prod.mk.injEq] at H
  obtain ⟨rfl, rfl⟩ := H
  go_enter Try.func88, Try.ntmps88
  go_wp2
  go_ret2
  exact ⟨zV, zU⟩
 ·rw [if_neg c3] at H
  obtain ⟨c3b0, c3b1⟩ := zf c3
  by_cases c4 : (wrap64 ((wrap64 (Int.tdiv a1 8)) - (wrap64 (Int.tdiv a0 8)))) < 8
  ·rw [if_pos c4] at H
   have c4b0 := dT c4
   clear c4
   simp only [Option.some.injEq, Prod.mk.injEq] at H
   obtain ⟨rfl, rfl⟩ := H
   go_enter Try.func88, Try.ntmps88
   go_wp2
   go_ret2
   exact ⟨zV, zU⟩
  ·rw [if_neg c4] at H
   have c4b0 := dF c4
   clear c4
   simp only [Option.some.injEq, Prod.mk.injEq] at H
   obtain ⟨rfl, rfl⟩ := H
   go_enter Try.func88, Try.ntmps88
   go_wp2
   go_ret2
   exact ⟨zV, zU⟩

open Go.Proofs.YtggenhomnbnodaaW.PrintWords renaming blk_drewN → bN, blk_drew → bD, blk_alloc → bA, blk_cell → bC, blk_below → bB, below_set → bS
mutual
def spec_l8Slot.l0 : Nat → List (S46) → Int → Int → Int → Int → List (List (S46)) → List (List (S46)) → List (S46) → Option (Bool)
 | 0, _, _, _, _, _, _, _, _ => none
 | k + 1, x1, x2, x3, x9, x163000, x163001, x163002, x163003 => if x9 < (x1.length : Int) then (if 0 ≤ x9 then (if ((rd_T46 x1 x9).f0) < 1 then (spec_l8Slot.j1 k x1 x2 x3 x9 true x163000 x163001 x163002 x163003 ((rd_T46 x1 x9).f0) ((rd_T46 x1 x9).f1) ((rd_T46 x1 x9).f2)) else ((spec_l1In.f ((rd_T46 x1 x9).f1) 1 999).bind fun t165 => (if t165 = true then ((spec_l1In.f ((rd_T46 x1 x9).f2) (wrap64 (x163000 + 1)) 2147483647).bind fun t166 => (spec_l8Slot.j1 k x1 x2 x3 x9 (!t166) x163000 x163001 x163002 x163003 ((rd_T46 x1 x9).f0) ((rd_T46 x1 x9).f1) ((rd_T46 x1 x9).f2))) else (spec_l8Slot.j1 k x1 x2 x3 x9 true x163000 x163001 x163002 x163003 ((rd_T46 x1 x9).f0) ((rd_T46 x1 x9).f1) ((rd_T46 x1 x9).f2))))) else (none)) else (some true)
def spec_l8Slot.j1 : Nat → List (S46) → Int → Int → Int → Bool → Int → List (List (S46)) → List (List (S46)) → List (S46) → Int → Int → Int → Option (Bool)
 | 0, _, _, _, _, _, _, _, _, _, _, _, _ => none
 | k + 1, x1, x2, x3, x9, x40, x163000, x163001, x163002, x163003, x165000, x165001, x165002 => if x40 = true then (some false) else ((spec_l8Place.f x163000 x165002).bind fun bt167 => (if bt167.1 = x2 then (if bt167.2 = x3 then (spec_l8Slot.l0 k x1 x2 x3 (wrap64 (x9 + 1)) x163000 x163001 x163002 x163003) else (some false)) else (some false)))
end
def spec_l8Slot.f (k : Nat) (a0_0 : Int) (l0_1 : List (List (S46))) (l0_2 : List (List (S46))) (l0_3 : List (S46)) (l1 : List (S46)) (a2 : Int) (a3 : Int) : Option (Bool) := spec_l8Slot.l0 k l1 a2 a3 0 a0_0 l0_1 l0_2 l0_3
set_option maxHeartbeats 8000000 in
set_option maxRecDepth 100000 in
theorem spec_l8Slot.calls (k : Nat) (a0_0 : Int) (A0_1 : Option Addr) (c0_1 : Nat) (l0_1 : List (List (S46))) (A0_2 : Option Addr) (c0_2 : Nat) (l0_2 : List (List (S46))) (A0_3 : Option Addr) (c0_3 : Nat) (l0_3 : List (S46)) (A1 : Option Addr) (c1 : Nat) (l1 : List (S46)) (a2 : Int) (a3 : Int) (r : Bool) (w : World) (hr0_1 : Kd.C (Kd.slice 46 k46) w A0_1 l0_1.length l0_1) (hc0_1 : l0_1.length ≤ c0_1) (hr0_2 : Kd.C (Kd.slice 46 k46) w A0_2 l0_2.length l0_2) (hc0_2 : l0_2.length ≤ c0_2) (hr0_3 : Kd.C k46 w A0_3 l0_3.length l0_3) (hc0_3 : l0_3.length ≤ c0_3) (hr1 : Kd.C k46 w A1 l1.length l1) (hc1 : l1.length ≤ c1) (h : spec_l8Slot.f k a0_0 l0_1 l0_2 l0_3 l1 a2 a3 = some r) :
  Calls Try.prog 68 #[.agg #[.int .i64 a0_0, .slice A0_1 l0_1.length c0_1, .slice A0_2 l0_2.length c0_2, .slice A0_3 l0_3.length c0_3], .slice A1 l1.length c1, .int .i64 a2, .int .i64 a3] w fun e w' => e = .returned (.bool r) ∧ Below w.heap.size w w' := by
 have hu25 := Try.underlying25
 have hu46 := Try.underlying46
 have HR0_1 := aM hr0_1
 have HC0_1 := aM hc0_1
 clear hr0_1 hc0_1
 have HR0_2 := aM hr0_2
 have HC0_2 := aM hc0_2
 clear hr0_2 hc0_2
 have HR0_3 := aM hr0_3
 have HC0_3 := aM hc0_3
 clear hr0_3 hc0_3
 have HR1 := aM hr1
 have HC1 := aM hc1
 clear hr1 hc1
 have HB := aM (Below.refl w.heap.size w)
 unfold spec_l8Slot.f at h; have H := h
 clear h
 have H' := aM H
 clear H
 go_enter Try.func68, Try.ntmps68
 go_wp2_with (first | ((with_reducible refine gD 4 rfl ?_); refine bE 4 #[.int .i64 a0_0, .slice A0_1 l0_1.length c0_1, .slice A0_2 l0_2.length c0_2, .slice A0_3 l0_3.length c0_3] 25 ?_; intro gb162 hg w5 hbox hb; have BK162 := aM hbox; have GW162 := aM (zg (zL HB.out) hg : w.heap.size ≤ gb162); have GE162 := GW162; replace HB := zLB (zL HB.out) hb; clear hb hbox hg))
 go_loopg [9] k (fun kq v9 w' => ∃ (x9_1 : Int), v9 = .int .i64 x9_1 ∧ Aside0 (spec_l8Slot.l0 kq l1 a2 a3 x9_1 a0_0 l0_1 l0_2 l0_3 = some r) ∧ Aside0 (kq ≤ k) ∧ Aside0 (w'.heap[gb162]? = some (.cells #[.int .i64 a0_0, (.slice A0_1 l0_1.length c0_1), (.slice A0_2 l0_2.length c0_2), (.slice A0_3 l0_3.length c0_3)] 25 (0, 0))) ∧ Aside0 (Below w.heap.size w w'))
 case atStart => exact ⟨(0), zV, H', ⟨Nat.le_refl _⟩, ⟨zB BK162.out⟩, ⟨zL1 HB.out GE162.out⟩⟩
 case round =>
  clear H'
  try clear c1
  try clear p2
  try clear BK162
  obtain ⟨x9_1, rfl, HA, HK1, BK162, HB⟩ := hrel
  cases gk with
  | zero => exact absurd HA.out (by simp [spec_l8Slot.l0])
  | succ k1 =>
   have H := HA.out
   clear HA
   simp only [spec_l8Slot.l0] at H
   by_cases c6 : x9_1 < (l1.length : Int)
   ·rw [if_pos c6] at H
    have c6b0 := dT c6
    clear c6
    by_cases c7 : 0 ≤ x9_1
    ·rw [if_pos c7] at H
     have c7b0 := dT c7
     clear c7
     have HC8 := aM H
     clear H
     have p163 : 0 ≤ (x9_1 : Int) := zD
     have q163 : x9_1 < (l1.length : Int) := zD
     obtain ⟨ad163, e163, hx163_0, hx163_1, hx163_2⟩ := at_T46 HR1.out x9_1 p163 q163
     cases e163
     replace hx163_0 := zh HB.out hx163_0
     replace hx163_1 := zh HB.out hx163_1
     replace hx163_2 := zh HB.out hx163_2
     replace p163 := eq_true p163
     replace q163 := eq_true q163
     go_upto_region 5 with (first | ((with_reducible refine gD 10 rfl ?_); refine bE 10 #[.int .i64 0, .int .i64 0, .int .i64 0] 46 ?_; intro gb164 hg w9 hbox hb; have BK164 := aM hbox; have GW164 := aM (zg (zL1 HB.out GE162.out) hg : w.heap.size ≤ gb164); have GE164 := GW164; replace HB := zLB (zL1 HB.out GE162.out) hb; have NB162_164 := aM (zN BK162.out hg : gb162 ≠ gb164); have NB164_162 := aM (zM BK162.out hg : gb164 ≠ gb162); replace BK162 := zBB BK162 hb; clear hb hbox hg; have hnb10 := NB164_162.out; have hnc10 := NB162_164.out; have hcz11_0 : w9.cell? ⟨gb164, 0, none⟩ = some (.int .i64 0) := (bC BK164.out 0).trans rfl; have hcz11_1 : w9.cell? ⟨gb164, 1, none⟩ = some (.int .i64 0) := (bC BK164.out 1).trans rfl; have hcz11_2 : w9.cell? ⟨gb164, 2, none⟩ = some (.int .i64 0) := (bC BK164.out 2).trans rfl; have hfz11_0 := blk_frozen BK164.out 0; have hfz11_1 := blk_frozen BK164.out 1; have hfz11_2 := blk_frozen BK164.out 2))
     (try simp only [Act.put, List.setIfInBounds_toArray, List.set_cons_zero, List.set_cons_succ])
     go_cut [40] (fun v40 wc => ∃ (kq : Nat) (x40_7 : Bool), v40 = .bool x40_7 ∧ Aside0 (spec_l8Slot.j1 kq l1 a2 a3 x9_1 x40_7 a0_0 l0_1 l0_2 l0_3 ((rd_T46 l1 x9_1).f0) ((rd_T46 l1 x9_1).f1) ((rd_T46 l1 x9_1).f2) = some r) ∧ Aside0 (kq ≤ k1) ∧ Aside0 (wc.heap[gb162]? = some (.cells #[.int .i64 a0_0, (.slice A0_1 l0_1.length c0_1), (.slice A0_2 l0_2.length c0_2), (.slice A0_3 l0_3.length c0_3)] 25 (0, 0))) ∧ Aside0 (wc.heap[gb164]? = some (.cells #[.int .i64 ((rd_T46 l1 x9_1).f0), .int .i64 ((rd_T46 l1 x9_1).f1), .int .i64 ((rd_T46 l1 x9_1).f2)] 46 (0, 0))) ∧ Aside0 (Below w.heap.size w wc))
     case first =>
      have H := HC8.out
      clear HC8
      by_cases c12 : ((rd_T46 l1 x9_1).f0) < 1
      ·rw [if_pos c12] at H
       have c12b0 := dT c12
       clear c12
       (first | rw [c12b0] | (simp only [i64_w, i32_w]; rw [c12b0]) | skip)
       have H' := aM H
       clear H
       have hnb13 := NB164_162.out
       have hnc13 := NB162_164.out
       have hcz14_0 : w9.cell? ⟨gb164, 0, none⟩ = some (.int .i64 0) := (bC BK164.out 0).trans rfl
       have hcz14_1 : w9.cell? ⟨gb164, 1, none⟩ = some (.int .i64 0) := (bC BK164.out 1).trans rfl
       have hcz14_2 : w9.cell? ⟨gb164, 2, none⟩ = some (.int .i64 0) := (bC BK164.out 2).trans rfl
       have hfz14_0 := blk_frozen BK164.out 0
       have hfz14_1 := blk_frozen BK164.out 1
       have hfz14_2 := blk_frozen BK164.out 2
       go_wp2
       go_meet
       case rel => exact ⟨_, (true), zV, H', ⟨by have := HK1.out; first | omega | exact Nat.le_refl _⟩, ⟨by (with_reducible repeat (first | refine bN ?_ _ | refine bD ?_ | refine bA ?_ _)); refine blk_far ?_ NB162_164.out _; (with_reducible repeat (first | refine bN ?_ _ | refine bD ?_ | refine bA ?_ _)); refine blk_far ?_ NB162_164.out _; (with_reducible repeat (first | refine bN ?_ _ | refine bD ?_ | refine bA ?_ _)); refine blk_far ?_ NB162_164.out _; exact zB BK162.out⟩, ⟨by (with_reducible repeat (first | refine bN ?_ _ | refine bD ?_ | refine bA ?_ _)); refine blk_put (cs := #[.int .i64 ((rd_T46 l1 x9_1).f0), .int .i64 ((rd_T46 l1 x9_1).f1), .int .i64 0]) ?_ 2 _ rfl; (with_reducible repeat (first | refine bN ?_ _ | refine bD ?_ | refine bA ?_ _)); refine blk_put (cs := #[.int .i64 ((rd_T46 l1 x9_1).f0), .int .i64 0, .int .i64 0]) ?_ 1 _ rfl; (with_reducible repeat (first | refine bN ?_ _ | refine bD ?_ | refine bA ?_ _)); refine blk_put (cs := #[.int .i64 0, .int .i64 0, .int .i64 0]) ?_ 0 _ rfl; exact zB BK164.out⟩, ⟨zL2 HB.out GE162.out GE164.out⟩⟩
      ·rw [if_neg c12] at H
       have c12b0 := dF c12
       clear c12
       (first | rw [c12b0] | (simp only [i64_w, i32_w]; rw [c12b0]) | skip)
       obtain ⟨t165, A15, H⟩ := zO H; try dsimp only at H
       by_cases c16 : t165 = true
       ·subst c16
        rw [if_pos rfl] at H
        obtain ⟨t166, A17, H⟩ := zO H; try dsimp only at H
        have H' := aM H
        clear H
        have hnb18 := NB164_162.out
        have hnc18 := NB162_164.out
        have hcz19_0 : w9.cell? ⟨gb164, 0, none⟩ = some (.int .i64 0) := (bC BK164.out 0).trans rfl
        have hcz19_1 : w9.cell? ⟨gb164, 1, none⟩ = some (.int .i64 0) := (bC BK164.out 1).trans rfl
        have hcz19_2 : w9.cell? ⟨gb164, 2, none⟩ = some (.int .i64 0) := (bC BK164.out 2).trans rfl
        have hfz19_0 := blk_frozen BK164.out 0
        have hfz19_1 := blk_frozen BK164.out 1
        have hfz19_2 := blk_frozen BK164.out 2
        go_wp2_with (first | (go_at_call 67; (with_reducible refine (spec_l1In.calls ((rd_T46 l1 x9_1).f1) 1 999 true _ A15.out).mono ?_); rintro e w' ⟨rfl, ⟨nd, rfl⟩⟩; have hcz20 := zc4 BK162.out; have hfz20 := zf4 BK162.out) | (go_at_call 67; (with_reducible refine (spec_l1In.calls ((rd_T46 l1 x9_1).f2) (wrap64 (a0_0 + 1)) 2147483647 t166 _ A17.out).mono ?_); rintro e w' ⟨rfl, ⟨nd, rfl⟩⟩))
        go_meet
        case rel => exact ⟨_, (!t166), zV, H', ⟨by have := HK1.out; first | omega | exact Nat.le_refl _⟩, ⟨by (with_reducible repeat (first | refine bN ?_ _ | refine bD ?_ | refine bA ?_ _)); refine blk_far ?_ NB162_164.out _; (with_reducible repeat (first | refine bN ?_ _ | refine bD ?_ | refine bA ?_ _)); refine blk_far ?_ NB162_164.out _; (with_reducible repeat (first | refine bN ?_ _ | refine bD ?_ | refine bA ?_ _)); refine blk_far ?_ NB162_164.out _; exact zB BK162.out⟩, ⟨by (with_reducible repeat (first | refine bN ?_ _ | refine bD ?_ | refine bA ?_ _)); refine blk_put (cs := #[.int .i64 ((rd_T46 l1 x9_1).f0), .int .i64 ((rd_T46 l1 x9_1).f1), .int .i64 0]) ?_ 2 _ rfl; (with_reducible repeat (first | refine bN ?_ _ | refine bD ?_ | refine bA ?_ _)); refine blk_put (cs := #[.int .i64 ((rd_T46 l1 x9_1).f0), .int .i64 0, .int .i64 0]) ?_ 1 _ rfl; (with_reducible repeat (first | refine bN ?_ _ | refine bD ?_ | refine bA ?_ _)); refine blk_put (cs := #[.int .i64 0, .int .i64 0, .int .i64 0]) ?_ 0 _ rfl; exact zB BK164.out⟩, ⟨zL2 HB.out GE162.out GE164.out⟩⟩
       ·obtain rfl := Bool.eq_false_iff.mpr c16
        rw [if_neg zn] at H
        have H' := aM H
        clear H
        have hnb21 := NB164_162.out
        have hnc21 := NB162_164.out
        have hcz22_0 : w9.cell? ⟨gb164, 0, none⟩ = some (.int .i64 0) := (bC BK164.out 0).trans rfl
        have hcz22_1 : w9.cell? ⟨gb164, 1, none⟩ = some (.int .i64 0) := (bC BK164.out 1).trans rfl
        have hcz22_2 : w9.cell? ⟨gb164, 2, none⟩ = some (.int .i64 0) := (bC BK164.out 2).trans rfl
        have hfz22_0 := blk_frozen BK164.out 0
        have hfz22_1 := blk_frozen BK164.out 1
        have hfz22_2 := blk_frozen BK164.out 2
        go_wp2_with (first | (go_at_call 67; (with_reducible refine (spec_l1In.calls ((rd_T46 l1 x9_1).f1) 1 999 false _ A15.out).mono ?_); rintro e w' ⟨rfl, ⟨nd, rfl⟩⟩))
        go_meet
        case rel => exact ⟨_, (true), zV, H', ⟨by have := HK1.out; first | omega | exact Nat.le_refl _⟩, ⟨by (with_reducible repeat (first | refine bN ?_ _ | refine bD ?_ | refine bA ?_ _)); refine blk_far ?_ NB162_164.out _; (with_reducible repeat (first | refine bN ?_ _ | refine bD ?_ | refine bA ?_ _)); refine blk_far ?_ NB162_164.out _; (with_reducible repeat (first | refine bN ?_ _ | refine bD ?_ | refine bA ?_ _)); refine blk_far ?_ NB162_164.out _; exact zB BK162.out⟩, ⟨by (with_reducible repeat (first | refine bN ?_ _ | refine bD ?_ | refine bA ?_ _)); refine blk_put (cs := #[.int .i64 ((rd_T46 l1 x9_1).f0), .int .i64 ((rd_T46 l1 x9_1).f1), .int .i64 0]) ?_ 2 _ rfl; (with_reducible repeat (first | refine bN ?_ _ | refine bD ?_ | refine bA ?_ _)); refine blk_put (cs := #[.int .i64 ((rd_T46 l1 x9_1).f0), .int .i64 0, .int .i64 0]) ?_ 1 _ rfl; (with_reducible repeat (first | refine bN ?_ _ | refine bD ?_ | refine bA ?_ _)); refine blk_put (cs := #[.int .i64 0, .int .i64 0, .int .i64 0]) ?_ 0 _ rfl; exact zB BK164.out⟩, ⟨zL2 HB.out GE162.out GE164.out⟩⟩
     case rest =>
      clear HC8
      try clear c1
      try clear p1
      try clear q1
      try clear hx1
      try clear c2
      try clear p2
      try clear c6
      try clear c6b0
      try clear p6
      try clear c7
      try clear c7b0
      try clear c10
      try clear c12
      try clear c12b0
      try clear c13
      try clear c16
      try clear p16
      try clear q16
      try clear hx16
      try clear c18
      try clear c21
      try clear hcz11; try clear hcz14; try clear hcz19; try clear hcz20; try clear hcz22; try clear hfz11; try clear hfz14; try clear hfz19; try clear hfz20; try clear hfz22
      try clear hx163_0
      try clear hx163_1
      try clear hx163_2
      try clear p163
      try clear p2
      try clear q163
      obtain ⟨kq, x40_7, rfl, HA, HJ7, BK162, BK164, HB⟩ := hcut
      cases kq with
      | zero => exact absurd HA.out (by simp [spec_l8Slot.j1])
      | succ kj7 =>
       have H := HA.out
       clear HA
       simp only [spec_l8Slot.j1] at H
       by_cases c23 : x40_7 = true
       ·subst c23
        rw [if_pos rfl] at H
        obtain rfl := Option.some.inj H
        go_wp2
        go_ret
        exact ⟨zW, zL2 HB.out GE162.out GE164.out⟩
       ·obtain rfl := Bool.eq_false_iff.mpr c23
        rw [if_neg zn] at H
        obtain ⟨⟨t167, t168⟩, A24, H⟩ := zO H; try dsimp only at H
        by_cases c25 : t167 = a2
        ·rw [if_pos c25] at H
         obtain ⟨c25b0, c25b1⟩ := zt c25
         clear c25
         by_cases c26 : t168 = a3
         ·rw [if_pos c26] at H
          obtain ⟨c26b0, c26b1⟩ := zt c26
          clear c26
          have H' := aM H
          clear H
          have hnb27 := NB162_164.out
          have hnc27 := NB164_162.out
          have hcz28 := zc4 BK162.out
          have hfz28 := zf4 BK162.out
          have hcz29_0 : wc.cell? ⟨gb164, 0, none⟩ = some (.int .i64 ((rd_T46 l1 x9_1).f0)) := (bC BK164.out 0).trans rfl
          have hcz29_1 : wc.cell? ⟨gb164, 1, none⟩ = some (.int .i64 ((rd_T46 l1 x9_1).f1)) := (bC BK164.out 1).trans rfl
          have hcz29_2 : wc.cell? ⟨gb164, 2, none⟩ = some (.int .i64 ((rd_T46 l1 x9_1).f2)) := (bC BK164.out 2).trans rfl
          have hfz29_0 := blk_frozen BK164.out 0
          have hfz29_1 := blk_frozen BK164.out 1
          have hfz29_2 := blk_frozen BK164.out 2
          go_wp2_with (first | ((with_reducible refine gC 88 rfl ?_); refine gL 46 Try.func88 #[.int .i64 a0_0, .int .i64 ((rd_T46 l1 x9_1).f2)] ?_; (with_reducible refine (spec_l8Place.calls a0_0 ((rd_T46 l1 x9_1).f2) t167 t168 _ A24.out).mono ?_); rintro e w' ⟨rfl, ⟨nd, rfl⟩⟩; refine ⟨_, rfl, ?_⟩))
          go_roundg kj7
          case measure => have := HK1.out; have := HJ7.out; omega
          case rel => exact ⟨(wrap64 (x9_1 + 1)), zV, H', ⟨by have := HK1.out; have := HJ7.out; omega⟩, ⟨zB BK162.out⟩, ⟨zL2 HB.out GE162.out GE164.out⟩⟩
         ·rw [if_neg c26] at H
          obtain ⟨c26b0, c26b1⟩ := zf c26
          obtain rfl := Option.some.inj H
          have hnb30 := NB162_164.out
          have hnc30 := NB164_162.out
          have hcz31 := zc4 BK162.out
          have hfz31 := zf4 BK162.out
          have hcz32_0 : wc.cell? ⟨gb164, 0, none⟩ = some (.int .i64 ((rd_T46 l1 x9_1).f0)) := (bC BK164.out 0).trans rfl
          have hcz32_1 : wc.cell? ⟨gb164, 1, none⟩ = some (.int .i64 ((rd_T46 l1 x9_1).f1)) := (bC BK164.out 1).trans rfl
          have hcz32_2 : wc.cell? ⟨gb164, 2, none⟩ = some (.int .i64 ((rd_T46 l1 x9_1).f2)) := (bC BK164.out 2).trans rfl
          have hfz32_0 := blk_frozen BK164.out 0
          have hfz32_1 := blk_frozen BK164.out 1
          have hfz32_2 := blk_frozen BK164.out 2
          go_wp2_with (first | ((with_reducible refine gC 88 rfl ?_); refine gL 46 Try.func88 #[.int .i64 a0_0, .int .i64 ((rd_T46 l1 x9_1).f2)] ?_; (with_reducible refine (spec_l8Place.calls a0_0 ((rd_T46 l1 x9_1).f2) t167 t168 _ A24.out).mono ?_); rintro e w' ⟨rfl, ⟨nd, rfl⟩⟩; refine ⟨_, rfl, ?_⟩))
          go_ret
          exact ⟨zW, zL2 HB.out GE162.out GE164.out⟩
        ·rw [if_neg c25] at H
         obtain ⟨c25b0, c25b1⟩ := zf c25
         obtain rfl := Option.some.inj H
         have hnb33 := NB162_164.out
         have hnc33 := NB164_162.out
         have hcz34 := zc4 BK162.out
         have hfz34 := zf4 BK162.out
         have hcz35_0 : wc.cell? ⟨gb164, 0, none⟩ = some (.int .i64 ((rd_T46 l1 x9_1).f0)) := (bC BK164.out 0).trans rfl
         have hcz35_1 : wc.cell? ⟨gb164, 1, none⟩ = some (.int .i64 ((rd_T46 l1 x9_1).f1)) := (bC BK164.out 1).trans rfl
         have hcz35_2 : wc.cell? ⟨gb164, 2, none⟩ = some (.int .i64 ((rd_T46 l1 x9_1).f2)) := (bC BK164.out 2).trans rfl
         have hfz35_0 := blk_frozen BK164.out 0
         have hfz35_1 := blk_frozen BK164.out 1
         have hfz35_2 := blk_frozen BK164.out 2
         go_wp2_with (first | ((with_reducible refine gC 88 rfl ?_); refine gL 46 Try.func88 #[.int .i64 a0_0, .int .i64 ((rd_T46 l1 x9_1).f2)] ?_; (with_reducible refine (spec_l8Place.calls a0_0 ((rd_T46 l1 x9_1).f2) t167 t168 _ A24.out).mono ?_); rintro e w' ⟨rfl, ⟨nd, rfl⟩⟩; refine ⟨_, rfl, ?_⟩))
         go_ret
         exact ⟨zW, zL2 HB.out GE162.out GE164.out⟩
    ·rw [if_neg c7] at H
     exact absurd H (by simp)
   ·rw [if_neg c6] at H
    have c6b0 := dF c6
    clear c6
    obtain rfl := Option.some.inj H
    go_wp2
    go_ret
    exact ⟨zW, zL1 HB.out GE162.out⟩

end Go.Proofs.Ytggenhomnbnodaa.QFnTicks
