/- What the Go functions that the law FnExactCancel reaches answer: each as a Lean function, with its walk. Written by a program of this session. Conditions: those that each theorem names. -/
import Derived.Test.YtggenhomnbnodaaQFnExactCancelx0
import Derived.Test.YtggenhomnbnodaaQFnExactCancelx5
import Derived.Test.YtggenhomnbnodaaQFnExactCancelx6
import Derived.Test.YtggenhomnbnodaaQFnExactCancelx7
namespace Go.Proofs.Ytggenhomnbnodaa.QFnExactCancel
open Go.RowKit Go.Proofs.YtggenhomnbnodaaW.PrintWords Go.Proofs.YtggenhomnbnodaaW.PrintLast Go.Proofs.YtggenhomnbnodaaW.PrintMore
attribute [local go_sem] max2_int min2_int max_two min_two max_three min_three max_four min_four   -- for this text's walks alone
set_option linter.unusedVariables false
set_option linter.unusedSimpArgs false

open Go.Proofs.YtggenhomnbnodaaW.PrintWords renaming blk_drewN → bN, blk_drew → bD, blk_alloc → bA, blk_cell → bC, blk_below → bB, below_set → bS
/-! ### impl_WheelOk: function 30 -/
mutual
def impl_WheelOk.j0 : Nat → Bool → Int → List (List (S46)) → List (List (S46)) → List (S46) → Option (Bool)
 | 0, _, _, _, _, _ => none
 | k + 1, x29, x271000, x271001, x271002, x271003 => if x29 = true then (some false) else (impl_WheelOk.l0 k 0 x271000 x271001 x271002 x271003)
def impl_WheelOk.l0 : Nat → Int → Int → List (List (S46)) → List (List (S46)) → List (S46) → Option (Bool)
 | 0, _, _, _, _, _ => none
 | k + 1, x3, x271000, x271001, x271002, x271003 => if x3 < 8 then (if 0 ≤ x3 then (if x3 < (x271001.length : Int) then ((impl_belongs.f k x271000 x271001 x271002 x271003 (rd_L2 x271001 x3) 0 x3).bind fun t274 => (if t274 = true then (if x3 < (x271002.length : Int) then ((impl_belongs.f k x271000 x271001 x271002 x271003 (rd_L2 x271002 x3) 1 x3).bind fun t276 => (if t276 = true then (impl_WheelOk.l0 k (wrap64 (x3 + 1)) x271000 x271001 x271002 x271003) else (some false))) else (none)) else (some false))) else (none)) else (none)) else ((impl_Timers.f k x271000 x271001 x271002 x271003).bind fun t277 => (impl_WheelOk.l1 k t277 t277 (t277.length : Int) 0))
def impl_WheelOk.l1 : Nat → List (S46) → List (S46) → Int → Int → Option (Bool)
 | 0, _, _, _, _ => none
 | k + 1, x4, x56, x57, x58 => if x58 < x57 then (if 0 ≤ x58 then (if x58 < (x56.length : Int) then ((impl_timerAt.f k x4 ((rd_T46 x56 x58).f0)).bind fun t282 => (if t282 = x58 then (impl_WheelOk.l1 k x4 x56 x57 (wrap64 (x58 + 1))) else (some false))) else (none)) else (none)) else (some (decide ((x4.length : Int) ≤ 16)))
end
def impl_WheelOk.f (k : Nat) (a0_0 : Int) (l0_1 : List (List (S46))) (l0_2 : List (List (S46))) (l0_3 : List (S46)) : Option (Bool) := (impl_within.f a0_0 0 2147483647).bind fun t271 => (if t271 = true then (if (l0_1.length : Int) = 8 then (if (l0_2.length : Int) = 8 then ((impl_belongs.f k a0_0 l0_1 l0_2 l0_3 l0_3 2 0).bind fun t272 => (impl_WheelOk.j0 k (!t272) a0_0 l0_1 l0_2 l0_3)) else (impl_WheelOk.j0 k true a0_0 l0_1 l0_2 l0_3)) else (impl_WheelOk.j0 k true a0_0 l0_1 l0_2 l0_3)) else (impl_WheelOk.j0 k true a0_0 l0_1 l0_2 l0_3))
def impl_WheelOk.T6 : Bool × List (List Nat × List Nat) := (true, [([], []), ([], []), ([1], [1]), ([], []), ([2, 3], [2, 3]), ([4], [4]), ([], []), ([0, 5, 6], [0, 5, 6]), ([7], [7]), ([8, 7], [8]), ([9], [9]), ([9], [9]), ([11, 9], [9, 11]), ([9], [9]), ([12, 13, 9], [9, 12, 13]), ([14, 9], [9, 14]), ([9], [9]), ([10, 15, 16, 9, 9], [9, 10, 15, 16]), ([17, 9], [9, 17]), ([9, 18], [9, 18])])
def impl_WheelOk.B6 : List Nat := [0, 0, 2, 0, 14, 30, 0, 127, 255, 511, 1023, 1023, 3071, 1023, 15359, 31743, 1023, 131071, 262143, 524287]
theorem impl_WheelOk.tab6 : rtab .any (opsOf Try.f30 6) = impl_WheelOk.T6 := by kernel_rfl
theorem impl_WheelOk.bits6 : waitsOk impl_WheelOk.T6.2 impl_WheelOk.B6 = true := by kernel_rfl
set_option maxHeartbeats 8000000 in
set_option maxRecDepth 100000 in
theorem impl_WheelOk.calls (k : Nat) (a0_0 : Int) (A0_1 : Option Addr) (c0_1 : Nat) (l0_1 : List (List (S46))) (A0_2 : Option Addr) (c0_2 : Nat) (l0_2 : List (List (S46))) (A0_3 : Option Addr) (c0_3 : Nat) (l0_3 : List (S46)) (r : Bool) (w : World) (hr0_1 : Kd.C (Kd.slice 46 k46) w A0_1 l0_1.length l0_1) (hc0_1 : l0_1.length ≤ c0_1) (hr0_2 : Kd.C (Kd.slice 46 k46) w A0_2 l0_2.length l0_2) (hc0_2 : l0_2.length ≤ c0_2) (hr0_3 : Kd.C k46 w A0_3 l0_3.length l0_3) (hc0_3 : l0_3.length ≤ c0_3) (h : impl_WheelOk.f k a0_0 l0_1 l0_2 l0_3 = some r) :
  Calls Try.prog 30 #[.agg #[.int .i64 a0_0, .slice A0_1 l0_1.length c0_1, .slice A0_2 l0_2.length c0_2, .slice A0_3 l0_3.length c0_3]] w fun e w' => e = .returned (.bool r) ∧ Below w.heap.size w w' := by
 have hu25 := Try.underlying25
 have hu46 := Try.underlying46
 have HR0_1 := Aside0.mk hr0_1
 have HC0_1 := Aside0.mk hc0_1
 clear hr0_1 hc0_1
 have HR0_2 := Aside0.mk hr0_2
 have HC0_2 := Aside0.mk hc0_2
 clear hr0_2 hc0_2
 have HR0_3 := Aside0.mk hr0_3
 have HC0_3 := Aside0.mk hc0_3
 clear hr0_3 hc0_3
 have HB := Aside0.mk (Below.refl w.heap.size w)
 unfold impl_WheelOk.f at h; have H := h
 clear h
 have HC2 := Aside0.mk H
 clear H
 go_enter Try.func30, Try.ntmps30
 go_upto_region 1 with (first | ((with_reducible refine gD 1 rfl ?_); (try (refine gate_guard (by rfl) ?_; dsimp only)); refine box_event ?hg (N := 1) ?hd (cs := #[.int .i64 a0_0, .slice A0_1 l0_1.length c0_1, .slice A0_2 l0_2.length c0_2, .slice A0_3 l0_3.length c0_3]) (t := 25) ?hr ?_; (case hd => rfl); (case hg => rfl); (case hr => first | (go_simp; done) | (go_simp; rfl)); intro gb270 hg w3 hbox hb; have BK270 := Aside0.mk hbox; have GW270 := Aside0.mk (zg (zL HB.out) hg : w.heap.size ≤ gb270); have GE270 := GW270; replace HB := zLB (zL HB.out) hb; clear hb hbox hg))
 (try simp only [Act.put, List.setIfInBounds_toArray, List.set_cons_zero, List.set_cons_succ])
 go_cut [29] (fun v29 wc => ∃ (kq : Nat) (x29_1 : Bool), v29 = .bool x29_1 ∧ Aside0 (impl_WheelOk.j0 kq x29_1 a0_0 l0_1 l0_2 l0_3 = some r) ∧ Aside0 (kq ≤ k) ∧ Aside0 (wc.heap[gb270]? = some (.cells #[.int .i64 a0_0, (.slice A0_1 l0_1.length c0_1), (.slice A0_2 l0_2.length c0_2), (.slice A0_3 l0_3.length c0_3)] 25 (0, 0))) ∧ Aside0 (Below w.heap.size w wc))
 case first =>
  have H := HC2.out
  clear HC2
  obtain ⟨t271, A4, H⟩ := zO H; try dsimp only at H
  by_cases c5 : t271 = true
  ·subst c5
   rw [if_pos rfl] at H
   by_cases c6 : (l0_1.length : Int) = 8
   ·rw [if_pos c6] at H
    obtain ⟨c6b0, c6b1⟩ := zt c6
    clear c6
    (first | rw [c6b0] | (simp only [i64_w, i32_w]; rw [c6b0]) | skip)
    by_cases c7 : (l0_2.length : Int) = 8
    ·rw [if_pos c7] at H
     obtain ⟨c7b0, c7b1⟩ := zt c7
     clear c7
     obtain ⟨t272, A8, H⟩ := zO H; try dsimp only at H
     have H' := Aside0.mk H
     clear H
     have hcz9 := zc4 BK270.out
     have hfz9 := zf4 BK270.out
     go_wp2_with (first | ((with_reducible refine gC 69 rfl ?_); refine gL 9 Try.func69 #[.int .i64 a0_0, .int .i64 0, .int .i64 2147483647] ?_; (with_reducible refine (impl_within.calls a0_0 0 2147483647 true _ A4.out).mono ?_); rintro e w' ⟨rfl, ⟨nd, rfl⟩⟩; refine ⟨_, rfl, ?_⟩) | (go_at_call 70; (with_reducible refine (impl_belongs.calls k a0_0 _ _ l0_1 _ _ l0_2 _ _ l0_3 _ _ l0_3 2 0 t272 _ ?side1 ?side2 ?side3 ?side4 ?side5 ?side6 ?side7 ?side8 A8.out).mono ?_); (case side1 => repeat (first | exact (Kd.C_below HR0_1.out (zL1 HB.out GE270.out)) | (with_reducible refine Kd.C_alloc ?_ _) | (with_reducible refine Kd.C_drewN ?_ _) | (with_reducible refine Kd.C_drew ?_))); (case side2 => exact HC0_1.out); (case side3 => repeat (first | exact (Kd.C_below HR0_2.out (zL1 HB.out GE270.out)) | (with_reducible refine Kd.C_alloc ?_ _) | (with_reducible refine Kd.C_drewN ?_ _) | (with_reducible refine Kd.C_drew ?_))); (case side4 => exact HC0_2.out); (case side5 => repeat (first | exact (Kd.C_below HR0_3.out (zL1 HB.out GE270.out)) | (with_reducible refine Kd.C_alloc ?_ _) | (with_reducible refine Kd.C_drewN ?_ _) | (with_reducible refine Kd.C_drew ?_))); (case side6 => exact HC0_3.out); (case side7 => repeat (first | exact (Kd.C_below HR0_3.out (zL1 HB.out GE270.out)) | (with_reducible refine Kd.C_alloc ?_ _) | (with_reducible refine Kd.C_drewN ?_ _) | (with_reducible refine Kd.C_drew ?_))); (case side8 => exact HC0_3.out); rintro e w10 ⟨rfl, hb⟩; replace BK270 := zBB BK270 hb; replace HB := zLB (zL1 HB.out GE270.out) hb; clear hb))
     go_meet
     case rel => exact ⟨_, (!t272), zV, H', ⟨by first | omega | exact Nat.le_refl _⟩, ⟨zB BK270.out⟩, ⟨zL1 HB.out GE270.out⟩⟩
    ·rw [if_neg c7] at H
     obtain ⟨c7b0, c7b1⟩ := zf c7
     have H' := Aside0.mk H
     clear H
     have hcz11 := zc4 BK270.out
     have hfz11 := zf4 BK270.out
     go_wp2_with (first | ((with_reducible refine gC 69 rfl ?_); refine gL 9 Try.func69 #[.int .i64 a0_0, .int .i64 0, .int .i64 2147483647] ?_; (with_reducible refine (impl_within.calls a0_0 0 2147483647 true _ A4.out).mono ?_); rintro e w' ⟨rfl, ⟨nd, rfl⟩⟩; refine ⟨_, rfl, ?_⟩))
     go_meet
     case rel => exact ⟨_, (true), zV, H', ⟨by first | omega | exact Nat.le_refl _⟩, ⟨zB BK270.out⟩, ⟨zL1 HB.out GE270.out⟩⟩
   ·rw [if_neg c6] at H
    obtain ⟨c6b0, c6b1⟩ := zf c6
    (first | rw [c6b0] | (simp only [i64_w, i32_w]; rw [c6b0]) | skip)
    have H' := Aside0.mk H
    clear H
    have hcz12 := zc4 BK270.out
    have hfz12 := zf4 BK270.out
    go_wp2_with (first | ((with_reducible refine gC 69 rfl ?_); refine gL 9 Try.func69 #[.int .i64 a0_0, .int .i64 0, .int .i64 2147483647] ?_; (with_reducible refine (impl_within.calls a0_0 0 2147483647 true _ A4.out).mono ?_); rintro e w' ⟨rfl, ⟨nd, rfl⟩⟩; refine ⟨_, rfl, ?_⟩))
    go_meet
    case rel => exact ⟨_, (true), zV, H', ⟨by first | omega | exact Nat.le_refl _⟩, ⟨zB BK270.out⟩, ⟨zL1 HB.out GE270.out⟩⟩
  ·obtain rfl := Bool.eq_false_iff.mpr c5
   rw [if_neg zn] at H
   have H' := Aside0.mk H
   clear H
   have hcz13 := zc4 BK270.out
   have hfz13 := zf4 BK270.out
   go_wp2_with (first | ((with_reducible refine gC 69 rfl ?_); refine gL 9 Try.func69 #[.int .i64 a0_0, .int .i64 0, .int .i64 2147483647] ?_; (with_reducible refine (impl_within.calls a0_0 0 2147483647 false _ A4.out).mono ?_); rintro e w' ⟨rfl, ⟨nd, rfl⟩⟩; refine ⟨_, rfl, ?_⟩))
   go_meet
   case rel => exact ⟨_, (true), zV, H', ⟨by first | omega | exact Nat.le_refl _⟩, ⟨zB BK270.out⟩, ⟨zL1 HB.out GE270.out⟩⟩
 case rest =>
  clear HC2
  try clear p2
  try clear c3
  try clear c5
  try clear c6
  try clear c6b0
  try clear c6b1
  try clear c7
  try clear c7b0
  try clear c7b1
  try clear hcz11; try clear hcz12; try clear hcz13; try clear hcz9; try clear hfz11; try clear hfz12; try clear hfz13; try clear hfz9
  obtain ⟨kq, x29_1, rfl, HA, HJ1, BK270, HB⟩ := hcut
  cases kq with
  | zero => exact absurd HA.out (by simp [impl_WheelOk.j0])
  | succ kj1 =>
   have H := HA.out
   clear HA
   simp only [impl_WheelOk.j0] at H
   by_cases c14 : x29_1 = true
   ·subst c14
    rw [if_pos rfl] at H
    obtain rfl := Option.some.inj H
    go_wp2
    go_ret
    exact ⟨zW, zL1 HB.out GE270.out⟩
   ·obtain rfl := Bool.eq_false_iff.mpr c14
    rw [if_neg zn] at H
    have H' := Aside0.mk H
    clear H
    go_wp2
    go_loopg [3] kj1 (fun kq v3 w' => ∃ (x3_2 : Int), v3 = .int .i64 x3_2 ∧ Aside0 (impl_WheelOk.l0 kq x3_2 a0_0 l0_1 l0_2 l0_3 = some r) ∧ Aside0 (kq ≤ kj1) ∧ Aside0 (w'.heap[gb270]? = some (.cells #[.int .i64 a0_0, (.slice A0_1 l0_1.length c0_1), (.slice A0_2 l0_2.length c0_2), (.slice A0_3 l0_3.length c0_3)] 25 (0, 0))) ∧ Aside0 (Below w.heap.size w w'))
    case atStart => exact ⟨(0), zV, H', ⟨Nat.le_refl _⟩, ⟨zB BK270.out⟩, ⟨zL1 HB.out GE270.out⟩⟩
    case round =>
     clear H'
     try clear c1
     try clear p2
     try clear c3
     try clear c5
     try clear c6
     try clear c6b0
     try clear c6b1
     try clear c7
     try clear c7b0
     try clear c7b1
     try clear c14
     try clear hcz11; try clear hcz12; try clear hcz13; try clear hcz9; try clear hfz11; try clear hfz12; try clear hfz13; try clear hfz9
     try clear p2
     try clear BK270
     obtain ⟨x3_2, rfl, HA, HK2, BK270, HB⟩ := hrel
     cases gk with
     | zero => exact absurd HA.out (by simp [impl_WheelOk.l0])
     | succ k2 =>
      have H := HA.out
      clear HA
      simp only [impl_WheelOk.l0] at H
      by_cases c15 : x3_2 < 8
      ·rw [if_pos c15] at H
       have c15b0 := decide_eq_true c15
       clear c15
       by_cases c16 : 0 ≤ x3_2
       ·rw [if_pos c16] at H
        have c16b0 := decide_eq_true c16
        clear c16
        by_cases c17 : x3_2 < (l0_1.length : Int)
        ·rw [if_pos c17] at H
         have c17b0 := decide_eq_true c17
         clear c17
         obtain ⟨t274, A18, H⟩ := zO H; try dsimp only at H
         by_cases c19 : t274 = true
         ·subst c19
          rw [if_pos rfl] at H
          by_cases c20 : x3_2 < (l0_2.length : Int)
          ·rw [if_pos c20] at H
           have c20b0 := decide_eq_true c20
           clear c20
           obtain ⟨t276, A21, H⟩ := zO H; try dsimp only at H
           by_cases c22 : t276 = true
           ·subst c22
            rw [if_pos rfl] at H
            have H' := Aside0.mk H
            clear H
            try go_wp2
            replace BK270 := zBD BK270; replace HB := zLD HB
            have p273 : 0 ≤ (x3_2 : Int) := zD
            have q273 : x3_2 < (l0_1.length : Int) := zD
            obtain ⟨ad273, A273_0, c273_0, e273, hx273_0, hl273_0, hi273_0⟩ := at_L2 HR0_1.out x3_2 p273 q273
            have hw273_0 := hx273_0
            cases e273
            replace hx273_0 := zh HB.out hx273_0
            have HR273_0 := Aside0.mk hi273_0
            have HC273_0 := Aside0.mk hl273_0
            clear hi273_0 hl273_0
            replace p273 := eq_true p273
            replace q273 := eq_true q273
            have p275 : 0 ≤ (x3_2 : Int) := zD
            have q275 : x3_2 < (l0_2.length : Int) := zD
            obtain ⟨ad275, A275_0, c275_0, e275, hx275_0, hl275_0, hi275_0⟩ := at_L2 HR0_2.out x3_2 p275 q275
            have hw275_0 := hx275_0
            cases e275
            replace hx275_0 := zh HB.out hx275_0
            have HR275_0 := Aside0.mk hi275_0
            have HC275_0 := Aside0.mk hl275_0
            clear hi275_0 hl275_0
            replace p275 := eq_true p275
            replace q275 := eq_true q275
            refine start_ (n := 20) (S := fun w' => w'.cell? ⟨gb270, 0, none⟩ = some (.int .i64 a0_0) ∧ w'.cell? ⟨gb270, 1, none⟩ = some (.slice (some ad273) l0_1.length c0_1) ∧ w'.cell? ⟨gb270, 2, none⟩ = some (.slice (some ad275) l0_2.length c0_2) ∧ w'.cell? ⟨gb270, 3, none⟩ = some (.slice A0_3 l0_3.length c0_3) ∧ w'.cell? (ad273.add (x3_2).toNat) = some (.slice A273_0 (rd_L2 l0_1 x3_2).length c273_0) ∧ w'.cell? (ad275.add (x3_2).toNat) = some (.slice A275_0 (rd_L2 l0_2 x3_2).length c275_0)) (ds := []) (fB 20 0) (by kernel_rfl) rfl rfl ⟨(bC BK270.out 0).trans rfl, (bC BK270.out 1).trans rfl, (bC BK270.out 2).trans rfl, (bC BK270.out 3).trans rfl, (zh HB.out hw273_0), (zh HB.out hw275_0)⟩ (fun hHeld => ?_); refine with_tabW impl_WheelOk.tab6 impl_WheelOk.bits6 (fun HT_ HW_ => ?_)
            generalize wr.drew = w23 at BK270 HB HR273_0 HR275_0 hx273_0 hx275_0 hHeld ⊢
            refine pY 1 35 (fB 20 2) HT_.out ?_
            refine pY 3 37 (fB 20 10) HT_.out ?_
            refine pY 6 40 (fB 20 74) HT_.out ?_
            refine tY 0 34 (fB 20 75) HT_.out HW_.out hHeld ?_
            refine tY 2 36 (fB 20 79) HT_.out HW_.out hHeld ?_
            refine pY 4 38 (fB 20 95) HT_.out ?_
            refine tY 5 39 (fB 20 127) HT_.out HW_.out hHeld ?_
            refine oN 7 41 (fB 20 255) HT_.out fun K hK => ?_
            refine gS Try.func70 #[.agg #[.int .i64 a0_0, .slice (some ad273) l0_1.length c0_1, .slice (some ad275) l0_2.length c0_2, .slice A0_3 l0_3.length c0_3], .slice A273_0 (rd_L2 l0_1 x3_2).length c273_0, .int .i64 0, .int .i64 x3_2] ?_
            with_reducible refine (impl_belongs.calls k2 a0_0 _ _ l0_1 _ _ l0_2 _ _ l0_3 _ _ (rd_L2 l0_1 x3_2) 0 x3_2 true _ ?side1 ?side2 ?side3 ?side4 ?side5 ?side6 ?side7 ?side8 A18.out).mono ?_
            (case side1 => exact zC (Kd.C_below HR0_1.out HB.out))
            (case side2 => exact HC0_1.out)
            (case side3 => exact zC (Kd.C_below HR0_2.out HB.out))
            (case side4 => exact HC0_2.out)
            (case side5 => exact zC (Kd.C_below HR0_3.out HB.out))
            (case side6 => exact HC0_3.out)
            (case side7 => exact zC (Kd.C_below HR273_0.out HB.out))
            (case side8 => exact HC273_0.out)
            rintro e w24 ⟨rfl, hb⟩
            refine ⟨_, rfl, ?_⟩
            replace BK270 := zBB BK270 hb; replace HB := zLB (zL1 HB.out GE270.out) hb
            clear hb
            refine hK.out _ _ ⟨(bC BK270.out 0).trans rfl, (bC BK270.out 1).trans rfl, (bC BK270.out 2).trans rfl, (bC BK270.out 3).trans rfl, (zh HB.out hw273_0), (zh HB.out hw275_0)⟩ fun hHeld => ?_; clear hK K
            refine nZ 41 ?_
            refine pY 8 42 (fB 20 511) HT_.out ?_
            refine pY 9 43 (fB 20 1023) HT_.out ?_
            refine pY 11 45 (fB 20 3071) HT_.out ?_
            refine pY 13 47 (fB 20 11263) HT_.out ?_
            refine pY 16 50 (fB 20 76799) HT_.out ?_
            refine tY 10 44 (fB 20 77823) HT_.out HW_.out hHeld ?_
            refine tY 12 46 (fB 20 81919) HT_.out HW_.out hHeld ?_
            refine pY 14 48 (fB 20 98303) HT_.out ?_
            refine tY 15 49 (fB 20 131071) HT_.out HW_.out hHeld ?_
            refine oN 17 51 (fB 20 262143) HT_.out fun K hK => ?_
            refine gS Try.func70 #[.agg #[.int .i64 a0_0, .slice (some ad273) l0_1.length c0_1, .slice (some ad275) l0_2.length c0_2, .slice A0_3 l0_3.length c0_3], .slice A275_0 (rd_L2 l0_2 x3_2).length c275_0, .int .i64 1, .int .i64 x3_2] ?_
            with_reducible refine (impl_belongs.calls k2 a0_0 _ _ l0_1 _ _ l0_2 _ _ l0_3 _ _ (rd_L2 l0_2 x3_2) 1 x3_2 true _ ?side1 ?side2 ?side3 ?side4 ?side5 ?side6 ?side7 ?side8 A21.out).mono ?_
            (case side1 => exact zC (Kd.C_below HR0_1.out HB.out))
            (case side2 => exact HC0_1.out)
            (case side3 => exact zC (Kd.C_below HR0_2.out HB.out))
            (case side4 => exact HC0_2.out)
            (case side5 => exact zC (Kd.C_below HR0_3.out HB.out))
            (case side6 => exact HC0_3.out)
            (case side7 => exact zC (Kd.C_below HR275_0.out HB.out))
            (case side8 => exact HC275_0.out)
            rintro e w25 ⟨rfl, hb⟩
            refine ⟨_, rfl, ?_⟩
            replace BK270 := zBB BK270 hb; replace HB := zLB (zL1 HB.out GE270.out) hb
            clear hb
            refine hK.out _ _ ⟨(bC BK270.out 0).trans rfl, (bC BK270.out 1).trans rfl, (bC BK270.out 2).trans rfl, (bC BK270.out 3).trans rfl, (zh HB.out hw273_0), (zh HB.out hw275_0)⟩ fun hHeld => ?_; clear hK K
            refine nZ 51 ?_
            refine pY 18 52 (fB 20 524287) HT_.out ?_
            refine pY 19 53 (fB 20 1048575) HT_.out ?_
            refine done_ (done_of HT_.out (by kernel_rfl)) ?_
            try go_wp2
            go_roundg k2
            case measure => have := HJ1.out; have := HK2.out; omega
            case rel => exact ⟨(wrap64 (x3_2 + 1)), zV, H', ⟨by have := HJ1.out; have := HK2.out; omega⟩, ⟨zB BK270.out⟩, ⟨zL1 HB.out GE270.out⟩⟩
           ·obtain rfl := Bool.eq_false_iff.mpr c22
            rw [if_neg zn] at H
            obtain rfl := Option.some.inj H
            try go_wp2
            replace BK270 := zBD BK270; replace HB := zLD HB
            have p273 : 0 ≤ (x3_2 : Int) := zD
            have q273 : x3_2 < (l0_1.length : Int) := zD
            obtain ⟨ad273, A273_0, c273_0, e273, hx273_0, hl273_0, hi273_0⟩ := at_L2 HR0_1.out x3_2 p273 q273
            have hw273_0 := hx273_0
            cases e273
            replace hx273_0 := zh HB.out hx273_0
            have HR273_0 := Aside0.mk hi273_0
            have HC273_0 := Aside0.mk hl273_0
            clear hi273_0 hl273_0
            replace p273 := eq_true p273
            replace q273 := eq_true q273
            have p275 : 0 ≤ (x3_2 : Int) := zD
            have q275 : x3_2 < (l0_2.length : Int) := zD
            obtain ⟨ad275, A275_0, c275_0, e275, hx275_0, hl275_0, hi275_0⟩ := at_L2 HR0_2.out x3_2 p275 q275
            have hw275_0 := hx275_0
            cases e275
            replace hx275_0 := zh HB.out hx275_0
            have HR275_0 := Aside0.mk hi275_0
            have HC275_0 := Aside0.mk hl275_0
            clear hi275_0 hl275_0
            replace p275 := eq_true p275
            replace q275 := eq_true q275
            refine start_ (n := 20) (S := fun w' => w'.cell? ⟨gb270, 0, none⟩ = some (.int .i64 a0_0) ∧ w'.cell? ⟨gb270, 1, none⟩ = some (.slice (some ad273) l0_1.length c0_1) ∧ w'.cell? ⟨gb270, 2, none⟩ = some (.slice (some ad275) l0_2.length c0_2) ∧ w'.cell? ⟨gb270, 3, none⟩ = some (.slice A0_3 l0_3.length c0_3) ∧ w'.cell? (ad273.add (x3_2).toNat) = some (.slice A273_0 (rd_L2 l0_1 x3_2).length c273_0) ∧ w'.cell? (ad275.add (x3_2).toNat) = some (.slice A275_0 (rd_L2 l0_2 x3_2).length c275_0)) (ds := []) (fB 20 0) (by kernel_rfl) rfl rfl ⟨(bC BK270.out 0).trans rfl, (bC BK270.out 1).trans rfl, (bC BK270.out 2).trans rfl, (bC BK270.out 3).trans rfl, (zh HB.out hw273_0), (zh HB.out hw275_0)⟩ (fun hHeld => ?_); refine with_tabW impl_WheelOk.tab6 impl_WheelOk.bits6 (fun HT_ HW_ => ?_)
            generalize wr.drew = w26 at BK270 HB HR273_0 HR275_0 hx273_0 hx275_0 hHeld ⊢
            refine pY 1 35 (fB 20 2) HT_.out ?_
            refine pY 3 37 (fB 20 10) HT_.out ?_
            refine pY 6 40 (fB 20 74) HT_.out ?_
            refine tY 0 34 (fB 20 75) HT_.out HW_.out hHeld ?_
            refine tY 2 36 (fB 20 79) HT_.out HW_.out hHeld ?_
            refine pY 4 38 (fB 20 95) HT_.out ?_
            refine tY 5 39 (fB 20 127) HT_.out HW_.out hHeld ?_
            refine oN 7 41 (fB 20 255) HT_.out fun K hK => ?_
            refine gS Try.func70 #[.agg #[.int .i64 a0_0, .slice (some ad273) l0_1.length c0_1, .slice (some ad275) l0_2.length c0_2, .slice A0_3 l0_3.length c0_3], .slice A273_0 (rd_L2 l0_1 x3_2).length c273_0, .int .i64 0, .int .i64 x3_2] ?_
            with_reducible refine (impl_belongs.calls k2 a0_0 _ _ l0_1 _ _ l0_2 _ _ l0_3 _ _ (rd_L2 l0_1 x3_2) 0 x3_2 true _ ?side1 ?side2 ?side3 ?side4 ?side5 ?side6 ?side7 ?side8 A18.out).mono ?_
            (case side1 => exact zC (Kd.C_below HR0_1.out HB.out))
            (case side2 => exact HC0_1.out)
            (case side3 => exact zC (Kd.C_below HR0_2.out HB.out))
            (case side4 => exact HC0_2.out)
            (case side5 => exact zC (Kd.C_below HR0_3.out HB.out))
            (case side6 => exact HC0_3.out)
            (case side7 => exact zC (Kd.C_below HR273_0.out HB.out))
            (case side8 => exact HC273_0.out)
            rintro e w27 ⟨rfl, hb⟩
            refine ⟨_, rfl, ?_⟩
            replace BK270 := zBB BK270 hb; replace HB := zLB (zL1 HB.out GE270.out) hb
            clear hb
            refine hK.out _ _ ⟨(bC BK270.out 0).trans rfl, (bC BK270.out 1).trans rfl, (bC BK270.out 2).trans rfl, (bC BK270.out 3).trans rfl, (zh HB.out hw273_0), (zh HB.out hw275_0)⟩ fun hHeld => ?_; clear hK K
            refine nZ 41 ?_
            refine pY 8 42 (fB 20 511) HT_.out ?_
            refine pY 9 43 (fB 20 1023) HT_.out ?_
            refine pY 11 45 (fB 20 3071) HT_.out ?_
            refine pY 13 47 (fB 20 11263) HT_.out ?_
            refine pY 16 50 (fB 20 76799) HT_.out ?_
            refine tY 10 44 (fB 20 77823) HT_.out HW_.out hHeld ?_
            refine tY 12 46 (fB 20 81919) HT_.out HW_.out hHeld ?_
            refine pY 14 48 (fB 20 98303) HT_.out ?_
            refine tY 15 49 (fB 20 131071) HT_.out HW_.out hHeld ?_
            refine oN 17 51 (fB 20 262143) HT_.out fun K hK => ?_
            refine gS Try.func70 #[.agg #[.int .i64 a0_0, .slice (some ad273) l0_1.length c0_1, .slice (some ad275) l0_2.length c0_2, .slice A0_3 l0_3.length c0_3], .slice A275_0 (rd_L2 l0_2 x3_2).length c275_0, .int .i64 1, .int .i64 x3_2] ?_
            with_reducible refine (impl_belongs.calls k2 a0_0 _ _ l0_1 _ _ l0_2 _ _ l0_3 _ _ (rd_L2 l0_2 x3_2) 1 x3_2 false _ ?side1 ?side2 ?side3 ?side4 ?side5 ?side6 ?side7 ?side8 A21.out).mono ?_
            (case side1 => exact zC (Kd.C_below HR0_1.out HB.out))
            (case side2 => exact HC0_1.out)
            (case side3 => exact zC (Kd.C_below HR0_2.out HB.out))
            (case side4 => exact HC0_2.out)
            (case side5 => exact zC (Kd.C_below HR0_3.out HB.out))
            (case side6 => exact HC0_3.out)
            (case side7 => exact zC (Kd.C_below HR275_0.out HB.out))
            (case side8 => exact HC275_0.out)
            rintro e w28 ⟨rfl, hb⟩
            refine ⟨_, rfl, ?_⟩
            replace BK270 := zBB BK270 hb; replace HB := zLB (zL1 HB.out GE270.out) hb
            clear hb
            refine hK.out _ _ ⟨(bC BK270.out 0).trans rfl, (bC BK270.out 1).trans rfl, (bC BK270.out 2).trans rfl, (bC BK270.out 3).trans rfl, (zh HB.out hw273_0), (zh HB.out hw275_0)⟩ fun hHeld => ?_; clear hK K
            refine nZ 51 ?_
            refine pY 18 52 (fB 20 524287) HT_.out ?_
            refine pY 19 53 (fB 20 1048575) HT_.out ?_
            refine done_ (done_of HT_.out (by kernel_rfl)) ?_
            try go_wp2
            go_ret
            exact ⟨zW, zL1 HB.out GE270.out⟩
          ·rw [if_neg c20] at H
           exact absurd H (by simp)
         ·obtain rfl := Bool.eq_false_iff.mpr c19
          rw [if_neg zn] at H
          obtain rfl := Option.some.inj H
          try go_wp2
          replace BK270 := zBD BK270; replace HB := zLD HB
          have p273 : 0 ≤ (x3_2 : Int) := zD
          have q273 : x3_2 < (l0_1.length : Int) := zD
          obtain ⟨ad273, A273_0, c273_0, e273, hx273_0, hl273_0, hi273_0⟩ := at_L2 HR0_1.out x3_2 p273 q273
          have hw273_0 := hx273_0
          cases e273
          replace hx273_0 := zh HB.out hx273_0
          have HR273_0 := Aside0.mk hi273_0
          have HC273_0 := Aside0.mk hl273_0
          clear hi273_0 hl273_0
          replace p273 := eq_true p273
          replace q273 := eq_true q273
          refine start_ (n := 20) (S := fun w' => w'.cell? ⟨gb270, 0, none⟩ = some (.int .i64 a0_0) ∧ w'.cell? ⟨gb270, 1, none⟩ = some (.slice (some ad273) l0_1.length c0_1) ∧ w'.cell? ⟨gb270, 2, none⟩ = some (.slice A0_2 l0_2.length c0_2) ∧ w'.cell? ⟨gb270, 3, none⟩ = some (.slice A0_3 l0_3.length c0_3) ∧ w'.cell? (ad273.add (x3_2).toNat) = some (.slice A273_0 (rd_L2 l0_1 x3_2).length c273_0)) (ds := []) (fB 20 0) (by kernel_rfl) rfl rfl ⟨(bC BK270.out 0).trans rfl, (bC BK270.out 1).trans rfl, (bC BK270.out 2).trans rfl, (bC BK270.out 3).trans rfl, (zh HB.out hw273_0)⟩ (fun hHeld => ?_); refine with_tabW impl_WheelOk.tab6 impl_WheelOk.bits6 (fun HT_ HW_ => ?_)
          generalize wr.drew = w29 at BK270 HB HR273_0 hx273_0 hHeld ⊢
          refine pY 1 35 (fB 20 2) HT_.out ?_
          refine pY 3 37 (fB 20 10) HT_.out ?_
          refine pY 6 40 (fB 20 74) HT_.out ?_
          refine tY 0 34 (fB 20 75) HT_.out HW_.out hHeld ?_
          refine tY 2 36 (fB 20 79) HT_.out HW_.out hHeld ?_
          refine pY 4 38 (fB 20 95) HT_.out ?_
          refine tY 5 39 (fB 20 127) HT_.out HW_.out hHeld ?_
          refine oN 7 41 (fB 20 255) HT_.out fun K hK => ?_
          refine gS Try.func70 #[.agg #[.int .i64 a0_0, .slice (some ad273) l0_1.length c0_1, .slice A0_2 l0_2.length c0_2, .slice A0_3 l0_3.length c0_3], .slice A273_0 (rd_L2 l0_1 x3_2).length c273_0, .int .i64 0, .int .i64 x3_2] ?_
          with_reducible refine (impl_belongs.calls k2 a0_0 _ _ l0_1 _ _ l0_2 _ _ l0_3 _ _ (rd_L2 l0_1 x3_2) 0 x3_2 false _ ?side1 ?side2 ?side3 ?side4 ?side5 ?side6 ?side7 ?side8 A18.out).mono ?_
          (case side1 => exact zC (Kd.C_below HR0_1.out HB.out))
          (case side2 => exact HC0_1.out)
          (case side3 => exact zC (Kd.C_below HR0_2.out HB.out))
          (case side4 => exact HC0_2.out)
          (case side5 => exact zC (Kd.C_below HR0_3.out HB.out))
          (case side6 => exact HC0_3.out)
          (case side7 => exact zC (Kd.C_below HR273_0.out HB.out))
          (case side8 => exact HC273_0.out)
          rintro e w30 ⟨rfl, hb⟩
          refine ⟨_, rfl, ?_⟩
          replace BK270 := zBB BK270 hb; replace HB := zLB (zL1 HB.out GE270.out) hb
          clear hb
          refine hK.out _ _ ⟨(bC BK270.out 0).trans rfl, (bC BK270.out 1).trans rfl, (bC BK270.out 2).trans rfl, (bC BK270.out 3).trans rfl, (zh HB.out hw273_0)⟩ fun hHeld => ?_; clear hK K
          refine nZ 41 ?_
          refine pY 8 42 (fB 20 511) HT_.out ?_
          refine pY 9 43 (fB 20 1023) HT_.out ?_
          refine pN 10 44 (fB 20 2047) HT_.out ?_
          refine pN 11 45 (fB 20 4095) HT_.out ?_
          refine pN 12 46 (fB 20 8191) HT_.out ?_
          refine pN 13 47 (fB 20 16383) HT_.out ?_
          refine pN 14 48 (fB 20 32767) HT_.out ?_
          refine pN 15 49 (fB 20 65535) HT_.out ?_
          refine pN 16 50 (fB 20 131071) HT_.out ?_
          refine pN 17 51 (fB 20 262143) HT_.out ?_
          refine pN 18 52 (fB 20 524287) HT_.out ?_
          refine pY 19 53 (fB 20 1048575) HT_.out ?_
          refine done_ (done_of HT_.out (by kernel_rfl)) ?_
          try go_wp2
          go_ret
          exact ⟨zW, zL1 HB.out GE270.out⟩
        ·rw [if_neg c17] at H
         exact absurd H (by simp)
       ·rw [if_neg c16] at H
        exact absurd H (by simp)
      ·rw [if_neg c15] at H
       have c15b0 := decide_eq_false c15
       clear c15
       obtain ⟨t277, A31, H⟩ := zO H; try dsimp only at H
       have H' := Aside0.mk H
       clear H
       have hcz32 := zc4 BK270.out
       have hfz32 := zf4 BK270.out
       go_wp2_with (first | ((with_reducible refine gC 25 rfl ?_); refine gL 55 Try.func25 #[.agg #[.int .i64 a0_0, .slice A0_1 l0_1.length c0_1, .slice A0_2 l0_2.length c0_2, .slice A0_3 l0_3.length c0_3]] ?_; (with_reducible refine (impl_Timers.calls k2 a0_0 _ _ l0_1 _ _ l0_2 _ _ l0_3 t277 _ ?side1 ?side2 ?side3 ?side4 ?side5 ?side6 A31.out).mono ?_); (case side1 => exact zC (Kd.C_below HR0_1.out HB.out)); (case side2 => exact HC0_1.out); (case side3 => exact zC (Kd.C_below HR0_2.out HB.out)); (case side4 => exact HC0_2.out); (case side5 => exact zC (Kd.C_below HR0_3.out HB.out)); (case side6 => exact HC0_3.out); rintro e w33 ⟨v278, rfl, ho0, hb⟩; refine ⟨_, rfl, ?_⟩; have HO279 := Aside0.mk (Kd.R_lower ho0 (below_size (zL1 HB.out GE270.out))); replace BK270 := zBB BK270 hb; replace HB := zLB (zL1 HB.out GE270.out) hb; clear ho0 hb; obtain ⟨Ao34, co34, eo34⟩ := Kd.R_slice HO279.out; subst eo34))
       go_loopg [58] k2 (fun kq v58 w' => ∃ (x58_3 : Int), v58 = .int .i64 x58_3 ∧ Aside0 (impl_WheelOk.l1 kq t277 t277 (t277.length : Int) x58_3 = some r) ∧ Aside0 (kq ≤ k2) ∧ Aside0 (Kd.R k46 46 w' w.heap.size (fun _ => True) (.slice Ao34 t277.length co34) t277) ∧ Aside0 (Kd.R k46 46 w' w.heap.size (fun _ => True) (.slice Ao34 t277.length co34) t277) ∧ Aside0 (w'.heap[gb270]? = some (.cells #[.int .i64 a0_0, (.slice A0_1 l0_1.length c0_1), (.slice A0_2 l0_2.length c0_2), (.slice A0_3 l0_3.length c0_3)] 25 (0, 0))) ∧ Aside0 (Below w.heap.size w w'))
       case atStart => exact ⟨(0), zV, H', ⟨Nat.le_refl _⟩, ⟨zR HO279.out⟩, ⟨zR HO279.out⟩, ⟨zB BK270.out⟩, ⟨zL1 HB.out GE270.out⟩⟩
       case round =>
        clear H'
        try clear c1
        try clear c2
        try clear p2
        try clear q2
        try clear hx2
        try clear p6
        try clear c7
        try clear c15
        try clear c15b0
        try clear c16
        try clear c17
        try clear c19
        try clear c20
        try clear c22
        try clear c25
        try clear c27
        try clear p27
        try clear q27
        try clear hx27
        try clear hcz32; try clear hfz32
        try clear hx273_0
        try clear hx275_0
        try clear p273
        try clear p275
        try clear q273
        try clear q275
        try clear BK270
        obtain ⟨x58_3, rfl, HA, HK3, HO_4, HO_56, BK270, HB⟩ := hrel
        cases gk with
        | zero => exact absurd HA.out (by simp [impl_WheelOk.l1])
        | succ k3 =>
         have H := HA.out
         clear HA
         simp only [impl_WheelOk.l1] at H
         by_cases c35 : x58_3 < (t277.length : Int)
         ·rw [if_pos c35] at H
          have c35b0 := decide_eq_true c35
          clear c35
          by_cases c36 : 0 ≤ x58_3
          ·rw [if_pos c36] at H
           have c36b0 := decide_eq_true c36
           clear c36
           by_cases c37 : x58_3 < (t277.length : Int)
           ·rw [if_pos c37] at H
            have c37b0 := decide_eq_true c37
            clear c37
            obtain ⟨t282, A38, H⟩ := zO H; try dsimp only at H
            by_cases c39 : t282 = x58_3
            ·rw [if_pos c39] at H
             obtain ⟨c39b0, c39b1⟩ := zt c39
             clear c39
             have H' := Aside0.mk H
             clear H
             have p280 : 0 ≤ (x58_3 : Int) := zD
             have q280 : x58_3 < (t277.length : Int) := zD
             obtain ⟨ad280, e280, hx280_0, hx280_1, hx280_2⟩ := at_T46 (Kd.R_reads' HO_56.out).2.2 x58_3 p280 q280
             cases e280
             replace p280 := eq_true p280
             replace q280 := eq_true q280
             go_wp2_with (first | ((with_reducible refine gD 6 rfl ?_); (try (refine gate_guard (by rfl) ?_; dsimp only)); refine box_event ?hg (N := 6) ?hd (cs := #[.int .i64 0, .int .i64 0, .int .i64 0]) (t := 46) ?hr ?_; (case hd => rfl); (case hg => rfl); (case hr => first | (go_simp; done) | (go_simp; rfl)); intro gb281 hg w40 hbox hb; replace HO_4 := Aside0.mk (Kd.R_below (Kd.R_elderB (zR HO_4.out) gb281 (Nat.le_of_eq hg.symm)) hb); replace HO_56 := Aside0.mk (Kd.R_below (Kd.R_elderB (zR HO_56.out) gb281 (Nat.le_of_eq hg.symm)) hb); have BK281 := Aside0.mk hbox; have GW281 := Aside0.mk (zg (zL1 HB.out GE270.out) hg : w.heap.size ≤ gb281); have GE281 := GW281; replace HB := zLB (zL1 HB.out GE270.out) hb; have NB270_281 := Aside0.mk (zN BK270.out hg : gb270 ≠ gb281); have NB281_270 := Aside0.mk (zM BK270.out hg : gb281 ≠ gb270); replace BK270 := zBB BK270 hb; clear hb hbox hg; have hnb41 := NB281_270.out; have hnc41 := NB270_281.out; have hcz42_0 : w40.cell? ⟨gb281, 0, none⟩ = some (.int .i64 0) := (bC BK281.out 0).trans rfl; have hcz42_1 : w40.cell? ⟨gb281, 1, none⟩ = some (.int .i64 0) := (bC BK281.out 1).trans rfl; have hcz42_2 : w40.cell? ⟨gb281, 2, none⟩ = some (.int .i64 0) := (bC BK281.out 2).trans rfl; have hfz42_0 := blk_frozen BK281.out 0; have hfz42_1 := blk_frozen BK281.out 1; have hfz42_2 := blk_frozen BK281.out 2) | ((with_reducible refine gC 71 rfl ?_); refine gL 66 Try.func71 #[.slice (some ad280) t277.length co34, .int .i64 ((rd_T46 t277 x58_3).f0)] ?_; (with_reducible refine (impl_timerAt.calls k3 _ _ t277 ((rd_T46 t277 x58_3).f0) t282 _ ?side1 ?side2 A38.out).mono ?_); (case side1 => refine (Kd.R_reads' (e := 46) (base := w.heap.size) (ok := fun k_ => (True ∧ k_ ≠ gb281)) (n := t277.length) (c := co34) ?_).2.2; exact (by (with_reducible repeat (first | apply Kd.R_alloc | apply Kd.R_drewN | apply Kd.R_drew)); exact (Kd.R_mono (Kd.R_far (p := ⟨gb281, 2, none⟩) (Kd.R_far (p := ⟨gb281, 1, none⟩) (Kd.R_far (p := ⟨gb281, 0, none⟩) (Kd.R_mono HO_4.out (fun k_ hk => (⟨hk, hk.2⟩ : _ ∧ k_ ≠ gb281))) (fun _ hk => hk.2) (.int .i64 ((rd_T46 t277 x58_3).f0))) (fun _ hk => hk.2) (.int .i64 ((rd_T46 t277 x58_3).f1))) (fun _ hk => hk.2) (.int .i64 ((rd_T46 t277 x58_3).f2))) (fun _ h_ => h_.1)))); (case side2 => exact (Kd.R_reads' HO_4.out).2.1); rintro e w43 ⟨rfl, hb⟩; refine ⟨_, rfl, ?_⟩; replace HO_4 := Aside0.mk (Kd.R_below (by (with_reducible repeat (first | apply Kd.R_alloc | apply Kd.R_drewN | apply Kd.R_drew)); exact (Kd.R_mono (Kd.R_far (p := ⟨gb281, 2, none⟩) (Kd.R_far (p := ⟨gb281, 1, none⟩) (Kd.R_far (p := ⟨gb281, 0, none⟩) (Kd.R_mono HO_4.out (fun k_ hk => (⟨hk, hk.2⟩ : _ ∧ k_ ≠ gb281))) (fun _ hk => hk.2) (.int .i64 ((rd_T46 t277 x58_3).f0))) (fun _ hk => hk.2) (.int .i64 ((rd_T46 t277 x58_3).f1))) (fun _ hk => hk.2) (.int .i64 ((rd_T46 t277 x58_3).f2))) (fun _ h_ => h_.1))) hb); replace HO_56 := Aside0.mk (Kd.R_below (by (with_reducible repeat (first | apply Kd.R_alloc | apply Kd.R_drewN | apply Kd.R_drew)); exact (Kd.R_mono (Kd.R_far (p := ⟨gb281, 2, none⟩) (Kd.R_far (p := ⟨gb281, 1, none⟩) (Kd.R_far (p := ⟨gb281, 0, none⟩) (Kd.R_mono HO_56.out (fun k_ hk => (⟨hk, hk.2⟩ : _ ∧ k_ ≠ gb281))) (fun _ hk => hk.2) (.int .i64 ((rd_T46 t277 x58_3).f0))) (fun _ hk => hk.2) (.int .i64 ((rd_T46 t277 x58_3).f1))) (fun _ hk => hk.2) (.int .i64 ((rd_T46 t277 x58_3).f2))) (fun _ h_ => h_.1))) hb); replace BK270 := Aside0.mk (bB (g := gb270) (o := .cells #[.int .i64 a0_0, .slice A0_1 l0_1.length c0_1, .slice A0_2 l0_2.length c0_2, .slice A0_3 l0_3.length c0_3] 25 (0, 0)) (by (with_reducible repeat (first | refine bN ?_ _ | refine bD ?_ | refine bA ?_ _)); refine blk_far ?_ NB270_281.out _; (with_reducible repeat (first | refine bN ?_ _ | refine bD ?_ | refine bA ?_ _)); refine blk_far ?_ NB270_281.out _; (with_reducible repeat (first | refine bN ?_ _ | refine bD ?_ | refine bA ?_ _)); refine blk_far ?_ NB270_281.out _; exact zB BK270.out) hb); replace BK281 := Aside0.mk (bB (g := gb281) (o := .cells #[.int .i64 ((rd_T46 t277 x58_3).f0), .int .i64 ((rd_T46 t277 x58_3).f1), .int .i64 ((rd_T46 t277 x58_3).f2)] 46 (0, 0)) (by (with_reducible repeat (first | refine bN ?_ _ | refine bD ?_ | refine bA ?_ _)); refine blk_put (cs := #[.int .i64 ((rd_T46 t277 x58_3).f0), .int .i64 ((rd_T46 t277 x58_3).f1), .int .i64 0]) ?_ 2 _ rfl; (with_reducible repeat (first | refine bN ?_ _ | refine bD ?_ | refine bA ?_ _)); refine blk_put (cs := #[.int .i64 ((rd_T46 t277 x58_3).f0), .int .i64 0, .int .i64 0]) ?_ 1 _ rfl; (with_reducible repeat (first | refine bN ?_ _ | refine bD ?_ | refine bA ?_ _)); refine blk_put (cs := #[.int .i64 0, .int .i64 0, .int .i64 0]) ?_ 0 _ rfl; exact zB BK281.out) hb); replace HB := zLB (zL2 HB.out GE270.out GE281.out) hb; clear hb))
             go_roundg k3
             case measure => have := HJ1.out; have := HK2.out; have := HK3.out; omega
             case rel => exact ⟨(wrap64 (x58_3 + 1)), zV, H', ⟨by have := HJ1.out; have := HK2.out; have := HK3.out; omega⟩, ⟨zRm HO_4.out (fun _ hk => trivial)⟩, ⟨zRm HO_56.out (fun _ hk => trivial)⟩, ⟨zB BK270.out⟩, ⟨zL2 HB.out GE270.out GE281.out⟩⟩
            ·rw [if_neg c39] at H
             obtain ⟨c39b0, c39b1⟩ := zf c39
             obtain rfl := Option.some.inj H
             have p280 : 0 ≤ (x58_3 : Int) := zD
             have q280 : x58_3 < (t277.length : Int) := zD
             obtain ⟨ad280, e280, hx280_0, hx280_1, hx280_2⟩ := at_T46 (Kd.R_reads' HO_56.out).2.2 x58_3 p280 q280
             cases e280
             replace p280 := eq_true p280
             replace q280 := eq_true q280
             go_wp2_with (first | ((with_reducible refine gD 6 rfl ?_); (try (refine gate_guard (by rfl) ?_; dsimp only)); refine box_event ?hg (N := 6) ?hd (cs := #[.int .i64 0, .int .i64 0, .int .i64 0]) (t := 46) ?hr ?_; (case hd => rfl); (case hg => rfl); (case hr => first | (go_simp; done) | (go_simp; rfl)); intro gb281 hg w44 hbox hb; replace HO_4 := Aside0.mk (Kd.R_below (Kd.R_elderB (zR HO_4.out) gb281 (Nat.le_of_eq hg.symm)) hb); replace HO_56 := Aside0.mk (Kd.R_below (Kd.R_elderB (zR HO_56.out) gb281 (Nat.le_of_eq hg.symm)) hb); have BK281 := Aside0.mk hbox; have GW281 := Aside0.mk (zg (zL1 HB.out GE270.out) hg : w.heap.size ≤ gb281); have GE281 := GW281; replace HB := zLB (zL1 HB.out GE270.out) hb; have NB270_281 := Aside0.mk (zN BK270.out hg : gb270 ≠ gb281); have NB281_270 := Aside0.mk (zM BK270.out hg : gb281 ≠ gb270); replace BK270 := zBB BK270 hb; clear hb hbox hg; have hnb45 := NB281_270.out; have hnc45 := NB270_281.out; have hcz46_0 : w44.cell? ⟨gb281, 0, none⟩ = some (.int .i64 0) := (bC BK281.out 0).trans rfl; have hcz46_1 : w44.cell? ⟨gb281, 1, none⟩ = some (.int .i64 0) := (bC BK281.out 1).trans rfl; have hcz46_2 : w44.cell? ⟨gb281, 2, none⟩ = some (.int .i64 0) := (bC BK281.out 2).trans rfl; have hfz46_0 := blk_frozen BK281.out 0; have hfz46_1 := blk_frozen BK281.out 1; have hfz46_2 := blk_frozen BK281.out 2) | ((with_reducible refine gC 71 rfl ?_); refine gL 66 Try.func71 #[.slice (some ad280) t277.length co34, .int .i64 ((rd_T46 t277 x58_3).f0)] ?_; (with_reducible refine (impl_timerAt.calls k3 _ _ t277 ((rd_T46 t277 x58_3).f0) t282 _ ?side1 ?side2 A38.out).mono ?_); (case side1 => refine (Kd.R_reads' (e := 46) (base := w.heap.size) (ok := fun k_ => (True ∧ k_ ≠ gb281)) (n := t277.length) (c := co34) ?_).2.2; exact (by (with_reducible repeat (first | apply Kd.R_alloc | apply Kd.R_drewN | apply Kd.R_drew)); exact (Kd.R_mono (Kd.R_far (p := ⟨gb281, 2, none⟩) (Kd.R_far (p := ⟨gb281, 1, none⟩) (Kd.R_far (p := ⟨gb281, 0, none⟩) (Kd.R_mono HO_4.out (fun k_ hk => (⟨hk, hk.2⟩ : _ ∧ k_ ≠ gb281))) (fun _ hk => hk.2) (.int .i64 ((rd_T46 t277 x58_3).f0))) (fun _ hk => hk.2) (.int .i64 ((rd_T46 t277 x58_3).f1))) (fun _ hk => hk.2) (.int .i64 ((rd_T46 t277 x58_3).f2))) (fun _ h_ => h_.1)))); (case side2 => exact (Kd.R_reads' HO_4.out).2.1); rintro e w47 ⟨rfl, hb⟩; refine ⟨_, rfl, ?_⟩; replace HO_4 := Aside0.mk (Kd.R_below (by (with_reducible repeat (first | apply Kd.R_alloc | apply Kd.R_drewN | apply Kd.R_drew)); exact (Kd.R_mono (Kd.R_far (p := ⟨gb281, 2, none⟩) (Kd.R_far (p := ⟨gb281, 1, none⟩) (Kd.R_far (p := ⟨gb281, 0, none⟩) (Kd.R_mono HO_4.out (fun k_ hk => (⟨hk, hk.2⟩ : _ ∧ k_ ≠ gb281))) (fun _ hk => hk.2) (.int .i64 ((rd_T46 t277 x58_3).f0))) (fun _ hk => hk.2) (.int .i64 ((rd_T46 t277 x58_3).f1))) (fun _ hk => hk.2) (.int .i64 ((rd_T46 t277 x58_3).f2))) (fun _ h_ => h_.1))) hb); replace HO_56 := Aside0.mk (Kd.R_below (by (with_reducible repeat (first | apply Kd.R_alloc | apply Kd.R_drewN | apply Kd.R_drew)); exact (Kd.R_mono (Kd.R_far (p := ⟨gb281, 2, none⟩) (Kd.R_far (p := ⟨gb281, 1, none⟩) (Kd.R_far (p := ⟨gb281, 0, none⟩) (Kd.R_mono HO_56.out (fun k_ hk => (⟨hk, hk.2⟩ : _ ∧ k_ ≠ gb281))) (fun _ hk => hk.2) (.int .i64 ((rd_T46 t277 x58_3).f0))) (fun _ hk => hk.2) (.int .i64 ((rd_T46 t277 x58_3).f1))) (fun _ hk => hk.2) (.int .i64 ((rd_T46 t277 x58_3).f2))) (fun _ h_ => h_.1))) hb); replace BK270 := Aside0.mk (bB (g := gb270) (o := .cells #[.int .i64 a0_0, .slice A0_1 l0_1.length c0_1, .slice A0_2 l0_2.length c0_2, .slice A0_3 l0_3.length c0_3] 25 (0, 0)) (by (with_reducible repeat (first | refine bN ?_ _ | refine bD ?_ | refine bA ?_ _)); refine blk_far ?_ NB270_281.out _; (with_reducible repeat (first | refine bN ?_ _ | refine bD ?_ | refine bA ?_ _)); refine blk_far ?_ NB270_281.out _; (with_reducible repeat (first | refine bN ?_ _ | refine bD ?_ | refine bA ?_ _)); refine blk_far ?_ NB270_281.out _; exact zB BK270.out) hb); replace BK281 := Aside0.mk (bB (g := gb281) (o := .cells #[.int .i64 ((rd_T46 t277 x58_3).f0), .int .i64 ((rd_T46 t277 x58_3).f1), .int .i64 ((rd_T46 t277 x58_3).f2)] 46 (0, 0)) (by (with_reducible repeat (first | refine bN ?_ _ | refine bD ?_ | refine bA ?_ _)); refine blk_put (cs := #[.int .i64 ((rd_T46 t277 x58_3).f0), .int .i64 ((rd_T46 t277 x58_3).f1), .int .i64 0]) ?_ 2 _ rfl; (with_reducible repeat (first | refine bN ?_ _ | refine bD ?_ | refine bA ?_ _)); refine blk_put (cs := #[.int .i64 ((rd_T46 t277 x58_3).f0), .int .i64 0, .int .i64 0]) ?_ 1 _ rfl; (with_reducible repeat (first | refine bN ?_ _ | refine bD ?_ | refine bA ?_ _)); refine blk_put (cs := #[.int .i64 0, .int .i64 0, .int .i64 0]) ?_ 0 _ rfl; exact zB BK281.out) hb); replace HB := zLB (zL2 HB.out GE270.out GE281.out) hb; clear hb))
             go_ret
             exact ⟨zW, zL2 HB.out GE270.out GE281.out⟩
           ·rw [if_neg c37] at H
            exact absurd H (by simp)
          ·rw [if_neg c36] at H
           exact absurd H (by simp)
         ·rw [if_neg c35] at H
          have c35b0 := decide_eq_false c35
          clear c35
          obtain rfl := Option.some.inj H
          go_wp2
          go_ret
          exact ⟨zW, zL1 HB.out GE270.out⟩

open Go.Proofs.YtggenhomnbnodaaW.PrintWords renaming blk_drewN → bN, blk_drew → bD, blk_alloc → bA, blk_cell → bC, blk_below → bB, below_set → bS
/-! ### impl_copySlots: function 92 -/
def impl_copySlots.l0 : Nat → List (List (S46)) → List (List (S46)) → Int → Int → Option ((List (List (S46))))
 | 0, _, _, _, _ => none
 | k + 1, x3, x6, x7, x8 => if x8 < x7 then (if 0 ≤ x8 then (if x8 < (x6.length : Int) then (if ([] : List (S46)).length + (rd_L2 x6 x8).length < 5864062014805 then (if x3.length < 5864062014805 then (impl_copySlots.l0 k (x3 ++ [(([] : List (S46)) ++ (rd_L2 x6 x8))]) x6 x7 (wrap64 (x8 + 1))) else (none)) else (none)) else (none)) else (none)) else (some x3)
def impl_copySlots.f (k : Nat) (l0 : List (List (S46))) : Option ((List (List (S46)))) := impl_copySlots.l0 k ([] : List (List (S46))) l0 (l0.length : Int) 0
theorem impl_copySlots.mono_l : ∀ k, (∀ y0 y1 y2 y3, LeO (impl_copySlots.l0 k y0 y1 y2 y3) (impl_copySlots.l0 (k + 1) y0 y1 y2 y3))
 | 0 => fun _ _ _ _ r h => by simp [impl_copySlots.l0] at h
 | k + 1 => by
  have ih0 := impl_copySlots.mono_l k
  ·intro y0 y1 y2 y3
   unfold impl_copySlots.l0
   repeat' first
   | (with_reducible exact ih0 _ _ _ _)
   | (with_reducible exact LeO.refl _)
   | (with_reducible exact LeO.none _)
   | (with_reducible refine LeO.ite ?_ ?_)
   | (with_reducible refine LeO.bind ?_ (fun _ => ?_))
   | exact ih0 _ _ _ _
   | exact LeO.none _
   | refine LeO.ite ?_ ?_
   | refine LeO.bind ?_ (fun _ => ?_)
theorem impl_copySlots.mono : ∀ a0 k, LeO (impl_copySlots.f k a0) (impl_copySlots.f (k + 1) a0) := by
 intro a0 k
 have ih0 := impl_copySlots.mono_l k
 unfold impl_copySlots.f
 repeat' first
   | (with_reducible exact ih0 _ _ _ _)
   | (with_reducible exact LeO.refl _)
   | (with_reducible exact LeO.none _)
   | (with_reducible refine LeO.ite ?_ ?_)
   | (with_reducible refine LeO.bind ?_ (fun _ => ?_))
   | exact ih0 _ _ _ _
   | exact LeO.none _
   | refine LeO.ite ?_ ?_
   | refine LeO.bind ?_ (fun _ => ?_)
set_option maxHeartbeats 8000000 in
set_option maxRecDepth 100000 in
theorem impl_copySlots.calls (k : Nat) (A0 : Option Addr) (c0 : Nat) (l0 : List (List (S46))) (r : List (List (S46))) (w : World) (hr0 : Kd.C (Kd.slice 46 k46) w A0 l0.length l0) (hc0 : l0.length ≤ c0) (h : impl_copySlots.f k l0 = some r) :
  Calls Try.prog 92 #[.slice A0 l0.length c0] w fun e w' => ∃ v0_ : Value, e = .returned (v0_) ∧ Kd.S (Kd.slice 46 k46) 23 w' w.heap.size (fun _ => True) v0_ r ∧ Below w.heap.size w w' := by
 have HR0 := Aside0.mk hr0
 have HC0 := Aside0.mk hc0
 clear hr0 hc0
 have HB := Aside0.mk (Below.refl w.heap.size w)
 unfold impl_copySlots.f at h; have H := h
 clear h
 have H' := Aside0.mk H
 clear H
 go_enter Try.func92, Try.ntmps92
 go_wp2
 go_loopg [3, 8] k (fun kq v3 v8 w' => ∃ (x3_1 : List (List (S46))) (x8_1 : Int), v8 = .int .i64 x8_1 ∧ Aside0 (impl_copySlots.l0 kq x3_1 l0 (l0.length : Int) x8_1 = some r) ∧ Aside0 (kq ≤ k) ∧ Aside0 (Kd.S (Kd.slice 46 k46) 23 w' w.heap.size (fun _ => True) v3 x3_1) ∧ Aside0 (Below w.heap.size w w'))
 case atStart => exact ⟨(([] : List (List (S46)))), (0), zV, H', ⟨Nat.le_refl _⟩, ⟨by first | exact Kd.S_nil _ _ _ _ _ | exact Kd.N_nil _ _ _ _ _ | exact Kd.V_nil _ _ _ _ _ | exact Kd.Q_nil _ _ _ _ _ | exact Kd.R_nil _ _ _ _ _⟩, ⟨zL HB.out⟩⟩
 case round =>
  clear H'
  obtain ⟨x3_1, x8_1, rfl, HA, HK1, HO_3, HB⟩ := hrel
  cases gk with
  | zero => exact absurd HA.out (by simp [impl_copySlots.l0])
  | succ k1 =>
   have H := HA.out
   clear HA
   simp only [impl_copySlots.l0] at H
   by_cases c2 : x8_1 < (l0.length : Int)
   ·rw [if_pos c2] at H
    have c2b0 := decide_eq_true c2
    clear c2
    by_cases c3 : 0 ≤ x8_1
    ·rw [if_pos c3] at H
     have c3b0 := decide_eq_true c3
     clear c3
     by_cases c4 : x8_1 < (l0.length : Int)
     ·rw [if_pos c4] at H
      have c4b0 := decide_eq_true c4
      clear c4
      by_cases c5 : ([] : List (S46)).length + (rd_L2 l0 x8_1).length < 5864062014805
      ·rw [if_pos c5] at H
       have LMc5 := Aside0.mk c5
       clear c5
       generalize hy284 : (([] : List (S46)) ++ (rd_L2 l0 x8_1)) = y284 at H; (try rw [Option.bind_some] at H); have Ny284 := Aside0.mk hy284.symm; clear hy284
       by_cases c6 : x3_1.length < 5864062014805
       ·rw [if_pos c6] at H
        have LMc6 := Aside0.mk c6
        clear c6
        generalize hy287 : (x3_1 ++ [y284]) = y287 at H; (try rw [Option.bind_some] at H); have Ny287 := Aside0.mk hy287.symm; clear hy287
        have H' := Aside0.mk H
        clear H
        have p283 : 0 ≤ (x8_1 : Int) := zD
        have q283 : x8_1 < (l0.length : Int) := zD
        obtain ⟨ad283, A283_0, c283_0, e283, hx283_0, hl283_0, hi283_0⟩ := at_L2 HR0.out x8_1 p283 q283
        cases e283
        replace hx283_0 := zh HB.out hx283_0
        have HR283_0 := Aside0.mk hi283_0
        have HC283_0 := Aside0.mk hl283_0
        clear hi283_0 hl283_0
        replace p283 := eq_true p283
        replace q283 := eq_true q283
        go_wp2_with (first | ((with_reducible refine gate_builtin (b := .append) (xs := #[.const (.slice none 0 0), .tmp 13]) rfl ?_); at_builtin; refine Kd.R_append_rows k46 (w0 := w) w.heap.size rfl (.const (.slice none 0 0)) (.tmp 13) 23 46 (.agg #[(.int .i64 0), (.int .i64 0), (.int .i64 0)]) 24 rfl Try.underlying23 info46 rfl (by decide) (by omega) (.slice none 0 0) ([] : List (S46)) (rd_L2 l0 x8_1) _ _ _ (fun _ => True) (fun _ => False) rfl rfl ?aO ?aR (fun _ _ h => h) (fun _ h => h.elim) ?aF ?aB ?aS ?aL ?_; (case aR => repeat (first | exact (Kd.C_below HR283_0.out HB.out) | (with_reducible refine Kd.C_alloc ?_ _) | (with_reducible refine Kd.C_drewN ?_ _) | (with_reducible refine Kd.C_drew ?_))); (case aB => exact (zL HB.out)); (case aF => exact (fun _ _ => trivial)); (case aO => exact ((Kd.R_nil _ _ _ _ (fun _ => True)))); (case aS => exact (below_size (zL HB.out))); (case aL => have := LMc5.out; omega); intro v285 w7 ho hb hg hat; rw [← Ny284.out] at ho; replace HO_3 := Aside0.mk (Kd.S_after (Kd.S_apart_nil (zS HO_3.out)) hg hat); replace HB := Aside0.mk hb; have HO286 := Aside0.mk (ho); clear ho hb hg hat; obtain ⟨Ao9, co9, eo9⟩ := Kd.R_slice HO286.out; subst eo9) | ((with_reducible refine gate_builtin (b := .append) (xs := #[.tmp 12, .tmp 15]) rfl ?_); at_builtin; refine Kd.S_append (Kd.slice 46 k46) (w0 := w) w.heap.size rfl (.tmp 12) (.tmp 15) 22 23 (.slice none 0 0) 24 rfl Try.underlying22 info23 rfl (by decide) (by omega) u3 x3_1 y284 [.slice Ao9 y284.length co9] (fun _ => True) (fun k_ => some k_ = (.slice Ao9 y284.length co9 : Value).ownBlock) rfl rfl ?aP (fun k_ hk_ => ((Kd.R_mono (ok' := fun k_ => ((fun _ => True)) k_ ∧ some k_ ≠ (u3 : Value).ownBlock) (Kd.R_apart' (HO286.out) (Kd.S_typed HO_3.out) (by decide)) (fun k_ hk => ⟨trivial, hk.2⟩))).1 k_ hk_.symm) ?aF ?aO ?aB ?aS ?aL ?_; (case aP => exact Kd.M_row (Kd.R_mono (Kd.R_tight rfl (Kd.R_mono (ok' := fun k_ => ((fun _ => True)) k_ ∧ some k_ ≠ (u3 : Value).ownBlock) (Kd.R_apart' (HO286.out) (Kd.S_typed HO_3.out) (by decide)) (fun k_ hk => ⟨trivial, hk.2⟩))) (fun _ h_ => h_))); (case aB => exact (zL HB.out)); (case aF => exact (fun _ _ => trivial)); (case aO => exact (zSm HO_3.out (fun k_ hk => ⟨trivial, fun e_ => hk.2 e_⟩))); (case aS => exact (below_size (zL HB.out))); (case aL => have := LMc6.out; omega); intro v288 w8 ho hb hg hat; rw [← Ny287.out] at ho; replace HB := Aside0.mk hb; have HO289 := Aside0.mk (ho); clear HO_3 HO286; clear ho hb hg hat))
        go_roundg k1
        case measure => have := HK1.out; omega
        case rel => exact ⟨(y287), (wrap64 (x8_1 + 1)), zV, H', ⟨by have := HK1.out; omega⟩, ⟨zS HO289.out⟩, ⟨zL HB.out⟩⟩
       ·rw [if_neg c6] at H
        exact absurd H (by simp)
      ·rw [if_neg c5] at H
       exact absurd H (by simp)
     ·rw [if_neg c4] at H
      exact absurd H (by simp)
    ·rw [if_neg c3] at H
     exact absurd H (by simp)
   ·rw [if_neg c2] at H
    have c2b0 := decide_eq_false c2
    clear c2
    obtain rfl := Option.some.inj H
    go_wp2
    go_ret
    exact ⟨_, zW, zS HO_3.out, zL HB.out⟩

/-! ### impl_copyWheel: function 74, by hand -/
def impl_copyWheel.f (k : Nat) (a0_0 : Int) (l0_1 l0_2 : List (List S46)) (l0_3 : List S46) : Option (Int × List (List S46) × List (List S46) × List S46) :=
  (impl_copySlots.f k l0_1).bind fun t319 => ((impl_copySlots.f k l0_2).bind fun t322 => (if ([] : List (S46)).length + l0_3.length < 5864062014805 then (some (a0_0, t319, t322, (([] : List (S46)) ++ l0_3))) else (none)))
def impl_copyWheel.T1 : Bool × List (List Nat × List Nat) := (true, [([], []), ([0], [0]), ([], []), ([2], [2]), ([3], [3]), ([], []), ([5], [5]), ([6, 4], [6]), ([], []), ([8], [8]), ([9, 7], [9]), ([1, 4, 7, 10], [1, 4, 7, 10]), ([11, 10, 0, 1, 2, 3, 4, 5, 6, 7, 8, 9, 10, 11], [11])])
def impl_copyWheel.B1 : List Nat := [0, 1, 0, 4, 12, 0, 32, 124, 0, 256, 1020, 2047, 4095]
theorem impl_copyWheel.tab1 : rtab .any (opsOf Try.f74 1) = impl_copyWheel.T1 := by kernel_rfl
theorem impl_copyWheel.bits1 : waitsOk impl_copyWheel.T1.2 impl_copyWheel.B1 = true := by kernel_rfl
set_option maxHeartbeats 8000000 in
set_option maxRecDepth 100000 in
theorem impl_copyWheel.callsW (k : Nat) (a : Int) (A1 : Option Addr) (c1 : Nat) (l1 : List (List S46)) (A2 : Option Addr) (c2 : Nat) (l2 : List (List S46)) (A3 : Option Addr) (c3 : Nat) (l3 : List S46) (r1 : Int) (r2 r3 : List (List S46)) (r4 : List S46) (w : World) (hr1 : Kd.C (Kd.slice 46 k46) w A1 l1.length l1) (hc1 : l1.length ≤ c1) (hr2 : Kd.C (Kd.slice 46 k46) w A2 l2.length l2) (hc2 : l2.length ≤ c2) (hr3 : Kd.C k46 w A3 l3.length l3) (hc3 : l3.length ≤ c3) (h : impl_copyWheel.f k a l1 l2 l3 = some (r1, r2, r3, r4)) :
    Calls Try.prog 74 #[.agg #[.int .i64 a, .slice A1 l1.length c1, .slice A2 l2.length c2, .slice A3 l3.length c3]] w fun e w' => ∃ v1_ v2_ v3_ : Value, e = .returned (.agg #[.int .i64 r1, v1_, v2_, v3_]) ∧ WR w' w.heap.size (fun _ => True) v1_ v2_ v3_ r2 r3 r4 ∧ Below w.heap.size w w' := by
  have hu25 := Try.underlying25
  unfold impl_copyWheel.f at h
  obtain ⟨t1, A1_, h⟩ := zO h
  obtain ⟨t2, A2_, h⟩ := zO h
  try simp only [Option.bind_some] at h
  have hl3 : l3.length < 5864062014805 := by
    by_cases c : l3.length < 5864062014805
    · exact c
    · rw [if_neg (by simpa using c)] at h; exact absurd h (by simp)
  rw [if_pos (by simpa using hl3)] at h
  simp only [Option.some.injEq, Prod.mk.injEq, List.nil_append] at h
  obtain ⟨rfl, rfl, rfl, rfl⟩ := h
  have HR1 := Aside0.mk hr1
  have HR2 := Aside0.mk hr2
  have HR3 := Aside0.mk hr3
  have HC1 := Aside0.mk hc1
  have HC2 := Aside0.mk hc2
  have HC3 := Aside0.mk hc3
  have HL3 := Aside0.mk hl3
  clear hr1 hr2 hr3 hc1 hc2 hc3 hl3
  go_enter Try.func74, Try.ntmps74
  try go_wp2_with (first | ((with_reducible refine gD 1 rfl ?_); refine bE 1 #[.int .i64 a, .slice A1 l1.length c1, .slice A2 l2.length c2, .slice A3 l3.length c3] 25 ?_; intro g1 hg w2 hbox hb; have BK1 := Aside0.mk hbox; have HB := Aside0.mk hb; clear hbox hb hg) | ((with_reducible refine gD 2 rfl ?_); refine bE 2 #[.int .i64 0, .slice none 0 0, .slice none 0 0, .slice none 0 0] 25 ?_; intro g2 hg w3 hbox hb; have BK2 := Aside0.mk hbox; have NB := Aside0.mk (zN BK1.out hg : g1 ≠ g2); have GE := Aside0.mk (zg HB.out hg : w.heap.size ≤ g2); replace BK1 := zBB BK1 hb; replace HB := zLB HB.out hb; clear hbox hb hg))
  replace BK1 := zBD BK1
  replace BK2 := zBD BK2
  replace HB := zLD HB
  refine start_ (n := 13) (S := fun w' => w'.cell? ⟨g1, 0, none⟩ = some (.int .i64 a) ∧ w'.cell? ⟨g1, 1, none⟩ = some (.slice A1 l1.length c1) ∧ w'.cell? ⟨g1, 2, none⟩ = some (.slice A2 l2.length c2) ∧ w'.cell? ⟨g1, 3, none⟩ = some (.slice A3 l3.length c3)) (ds := [12]) (fB 13 0) (by kernel_rfl) rfl rfl ⟨(blk_cell BK1.out 0).trans rfl, (blk_cell BK1.out 1).trans rfl, (blk_cell BK1.out 2).trans rfl, (blk_cell BK1.out 3).trans rfl⟩ (fun hHeld => ?_); refine with_tabW impl_copyWheel.tab1 impl_copyWheel.bits1 (fun HT_ HW_ => ?_)
  generalize w3.drew = w4 at BK1 BK2 HB hHeld ⊢
  refine pY 0 3 (fB 13 1) HT_.out ?_
  refine pY 2 5 (fB 13 5) HT_.out ?_
  refine pY 5 8 (fB 13 37) HT_.out ?_
  refine pY 8 11 (fB 13 293) HT_.out ?_
  refine tY 1 4 (fB 13 295) HT_.out HW_.out hHeld ?_
  refine tY 3 6 (fB 13 303) HT_.out HW_.out hHeld ?_
  refine tY 6 9 (fB 13 367) HT_.out HW_.out hHeld ?_
  refine tY 9 12 (fB 13 879) HT_.out HW_.out hHeld ?_
  refine oN 4 7 (fB 13 895) HT_.out fun K hK => ?_
  refine gS Try.func92 #[.slice A1 l1.length c1] ?_
  refine (impl_copySlots.calls k _ _ l1 t1 _ ?side1 ?side2 A1_.out).mono ?_
  (case side1 => exact Kd.C_below HR1.out HB.out)
  (case side2 => exact HC1.out)
  rintro e w5 ⟨v1, rfl, ho, hb⟩
  refine ⟨_, rfl, ?_⟩
  have S1 := Aside0.mk (Kd.S_lower (Kd.S_mono (Kd.S_bound ho) (ok' := fun k_ => w4.heap.size ≤ k_ ∧ k_ < w5.heap.size) (fun _ h_ => ⟨h_.2.1, h_.2.2.1⟩)) HB.out.size)
  have Zw5 := Aside0.mk (hb.size : w4.heap.size ≤ w5.heap.size)
  replace BK1 := zBB BK1 hb
  replace BK2 := zBB BK2 hb
  replace HB := zLB HB.out hb
  clear hb ho
  refine hK.out _ _ ⟨(blk_cell BK1.out 0).trans rfl, (blk_cell BK1.out 1).trans rfl, (blk_cell BK1.out 2).trans rfl, (blk_cell BK1.out 3).trans rfl⟩ fun hHeld => ?_; clear hK K
  refine nZ 7 ?_
  refine oN 7 10 (fB 13 1023) HT_.out fun K hK => ?_
  refine gS Try.func92 #[.slice A2 l2.length c2] ?_
  refine (impl_copySlots.calls k _ _ l2 t2 _ ?side1 ?side2 A2_.out).mono ?_
  (case side1 => exact Kd.C_below HR2.out HB.out)
  (case side2 => exact HC2.out)
  rintro e w6 ⟨v2, rfl, ho, hb⟩
  refine ⟨_, rfl, ?_⟩
  have S2 := Aside0.mk (Kd.S_lower (Kd.S_mono (Kd.S_bound ho) (ok' := fun k_ => w5.heap.size ≤ k_ ∧ k_ < w6.heap.size) (fun _ h_ => ⟨h_.2.1, h_.2.2.1⟩)) HB.out.size)
  replace S1 := Aside0.mk (Kd.S_below S1.out hb)
  have Zw6 := Aside0.mk (hb.size : w5.heap.size ≤ w6.heap.size)
  replace BK1 := zBB BK1 hb
  replace BK2 := zBB BK2 hb
  replace HB := zLB HB.out hb
  clear hb ho
  refine hK.out _ _ ⟨(blk_cell BK1.out 0).trans rfl, (blk_cell BK1.out 1).trans rfl, (blk_cell BK1.out 2).trans rfl, (blk_cell BK1.out 3).trans rfl⟩ fun hHeld => ?_; clear hK K
  refine nZ 10 ?_
  have HWR : Aside0 (WR w6 w.heap.size (fun _ => True) v1 v2 (.slice none 0 0) t1 t2 []) := ⟨⟨_, _, fun _ => False, ⟨fun _ _ => trivial, fun _ _ => trivial, fun _ _ => trivial⟩, ⟨fun k_ a_ b_ => by have y_ := a_; have z_ := b_; (try simp only at y_ z_); omega, fun _ _ h_ => h_, fun _ _ h_ => h_⟩, S1.out, S2.out, Kd.R_nil _ _ _ _ _⟩⟩
  clear S1 S2 Zw5 Zw6
  refine oN 10 13 (fB 13 2047) HT_.out fun K hK => ?_
  obtain ⟨P1, P2, P3, hp_, ⟨d1, d2, d3⟩, s1, s2, s3⟩ := HWR.out
  refine Kd.R_append_rows_step k46 (w0 := w) w.heap.size (by rfl) (.const (.slice none 0 0)) (.tmp 12) 23 46 (.agg #[(.int .i64 0), (.int .i64 0), (.int .i64 0)]) 24 rfl Try.underlying23 info46 rfl (by decide) (by omega) (.slice none 0 0) [] l3 _ _ _ (fun k => P3 k ∨ w6.heap.size ≤ k) (fun _ => False) rfl rfl ?aO ?aR (fun _ _ h => h) (fun _ h => h.elim) ?aF ?aB ?aS ?aL ?_
  (case aO => exact Kd.R_mono s3 (fun k h => .inl h))
  (case aR => exact Kd.C_below HR3.out HB.out)
  (case aF => exact fun k hk => .inr hk)
  (case aB => exact HB.out)
  (case aS => exact HB.out.size)
  (case aL => (have h1_ := HL3.out; simp only [List.length_nil]; omega))
  intro vn w9 ho hb hg hat
  clear hat
  rw [List.nil_append] at ho
  have HK := Kept.of_grown hg (Kept.refl w6 P3) (fun k hk => .inl (s3.1 k hk))
  have HWN : Aside0 (WR w9 w.heap.size (fun _ => True) v1 v2 vn t1 t2 l3) := ⟨⟨fun k => P1 k ∧ k < w6.heap.size, fun k => P2 k ∧ k < w6.heap.size, _, ⟨fun _ _ => trivial, fun _ _ => trivial, fun _ _ => trivial⟩, ⟨fun k h h2 => d1 k h.1 h2.1, fun k h2 h => h.elim (fun h => d2 k h2.1 h) (fun h => by have := h2.2; omega), fun k h2 h => h.elim (fun h => d3 k h2.1 h) (fun h => by have := h2.2; omega)⟩, Kd.S_kept (Kd.S_mono (Kd.S_bound s1) (fun k h => ⟨h.1, h.2.2.1⟩)) HK (fun k h h1 => d2 k h.1 h1), Kd.S_kept (Kd.S_mono (Kd.S_bound s2) (fun k h => ⟨h.1, h.2.2.1⟩)) HK (fun k h h1 => d3 k h.1 h1), ho⟩⟩
  have e1_ := Kd.R_ne s3 BK1.out (by decide)
  have e2_ := Kd.R_ne s3 BK2.out (by decide)
  replace BK1 := Aside0.mk (blk_grown BK1.out hg e1_)
  replace BK2 := Aside0.mk (blk_grown BK2.out hg e2_)
  replace HB := Aside0.mk hb
  clear e1_ e2_ HK s1 s2 s3 d1 d2 d3 hp_ HWR hb hg ho
  obtain ⟨B1, q1, B2, q2, B3, q3, rfl, rfl, rfl, _, _, _, _⟩ := HWN.out.reads
  refine hK.out _ _ ⟨(blk_cell BK1.out 0).trans rfl, (blk_cell BK1.out 1).trans rfl, (blk_cell BK1.out 2).trans rfl, (blk_cell BK1.out 3).trans rfl⟩ fun hHeld => ?_; clear hK K
  refine nZ 13 ?_
  refine pY 11 14 (fB 13 4095) HT_.out ?_
  refine last_ (i := 12) (N := none) (fB 13 8191) rfl rfl (one_of HT_.out (by kernel_rfl)) (by decide) (fun K hK => ?_)
  have hs0 := (blk_cell BK2.out 0).trans rfl
  have hf0 := blk_frozen BK2.out 0
  have hs1 := (blk_cell BK2.out 1).trans rfl
  have hf1 := blk_frozen BK2.out 1
  have hs2 := (blk_cell BK2.out 2).trans rfl
  have hf2 := blk_frozen BK2.out 2
  have hs3 := (blk_cell BK2.out 3).trans rfl
  have hf3 := blk_frozen BK2.out 3
  have hnb := NB.out
  have hnc := NB.out.symm
  refine skip_ (w1 := ?_) (by rfl) rfl ?_ ?_
  rotate_left
  · go_simp
    rfl
  refine hK.out _ _ ?_
  clear hK K
  refine done_ (done_of HT_.out (by kernel_rfl)) ?_
  try go_wp2
  refine bodyPost_ret (results_cell_row rfl _ _ g2 25 #[.int .i64 a, .slice B1 t1.length q1, .slice B2 t2.length q2, .slice B3 l3.length q3] (0, 0) _ rfl (by refine zB ?_; exact zp4 BK2.out) Try.underlying25 rfl (by kernel_rfl)) rfl ?_
  exact ⟨_, _, _, rfl, (((((HWN.out.types BK2.out (by decide) (by decide)).far (p := ⟨g2, 0, none⟩) (fun _ h => h.2) _).far (p := ⟨g2, 1, none⟩) (fun _ h => h.2) _).far (p := ⟨g2, 2, none⟩) (fun _ h => h.2) _).far (p := ⟨g2, 3, none⟩) (fun _ h => h.2) _).mono (fun _ _ => trivial), zL1 HB.out GE.out⟩
theorem impl_copyWheel.calls (k : Nat) (a : Int) (A1 : Option Addr) (c1 : Nat) (l1 : List (List S46)) (A2 : Option Addr) (c2 : Nat) (l2 : List (List S46)) (A3 : Option Addr) (c3 : Nat) (l3 : List S46) (r1 : Int) (r2 r3 : List (List S46)) (r4 : List S46) (w : World) (hr1 : Kd.C (Kd.slice 46 k46) w A1 l1.length l1) (hc1 : l1.length ≤ c1) (hr2 : Kd.C (Kd.slice 46 k46) w A2 l2.length l2) (hc2 : l2.length ≤ c2) (hr3 : Kd.C k46 w A3 l3.length l3) (hc3 : l3.length ≤ c3) (h : impl_copyWheel.f k a l1 l2 l3 = some (r1, r2, r3, r4)) :
    Calls Try.prog 74 #[.agg #[.int .i64 a, .slice A1 l1.length c1, .slice A2 l2.length c2, .slice A3 l3.length c3]] w fun e w' => ∃ v1_ v2_ v3_ : Value, e = .returned (.agg #[.int .i64 r1, v1_, v2_, v3_]) ∧ Kd.S (Kd.slice 46 k46) 23 w' w.heap.size (fun k_ => some k_ ≠ (v2_ : Value).ownBlock ∧ some k_ ≠ (v3_ : Value).ownBlock) v1_ r2 ∧ Kd.S (Kd.slice 46 k46) 23 w' w.heap.size (fun k_ => some k_ ≠ (v1_ : Value).ownBlock ∧ some k_ ≠ (v3_ : Value).ownBlock) v2_ r3 ∧ Kd.R k46 46 w' w.heap.size (fun _ => True) v3_ r4 ∧ Below w.heap.size w w' := by
  refine (impl_copyWheel.callsW k a A1 c1 l1 A2 c2 l2 A3 c3 l3 r1 r2 r3 r4 w hr1 hc1 hr2 hc2 hr3 hc3 h).mono ?_
  rintro e w' ⟨v1, v2, v3, rfl, hw, hb⟩
  obtain ⟨s1, s2, s3⟩ := hw.split
  exact ⟨v1, v2, v3, rfl, Kd.S_mono s1 (fun _ h => h.2), Kd.S_mono s2 (fun _ h => h.2), Kd.R_mono s3 (fun _ _ => trivial), hb⟩

-- NOT PRINTED: function 78 (impl_Timer_78)

end Go.Proofs.Ytggenhomnbnodaa.QFnExactCancel
