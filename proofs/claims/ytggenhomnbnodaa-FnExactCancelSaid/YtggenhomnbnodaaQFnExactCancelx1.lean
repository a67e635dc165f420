/- What the Go functions that the law FnExactCancel reaches answer: each as a Lean function, with its walk. Written by a program of this session. Conditions: those that each theorem names. -/
import Derived.Test.YtggenhomnbnodaaQFnExactCancelx0
namespace Go.Proofs.Ytggenhomnbnodaa.QFnExactCancel
open Go.RowKit Go.Proofs.YtggenhomnbnodaaW.PrintWords Go.Proofs.YtggenhomnbnodaaW.PrintLast Go.Proofs.YtggenhomnbnodaaW.PrintMore
attribute [local go_sem] max2_int min2_int max_two min_two max_three min_three max_four min_four   -- for this text's walks alone
set_option linter.unusedVariables false
set_option linter.unusedSimpArgs false

open Go.Proofs.YtggenhomnbnodaaW.PrintWords renaming blk_drewN → bN, blk_drew → bD, blk_alloc → bA, blk_cell → bC, blk_below → bB, below_set → bS
/-! ### laws_eqTimer: function 66 -/
def laws_eqTimer.f (a0_0 : Int) (a0_1 : Int) (a0_2 : Int) (a1_0 : Int) (a1_1 : Int) (a1_2 : Int) : Option (Bool) := if a0_0 = a1_0 then (if a0_1 = a1_1 then (if a0_2 = a1_2 then (some true) else (some false)) else (some false)) else (some false)
set_option maxHeartbeats 8000000 in
set_option maxRecDepth 100000 in
theorem laws_eqTimer.calls (a0_0 : Int) (a0_1 : Int) (a0_2 : Int) (a1_0 : Int) (a1_1 : Int) (a1_2 : Int) (r : Bool) (w : World) (h : laws_eqTimer.f a0_0 a0_1 a0_2 a1_0 a1_1 a1_2 = some r) :
  Calls Try.prog 66 #[.agg #[.int .i64 a0_0, .int .i64 a0_1, .int .i64 a0_2], .agg #[.int .i64 a1_0, .int .i64 a1_1, .int .i64 a1_2]] w fun e w' => e = .returned (.bool r) ∧ Below w.heap.size w w' := by
 have hu46 := Try.underlying46
 have HB := Aside0.mk (Below.refl w.heap.size w)
 unfold laws_eqTimer.f at h; have H := h
 clear h
 by_cases c3 : a0_0 = a1_0
 ·rw [if_pos c3] at H
  obtain ⟨c3b0, c3b1⟩ := zt c3
  clear c3
  by_cases c4 : a0_1 = a1_1
  ·rw [if_pos c4] at H
   obtain ⟨c4b0, c4b1⟩ := zt c4
   clear c4
   by_cases c5 : a0_2 = a1_2
   ·rw [if_pos c5] at H
    obtain ⟨c5b0, c5b1⟩ := zt c5
    clear c5
    obtain rfl := Option.some.inj H
    go_enter Try.func66, Try.ntmps66
    go_wp2_with (first | ((with_reducible refine gD 2 rfl ?_); refine bE 2 #[.int .i64 a0_0, .int .i64 a0_1, .int .i64 a0_2] 46 ?_; intro gb101 hg w6 hbox hb; have BK101 := Aside0.mk hbox; have GW101 := Aside0.mk (zg (zL HB.out) hg : w.heap.size ≤ gb101); have GE101 := GW101; replace HB := zLB (zL HB.out) hb; clear hb hbox hg) | ((with_reducible refine gD 3 rfl ?_); refine bE 3 #[.int .i64 a1_0, .int .i64 a1_1, .int .i64 a1_2] 46 ?_; intro gb102 hg w7 hbox hb; have BK102 := Aside0.mk hbox; have GW102 := Aside0.mk (zg (zL1 HB.out GE101.out) hg : w.heap.size ≤ gb102); have GE102 := GW102; replace HB := zLB (zL1 HB.out GE101.out) hb; have NB101_102 := Aside0.mk (zN BK101.out hg : gb101 ≠ gb102); have NB102_101 := Aside0.mk (zM BK101.out hg : gb102 ≠ gb101); replace BK101 := zBB BK101 hb; clear hb hbox hg; have hnb8 := NB101_102.out; have hnc8 := NB102_101.out; have hcz9_0 : w7.cell? ⟨gb101, 0, none⟩ = some (.int .i64 a0_0) := (bC BK101.out 0).trans rfl; have hcz9_1 : w7.cell? ⟨gb101, 1, none⟩ = some (.int .i64 a0_1) := (bC BK101.out 1).trans rfl; have hcz9_2 : w7.cell? ⟨gb101, 2, none⟩ = some (.int .i64 a0_2) := (bC BK101.out 2).trans rfl; have hfz9_0 := blk_frozen BK101.out 0; have hfz9_1 := blk_frozen BK101.out 1; have hfz9_2 := blk_frozen BK101.out 2; have hcz10_0 : w7.cell? ⟨gb102, 0, none⟩ = some (.int .i64 a1_0) := (bC BK102.out 0).trans rfl; have hcz10_1 : w7.cell? ⟨gb102, 1, none⟩ = some (.int .i64 a1_1) := (bC BK102.out 1).trans rfl; have hcz10_2 : w7.cell? ⟨gb102, 2, none⟩ = some (.int .i64 a1_2) := (bC BK102.out 2).trans rfl; have hfz10_0 := blk_frozen BK102.out 0; have hfz10_1 := blk_frozen BK102.out 1; have hfz10_2 := blk_frozen BK102.out 2))
    go_ret
    exact ⟨zW, zL2 HB.out GE101.out GE102.out⟩
   ·rw [if_neg c5] at H
    obtain ⟨c5b0, c5b1⟩ := zf c5
    obtain rfl := Option.some.inj H
    go_enter Try.func66, Try.ntmps66
    go_wp2_with (first | ((with_reducible refine gD 2 rfl ?_); refine bE 2 #[.int .i64 a0_0, .int .i64 a0_1, .int .i64 a0_2] 46 ?_; intro gb101 hg w11 hbox hb; have BK101 := Aside0.mk hbox; have GW101 := Aside0.mk (zg (zL HB.out) hg : w.heap.size ≤ gb101); have GE101 := GW101; replace HB := zLB (zL HB.out) hb; clear hb hbox hg) | ((with_reducible refine gD 3 rfl ?_); refine bE 3 #[.int .i64 a1_0, .int .i64 a1_1, .int .i64 a1_2] 46 ?_; intro gb102 hg w12 hbox hb; have BK102 := Aside0.mk hbox; have GW102 := Aside0.mk (zg (zL1 HB.out GE101.out) hg : w.heap.size ≤ gb102); have GE102 := GW102; replace HB := zLB (zL1 HB.out GE101.out) hb; have NB101_102 := Aside0.mk (zN BK101.out hg : gb101 ≠ gb102); have NB102_101 := Aside0.mk (zM BK101.out hg : gb102 ≠ gb101); replace BK101 := zBB BK101 hb; clear hb hbox hg; have hnb13 := NB101_102.out; have hnc13 := NB102_101.out; have hcz14_0 : w12.cell? ⟨gb101, 0, none⟩ = some (.int .i64 a0_0) := (bC BK101.out 0).trans rfl; have hcz14_1 : w12.cell? ⟨gb101, 1, none⟩ = some (.int .i64 a0_1) := (bC BK101.out 1).trans rfl; have hcz14_2 : w12.cell? ⟨gb101, 2, none⟩ = some (.int .i64 a0_2) := (bC BK101.out 2).trans rfl; have hfz14_0 := blk_frozen BK101.out 0; have hfz14_1 := blk_frozen BK101.out 1; have hfz14_2 := blk_frozen BK101.out 2; have hcz15_0 : w12.cell? ⟨gb102, 0, none⟩ = some (.int .i64 a1_0) := (bC BK102.out 0).trans rfl; have hcz15_1 : w12.cell? ⟨gb102, 1, none⟩ = some (.int .i64 a1_1) := (bC BK102.out 1).trans rfl; have hcz15_2 : w12.cell? ⟨gb102, 2, none⟩ = some (.int .i64 a1_2) := (bC BK102.out 2).trans rfl; have hfz15_0 := blk_frozen BK102.out 0; have hfz15_1 := blk_frozen BK102.out 1; have hfz15_2 := blk_frozen BK102.out 2))
    go_ret
    exact ⟨zW, zL2 HB.out GE101.out GE102.out⟩
  ·rw [if_neg c4] at H
   obtain ⟨c4b0, c4b1⟩ := zf c4
   obtain rfl := Option.some.inj H
   go_enter Try.func66, Try.ntmps66
   go_wp2_with (first | ((with_reducible refine gD 2 rfl ?_); refine bE 2 #[.int .i64 a0_0, .int .i64 a0_1, .int .i64 a0_2] 46 ?_; intro gb101 hg w16 hbox hb; have BK101 := Aside0.mk hbox; have GW101 := Aside0.mk (zg (zL HB.out) hg : w.heap.size ≤ gb101); have GE101 := GW101; replace HB := zLB (zL HB.out) hb; clear hb hbox hg) | ((with_reducible refine gD 3 rfl ?_); refine bE 3 #[.int .i64 a1_0, .int .i64 a1_1, .int .i64 a1_2] 46 ?_; intro gb102 hg w17 hbox hb; have BK102 := Aside0.mk hbox; have GW102 := Aside0.mk (zg (zL1 HB.out GE101.out) hg : w.heap.size ≤ gb102); have GE102 := GW102; replace HB := zLB (zL1 HB.out GE101.out) hb; have NB101_102 := Aside0.mk (zN BK101.out hg : gb101 ≠ gb102); have NB102_101 := Aside0.mk (zM BK101.out hg : gb102 ≠ gb101); replace BK101 := zBB BK101 hb; clear hb hbox hg; have hnb18 := NB101_102.out; have hnc18 := NB102_101.out; have hcz19_0 : w17.cell? ⟨gb101, 0, none⟩ = some (.int .i64 a0_0) := (bC BK101.out 0).trans rfl; have hcz19_1 : w17.cell? ⟨gb101, 1, none⟩ = some (.int .i64 a0_1) := (bC BK101.out 1).trans rfl; have hcz19_2 : w17.cell? ⟨gb101, 2, none⟩ = some (.int .i64 a0_2) := (bC BK101.out 2).trans rfl; have hfz19_0 := blk_frozen BK101.out 0; have hfz19_1 := blk_frozen BK101.out 1; have hfz19_2 := blk_frozen BK101.out 2; have hcz20_0 : w17.cell? ⟨gb102, 0, none⟩ = some (.int .i64 a1_0) := (bC BK102.out 0).trans rfl; have hcz20_1 : w17.cell? ⟨gb102, 1, none⟩ = some (.int .i64 a1_1) := (bC BK102.out 1).trans rfl; have hcz20_2 : w17.cell? ⟨gb102, 2, none⟩ = some (.int .i64 a1_2) := (bC BK102.out 2).trans rfl; have hfz20_0 := blk_frozen BK102.out 0; have hfz20_1 := blk_frozen BK102.out 1; have hfz20_2 := blk_frozen BK102.out 2))
   go_ret
   exact ⟨zW, zL2 HB.out GE101.out GE102.out⟩
 ·rw [if_neg c3] at H
  obtain ⟨c3b0, c3b1⟩ := zf c3
  obtain rfl := Option.some.inj H
  go_enter Try.func66, Try.ntmps66
  go_wp2_with (first | ((with_reducible refine gD 2 rfl ?_); refine bE 2 #[.int .i64 a0_0, .int .i64 a0_1, .int .i64 a0_2] 46 ?_; intro gb101 hg w21 hbox hb; have BK101 := Aside0.mk hbox; have GW101 := Aside0.mk (zg (zL HB.out) hg : w.heap.size ≤ gb101); have GE101 := GW101; replace HB := zLB (zL HB.out) hb; clear hb hbox hg) | ((with_reducible refine gD 3 rfl ?_); refine bE 3 #[.int .i64 a1_0, .int .i64 a1_1, .int .i64 a1_2] 46 ?_; intro gb102 hg w22 hbox hb; have BK102 := Aside0.mk hbox; have GW102 := Aside0.mk (zg (zL1 HB.out GE101.out) hg : w.heap.size ≤ gb102); have GE102 := GW102; replace HB := zLB (zL1 HB.out GE101.out) hb; have NB101_102 := Aside0.mk (zN BK101.out hg : gb101 ≠ gb102); have NB102_101 := Aside0.mk (zM BK101.out hg : gb102 ≠ gb101); replace BK101 := zBB BK101 hb; clear hb hbox hg; have hnb23 := NB101_102.out; have hnc23 := NB102_101.out; have hcz24_0 : w22.cell? ⟨gb101, 0, none⟩ = some (.int .i64 a0_0) := (bC BK101.out 0).trans rfl; have hcz24_1 : w22.cell? ⟨gb101, 1, none⟩ = some (.int .i64 a0_1) := (bC BK101.out 1).trans rfl; have hcz24_2 : w22.cell? ⟨gb101, 2, none⟩ = some (.int .i64 a0_2) := (bC BK101.out 2).trans rfl; have hfz24_0 := blk_frozen BK101.out 0; have hfz24_1 := blk_frozen BK101.out 1; have hfz24_2 := blk_frozen BK101.out 2; have hcz25_0 : w22.cell? ⟨gb102, 0, none⟩ = some (.int .i64 a1_0) := (bC BK102.out 0).trans rfl; have hcz25_1 : w22.cell? ⟨gb102, 1, none⟩ = some (.int .i64 a1_1) := (bC BK102.out 1).trans rfl; have hcz25_2 : w22.cell? ⟨gb102, 2, none⟩ = some (.int .i64 a1_2) := (bC BK102.out 2).trans rfl; have hfz25_0 := blk_frozen BK102.out 0; have hfz25_1 := blk_frozen BK102.out 1; have hfz25_2 := blk_frozen BK102.out 2))
  go_ret
  exact ⟨zW, zL2 HB.out GE101.out GE102.out⟩

open Go.Proofs.YtggenhomnbnodaaW.PrintWords renaming blk_drewN → bN, blk_drew → bD, blk_alloc → bA, blk_cell → bC, blk_below → bB, below_set → bS
/-! ### laws_eqTimerS: function 26 -/
def laws_eqTimerS.l0 : Nat → List (S46) → List (S46) → Int → Option (Bool)
 | 0, _, _, _ => none
 | k + 1, x0, x1, x5 => if x5 < (x0.length : Int) then (if 0 ≤ x5 then (if x5 < (x1.length : Int) then ((laws_eqTimer.f ((rd_T46 x0 x5).f0) ((rd_T46 x0 x5).f1) ((rd_T46 x0 x5).f2) ((rd_T46 x1 x5).f0) ((rd_T46 x1 x5).f1) ((rd_T46 x1 x5).f2)).bind fun t105 => (if t105 = true then (laws_eqTimerS.l0 k x0 x1 (wrap64 (x5 + 1))) else (some false))) else (none)) else (none)) else (some true)
def laws_eqTimerS.f (k : Nat) (l0 : List (S46)) (l1 : List (S46)) : Option (Bool) := if (l0.length : Int) = (l1.length : Int) then (laws_eqTimerS.l0 k l0 l1 0) else (some false)
theorem laws_eqTimerS.mono_l : ∀ k, (∀ y0 y1 y2, LeO (laws_eqTimerS.l0 k y0 y1 y2) (laws_eqTimerS.l0 (k + 1) y0 y1 y2))
 | 0 => fun _ _ _ r h => by simp [laws_eqTimerS.l0] at h
 | k + 1 => by
  have ih0 := laws_eqTimerS.mono_l k
  ·intro y0 y1 y2
   unfold laws_eqTimerS.l0
   repeat' first
   | (with_reducible exact ih0 _ _ _)
   | (with_reducible exact LeO.refl _)
   | (with_reducible exact LeO.none _)
   | (with_reducible refine LeO.ite ?_ ?_)
   | (with_reducible refine LeO.bind ?_ (fun _ => ?_))
   | exact ih0 _ _ _
   | exact LeO.none _
   | refine LeO.ite ?_ ?_
   | refine LeO.bind ?_ (fun _ => ?_)
theorem laws_eqTimerS.mono : ∀ a0 a1 k, LeO (laws_eqTimerS.f k a0 a1) (laws_eqTimerS.f (k + 1) a0 a1) := by
 intro a0 a1 k
 have ih0 := laws_eqTimerS.mono_l k
 unfold laws_eqTimerS.f
 repeat' first
   | (with_reducible exact ih0 _ _ _)
   | (with_reducible exact LeO.refl _)
   | (with_reducible exact LeO.none _)
   | (with_reducible refine LeO.ite ?_ ?_)
   | (with_reducible refine LeO.bind ?_ (fun _ => ?_))
   | exact ih0 _ _ _
   | exact LeO.none _
   | refine LeO.ite ?_ ?_
   | refine LeO.bind ?_ (fun _ => ?_)
def laws_eqTimerS.T6 : Bool × List (List Nat × List Nat) := (true, [([], []), ([], []), ([0, 1], [0, 1]), ([2], [2]), ([], []), ([], []), ([4, 5], [4, 5]), ([6], [6]), ([3, 7], [3, 7]), ([8], [8])])
def laws_eqTimerS.B6 : List Nat := [0, 0, 3, 7, 0, 0, 48, 112, 255, 511]
theorem laws_eqTimerS.tab6 : rtab .any (opsOf Try.f26 6) = laws_eqTimerS.T6 := by kernel_rfl
theorem laws_eqTimerS.bits6 : waitsOk laws_eqTimerS.T6.2 laws_eqTimerS.B6 = true := by kernel_rfl
set_option maxHeartbeats 8000000 in
set_option maxRecDepth 100000 in
theorem laws_eqTimerS.calls (k : Nat) (A0 : Option Addr) (c0 : Nat) (l0 : List (S46)) (A1 : Option Addr) (c1 : Nat) (l1 : List (S46)) (r : Bool) (w : World) (hr0 : Kd.C k46 w A0 l0.length l0) (hc0 : l0.length ≤ c0) (hr1 : Kd.C k46 w A1 l1.length l1) (hc1 : l1.length ≤ c1) (h : laws_eqTimerS.f k l0 l1 = some r) :
  Calls Try.prog 26 #[.slice A0 l0.length c0, .slice A1 l1.length c1] w fun e w' => e = .returned (.bool r) ∧ Below w.heap.size w w' := by
 have hu46 := Try.underlying46
 have HR0 := Aside0.mk hr0
 have HC0 := Aside0.mk hc0
 clear hr0 hc0
 have HR1 := Aside0.mk hr1
 have HC1 := Aside0.mk hc1
 clear hr1 hc1
 have HB := Aside0.mk (Below.refl w.heap.size w)
 unfold laws_eqTimerS.f at h; have H := h
 clear h
 by_cases c3 : (l0.length : Int) = (l1.length : Int)
 ·rw [if_pos c3] at H
  obtain ⟨c3b0, c3b1⟩ := zt c3
  have c3b2 : (l0.length == l1.length) = true := by first | simpa using c3 | (simp at c3 ⊢; omega)
  clear c3
  have H' := Aside0.mk H
  clear H
  go_enter Try.func26, Try.ntmps26
  go_wp2
  go_loopg [5] k (fun kq v5 w' => ∃ (x5_1 : Int), v5 = .int .i64 x5_1 ∧ Aside0 (laws_eqTimerS.l0 kq l0 l1 x5_1 = some r) ∧ Aside0 (kq ≤ k) ∧ Aside0 (Below w.heap.size w w'))
  case atStart => exact ⟨(0), zV, H', ⟨Nat.le_refl _⟩, ⟨zL HB.out⟩⟩
  case round =>
   clear H'
   try clear c1
   try clear c2
   try clear p2
   try clear c3
   try clear c3b0
   try clear c3b1
   try clear c3b2
   obtain ⟨x5_1, rfl, HA, HK1, HB⟩ := hrel
   cases gk with
   | zero => exact absurd HA.out (by simp [laws_eqTimerS.l0])
   | succ k1 =>
    have H := HA.out
    clear HA
    simp only [laws_eqTimerS.l0] at H
    by_cases c4 : x5_1 < (l0.length : Int)
    ·rw [if_pos c4] at H
     have c4b0 := decide_eq_true c4
     clear c4
     by_cases c5 : 0 ≤ x5_1
     ·rw [if_pos c5] at H
      have c5b0 := decide_eq_true c5
      clear c5
      by_cases c6 : x5_1 < (l1.length : Int)
      ·rw [if_pos c6] at H
       have c6b0 := decide_eq_true c6
       clear c6
       obtain ⟨t105, A7, H⟩ := zO H; try dsimp only at H
       by_cases c8 : t105 = true
       ·subst c8
        rw [if_pos rfl] at H
        have H' := Aside0.mk H
        clear H
        try go_wp2
        replace HB := zLD HB
        have p103 : 0 ≤ (x5_1 : Int) := zD
        have q103 : x5_1 < (l0.length : Int) := zD
        obtain ⟨ad103, e103, hx103_0, hx103_1, hx103_2⟩ := at_T46 HR0.out x5_1 p103 q103
        have hw103_2 := hx103_2
        have hw103_1 := hx103_1
        have hw103_0 := hx103_0
        cases e103
        replace hx103_0 := zh HB.out hx103_0
        replace hx103_1 := zh HB.out hx103_1
        replace hx103_2 := zh HB.out hx103_2
        replace p103 := eq_true p103
        replace q103 := eq_true q103
        have p104 : 0 ≤ (x5_1 : Int) := zD
        have q104 : x5_1 < (l1.length : Int) := zD
        obtain ⟨ad104, e104, hx104_0, hx104_1, hx104_2⟩ := at_T46 HR1.out x5_1 p104 q104
        have hw104_2 := hx104_2
        have hw104_1 := hx104_1
        have hw104_0 := hx104_0
        cases e104
        replace hx104_0 := zh HB.out hx104_0
        replace hx104_1 := zh HB.out hx104_1
        replace hx104_2 := zh HB.out hx104_2
        replace p104 := eq_true p104
        replace q104 := eq_true q104
        refine start_ (n := 10) (S := fun w' => w'.cell? (ad103.add ((x5_1).toNat * 3)) = some (.int .i64 ((rd_T46 l0 x5_1).f0)) ∧ w'.cell? ⟨(ad103.add ((x5_1).toNat * 3)).block, (ad103.add ((x5_1).toNat * 3)).off + 1, none⟩ = some (.int .i64 ((rd_T46 l0 x5_1).f1)) ∧ w'.cell? ⟨(ad103.add ((x5_1).toNat * 3)).block, (ad103.add ((x5_1).toNat * 3)).off + 2, none⟩ = some (.int .i64 ((rd_T46 l0 x5_1).f2)) ∧ w'.cell? (ad104.add ((x5_1).toNat * 3)) = some (.int .i64 ((rd_T46 l1 x5_1).f0)) ∧ w'.cell? ⟨(ad104.add ((x5_1).toNat * 3)).block, (ad104.add ((x5_1).toNat * 3)).off + 1, none⟩ = some (.int .i64 ((rd_T46 l1 x5_1).f1)) ∧ w'.cell? ⟨(ad104.add ((x5_1).toNat * 3)).block, (ad104.add ((x5_1).toNat * 3)).off + 2, none⟩ = some (.int .i64 ((rd_T46 l1 x5_1).f2))) (ds := []) (fB 10 0) (by kernel_rfl) rfl rfl ⟨(zh HB.out hw103_0), (zh HB.out hw103_1), (zh HB.out hw103_2), (zh HB.out hw104_0), (zh HB.out hw104_1), (zh HB.out hw104_2)⟩ (fun hHeld => ?_); refine with_tabW laws_eqTimerS.tab6 laws_eqTimerS.bits6 (fun HT_ HW_ => ?_)
        generalize wr.drew = w9 at HB hx103_0 hx103_1 hx103_2 hx104_0 hx104_1 hx104_2 hHeld ⊢
        refine pY 0 17 (fB 10 1) HT_.out ?_
        refine pY 1 18 (fB 10 3) HT_.out ?_
        refine pY 2 19 (fB 10 7) HT_.out ?_
        refine pY 4 21 (fB 10 23) HT_.out ?_
        refine pY 5 22 (fB 10 55) HT_.out ?_
        refine pY 6 23 (fB 10 119) HT_.out ?_
        refine tY 3 20 (fB 10 127) HT_.out HW_.out hHeld ?_
        refine tY 7 24 (fB 10 255) HT_.out HW_.out hHeld ?_
        refine oN 8 25 (fB 10 511) HT_.out fun K hK => ?_
        refine gS Try.func66 #[.agg #[.int .i64 ((rd_T46 l0 x5_1).f0), .int .i64 ((rd_T46 l0 x5_1).f1), .int .i64 ((rd_T46 l0 x5_1).f2)], .agg #[.int .i64 ((rd_T46 l1 x5_1).f0), .int .i64 ((rd_T46 l1 x5_1).f1), .int .i64 ((rd_T46 l1 x5_1).f2)]] ?_
        with_reducible refine (laws_eqTimer.calls ((rd_T46 l0 x5_1).f0) ((rd_T46 l0 x5_1).f1) ((rd_T46 l0 x5_1).f2) ((rd_T46 l1 x5_1).f0) ((rd_T46 l1 x5_1).f1) ((rd_T46 l1 x5_1).f2) true _ A7.out).mono ?_
        rintro e w10 ⟨rfl, hb⟩
        refine ⟨_, rfl, ?_⟩
        replace HB := zLB (zL HB.out) hb
        clear hb
        refine hK.out _ _ ⟨(zh HB.out hw103_0), (zh HB.out hw103_1), (zh HB.out hw103_2), (zh HB.out hw104_0), (zh HB.out hw104_1), (zh HB.out hw104_2)⟩ fun hHeld => ?_; clear hK K
        refine nZ 25 ?_
        refine pY 9 26 (fB 10 1023) HT_.out ?_
        refine done_ (done_of HT_.out (by kernel_rfl)) ?_
        try go_wp2
        go_roundg k1
        case measure => have := HK1.out; omega
        case rel => exact ⟨(wrap64 (x5_1 + 1)), zV, H', ⟨by have := HK1.out; omega⟩, ⟨zL HB.out⟩⟩
       ·obtain rfl := Bool.eq_false_iff.mpr c8
        rw [if_neg zn] at H
        obtain rfl := Option.some.inj H
        try go_wp2
        replace HB := zLD HB
        have p103 : 0 ≤ (x5_1 : Int) := zD
        have q103 : x5_1 < (l0.length : Int) := zD
        obtain ⟨ad103, e103, hx103_0, hx103_1, hx103_2⟩ := at_T46 HR0.out x5_1 p103 q103
        have hw103_2 := hx103_2
        have hw103_1 := hx103_1
        have hw103_0 := hx103_0
        cases e103
        replace hx103_0 := zh HB.out hx103_0
        replace hx103_1 := zh HB.out hx103_1
        replace hx103_2 := zh HB.out hx103_2
        replace p103 := eq_true p103
        replace q103 := eq_true q103
        have p104 : 0 ≤ (x5_1 : Int) := zD
        have q104 : x5_1 < (l1.length : Int) := zD
        obtain ⟨ad104, e104, hx104_0, hx104_1, hx104_2⟩ := at_T46 HR1.out x5_1 p104 q104
        have hw104_2 := hx104_2
        have hw104_1 := hx104_1
        have hw104_0 := hx104_0
        cases e104
        replace hx104_0 := zh HB.out hx104_0
        replace hx104_1 := zh HB.out hx104_1
        replace hx104_2 := zh HB.out hx104_2
        replace p104 := eq_true p104
        replace q104 := eq_true q104
        refine start_ (n := 10) (S := fun w' => w'.cell? (ad103.add ((x5_1).toNat * 3)) = some (.int .i64 ((rd_T46 l0 x5_1).f0)) ∧ w'.cell? ⟨(ad103.add ((x5_1).toNat * 3)).block, (ad103.add ((x5_1).toNat * 3)).off + 1, none⟩ = some (.int .i64 ((rd_T46 l0 x5_1).f1)) ∧ w'.cell? ⟨(ad103.add ((x5_1).toNat * 3)).block, (ad103.add ((x5_1).toNat * 3)).off + 2, none⟩ = some (.int .i64 ((rd_T46 l0 x5_1).f2)) ∧ w'.cell? (ad104.add ((x5_1).toNat * 3)) = some (.int .i64 ((rd_T46 l1 x5_1).f0)) ∧ w'.cell? ⟨(ad104.add ((x5_1).toNat * 3)).block, (ad104.add ((x5_1).toNat * 3)).off + 1, none⟩ = some (.int .i64 ((rd_T46 l1 x5_1).f1)) ∧ w'.cell? ⟨(ad104.add ((x5_1).toNat * 3)).block, (ad104.add ((x5_1).toNat * 3)).off + 2, none⟩ = some (.int .i64 ((rd_T46 l1 x5_1).f2))) (ds := []) (fB 10 0) (by kernel_rfl) rfl rfl ⟨(zh HB.out hw103_0), (zh HB.out hw103_1), (zh HB.out hw103_2), (zh HB.out hw104_0), (zh HB.out hw104_1), (zh HB.out hw104_2)⟩ (fun hHeld => ?_); refine with_tabW laws_eqTimerS.tab6 laws_eqTimerS.bits6 (fun HT_ HW_ => ?_)
        generalize wr.drew = w11 at HB hx103_0 hx103_1 hx103_2 hx104_0 hx104_1 hx104_2 hHeld ⊢
        refine pY 0 17 (fB 10 1) HT_.out ?_
        refine pY 1 18 (fB 10 3) HT_.out ?_
        refine pY 2 19 (fB 10 7) HT_.out ?_
        refine pY 4 21 (fB 10 23) HT_.out ?_
        refine pY 5 22 (fB 10 55) HT_.out ?_
        refine pY 6 23 (fB 10 119) HT_.out ?_
        refine tY 3 20 (fB 10 127) HT_.out HW_.out hHeld ?_
        refine tY 7 24 (fB 10 255) HT_.out HW_.out hHeld ?_
        refine oN 8 25 (fB 10 511) HT_.out fun K hK => ?_
        refine gS Try.func66 #[.agg #[.int .i64 ((rd_T46 l0 x5_1).f0), .int .i64 ((rd_T46 l0 x5_1).f1), .int .i64 ((rd_T46 l0 x5_1).f2)], .agg #[.int .i64 ((rd_T46 l1 x5_1).f0), .int .i64 ((rd_T46 l1 x5_1).f1), .int .i64 ((rd_T46 l1 x5_1).f2)]] ?_
        with_reducible refine (laws_eqTimer.calls ((rd_T46 l0 x5_1).f0) ((rd_T46 l0 x5_1).f1) ((rd_T46 l0 x5_1).f2) ((rd_T46 l1 x5_1).f0) ((rd_T46 l1 x5_1).f1) ((rd_T46 l1 x5_1).f2) false _ A7.out).mono ?_
        rintro e w12 ⟨rfl, hb⟩
        refine ⟨_, rfl, ?_⟩
        replace HB := zLB (zL HB.out) hb
        clear hb
        refine hK.out _ _ ⟨(zh HB.out hw103_0), (zh HB.out hw103_1), (zh HB.out hw103_2), (zh HB.out hw104_0), (zh HB.out hw104_1), (zh HB.out hw104_2)⟩ fun hHeld => ?_; clear hK K
        refine nZ 25 ?_
        refine pY 9 26 (fB 10 1023) HT_.out ?_
        refine done_ (done_of HT_.out (by kernel_rfl)) ?_
        try go_wp2
        go_ret
        exact ⟨zW, zL HB.out⟩
      ·rw [if_neg c6] at H
       exact absurd H (by simp)
     ·rw [if_neg c5] at H
      exact absurd H (by simp)
    ·rw [if_neg c4] at H
     have c4b0 := decide_eq_false c4
     clear c4
     obtain rfl := Option.some.inj H
     go_wp2
     go_ret
     exact ⟨zW, zL HB.out⟩
 ·rw [if_neg c3] at H
  obtain ⟨c3b0, c3b1⟩ := zf c3
  have c3b2 : (l0.length == l1.length) = false := by first | simpa using c3 | (simp at c3 ⊢; omega)
  obtain rfl := Option.some.inj H
  go_enter Try.func26, Try.ntmps26
  go_wp2
  go_ret
  exact ⟨zW, zL HB.out⟩

open Go.Proofs.YtggenhomnbnodaaW.PrintWords renaming blk_drewN → bN, blk_drew → bD, blk_alloc → bA, blk_cell → bC, blk_below → bB, below_set → bS
/-! ### laws_eqTimerSS: function 59 -/
def laws_eqTimerSS.l0 : Nat → List (List (S46)) → List (List (S46)) → Int → Option (Bool)
 | 0, _, _, _ => none
 | k + 1, x0, x1, x5 => if x5 < (x0.length : Int) then (if 0 ≤ x5 then (if x5 < (x1.length : Int) then ((laws_eqTimerS.f k (rd_L2 x0 x5) (rd_L2 x1 x5)).bind fun t108 => (if t108 = true then (laws_eqTimerSS.l0 k x0 x1 (wrap64 (x5 + 1))) else (some false))) else (none)) else (none)) else (some true)
def laws_eqTimerSS.f (k : Nat) (l0 : List (List (S46))) (l1 : List (List (S46))) : Option (Bool) := if (l0.length : Int) = (l1.length : Int) then (laws_eqTimerSS.l0 k l0 l1 0) else (some false)
theorem laws_eqTimerSS.mono_l : ∀ k, (∀ y0 y1 y2, LeO (laws_eqTimerSS.l0 k y0 y1 y2) (laws_eqTimerSS.l0 (k + 1) y0 y1 y2))
 | 0 => fun _ _ _ r h => by simp [laws_eqTimerSS.l0] at h
 | k + 1 => by
  have ih0 := laws_eqTimerSS.mono_l k
  ·intro y0 y1 y2
   unfold laws_eqTimerSS.l0
   repeat' first
   | (with_reducible exact ih0 _ _ _)
   | (with_reducible apply laws_eqTimerS.mono)
   | (with_reducible exact LeO.refl _)
   | (with_reducible exact LeO.none _)
   | (with_reducible refine LeO.ite ?_ ?_)
   | (with_reducible refine LeO.bind ?_ (fun _ => ?_))
   | exact ih0 _ _ _
   | apply laws_eqTimerS.mono
   | exact LeO.none _
   | refine LeO.ite ?_ ?_
   | refine LeO.bind ?_ (fun _ => ?_)
theorem laws_eqTimerSS.mono : ∀ a0 a1 k, LeO (laws_eqTimerSS.f k a0 a1) (laws_eqTimerSS.f (k + 1) a0 a1) := by
 intro a0 a1 k
 have ih0 := laws_eqTimerSS.mono_l k
 unfold laws_eqTimerSS.f
 repeat' first
   | (with_reducible exact ih0 _ _ _)
   | (with_reducible apply laws_eqTimerS.mono)
   | (with_reducible exact LeO.refl _)
   | (with_reducible exact LeO.none _)
   | (with_reducible refine LeO.ite ?_ ?_)
   | (with_reducible refine LeO.bind ?_ (fun _ => ?_))
   | exact ih0 _ _ _
   | apply laws_eqTimerS.mono
   | exact LeO.none _
   | refine LeO.ite ?_ ?_
   | refine LeO.bind ?_ (fun _ => ?_)
def laws_eqTimerSS.T6 : Bool × List (List Nat × List Nat) := (true, [([], []), ([], []), ([0, 1], [0, 1]), ([2], [2]), ([], []), ([], []), ([4, 5], [4, 5]), ([6], [6]), ([3, 7], [3, 7]), ([8], [8])])
def laws_eqTimerSS.B6 : List Nat := [0, 0, 3, 7, 0, 0, 48, 112, 255, 511]
theorem laws_eqTimerSS.tab6 : rtab .any (opsOf Try.f59 6) = laws_eqTimerSS.T6 := by kernel_rfl
theorem laws_eqTimerSS.bits6 : waitsOk laws_eqTimerSS.T6.2 laws_eqTimerSS.B6 = true := by kernel_rfl
set_option maxHeartbeats 8000000 in
set_option maxRecDepth 100000 in
theorem laws_eqTimerSS.calls (k : Nat) (A0 : Option Addr) (c0 : Nat) (l0 : List (List (S46))) (A1 : Option Addr) (c1 : Nat) (l1 : List (List (S46))) (r : Bool) (w : World) (hr0 : Kd.C (Kd.slice 46 k46) w A0 l0.length l0) (hc0 : l0.length ≤ c0) (hr1 : Kd.C (Kd.slice 46 k46) w A1 l1.length l1) (hc1 : l1.length ≤ c1) (h : laws_eqTimerSS.f k l0 l1 = some r) :
  Calls Try.prog 59 #[.slice A0 l0.length c0, .slice A1 l1.length c1] w fun e w' => e = .returned (.bool r) ∧ Below w.heap.size w w' := by
 have HR0 := Aside0.mk hr0
 have HC0 := Aside0.mk hc0
 clear hr0 hc0
 have HR1 := Aside0.mk hr1
 have HC1 := Aside0.mk hc1
 clear hr1 hc1
 have HB := Aside0.mk (Below.refl w.heap.size w)
 unfold laws_eqTimerSS.f at h; have H := h
 clear h
 by_cases c3 : (l0.length : Int) = (l1.length : Int)
 ·rw [if_pos c3] at H
  obtain ⟨c3b0, c3b1⟩ := zt c3
  have c3b2 : (l0.length == l1.length) = true := by first | simpa using c3 | (simp at c3 ⊢; omega)
  clear c3
  have H' := Aside0.mk H
  clear H
  go_enter Try.func59, Try.ntmps59
  go_wp2
  go_loopg [5] k (fun kq v5 w' => ∃ (x5_1 : Int), v5 = .int .i64 x5_1 ∧ Aside0 (laws_eqTimerSS.l0 kq l0 l1 x5_1 = some r) ∧ Aside0 (kq ≤ k) ∧ Aside0 (Below w.heap.size w w'))
  case atStart => exact ⟨(0), zV, H', ⟨Nat.le_refl _⟩, ⟨zL HB.out⟩⟩
  case round =>
   clear H'
   try clear c1
   try clear p2
   try clear c3
   try clear c3b0
   try clear c3b1
   try clear c3b2
   obtain ⟨x5_1, rfl, HA, HK1, HB⟩ := hrel
   cases gk with
   | zero => exact absurd HA.out (by simp [laws_eqTimerSS.l0])
   | succ k1 =>
    have H := HA.out
    clear HA
    simp only [laws_eqTimerSS.l0] at H
    by_cases c4 : x5_1 < (l0.length : Int)
    ·rw [if_pos c4] at H
     have c4b0 := decide_eq_true c4
     clear c4
     by_cases c5 : 0 ≤ x5_1
     ·rw [if_pos c5] at H
      have c5b0 := decide_eq_true c5
      clear c5
      by_cases c6 : x5_1 < (l1.length : Int)
      ·rw [if_pos c6] at H
       have c6b0 := decide_eq_true c6
       clear c6
       obtain ⟨t108, A7, H⟩ := zO H; try dsimp only at H
       by_cases c8 : t108 = true
       ·subst c8
        rw [if_pos rfl] at H
        have H' := Aside0.mk H
        clear H
        try go_wp2
        replace HB := zLD HB
        have p106 : 0 ≤ (x5_1 : Int) := zD
        have q106 : x5_1 < (l0.length : Int) := zD
        obtain ⟨ad106, A106_0, c106_0, e106, hx106_0, hl106_0, hi106_0⟩ := at_L2 HR0.out x5_1 p106 q106
        have hw106_0 := hx106_0
        cases e106
        replace hx106_0 := zh HB.out hx106_0
        have HR106_0 := Aside0.mk hi106_0
        have HC106_0 := Aside0.mk hl106_0
        clear hi106_0 hl106_0
        replace p106 := eq_true p106
        replace q106 := eq_true q106
        have p107 : 0 ≤ (x5_1 : Int) := zD
        have q107 : x5_1 < (l1.length : Int) := zD
        obtain ⟨ad107, A107_0, c107_0, e107, hx107_0, hl107_0, hi107_0⟩ := at_L2 HR1.out x5_1 p107 q107
        have hw107_0 := hx107_0
        cases e107
        replace hx107_0 := zh HB.out hx107_0
        have HR107_0 := Aside0.mk hi107_0
        have HC107_0 := Aside0.mk hl107_0
        clear hi107_0 hl107_0
        replace p107 := eq_true p107
        replace q107 := eq_true q107
        refine start_ (n := 10) (S := fun w' => w'.cell? (ad106.add (x5_1).toNat) = some (.slice A106_0 (rd_L2 l0 x5_1).length c106_0) ∧ w'.cell? (ad107.add (x5_1).toNat) = some (.slice A107_0 (rd_L2 l1 x5_1).length c107_0)) (ds := []) (fB 10 0) (by kernel_rfl) rfl rfl ⟨(zh HB.out hw106_0), (zh HB.out hw107_0)⟩ (fun hHeld => ?_); refine with_tabW laws_eqTimerSS.tab6 laws_eqTimerSS.bits6 (fun HT_ HW_ => ?_)
        generalize wr.drew = w9 at HB HR106_0 HR107_0 hx106_0 hx107_0 hHeld ⊢
        refine pY 0 17 (fB 10 1) HT_.out ?_
        refine pY 1 18 (fB 10 3) HT_.out ?_
        refine pY 2 19 (fB 10 7) HT_.out ?_
        refine pY 4 21 (fB 10 23) HT_.out ?_
        refine pY 5 22 (fB 10 55) HT_.out ?_
        refine pY 6 23 (fB 10 119) HT_.out ?_
        refine tY 3 20 (fB 10 127) HT_.out HW_.out hHeld ?_
        refine tY 7 24 (fB 10 255) HT_.out HW_.out hHeld ?_
        refine oN 8 25 (fB 10 511) HT_.out fun K hK => ?_
        refine gS Try.func26 #[.slice A106_0 (rd_L2 l0 x5_1).length c106_0, .slice A107_0 (rd_L2 l1 x5_1).length c107_0] ?_
        with_reducible refine (laws_eqTimerS.calls k1 _ _ (rd_L2 l0 x5_1) _ _ (rd_L2 l1 x5_1) true _ ?side1 ?side2 ?side3 ?side4 A7.out).mono ?_
        (case side1 => exact zC (Kd.C_below HR106_0.out HB.out))
        (case side2 => exact HC106_0.out)
        (case side3 => exact zC (Kd.C_below HR107_0.out HB.out))
        (case side4 => exact HC107_0.out)
        rintro e w10 ⟨rfl, hb⟩
        refine ⟨_, rfl, ?_⟩
        replace HB := zLB (zL HB.out) hb
        clear hb
        refine hK.out _ _ ⟨(zh HB.out hw106_0), (zh HB.out hw107_0)⟩ fun hHeld => ?_; clear hK K
        refine nZ 25 ?_
        refine pY 9 26 (fB 10 1023) HT_.out ?_
        refine done_ (done_of HT_.out (by kernel_rfl)) ?_
        try go_wp2
        go_roundg k1
        case measure => have := HK1.out; omega
        case rel => exact ⟨(wrap64 (x5_1 + 1)), zV, H', ⟨by have := HK1.out; omega⟩, ⟨zL HB.out⟩⟩
       ·obtain rfl := Bool.eq_false_iff.mpr c8
        rw [if_neg zn] at H
        obtain rfl := Option.some.inj H
        try go_wp2
        replace HB := zLD HB
        have p106 : 0 ≤ (x5_1 : Int) := zD
        have q106 : x5_1 < (l0.length : Int) := zD
        obtain ⟨ad106, A106_0, c106_0, e106, hx106_0, hl106_0, hi106_0⟩ := at_L2 HR0.out x5_1 p106 q106
        have hw106_0 := hx106_0
        cases e106
        replace hx106_0 := zh HB.out hx106_0
        have HR106_0 := Aside0.mk hi106_0
        have HC106_0 := Aside0.mk hl106_0
        clear hi106_0 hl106_0
        replace p106 := eq_true p106
        replace q106 := eq_true q106
        have p107 : 0 ≤ (x5_1 : Int) := zD
        have q107 : x5_1 < (l1.length : Int) := zD
        obtain ⟨ad107, A107_0, c107_0, e107, hx107_0, hl107_0, hi107_0⟩ := at_L2 HR1.out x5_1 p107 q107
        have hw107_0 := hx107_0
        cases e107
        replace hx107_0 := zh HB.out hx107_0
        have HR107_0 := Aside0.mk hi107_0
        have HC107_0 := Aside0.mk hl107_0
        clear hi107_0 hl107_0
        replace p107 := eq_true p107
        replace q107 := eq_true q107
        refine start_ (n := 10) (S := fun w' => w'.cell? (ad106.add (x5_1).toNat) = some (.slice A106_0 (rd_L2 l0 x5_1).length c106_0) ∧ w'.cell? (ad107.add (x5_1).toNat) = some (.slice A107_0 (rd_L2 l1 x5_1).length c107_0)) (ds := []) (fB 10 0) (by kernel_rfl) rfl rfl ⟨(zh HB.out hw106_0), (zh HB.out hw107_0)⟩ (fun hHeld => ?_); refine with_tabW laws_eqTimerSS.tab6 laws_eqTimerSS.bits6 (fun HT_ HW_ => ?_)
        generalize wr.drew = w11 at HB HR106_0 HR107_0 hx106_0 hx107_0 hHeld ⊢
        refine pY 0 17 (fB 10 1) HT_.out ?_
        refine pY 1 18 (fB 10 3) HT_.out ?_
        refine pY 2 19 (fB 10 7) HT_.out ?_
        refine pY 4 21 (fB 10 23) HT_.out ?_
        refine pY 5 22 (fB 10 55) HT_.out ?_
        refine pY 6 23 (fB 10 119) HT_.out ?_
        refine tY 3 20 (fB 10 127) HT_.out HW_.out hHeld ?_
        refine tY 7 24 (fB 10 255) HT_.out HW_.out hHeld ?_
        refine oN 8 25 (fB 10 511) HT_.out fun K hK => ?_
        refine gS Try.func26 #[.slice A106_0 (rd_L2 l0 x5_1).length c106_0, .slice A107_0 (rd_L2 l1 x5_1).length c107_0] ?_
        with_reducible refine (laws_eqTimerS.calls k1 _ _ (rd_L2 l0 x5_1) _ _ (rd_L2 l1 x5_1) false _ ?side1 ?side2 ?side3 ?side4 A7.out).mono ?_
        (case side1 => exact zC (Kd.C_below HR106_0.out HB.out))
        (case side2 => exact HC106_0.out)
        (case side3 => exact zC (Kd.C_below HR107_0.out HB.out))
        (case side4 => exact HC107_0.out)
        rintro e w12 ⟨rfl, hb⟩
        refine ⟨_, rfl, ?_⟩
        replace HB := zLB (zL HB.out) hb
        clear hb
        refine hK.out _ _ ⟨(zh HB.out hw106_0), (zh HB.out hw107_0)⟩ fun hHeld => ?_; clear hK K
        refine nZ 25 ?_
        refine pY 9 26 (fB 10 1023) HT_.out ?_
        refine done_ (done_of HT_.out (by kernel_rfl)) ?_
        try go_wp2
        go_ret
        exact ⟨zW, zL HB.out⟩
      ·rw [if_neg c6] at H
       exact absurd H (by simp)
     ·rw [if_neg c5] at H
      exact absurd H (by simp)
    ·rw [if_neg c4] at H
     have c4b0 := decide_eq_false c4
     clear c4
     obtain rfl := Option.some.inj H
     go_wp2
     go_ret
     exact ⟨zW, zL HB.out⟩
 ·rw [if_neg c3] at H
  obtain ⟨c3b0, c3b1⟩ := zf c3
  have c3b2 : (l0.length == l1.length) = false := by first | simpa using c3 | (simp at c3 ⊢; omega)
  obtain rfl := Option.some.inj H
  go_enter Try.func59, Try.ntmps59
  go_wp2
  go_ret
  exact ⟨zW, zL HB.out⟩

open Go.Proofs.YtggenhomnbnodaaW.PrintWords renaming blk_drewN → bN, blk_drew → bD, blk_alloc → bA, blk_cell → bC, blk_below → bB, below_set → bS
/-! ### laws_eqWheel: function 17 -/
def laws_eqWheel.f (k : Nat) (a0_0 : Int) (l0_1 : List (List (S46))) (l0_2 : List (List (S46))) (l0_3 : List (S46)) (a1_0 : Int) (l1_1 : List (List (S46))) (l1_2 : List (List (S46))) (l1_3 : List (S46)) : Option (Bool) := if a0_0 = a1_0 then ((laws_eqTimerSS.f k l0_1 l1_1).bind fun t111 => (if t111 = true then ((laws_eqTimerSS.f k l0_2 l1_2).bind fun t112 => (if t112 = true then ((laws_eqTimerS.f k l0_3 l1_3).bind fun t113 => (if t113 = true then (some true) else (some false))) else (some false))) else (some false))) else (some false)
theorem laws_eqWheel.mono : ∀ a0 a1 a2 a3 a4 a5 a6 a7 k, LeO (laws_eqWheel.f k a0 a1 a2 a3 a4 a5 a6 a7) (laws_eqWheel.f (k + 1) a0 a1 a2 a3 a4 a5 a6 a7) := by
 intro a0 a1 a2 a3 a4 a5 a6 a7 k
 unfold laws_eqWheel.f
 repeat' first
   | (with_reducible apply laws_eqTimerS.mono)
   | (with_reducible apply laws_eqTimerSS.mono)
   | (with_reducible exact LeO.refl _)
   | (with_reducible exact LeO.none _)
   | (with_reducible refine LeO.ite ?_ ?_)
   | (with_reducible refine LeO.bind ?_ (fun _ => ?_))
   | apply laws_eqTimerS.mono
   | apply laws_eqTimerSS.mono
   | exact LeO.none _
   | refine LeO.ite ?_ ?_
   | refine LeO.bind ?_ (fun _ => ?_)
set_option maxHeartbeats 8000000 in
set_option maxRecDepth 100000 in
theorem laws_eqWheel.calls (k : Nat) (a0_0 : Int) (A0_1 : Option Addr) (c0_1 : Nat) (l0_1 : List (List (S46))) (A0_2 : Option Addr) (c0_2 : Nat) (l0_2 : List (List (S46))) (A0_3 : Option Addr) (c0_3 : Nat) (l0_3 : List (S46)) (a1_0 : Int) (A1_1 : Option Addr) (c1_1 : Nat) (l1_1 : List (List (S46))) (A1_2 : Option Addr) (c1_2 : Nat) (l1_2 : List (List (S46))) (A1_3 : Option Addr) (c1_3 : Nat) (l1_3 : List (S46)) (r : Bool) (w : World) (hr0_1 : Kd.C (Kd.slice 46 k46) w A0_1 l0_1.length l0_1) (hc0_1 : l0_1.length ≤ c0_1) (hr0_2 : Kd.C (Kd.slice 46 k46) w A0_2 l0_2.length l0_2) (hc0_2 : l0_2.length ≤ c0_2) (hr0_3 : Kd.C k46 w A0_3 l0_3.length l0_3) (hc0_3 : l0_3.length ≤ c0_3) (hr1_1 : Kd.C (Kd.slice 46 k46) w A1_1 l1_1.length l1_1) (hc1_1 : l1_1.length ≤ c1_1) (hr1_2 : Kd.C (Kd.slice 46 k46) w A1_2 l1_2.length l1_2) (hc1_2 : l1_2.length ≤ c1_2) (hr1_3 : Kd.C k46 w A1_3 l1_3.length l1_3) (hc1_3 : l1_3.length ≤ c1_3) (h : laws_eqWheel.f k a0_0 l0_1 l0_2 l0_3 a1_0 l1_1 l1_2 l1_3 = some r) :
  Calls Try.prog 17 #[.agg #[.int .i64 a0_0, .slice A0_1 l0_1.length c0_1, .slice A0_2 l0_2.length c0_2, .slice A0_3 l0_3.length c0_3], .agg #[.int .i64 a1_0, .slice A1_1 l1_1.length c1_1, .slice A1_2 l1_2.length c1_2, .slice A1_3 l1_3.length c1_3]] w fun e w' => e = .returned (.bool r) ∧ Below w.heap.size w w' := by
 have hu25 := Try.underlying25
 have HR0_1 := Aside0.mk hr0_1
 have HC0_1 := Aside0.mk hc0_1
 clear hr0_1 hc0_1
 have HR0_2 := Aside0.mk hr0_2
 have HC0_2 := Aside0.mk hc0_2
 clear hr0_2 hc0_2
 have HR0_3 := Aside0.mk hr0_3
 have HC0_3 := Aside0.mk hc0_3
 clear hr0_3 hc0_3
 have HR1_1 := Aside0.mk hr1_1
 have HC1_1 := Aside0.mk hc1_1
 clear hr1_1 hc1_1
 have HR1_2 := Aside0.mk hr1_2
 have HC1_2 := Aside0.mk hc1_2
 clear hr1_2 hc1_2
 have HR1_3 := Aside0.mk hr1_3
 have HC1_3 := Aside0.mk hc1_3
 clear hr1_3 hc1_3
 have HB := Aside0.mk (Below.refl w.heap.size w)
 unfold laws_eqWheel.f at h; have H := h
 clear h
 by_cases c3 : a0_0 = a1_0
 ·rw [if_pos c3] at H
  obtain ⟨c3b0, c3b1⟩ := zt c3
  clear c3
  obtain ⟨t111, A4, H⟩ := zO H; try dsimp only at H
  by_cases c5 : t111 = true
  ·subst c5
   rw [if_pos rfl] at H
   obtain ⟨t112, A6, H⟩ := zO H; try dsimp only at H
   by_cases c7 : t112 = true
   ·subst c7
    rw [if_pos rfl] at H
    obtain ⟨t113, A8, H⟩ := zO H; try dsimp only at H
    by_cases c9 : t113 = true
    ·subst c9
     rw [if_pos rfl] at H
     obtain rfl := Option.some.inj H
     go_enter Try.func17, Try.ntmps17
     go_wp2_with (first | ((with_reducible refine gD 2 rfl ?_); refine bE 2 #[.int .i64 a0_0, .slice A0_1 l0_1.length c0_1, .slice A0_2 l0_2.length c0_2, .slice A0_3 l0_3.length c0_3] 25 ?_; intro gb109 hg w10 hbox hb; have BK109 := Aside0.mk hbox; have GW109 := Aside0.mk (zg (zL HB.out) hg : w.heap.size ≤ gb109); have GE109 := GW109; replace HB := zLB (zL HB.out) hb; clear hb hbox hg) | ((with_reducible refine gD 3 rfl ?_); refine bE 3 #[.int .i64 a1_0, .slice A1_1 l1_1.length c1_1, .slice A1_2 l1_2.length c1_2, .slice A1_3 l1_3.length c1_3] 25 ?_; intro gb110 hg w11 hbox hb; have BK110 := Aside0.mk hbox; have GW110 := Aside0.mk (zg (zL1 HB.out GE109.out) hg : w.heap.size ≤ gb110); have GE110 := GW110; replace HB := zLB (zL1 HB.out GE109.out) hb; have NB109_110 := Aside0.mk (zN BK109.out hg : gb109 ≠ gb110); have NB110_109 := Aside0.mk (zM BK109.out hg : gb110 ≠ gb109); replace BK109 := zBB BK109 hb; clear hb hbox hg; have hnb12 := NB109_110.out; have hnc12 := NB110_109.out; have hcz13 := zc4 BK109.out; have hfz13 := zf4 BK109.out; have hcz14 := zc4 BK110.out; have hfz14 := zf4 BK110.out) | ((with_reducible refine gC 59 rfl ?_); refine gL 14 Try.func59 #[.slice A0_1 l0_1.length c0_1, .slice A1_1 l1_1.length c1_1] ?_; (with_reducible refine (laws_eqTimerSS.calls k _ _ l0_1 _ _ l1_1 true _ ?side1 ?side2 ?side3 ?side4 A4.out).mono ?_); (case side1 => exact zC (Kd.C_below HR0_1.out HB.out)); (case side2 => exact HC0_1.out); (case side3 => exact zC (Kd.C_below HR1_1.out HB.out)); (case side4 => exact HC1_1.out); rintro e w15 ⟨rfl, hb⟩; refine ⟨_, rfl, ?_⟩; replace BK109 := zBB BK109 hb; replace BK110 := zBB BK110 hb; replace HB := zLB (zL2 HB.out GE109.out GE110.out) hb; clear hb; have hcz16 := zc4 BK109.out; have hfz16 := zf4 BK109.out; have hcz17 := zc4 BK110.out; have hfz17 := zf4 BK110.out) | ((with_reducible refine gC 59 rfl ?_); refine gL 20 Try.func59 #[.slice A0_2 l0_2.length c0_2, .slice A1_2 l1_2.length c1_2] ?_; (with_reducible refine (laws_eqTimerSS.calls k _ _ l0_2 _ _ l1_2 true _ ?side1 ?side2 ?side3 ?side4 A6.out).mono ?_); (case side1 => exact zC (Kd.C_below HR0_2.out HB.out)); (case side2 => exact HC0_2.out); (case side3 => exact zC (Kd.C_below HR1_2.out HB.out)); (case side4 => exact HC1_2.out); rintro e w18 ⟨rfl, hb⟩; refine ⟨_, rfl, ?_⟩; replace BK109 := zBB BK109 hb; replace BK110 := zBB BK110 hb; replace HB := zLB (zL2 HB.out GE109.out GE110.out) hb; clear hb; have hcz19 := zc4 BK109.out; have hfz19 := zf4 BK109.out; have hcz20 := zc4 BK110.out; have hfz20 := zf4 BK110.out) | ((with_reducible refine gC 26 rfl ?_); refine gL 26 Try.func26 #[.slice A0_3 l0_3.length c0_3, .slice A1_3 l1_3.length c1_3] ?_; (with_reducible refine (laws_eqTimerS.calls k _ _ l0_3 _ _ l1_3 true _ ?side1 ?side2 ?side3 ?side4 A8.out).mono ?_); (case side1 => exact zC (Kd.C_below HR0_3.out HB.out)); (case side2 => exact HC0_3.out); (case side3 => exact zC (Kd.C_below HR1_3.out HB.out)); (case side4 => exact HC1_3.out); rintro e w21 ⟨rfl, hb⟩; refine ⟨_, rfl, ?_⟩; replace BK109 := zBB BK109 hb; replace BK110 := zBB BK110 hb; replace HB := zLB (zL2 HB.out GE109.out GE110.out) hb; clear hb))
     go_ret
     exact ⟨zW, zL2 HB.out GE109.out GE110.out⟩
    ·obtain rfl := Bool.eq_false_iff.mpr c9
     rw [if_neg zn] at H
     obtain rfl := Option.some.inj H
     go_enter Try.func17, Try.ntmps17
     go_wp2_with (first | ((with_reducible refine gD 2 rfl ?_); refine bE 2 #[.int .i64 a0_0, .slice A0_1 l0_1.length c0_1, .slice A0_2 l0_2.length c0_2, .slice A0_3 l0_3.length c0_3] 25 ?_; intro gb109 hg w22 hbox hb; have BK109 := Aside0.mk hbox; have GW109 := Aside0.mk (zg (zL HB.out) hg : w.heap.size ≤ gb109); have GE109 := GW109; replace HB := zLB (zL HB.out) hb; clear hb hbox hg) | ((with_reducible refine gD 3 rfl ?_); refine bE 3 #[.int .i64 a1_0, .slice A1_1 l1_1.length c1_1, .slice A1_2 l1_2.length c1_2, .slice A1_3 l1_3.length c1_3] 25 ?_; intro gb110 hg w23 hbox hb; have BK110 := Aside0.mk hbox; have GW110 := Aside0.mk (zg (zL1 HB.out GE109.out) hg : w.heap.size ≤ gb110); have GE110 := GW110; replace HB := zLB (zL1 HB.out GE109.out) hb; have NB109_110 := Aside0.mk (zN BK109.out hg : gb109 ≠ gb110); have NB110_109 := Aside0.mk (zM BK109.out hg : gb110 ≠ gb109); replace BK109 := zBB BK109 hb; clear hb hbox hg; have hnb24 := NB109_110.out; have hnc24 := NB110_109.out; have hcz25 := zc4 BK109.out; have hfz25 := zf4 BK109.out; have hcz26 := zc4 BK110.out; have hfz26 := zf4 BK110.out) | ((with_reducible refine gC 59 rfl ?_); refine gL 14 Try.func59 #[.slice A0_1 l0_1.length c0_1, .slice A1_1 l1_1.length c1_1] ?_; (with_reducible refine (laws_eqTimerSS.calls k _ _ l0_1 _ _ l1_1 true _ ?side1 ?side2 ?side3 ?side4 A4.out).mono ?_); (case side1 => exact zC (Kd.C_below HR0_1.out HB.out)); (case side2 => exact HC0_1.out); (case side3 => exact zC (Kd.C_below HR1_1.out HB.out)); (case side4 => exact HC1_1.out); rintro e w27 ⟨rfl, hb⟩; refine ⟨_, rfl, ?_⟩; replace BK109 := zBB BK109 hb; replace BK110 := zBB BK110 hb; replace HB := zLB (zL2 HB.out GE109.out GE110.out) hb; clear hb; have hcz28 := zc4 BK109.out; have hfz28 := zf4 BK109.out; have hcz29 := zc4 BK110.out; have hfz29 := zf4 BK110.out) | ((with_reducible refine gC 59 rfl ?_); refine gL 20 Try.func59 #[.slice A0_2 l0_2.length c0_2, .slice A1_2 l1_2.length c1_2] ?_; (with_reducible refine (laws_eqTimerSS.calls k _ _ l0_2 _ _ l1_2 true _ ?side1 ?side2 ?side3 ?side4 A6.out).mono ?_); (case side1 => exact zC (Kd.C_below HR0_2.out HB.out)); (case side2 => exact HC0_2.out); (case side3 => exact zC (Kd.C_below HR1_2.out HB.out)); (case side4 => exact HC1_2.out); rintro e w30 ⟨rfl, hb⟩; refine ⟨_, rfl, ?_⟩; replace BK109 := zBB BK109 hb; replace BK110 := zBB BK110 hb; replace HB := zLB (zL2 HB.out GE109.out GE110.out) hb; clear hb; have hcz31 := zc4 BK109.out; have hfz31 := zf4 BK109.out; have hcz32 := zc4 BK110.out; have hfz32 := zf4 BK110.out) | ((with_reducible refine gC 26 rfl ?_); refine gL 26 Try.func26 #[.slice A0_3 l0_3.length c0_3, .slice A1_3 l1_3.length c1_3] ?_; (with_reducible refine (laws_eqTimerS.calls k _ _ l0_3 _ _ l1_3 false _ ?side1 ?side2 ?side3 ?side4 A8.out).mono ?_); (case side1 => exact zC (Kd.C_below HR0_3.out HB.out)); (case side2 => exact HC0_3.out); (case side3 => exact zC (Kd.C_below HR1_3.out HB.out)); (case side4 => exact HC1_3.out); rintro e w33 ⟨rfl, hb⟩; refine ⟨_, rfl, ?_⟩; replace BK109 := zBB BK109 hb; replace BK110 := zBB BK110 hb; replace HB := zLB (zL2 HB.out GE109.out GE110.out) hb; clear hb))
     go_ret
     exact ⟨zW, zL2 HB.out GE109.out GE110.out⟩
   ·obtain rfl := Bool.eq_false_iff.mpr c7
    rw [if_neg zn] at H
    obtain rfl := Option.some.inj H
    go_enter Try.func17, Try.ntmps17
    go_wp2_with (first | ((with_reducible refine gD 2 rfl ?_); refine bE 2 #[.int .i64 a0_0, .slice A0_1 l0_1.length c0_1, .slice A0_2 l0_2.length c0_2, .slice A0_3 l0_3.length c0_3] 25 ?_; intro gb109 hg w34 hbox hb; have BK109 := Aside0.mk hbox; have GW109 := Aside0.mk (zg (zL HB.out) hg : w.heap.size ≤ gb109); have GE109 := GW109; replace HB := zLB (zL HB.out) hb; clear hb hbox hg) | ((with_reducible refine gD 3 rfl ?_); refine bE 3 #[.int .i64 a1_0, .slice A1_1 l1_1.length c1_1, .slice A1_2 l1_2.length c1_2, .slice A1_3 l1_3.length c1_3] 25 ?_; intro gb110 hg w35 hbox hb; have BK110 := Aside0.mk hbox; have GW110 := Aside0.mk (zg (zL1 HB.out GE109.out) hg : w.heap.size ≤ gb110); have GE110 := GW110; replace HB := zLB (zL1 HB.out GE109.out) hb; have NB109_110 := Aside0.mk (zN BK109.out hg : gb109 ≠ gb110); have NB110_109 := Aside0.mk (zM BK109.out hg : gb110 ≠ gb109); replace BK109 := zBB BK109 hb; clear hb hbox hg; have hnb36 := NB109_110.out; have hnc36 := NB110_109.out; have hcz37 := zc4 BK109.out; have hfz37 := zf4 BK109.out; have hcz38 := zc4 BK110.out; have hfz38 := zf4 BK110.out) | ((with_reducible refine gC 59 rfl ?_); refine gL 14 Try.func59 #[.slice A0_1 l0_1.length c0_1, .slice A1_1 l1_1.length c1_1] ?_; (with_reducible refine (laws_eqTimerSS.calls k _ _ l0_1 _ _ l1_1 true _ ?side1 ?side2 ?side3 ?side4 A4.out).mono ?_); (case side1 => exact zC (Kd.C_below HR0_1.out HB.out)); (case side2 => exact HC0_1.out); (case side3 => exact zC (Kd.C_below HR1_1.out HB.out)); (case side4 => exact HC1_1.out); rintro e w39 ⟨rfl, hb⟩; refine ⟨_, rfl, ?_⟩; replace BK109 := zBB BK109 hb; replace BK110 := zBB BK110 hb; replace HB := zLB (zL2 HB.out GE109.out GE110.out) hb; clear hb; have hcz40 := zc4 BK109.out; have hfz40 := zf4 BK109.out; have hcz41 := zc4 BK110.out; have hfz41 := zf4 BK110.out) | ((with_reducible refine gC 59 rfl ?_); refine gL 20 Try.func59 #[.slice A0_2 l0_2.length c0_2, .slice A1_2 l1_2.length c1_2] ?_; (with_reducible refine (laws_eqTimerSS.calls k _ _ l0_2 _ _ l1_2 false _ ?side1 ?side2 ?side3 ?side4 A6.out).mono ?_); (case side1 => exact zC (Kd.C_below HR0_2.out HB.out)); (case side2 => exact HC0_2.out); (case side3 => exact zC (Kd.C_below HR1_2.out HB.out)); (case side4 => exact HC1_2.out); rintro e w42 ⟨rfl, hb⟩; refine ⟨_, rfl, ?_⟩; replace BK109 := zBB BK109 hb; replace BK110 := zBB BK110 hb; replace HB := zLB (zL2 HB.out GE109.out GE110.out) hb; clear hb))
    go_ret
    exact ⟨zW, zL2 HB.out GE109.out GE110.out⟩
  ·obtain rfl := Bool.eq_false_iff.mpr c5
   rw [if_neg zn] at H
   obtain rfl := Option.some.inj H
   go_enter Try.func17, Try.ntmps17
   go_wp2_with (first | ((with_reducible refine gD 2 rfl ?_); refine bE 2 #[.int .i64 a0_0, .slice A0_1 l0_1.length c0_1, .slice A0_2 l0_2.length c0_2, .slice A0_3 l0_3.length c0_3] 25 ?_; intro gb109 hg w43 hbox hb; have BK109 := Aside0.mk hbox; have GW109 := Aside0.mk (zg (zL HB.out) hg : w.heap.size ≤ gb109); have GE109 := GW109; replace HB := zLB (zL HB.out) hb; clear hb hbox hg) | ((with_reducible refine gD 3 rfl ?_); refine bE 3 #[.int .i64 a1_0, .slice A1_1 l1_1.length c1_1, .slice A1_2 l1_2.length c1_2, .slice A1_3 l1_3.length c1_3] 25 ?_; intro gb110 hg w44 hbox hb; have BK110 := Aside0.mk hbox; have GW110 := Aside0.mk (zg (zL1 HB.out GE109.out) hg : w.heap.size ≤ gb110); have GE110 := GW110; replace HB := zLB (zL1 HB.out GE109.out) hb; have NB109_110 := Aside0.mk (zN BK109.out hg : gb109 ≠ gb110); have NB110_109 := Aside0.mk (zM BK109.out hg : gb110 ≠ gb109); replace BK109 := zBB BK109 hb; clear hb hbox hg; have hnb45 := NB109_110.out; have hnc45 := NB110_109.out; have hcz46 := zc4 BK109.out; have hfz46 := zf4 BK109.out; have hcz47 := zc4 BK110.out; have hfz47 := zf4 BK110.out) | ((with_reducible refine gC 59 rfl ?_); refine gL 14 Try.func59 #[.slice A0_1 l0_1.length c0_1, .slice A1_1 l1_1.length c1_1] ?_; (with_reducible refine (laws_eqTimerSS.calls k _ _ l0_1 _ _ l1_1 false _ ?side1 ?side2 ?side3 ?side4 A4.out).mono ?_); (case side1 => exact zC (Kd.C_below HR0_1.out HB.out)); (case side2 => exact HC0_1.out); (case side3 => exact zC (Kd.C_below HR1_1.out HB.out)); (case side4 => exact HC1_1.out); rintro e w48 ⟨rfl, hb⟩; refine ⟨_, rfl, ?_⟩; replace BK109 := zBB BK109 hb; replace BK110 := zBB BK110 hb; replace HB := zLB (zL2 HB.out GE109.out GE110.out) hb; clear hb))
   go_ret
   exact ⟨zW, zL2 HB.out GE109.out GE110.out⟩
 ·rw [if_neg c3] at H
  obtain ⟨c3b0, c3b1⟩ := zf c3
  obtain rfl := Option.some.inj H
  go_enter Try.func17, Try.ntmps17
  go_wp2_with (first | ((with_reducible refine gD 2 rfl ?_); refine bE 2 #[.int .i64 a0_0, .slice A0_1 l0_1.length c0_1, .slice A0_2 l0_2.length c0_2, .slice A0_3 l0_3.length c0_3] 25 ?_; intro gb109 hg w49 hbox hb; have BK109 := Aside0.mk hbox; have GW109 := Aside0.mk (zg (zL HB.out) hg : w.heap.size ≤ gb109); have GE109 := GW109; replace HB := zLB (zL HB.out) hb; clear hb hbox hg) | ((with_reducible refine gD 3 rfl ?_); refine bE 3 #[.int .i64 a1_0, .slice A1_1 l1_1.length c1_1, .slice A1_2 l1_2.length c1_2, .slice A1_3 l1_3.length c1_3] 25 ?_; intro gb110 hg w50 hbox hb; have BK110 := Aside0.mk hbox; have GW110 := Aside0.mk (zg (zL1 HB.out GE109.out) hg : w.heap.size ≤ gb110); have GE110 := GW110; replace HB := zLB (zL1 HB.out GE109.out) hb; have NB109_110 := Aside0.mk (zN BK109.out hg : gb109 ≠ gb110); have NB110_109 := Aside0.mk (zM BK109.out hg : gb110 ≠ gb109); replace BK109 := zBB BK109 hb; clear hb hbox hg; have hnb51 := NB109_110.out; have hnc51 := NB110_109.out; have hcz52 := zc4 BK109.out; have hfz52 := zf4 BK109.out; have hcz53 := zc4 BK110.out; have hfz53 := zf4 BK110.out))
  go_ret
  exact ⟨zW, zL2 HB.out GE109.out GE110.out⟩

open Go.Proofs.YtggenhomnbnodaaW.PrintWords renaming blk_drewN → bN, blk_drew → bD, blk_alloc → bA, blk_cell → bC, blk_below → bB, below_set → bS
/-! ### laws_markTimerS: function 27 -/
def laws_markTimerS.l0 : Nat → List (S46) → Int → Int → Option (Int × (List (S46)))
 | 0, _, _, _ => none
 | k + 1, x0, x1, x5 => if x5 < (x0.length : Int) then (if 0 ≤ x5 then ((some (x0.set (x5 : Int).toNat (⟨x1, (rd_T46 x0 x5).f1, (rd_T46 x0 x5).f2⟩ : S46) : List (S46))).bind fun y114 => ((some (y114.set (x5 : Int).toNat (⟨(rd_T46 y114 x5).f0, wrap64 (x1 + 1), (rd_T46 y114 x5).f2⟩ : S46) : List (S46))).bind fun y115 => (laws_markTimerS.l0 k (y115.set (x5 : Int).toNat (⟨(rd_T46 y115 x5).f0, (rd_T46 y115 x5).f1, wrap64 ((wrap64 (x1 + 1)) + 1)⟩ : S46)) (wrap64 ((wrap64 ((wrap64 (x1 + 1)) + 1)) + 1)) (wrap64 (x5 + 1))))) else (none)) else (some (x1, x0))
def laws_markTimerS.f (k : Nat) (l0 : List (S46)) (a1 : Int) : Option (Int × (List (S46))) := laws_markTimerS.l0 k l0 a1 0
theorem laws_markTimerS.mono_l : ∀ k, (∀ y0 y1 y2, LeO (laws_markTimerS.l0 k y0 y1 y2) (laws_markTimerS.l0 (k + 1) y0 y1 y2))
 | 0 => fun _ _ _ r h => by simp [laws_markTimerS.l0] at h
 | k + 1 => by
  have ih0 := laws_markTimerS.mono_l k
  ·intro y0 y1 y2
   unfold laws_markTimerS.l0
   repeat' first
   | (with_reducible exact ih0 _ _ _)
   | (with_reducible exact LeO.refl _)
   | (with_reducible exact LeO.none _)
   | (with_reducible refine LeO.ite ?_ ?_)
   | (with_reducible refine LeO.bind ?_ (fun _ => ?_))
   | exact ih0 _ _ _
   | exact LeO.none _
   | refine LeO.ite ?_ ?_
   | refine LeO.bind ?_ (fun _ => ?_)
theorem laws_markTimerS.mono : ∀ a0 a1 k, LeO (laws_markTimerS.f k a0 a1) (laws_markTimerS.f (k + 1) a0 a1) := by
 intro a0 a1 k
 have ih0 := laws_markTimerS.mono_l k
 unfold laws_markTimerS.f
 repeat' first
   | (with_reducible exact ih0 _ _ _)
   | (with_reducible exact LeO.refl _)
   | (with_reducible exact LeO.none _)
   | (with_reducible refine LeO.ite ?_ ?_)
   | (with_reducible refine LeO.bind ?_ (fun _ => ?_))
   | exact ih0 _ _ _
   | exact LeO.none _
   | refine LeO.ite ?_ ?_
   | refine LeO.bind ?_ (fun _ => ?_)
set_option maxHeartbeats 8000000 in
set_option maxRecDepth 100000 in
theorem laws_markTimerS.calls (k : Nat) (P0_ : Nat → Prop) (u9000_ : Value) (l0 : List (S46)) (a1 : Int) (r1 : Int) (r2 : List (S46)) (w0 w : World) (hB : Below w0.heap.size w0 w) (ho0 : Kd.R k46 46 w w0.heap.size P0_ u9000_ l0) (h : laws_markTimerS.f k l0 a1 = some (r1, r2)) :
  Calls Try.prog 27 #[u9000_, .int .i64 a1] w fun e w' => e = .returned (.int .i64 r1) ∧ Kd.R k46 46 w' w0.heap.size (fun k_ => (P0_ k_ ∨ w.heap.size ≤ k_)) u9000_ r2 ∧ Below w0.heap.size w0 w' ∧ Kept w w' (fun k_ => P0_ k_) := by
 have HO0 := Aside0.mk (show Kd.R k46 46 w w0.heap.size (fun k_ => (P0_ k_ ∨ w.heap.size ≤ k_)) u9000_ l0 from Kd.R_mono ho0 (fun k_ hk => (.inl hk)))
 have HK := Aside0.mk (Kept.refl w (fun k_ => P0_ k_))
 have HW0 := Aside0.mk hB.size
 have HB := Aside0.mk hB
 clear hB
 unfold laws_markTimerS.f at h; have H := h
 clear h
 have H' := Aside0.mk H
 clear H
 go_enter Try.func27, Try.ntmps27
 go_wp2
 go_loopg [1, 5] k (fun kq v1 v5 w' => ∃ (x0_1 : List (S46)) (x1_1 : Int) (x5_1 : Int), v1 = .int .i64 x1_1 ∧ v5 = .int .i64 x5_1 ∧ Aside0 (laws_markTimerS.l0 kq x0_1 x1_1 x5_1 = some (r1, r2)) ∧ Aside0 (kq ≤ k) ∧ Aside0 (Kd.R k46 46 w' w0.heap.size (fun k_ => (P0_ k_ ∨ w.heap.size ≤ k_)) u9000_ x0_1) ∧ Aside0 (Kept w w' (fun k_ => P0_ k_)) ∧ Aside0 (Below w0.heap.size w0 w'))
 case atStart => exact ⟨(l0), (a1), (0), zV, zV, H', ⟨Nat.le_refl _⟩, ⟨zR HO0.out⟩, ⟨by repeat (first | (with_reducible first | exact HK.out | apply Kept.alloc | apply Kept.drewN | apply Kept.drew) | exact HK.out)⟩, ⟨zL HB.out⟩⟩
 case round =>
  clear H'
  try clear c2
  try clear p2
  obtain ⟨x0_1, x1_1, x5_1, rfl, rfl, HA, HK1, HO_0, HK, HB⟩ := hrel
  cases gk with
  | zero => exact absurd HA.out (by simp [laws_markTimerS.l0])
  | succ k1 =>
   have H := HA.out
   clear HA
   simp only [laws_markTimerS.l0] at H
   by_cases c3 : x5_1 < (x0_1.length : Int)
   ·rw [if_pos c3] at H
    have c3b0 := decide_eq_true c3
    clear c3
    by_cases c4 : 0 ≤ x5_1
    ·rw [if_pos c4] at H
     have c4b0 := decide_eq_true c4
     clear c4
     generalize hy114 : (x0_1.set (x5_1 : Int).toNat (⟨x1_1, (rd_T46 x0_1 x5_1).f1, (rd_T46 x0_1 x5_1).f2⟩ : S46)) = y114 at H; (try rw [Option.bind_some] at H); have Ny114 := Aside0.mk hy114.symm; clear hy114
     generalize hy115 : (y114.set (x5_1 : Int).toNat (⟨(rd_T46 y114 x5_1).f0, wrap64 (x1_1 + 1), (rd_T46 y114 x5_1).f2⟩ : S46)) = y115 at H; (try rw [Option.bind_some] at H); have Ny115 := Aside0.mk hy115.symm; clear hy115
     generalize hy116 : (y115.set (x5_1 : Int).toNat (⟨(rd_T46 y115 x5_1).f0, (rd_T46 y115 x5_1).f1, wrap64 ((wrap64 (x1_1 + 1)) + 1)⟩ : S46)) = y116 at H; (try rw [Option.bind_some] at H); have Ny116 := Aside0.mk hy116.symm; clear hy116
     have H' := Aside0.mk H
     clear H
     obtain ⟨Ao8, co8, eo8⟩ := Kd.R_slice HO_0.out
     subst eo8
     have p5 : 0 ≤ (x5_1 : Int) := zD
     have q5 : (x5_1 : Int) < ((x0_1.length : Int) : Int) := zD
     obtain ⟨go5, co5, eo5, gb5, gl5, cl5, HG5⟩ := Kd.R_form HO_0.out (by omega)
     (first | cases eo5 | (injection eo5 with ea_ en_ ec_; (first | subst ea_ | (injection ea_ with ea_; subst ea_)); subst ec_; clear en_))
     have GB5 := Aside0.mk gb5
     have GG5 := Aside0.mk HG5
     clear gb5 gl5 HG5
     have HMgo5 := Aside0.mk (show (P0_ go5 ∨ w.heap.size ≤ go5) from (HO_0.out.1 _ rfl))
     obtain ⟨ce5, hcl5, hM5, hcc5, hfr5⟩ := Kd.R_elem HO_0.out z46 (x5_1 : Int) p5 q5
     obtain rfl := k46_openM hM5
     have hx5_0 : wr.cell? ⟨go5, (x5_1 : Int).toNat * 3, none⟩ = some (.int .i64 ((rd_T46 x0_1 x5_1).f0)) := hcc5 0 _ rfl
     have hx5_1 : wr.cell? ⟨go5, (x5_1 : Int).toNat * 3 + 1, none⟩ = some (.int .i64 ((rd_T46 x0_1 x5_1).f1)) := hcc5 1 _ rfl
     have hx5_2 : wr.cell? ⟨go5, (x5_1 : Int).toNat * 3 + 2, none⟩ = some (.int .i64 ((rd_T46 x0_1 x5_1).f2)) := hcc5 2 _ rfl
     have hf5_0 : wr.frozen? ⟨go5, (x5_1 : Int).toNat * 3, none⟩ = false := hfr5 0
     have hf5_1 : wr.frozen? ⟨go5, (x5_1 : Int).toNat * 3 + 1, none⟩ = false := hfr5 1
     have hf5_2 : wr.frozen? ⟨go5, (x5_1 : Int).toNat * 3 + 2, none⟩ = false := hfr5 2
     clear hcl5 hcc5 hfr5; (try clear hM5)
     replace p5 := eq_true p5
     replace q5 := eq_true q5
     have HX9 := Aside0.mk (show Kd.R k46 46 wr w0.heap.size (fun k_ => (P0_ k_ ∨ w.heap.size ≤ k_)) (.slice (some ⟨go5, 0, none⟩) x0_1.length co8) x0_1 from (zR HO_0.out))
     obtain ⟨ce9, hcl9, hM9, hcc9, hfr9⟩ := Kd.R_elem HX9.out z46 (x5_1 : Int) (zD) (by have h_ : (x5_1 : Int) < ((x0_1.length : Int) : Int) := zD; first | exact h_ | (have e_ := (Kd.R_reads' HO_0.out).1; omega) | simpa using h_)
     obtain rfl := k46_openM hM9
     have HP9 := Kd.R_seg HX9.out (x5_1 : Int) (zD) (by have h_ : (x5_1 : Int) < ((x0_1.length : Int) : Int) := zD; first | exact h_ | (have e_ := (Kd.R_reads' HO_0.out).1; omega) | simpa using h_) (seg := [.int .i64 x1_1]) (j := 0) hcl9 hcc9 (show 1 ≤ 3 from by decide) (x' := (⟨x1_1, (rd_T46 x0_1 x5_1).f1, (rd_T46 x0_1 x5_1).f2⟩ : S46)) (k46_mkM _ _ _ (⟨x1_1, (rd_T46 x0_1 x5_1).f1, (rd_T46 x0_1 x5_1).f2⟩ : S46) ) (fun _ hk => hk)
     have hx9_0 := hcc9 0 _ rfl
     (try simp only [show (k46).sz = 3 from rfl, Nat.mul_one, Nat.add_zero] at hx9_0)
     have hf9_0 := hfr9 0
     (try simp only [show (k46).sz = 3 from rfl, Nat.mul_one, Nat.add_zero] at hf9_0)
     clear hcl9 hcc9 hfr9; (try clear hM9)
     go_wp2_with (first | ((with_reducible refine gate_store (t := 3) (p := 16) rfl ?_); refine store_event (t := 3) (p := 16) (v := ?vo_w10) (w1 := (wr.setCell ⟨go5, (x5_1 : Int).toNat * 3, none⟩ (.int .i64 x1_1))) ?hg ?ho ?hn ?hr ?_; (case ho => rfl); (case hg => rfl); (case hn => rfl); (case hr => first | (go_simp; done) | (go_simp; rfl)); intro w10 hw; have hg : wr.grownBy w10 (some go5) := (by rw [hw]; exact HP9.2); have hp_ : Kd.R k46 46 w10 w0.heap.size (fun k_ => (P0_ k_ ∨ w.heap.size ≤ k_)) (.slice (some ⟨go5, 0, none⟩) x0_1.length co8) y114 := (by rw [hw, Ny114.out]; exact HP9.1); clear HP9; replace HB := Aside0.mk (by rw [hw]; exact bS (HB.out) GB5.out : Below w0.heap.size w0 w10); replace HK := Aside0.mk (Kept.of_grown (S := (fun k_ => P0_ k_)) hg (by repeat (first | (with_reducible first | exact HK.out | apply Kept.alloc | apply Kept.drewN | apply Kept.drew) | exact HK.out)) (fun k_ e_ => (HO_0.out.1 k_ e_))); replace HO_0 := Aside0.mk (hp_); clear hg hw hp_; have p6 : 0 ≤ (x5_1 : Int) := zD; have q6 : (x5_1 : Int) < ((x0_1.length : Int) : Int) := zD; obtain ⟨ce6, hcl6, hM6, hcc6, hfr6⟩ := Kd.R_elem HO_0.out z46 (x5_1 : Int) p6 q6; obtain rfl := k46_openM hM6; have hx6_0 : w10.cell? ⟨go5, (x5_1 : Int).toNat * 3, none⟩ = some (.int .i64 ((rd_T46 y114 x5_1).f0)) := hcc6 0 _ rfl; have hx6_1 : w10.cell? ⟨go5, (x5_1 : Int).toNat * 3 + 1, none⟩ = some (.int .i64 ((rd_T46 y114 x5_1).f1)) := hcc6 1 _ rfl; have hx6_2 : w10.cell? ⟨go5, (x5_1 : Int).toNat * 3 + 2, none⟩ = some (.int .i64 ((rd_T46 y114 x5_1).f2)) := hcc6 2 _ rfl; have hf6_0 : w10.frozen? ⟨go5, (x5_1 : Int).toNat * 3, none⟩ = false := hfr6 0; have hf6_1 : w10.frozen? ⟨go5, (x5_1 : Int).toNat * 3 + 1, none⟩ = false := hfr6 1; have hf6_2 : w10.frozen? ⟨go5, (x5_1 : Int).toNat * 3 + 2, none⟩ = false := hfr6 2; clear hcl6 hcc6 hfr6; (try clear hM6); replace p6 := eq_true p6; replace q6 := eq_true q6; have HX11 := Aside0.mk (show Kd.R k46 46 w10 w0.heap.size (fun k_ => (P0_ k_ ∨ w.heap.size ≤ k_)) (.slice (some ⟨go5, 0, none⟩) x0_1.length co8) y114 from (zR HO_0.out)); obtain ⟨ce11, hcl11, hM11, hcc11, hfr11⟩ := Kd.R_elem HX11.out z46 (x5_1 : Int) (zD) (by have h_ : (x5_1 : Int) < ((x0_1.length : Int) : Int) := zD; first | exact h_ | (have e_ := (Kd.R_reads' HO_0.out).1; omega) | simpa using h_); obtain rfl := k46_openM hM11; have HP11 := Kd.R_seg HX11.out (x5_1 : Int) (zD) (by have h_ : (x5_1 : Int) < ((x0_1.length : Int) : Int) := zD; first | exact h_ | (have e_ := (Kd.R_reads' HO_0.out).1; omega) | simpa using h_) (seg := [.int .i64 (wrap64 (x1_1 + 1))]) (j := 1) hcl11 hcc11 (show 2 ≤ 3 from by decide) (x' := (⟨(rd_T46 y114 x5_1).f0, wrap64 (x1_1 + 1), (rd_T46 y114 x5_1).f2⟩ : S46)) (k46_mkM _ _ _ (⟨(rd_T46 y114 x5_1).f0, wrap64 (x1_1 + 1), (rd_T46 y114 x5_1).f2⟩ : S46) ) (fun _ hk => hk); have hx11_1 := hcc11 1 _ rfl; (try simp only [show (k46).sz = 3 from rfl, Nat.mul_one, Nat.add_zero] at hx11_1); have hf11_1 := hfr11 1; (try simp only [show (k46).sz = 3 from rfl, Nat.mul_one, Nat.add_zero] at hf11_1); clear hcl11 hcc11 hfr11; (try clear hM11)) | ((with_reducible refine gate_store (t := 3) (p := 23) rfl ?_); refine store_event (t := 3) (p := 23) (v := ?vo_w12) (w1 := (w10.setCell ⟨go5, (x5_1 : Int).toNat * 3 + 1, none⟩ (.int .i64 (wrap64 (x1_1 + 1))))) ?hg ?ho ?hn ?hr ?_; (case ho => rfl); (case hg => rfl); (case hn => rfl); (case hr => first | (go_simp; done) | (go_simp; rfl)); intro w12 hw; have hg : w10.grownBy w12 (some go5) := (by rw [hw]; exact HP11.2); have hp_ : Kd.R k46 46 w12 w0.heap.size (fun k_ => (P0_ k_ ∨ w.heap.size ≤ k_)) (.slice (some ⟨go5, 0, none⟩) x0_1.length co8) y115 := (by rw [hw, Ny115.out]; exact HP11.1); clear HP11; replace HB := Aside0.mk (by rw [hw]; exact bS (HB.out) GB5.out : Below w0.heap.size w0 w12); replace HK := Aside0.mk (Kept.of_grown (S := (fun k_ => P0_ k_)) hg (by repeat (first | (with_reducible first | exact HK.out | apply Kept.alloc | apply Kept.drewN | apply Kept.drew) | exact HK.out)) (fun k_ e_ => (HO_0.out.1 k_ e_))); replace HO_0 := Aside0.mk (hp_); clear hg hw hp_; have p7 : 0 ≤ (x5_1 : Int) := zD; have q7 : (x5_1 : Int) < ((x0_1.length : Int) : Int) := zD; obtain ⟨ce7, hcl7, hM7, hcc7, hfr7⟩ := Kd.R_elem HO_0.out z46 (x5_1 : Int) p7 q7; obtain rfl := k46_openM hM7; have hx7_0 : w12.cell? ⟨go5, (x5_1 : Int).toNat * 3, none⟩ = some (.int .i64 ((rd_T46 y115 x5_1).f0)) := hcc7 0 _ rfl; have hx7_1 : w12.cell? ⟨go5, (x5_1 : Int).toNat * 3 + 1, none⟩ = some (.int .i64 ((rd_T46 y115 x5_1).f1)) := hcc7 1 _ rfl; have hx7_2 : w12.cell? ⟨go5, (x5_1 : Int).toNat * 3 + 2, none⟩ = some (.int .i64 ((rd_T46 y115 x5_1).f2)) := hcc7 2 _ rfl; have hf7_0 : w12.frozen? ⟨go5, (x5_1 : Int).toNat * 3, none⟩ = false := hfr7 0; have hf7_1 : w12.frozen? ⟨go5, (x5_1 : Int).toNat * 3 + 1, none⟩ = false := hfr7 1; have hf7_2 : w12.frozen? ⟨go5, (x5_1 : Int).toNat * 3 + 2, none⟩ = false := hfr7 2; clear hcl7 hcc7 hfr7; (try clear hM7); replace p7 := eq_true p7; replace q7 := eq_true q7; have HX13 := Aside0.mk (show Kd.R k46 46 w12 w0.heap.size (fun k_ => (P0_ k_ ∨ w.heap.size ≤ k_)) (.slice (some ⟨go5, 0, none⟩) x0_1.length co8) y115 from (zR HO_0.out)); obtain ⟨ce13, hcl13, hM13, hcc13, hfr13⟩ := Kd.R_elem HX13.out z46 (x5_1 : Int) (zD) (by have h_ : (x5_1 : Int) < ((x0_1.length : Int) : Int) := zD; first | exact h_ | (have e_ := (Kd.R_reads' HO_0.out).1; omega) | simpa using h_); obtain rfl := k46_openM hM13; have HP13 := Kd.R_seg HX13.out (x5_1 : Int) (zD) (by have h_ : (x5_1 : Int) < ((x0_1.length : Int) : Int) := zD; first | exact h_ | (have e_ := (Kd.R_reads' HO_0.out).1; omega) | simpa using h_) (seg := [.int .i64 (wrap64 ((wrap64 (x1_1 + 1)) + 1))]) (j := 2) hcl13 hcc13 (show 3 ≤ 3 from by decide) (x' := (⟨(rd_T46 y115 x5_1).f0, (rd_T46 y115 x5_1).f1, wrap64 ((wrap64 (x1_1 + 1)) + 1)⟩ : S46)) (k46_mkM _ _ _ (⟨(rd_T46 y115 x5_1).f0, (rd_T46 y115 x5_1).f1, wrap64 ((wrap64 (x1_1 + 1)) + 1)⟩ : S46) ) (fun _ hk => hk); have hx13_2 := hcc13 2 _ rfl; (try simp only [show (k46).sz = 3 from rfl, Nat.mul_one, Nat.add_zero] at hx13_2); have hf13_2 := hfr13 2; (try simp only [show (k46).sz = 3 from rfl, Nat.mul_one, Nat.add_zero] at hf13_2); clear hcl13 hcc13 hfr13; (try clear hM13)) | ((with_reducible refine gate_store (t := 3) (p := 30) rfl ?_); refine store_event (t := 3) (p := 30) (v := ?vo_w14) (w1 := (w12.setCell ⟨go5, (x5_1 : Int).toNat * 3 + 2, none⟩ (.int .i64 (wrap64 ((wrap64 (x1_1 + 1)) + 1))))) ?hg ?ho ?hn ?hr ?_; (case ho => rfl); (case hg => rfl); (case hn => rfl); (case hr => first | (go_simp; done) | (go_simp; rfl)); intro w14 hw; have hg : w12.grownBy w14 (some go5) := (by rw [hw]; exact HP13.2); have hp_ : Kd.R k46 46 w14 w0.heap.size (fun k_ => (P0_ k_ ∨ w.heap.size ≤ k_)) (.slice (some ⟨go5, 0, none⟩) x0_1.length co8) y116 := (by rw [hw, Ny116.out]; exact HP13.1); clear HP13; replace HB := Aside0.mk (by rw [hw]; exact bS (HB.out) GB5.out : Below w0.heap.size w0 w14); replace HK := Aside0.mk (Kept.of_grown (S := (fun k_ => P0_ k_)) hg (by repeat (first | (with_reducible first | exact HK.out | apply Kept.alloc | apply Kept.drewN | apply Kept.drew) | exact HK.out)) (fun k_ e_ => (HO_0.out.1 k_ e_))); replace HO_0 := Aside0.mk (hp_); clear hg hw hp_))
     go_roundg k1
     case measure => have := HK1.out; omega
     case rel => exact ⟨(y116), (wrap64 ((wrap64 ((wrap64 (x1_1 + 1)) + 1)) + 1)), (wrap64 (x5_1 + 1)), zV, zV, H', ⟨by have := HK1.out; omega⟩, ⟨zR HO_0.out⟩, ⟨by repeat (first | (with_reducible first | exact HK.out | apply Kept.alloc | apply Kept.drewN | apply Kept.drew) | exact HK.out)⟩, ⟨zL HB.out⟩⟩
    ·rw [if_neg c4] at H
     exact absurd H (by simp)
   ·rw [if_neg c3] at H
    have c3b0 := decide_eq_false c3
    clear c3
    simp only [Option.some.injEq, Prod.mk.injEq] at H
    obtain ⟨rfl, rfl⟩ := H
    obtain ⟨Ao15, co15, eo15⟩ := Kd.R_slice HO_0.out
    subst eo15
    go_wp2
    go_ret
    exact ⟨zW, zR HO_0.out, zL HB.out, by repeat (first | (with_reducible first | exact HK.out | apply Kept.alloc | apply Kept.drewN | apply Kept.drew) | exact HK.out)⟩

/-! ### laws_markTimerSS: function 60, by hand -/
def laws_markTimerSS.l0 : Nat → List (List S46) → Int → Int → Option (Int × List (List S46))
  | 0, _, _, _ => none
  | k + 1, x0, x1, x5 => if x5 < (x0.length : Int) then (if 0 ≤ x5 then ((laws_markTimerS.f k (x0.getD x5.toNat []) x1).bind fun t => laws_markTimerSS.l0 k (x0.set x5.toNat t.2) t.1 (wrap64 (x5 + 1))) else none) else some (x1, x0)
def laws_markTimerSS.f (k : Nat) (l0 : List (List S46)) (a1 : Int) : Option (Int × List (List S46)) := laws_markTimerSS.l0 k l0 a1 0
set_option maxHeartbeats 8000000 in
set_option maxRecDepth 100000 in
theorem laws_markTimerSS.calls (k : Nat) (P0_ : Nat → Prop) (u9000_ : Value) (l0 : List (List S46)) (a1 : Int) (r1 : Int) (r2 : List (List S46)) (w0 w : World) (hB : Below w0.heap.size w0 w) (ho0 : Kd.S (Kd.slice 46 k46) 23 w w0.heap.size P0_ u9000_ l0) (h : laws_markTimerSS.f k l0 a1 = some (r1, r2)) :
    Calls Try.prog 60 #[u9000_, .int .i64 a1] w fun e w' => e = .returned (.int .i64 r1) ∧ Kd.S (Kd.slice 46 k46) 23 w' w0.heap.size P0_ u9000_ r2 ∧ Below w0.heap.size w0 w' ∧ Kept w w' (fun k_ => P0_ k_) := by
  have HO0 := Aside0.mk ho0
  have HK := Aside0.mk (Kept.refl w (fun k_ => P0_ k_))
  have HB := Aside0.mk hB
  clear hB ho0
  have H' := Aside0.mk (show laws_markTimerSS.l0 k l0 a1 0 = some (r1, r2) from h)
  clear h
  go_enter Try.func60, Try.ntmps60
  go_wp2
  go_loopg [1, 5] k (fun kq v1 v5 w' => ∃ (x0_1 : List (List S46)) (x1_1 : Int) (x5_1 : Int), v1 = .int .i64 x1_1 ∧ v5 = .int .i64 x5_1 ∧ Aside0 (laws_markTimerSS.l0 kq x0_1 x1_1 x5_1 = some (r1, r2)) ∧ Aside0 (kq ≤ k) ∧ Aside0 (Kd.S (Kd.slice 46 k46) 23 w' w0.heap.size P0_ u9000_ x0_1) ∧ Aside0 (Kept w w' (fun k_ => P0_ k_)) ∧ Aside0 (Below w0.heap.size w0 w'))
  case atStart => exact ⟨l0, a1, 0, rfl, rfl, H', ⟨Nat.le_refl _⟩, HO0, HK, HB⟩
  case round =>
    clear H'
    obtain ⟨x0_1, x1_1, x5_1, rfl, rfl, HA, HK1, HO_0, HK, HB⟩ := hrel
    cases gk with
    | zero => exact absurd HA.out (by simp [laws_markTimerSS.l0])
    | succ k1 =>
      have H := HA.out
      clear HA
      simp only [laws_markTimerSS.l0] at H
      by_cases c3 : x5_1 < (x0_1.length : Int)
      · rw [if_pos c3] at H
        by_cases c4 : 0 ≤ x5_1
        · rw [if_pos c4] at H
          obtain ⟨t, ht, H2⟩ := Option.bind_eq_some_iff.mp H
          clear H
          obtain ⟨t1, t2⟩ := t
          have A1 := Aside0.mk ht
          have H' := Aside0.mk H2
          clear H2 ht
          obtain ⟨go5, co5, eo5, gb5, gl5, gx5⟩ := Kd.S_form HO_0.out (by omega)
          subst eo5
          obtain ⟨oki, ce, hcl, hM, hcc, hoki, HH⟩ := Kd.S_lend HO_0.out [] x5_1 c4 c3
          generalize x0_1.getD x5_1.toNat [] = xi at hM A1
          obtain ⟨v, hv, hR⟩ := hM
          subst hv
          have hx : wr.cell? ⟨go5, x5_1.toNat, none⟩ = some v := by
            have := hcc 0 v rfl
            have e : x5_1.toNat * (Kd.slice 46 k46).sz + 0 = x5_1.toNat := Nat.mul_one _
            rwa [e] at this
          obtain ⟨Av, cv, ev⟩ := Kd.R_slice hR
          have HR := Aside0.mk hR
          have HHA := Aside0.mk HH
          have HOK := Aside0.mk hoki
          clear hR HH hoki hcc hcl
          have c3b : decide (x5_1 < (x0_1.length : Int)) = true := decide_eq_true c3
          have c4e := eq_true c4
          have c3e := eq_true c3
          have hcall : ∀ wz : World, wz = wr → Calls Try.prog 27 #[v, .int .i64 x1_1] wz fun e w' => e = .returned (.int .i64 t1) ∧ Kd.S (Kd.slice 46 k46) 23 w' w0.heap.size P0_ (.slice (some ⟨go5, 0, none⟩) x0_1.length co5) (x0_1.set x5_1.toNat t2) ∧ Below w0.heap.size w0 w' ∧ Kept w w' (fun k_ => P0_ k_) := by
            rintro wz rfl
            refine (laws_markTimerS.calls k1 oki v _ x1_1 t1 t2 w0 _ HB.out HR.out A1.out).mono ?_
            rintro e w' ⟨rfl, hR2, hb2, hk2⟩
            refine ⟨rfl, ?_, hb2, HK.out.then_ hk2 (fun k_ hk => .inl (HOK.out k_ hk).1)⟩
            exact Kd.H_back (Kd.H_kept HHA.out hk2 (fun k_ _ hn => hn)) (x' := t2) ⟨v, rfl, Kd.R_mono (Kd.R_tight rfl hR2) (fun k_ hk => HR.out.1 k_ hk.symm)⟩ (fun _ hk => hk)
          subst ev
          have HC := Aside0.mk hcall
          clear hcall c3 c4 gb5 gl5 gx5
          go_wp2_with (go_at_call 27; refine (HC.out _ rfl).mono ?_; rintro e w11 ⟨rfl, hs, hb, hk⟩; have HO1 := Aside0.mk hs; have HB1 := Aside0.mk hb; have HK2 := Aside0.mk hk; clear hs hb hk)
          go_roundg k1
          case measure => have := HK1.out; omega
          case rel => exact ⟨_, _, _, rfl, rfl, H', ⟨by have := HK1.out; omega⟩, HO1, HK2, HB1⟩
        · rw [if_neg c4] at H
          exact absurd H (by simp)
      · rw [if_neg c3] at H
        have c3b0 : decide (x5_1 < (x0_1.length : Int)) = false := decide_eq_false c3
        clear c3
        simp only [Option.some.injEq, Prod.mk.injEq] at H
        obtain ⟨rfl, rfl⟩ := H
        obtain ⟨Ao15, co15, eo15⟩ := Kd.S_slice HO_0.out
        subst eo15
        go_wp2
        go_ret
        exact ⟨rfl, HO_0.out, HB.out, HK.out⟩

/-! ### laws_markWheel: function 18, by hand -/
def laws_markWheel.all (k : Nat) (a0 : Int) (l1 l2 : List (List S46)) (l3 : List S46) (a1 : Int) : Option (Int × List (List S46) × List (List S46) × List S46) :=
  (laws_markTimerSS.f k l1 a1).bind fun t1 => (laws_markTimerSS.f k l2 t1.1).bind fun t2 => (laws_markTimerS.f k l3 t2.1).bind fun t3 => some (t3.1, t1.2, t2.2, t3.2)
set_option maxHeartbeats 8000000 in
set_option maxRecDepth 100000 in
theorem laws_markWheel.callsAll (k : Nat) (P1 P2 P3 : Nat → Prop) (v1 v2 v3 : Value) (a0 : Int) (l1 l2 : List (List S46)) (l3 : List S46) (a1 : Int) (r : Int) (m1 m2 : List (List S46)) (m3 : List S46) (w0 w : World) (hB : Below w0.heap.size w0 w)
    (h1 : Kd.S (Kd.slice 46 k46) 23 w w0.heap.size P1 v1 l1) (h2 : Kd.S (Kd.slice 46 k46) 23 w w0.heap.size P2 v2 l2) (h3 : Kd.R k46 46 w w0.heap.size P3 v3 l3)
    (d12 : ∀ k_, P1 k_ → ¬ P2 k_) (d13 : ∀ k_, P1 k_ → ¬ P3 k_) (d23 : ∀ k_, P2 k_ → ¬ P3 k_) (h : laws_markWheel.all k a0 l1 l2 l3 a1 = some (r, m1, m2, m3)) :
    Calls Try.prog 18 #[.agg #[.int .i64 a0, v1, v2, v3], .int .i64 a1] w fun e w' => e = .returned (.int .i64 r) ∧ Kd.S (Kd.slice 46 k46) 23 w' w0.heap.size P1 v1 m1 ∧ Kd.S (Kd.slice 46 k46) 23 w' w0.heap.size P2 v2 m2 ∧ Kd.R k46 46 w' w0.heap.size P3 v3 m3 ∧ Below w0.heap.size w0 w' ∧ Kept w w' (fun k_ => P1 k_ ∨ P2 k_ ∨ P3 k_) := by
  unfold laws_markWheel.all at h
  obtain ⟨⟨t1, u1⟩, q1, h⟩ := Option.bind_eq_some_iff.mp h
  obtain ⟨⟨t2, u2⟩, q2, h⟩ := Option.bind_eq_some_iff.mp h
  obtain ⟨⟨t3, u3⟩, q3, h⟩ := Option.bind_eq_some_iff.mp h
  simp only [Option.some.injEq, Prod.mk.injEq] at h
  obtain ⟨rfl, rfl, rfl, rfl⟩ := h
  obtain ⟨A1, c1, rfl⟩ := Kd.S_slice h1
  obtain ⟨A2, c2, rfl⟩ := Kd.S_slice h2
  obtain ⟨A3, c3, rfl⟩ := Kd.R_slice h3
  have Q1 := Aside0.mk q1
  have Q2 := Aside0.mk q2
  have Q3 := Aside0.mk q3
  have D := Aside0.mk (And.intro d12 (And.intro d13 d23))
  have S1 := Aside0.mk (Kd.S_mono (Kd.S_bound h1) (ok' := fun k_ => P1 k_ ∧ k_ < w.heap.size) (fun _ hk => ⟨hk.1, hk.2.2.1⟩))
  have S2 := Aside0.mk (Kd.S_mono (Kd.S_bound h2) (ok' := fun k_ => P2 k_ ∧ k_ < w.heap.size) (fun _ hk => ⟨hk.1, hk.2.2.1⟩))
  have S3 := Aside0.mk (Kd.R_mono (Kd.R_bound h3) (ok' := fun k_ => P3 k_ ∧ k_ < w.heap.size) (fun _ hk => ⟨hk.1, hk.2.2.1⟩))
  have HB := Aside0.mk hB
  clear q1 q2 q3 d12 d13 d23 h1 h2 h3 hB
  have hu25 := Try.underlying25
  go_enter Try.func18, Try.ntmps18
  go_wp2_with (first | ((with_reducible refine gate_dst (N := 2) rfl ?_); refine box_event ?hg (N := 2) ?hd (cs := #[.int .i64 a0, .slice A1 l1.length c1, .slice A2 l2.length c2, .slice A3 l3.length c3]) (t := 25) ?hr ?_; (case hd => rfl); (case hg => rfl); (case hr => first | (go_simp; done) | (go_simp; rfl)); intro gb hg w7 hbox hb; have BK := Aside0.mk hbox; have GB := Aside0.mk hg; have HB7 := Aside0.mk hb; clear hb hbox hg; have hx1 : w7.cell? ⟨gb, 1, none⟩ = some (.slice A1 l1.length c1) := (blk_cell BK.out 1).trans rfl) | (go_at_call 60; refine (laws_markTimerSS.calls k _ (.slice A1 l1.length c1) l1 a1 t1 u1 w0 w7 (pw_below_grown HB.out none HB.out.size (grown_of_below HB7.out none) (fun _ e_ => by cases e_)) (Kd.S_below S1.out HB7.out) Q1.out).mono ?_; rintro e w8 ⟨rfl, hs, hb, hk⟩; have HS1 := Aside0.mk hs; have HB8 := Aside0.mk hb; have HK8 := Aside0.mk hk; clear hs hb hk hx1; have BK8 := Aside0.mk (blk_kept BK.out HK8.out (fun hz => by have h0 := hz.2; rw [GB.out] at h0; exact Nat.lt_irrefl _ h0)); have hx2 : w8.cell? ⟨gb, 2, none⟩ = some (.slice A2 l2.length c2) := (blk_cell BK8.out 2).trans rfl; refine Aside0.out ?_))
  refine ⟨?_⟩
  go_wp2_with (go_at_call 60; refine (laws_markTimerSS.calls k _ (.slice A2 l2.length c2) l2 t1 t2 u2 w0 w8 HB8.out (Kd.S_kept (Kd.S_below S2.out HB7.out) HK8.out (fun k_ h2_ h1_ => D.out.1 k_ h1_.1 h2_.1)) Q2.out).mono ?_; rintro e w9 ⟨rfl, hs, hb, hk⟩; have HS2 := Aside0.mk hs; have HB9 := Aside0.mk hb; have HK9 := Aside0.mk hk; clear hs hb hk hx2; have BK9 := Aside0.mk (blk_kept BK8.out HK9.out (fun hz => by have h0 := hz.2; rw [GB.out] at h0; exact Nat.lt_irrefl _ h0)); have hx3 : w9.cell? ⟨gb, 3, none⟩ = some (.slice A3 l3.length c3) := (blk_cell BK9.out 3).trans rfl; refine Aside0.out ?_)
  refine ⟨?_⟩
  go_wp2_with (go_at_call 27; refine (laws_markTimerS.calls k _ (.slice A3 l3.length c3) l3 t2 t3 u3 w0 w9 HB9.out (Kd.R_kept (Kd.R_kept (Kd.R_below S3.out HB7.out) HK8.out (fun k_ h3_ h1_ => D.out.2.1 k_ h1_.1 h3_.1)) HK9.out (fun k_ h3_ h2_ => D.out.2.2 k_ h2_.1 h3_.1)) Q3.out).mono ?_; rintro e wA ⟨rfl, hs, hb, hk⟩; have HS3 := Aside0.mk hs; have HBA := Aside0.mk hb; have HKA := Aside0.mk hk; clear hs hb hk hx3)
  go_ret
  refine ⟨rfl, Kd.S_mono (Kd.S_kept (Kd.S_kept HS1.out HK9.out (fun k_ h1_ h2_ => D.out.1 k_ h1_.1 h2_.1)) HKA.out (fun k_ h1_ h3_ => D.out.2.1 k_ h1_.1 h3_.1)) (fun _ hk => hk.1), Kd.S_mono (Kd.S_kept HS2.out HKA.out (fun k_ h2_ h3_ => D.out.2.2 k_ h2_.1 h3_.1)) (fun _ hk => hk.1), ?_, HBA.out, ?_⟩
  · exact Kd.R_mono (Kd.R_tight rfl HS3.out) (fun k_ hk => (S3.out.1 k_ hk.symm).1)
  · refine (((Kept.of_below HB7.out _).then_ HK8.out (fun k_ hk => .inl (.inl hk.1))).then_ HK9.out (fun k_ hk => .inl (.inr (.inl hk.1)))).then_ HKA.out (fun k_ hk => .inl (.inr (.inr hk.1)))
def laws_markWheel.f (k : Nat) (a0 : Int) (l1 l2 : List (List S46)) (l3 : List S46) (a1 : Int) : Option Int := (laws_markWheel.all k a0 l1 l2 l3 a1).bind fun t => some t.1
theorem laws_markWheel.calls (k : Nat) {P1 P2 P3 : Nat → Prop} {v1 v2 v3 : Value} (a0 : Int) (l1 l2 : List (List S46)) (l3 : List S46) (a1 : Int) (r : Int) {w0 w : World} (hB : Below w0.heap.size w0 w)
    (h1 : Kd.S (Kd.slice 46 k46) 23 w w0.heap.size P1 v1 l1) (h2 : Kd.S (Kd.slice 46 k46) 23 w w0.heap.size P2 v2 l2) (h3 : Kd.R k46 46 w w0.heap.size P3 v3 l3)
    (d12 : ∀ k_, P1 k_ → ¬ P2 k_) (d13 : ∀ k_, P1 k_ → ¬ P3 k_) (d23 : ∀ k_, P2 k_ → ¬ P3 k_) (h : laws_markWheel.f k a0 l1 l2 l3 a1 = some r) :
    Calls Try.prog 18 #[.agg #[.int .i64 a0, v1, v2, v3], .int .i64 a1] w fun e w' => e = .returned (.int .i64 r) ∧ Below w0.heap.size w0 w' ∧ Kept w w' (fun k_ => P1 k_ ∨ P2 k_ ∨ P3 k_) := by
  obtain ⟨⟨q, m1, m2, m3⟩, hq, h⟩ := Option.bind_eq_some_iff.mp h
  obtain rfl := Option.some.inj h
  refine (laws_markWheel.callsAll k P1 P2 P3 v1 v2 v3 a0 l1 l2 l3 a1 q m1 m2 m3 w0 w hB h1 h2 h3 d12 d13 d23 hq).mono ?_
  rintro e w' ⟨rfl, _, _, _, hb, hk⟩
  exact ⟨rfl, hb, hk⟩

end Go.Proofs.Ytggenhomnbnodaa.QFnExactCancel
