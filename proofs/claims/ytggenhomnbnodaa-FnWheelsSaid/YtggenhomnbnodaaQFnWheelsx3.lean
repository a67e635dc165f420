/- What functions that the law reaches answer, with their walks. Conditions: those that each theorem names. -/
import Derived.Test.YtggenhomnbnodaaQFnWheelsx0
import Derived.Test.YtggenhomnbnodaaQFnWheelsx2
namespace Go.Proofs.Ytggenhomnbnodaa.QFnWheels
open Go.RowKit Go.Proofs.YtggenhomnbnodaaW.PrintWords Go.Proofs.YtggenhomnbnodaaW.PrintLast Go.Proofs.YtggenhomnbnodaaW.PrintMore
attribute [local go_sem] max2_int min2_int max_two min_two max_three min_three max_four min_four
set_option linter.unusedVariables false
set_option linter.unusedSimpArgs false

open Go.Proofs.YtggenhomnbnodaaW.PrintWords renaming blk_drewN → bN, blk_drew → bD, blk_alloc → bA, blk_cell → bC, blk_below → bB, below_set → bS
mutual
def spec_l8Slot.l0 : Nat → List (S46) → Int → Int → Int → Int → List (List (S46)) → List (List (S46)) → List (S46) → Option (Bool)
 | 0, _, _, _, _, _, _, _, _ => none
 | k + 1, x1, x2, x3, x9, xD, xF, xG, xH => if x9 < (x1.length : Int) then (if 0 ≤ x9 then (if ((rd_T46 x1 x9).f0) < 1 then (spec_l8Slot.j1 k x1 x2 x3 x9 true xD xF xG xH ((rd_T46 x1 x9).f0) ((rd_T46 x1 x9).f1) ((rd_T46 x1 x9).f2)) else ((spec_l1In.f ((rd_T46 x1 x9).f1) 1 999).bind fun tK => (if tK = true then ((spec_l1In.f ((rd_T46 x1 x9).f2) (wrap64 (xD + 1)) 2147483647).bind fun tI => (spec_l8Slot.j1 k x1 x2 x3 x9 (!tI) xD xF xG xH ((rd_T46 x1 x9).f0) ((rd_T46 x1 x9).f1) ((rd_T46 x1 x9).f2))) else (spec_l8Slot.j1 k x1 x2 x3 x9 true xD xF xG xH ((rd_T46 x1 x9).f0) ((rd_T46 x1 x9).f1) ((rd_T46 x1 x9).f2))))) else (none)) else (some true)
def spec_l8Slot.j1 : Nat → List (S46) → Int → Int → Int → Bool → Int → List (List (S46)) → List (List (S46)) → List (S46) → Int → Int → Int → Option (Bool)
 | 0, _, _, _, _, _, _, _, _, _, _, _, _ => none
 | k + 1, x1, x2, x3, x9, x40, xD, xF, xG, xH, xM, xN, xL => if x40 = true then (some false) else ((spec_l8Place.f xD xL).bind fun btE => (if btE.1 = x2 then (if btE.2 = x3 then (spec_l8Slot.l0 k x1 x2 x3 (wrap64 (x9 + 1)) xD xF xG xH) else (some false)) else (some false)))
end
def spec_l8Slot.f (k : Nat) (a0_0 : Int) (l0_1 : List (List (S46))) (l0_2 : List (List (S46))) (l0_3 : List (S46)) (l1 : List (S46)) (a2 : Int) (a3 : Int) : Option (Bool) := spec_l8Slot.l0 k l1 a2 a3 0 a0_0 l0_1 l0_2 l0_3
set_option maxHeartbeats 8000000 in
set_option maxRecDepth 100000 in
theorem spec_l8Slot.calls (k : Nat) (a0_0 : Int) (A0_1 : Option Addr) (c0_1 : Nat) (l0_1 : List (List (S46))) (A0_2 : Option Addr) (c0_2 : Nat) (l0_2 : List (List (S46))) (A0_3 : Option Addr) (c0_3 : Nat) (l0_3 : List (S46)) (A1 : Option Addr) (c1 : Nat) (l1 : List (S46)) (a2 : Int) (a3 : Int) (r : Bool) (w : World) (hr0_1 : Kd.C (Kd.slice 46 k46) w A0_1 l0_1.length l0_1) (hc0_1 : l0_1.length ≤ c0_1) (hr0_2 : Kd.C (Kd.slice 46 k46) w A0_2 l0_2.length l0_2) (hc0_2 : l0_2.length ≤ c0_2) (hr0_3 : Kd.C k46 w A0_3 l0_3.length l0_3) (hc0_3 : l0_3.length ≤ c0_3) (hr1 : Kd.C k46 w A1 l1.length l1) (hc1 : l1.length ≤ c1) (h : spec_l8Slot.f k a0_0 l0_1 l0_2 l0_3 l1 a2 a3 = some r) :
  Calls Try.prog 68 #[.agg #[.int .i64 a0_0, .slice A0_1 l0_1.length c0_1, .slice A0_2 l0_2.length c0_2, .slice A0_3 l0_3.length c0_3], .slice A1 l1.length c1, .int .i64 a2, .int .i64 a3] w fun e w' => e = .returned (.bool r) ∧ Below w.heap.size w w' := by
 have hu25 := Try.underlying25
 have hu46 := Try.underlying46
 have HR0_1 := aM hr0_1
 have HC0_1 := aM hc0_1
 clear hr0_1 hc0_1
 have HR0_2 := aM hr0_2
 have HC0_2 := aM hc0_2
 clear hr0_2 hc0_2
 have HR0_3 := aM hr0_3
 have HC0_3 := aM hc0_3
 clear hr0_3 hc0_3
 have HR1 := aM hr1
 have HC1 := aM hc1
 clear hr1 hc1
 have HB := aM (Below.refl w.heap.size w)
 unfold spec_l8Slot.f at h; have H := h
 clear h
 have H' := aM H
 clear H
 go_enter Try.func68, Try.ntmps68
 go_wp2_with (first | ((with_reducible refine gD 4 rfl ?_); refine bE 4 #[.int .i64 a0_0, .slice A0_1 l0_1.length c0_1, .slice A0_2 l0_2.length c0_2, .slice A0_3 l0_3.length c0_3] 25 ?_; intro gbB hg w5 hbox hb; have BKB := aM hbox; have GWB := aM (zg (zL HB.o) hg : w.heap.size ≤ gbB); have GEB := GWB; replace HB := zLB (zL HB.o) hb; clear hb hbox hg))
 go_loopg [9] k (fun kq v9 w' => ∃ (x9_1 : Int), v9 = .int .i64 x9_1 ∧ Aside0 (spec_l8Slot.l0 kq l1 a2 a3 x9_1 a0_0 l0_1 l0_2 l0_3 = some r) ∧ Aside0 (kq ≤ k) ∧ Aside0 (w'.heap[gbB]? = some (.cells #[.int .i64 a0_0, (.slice A0_1 l0_1.length c0_1), (.slice A0_2 l0_2.length c0_2), (.slice A0_3 l0_3.length c0_3)] 25 (0, 0))) ∧ Aside0 (Below w.heap.size w w'))
 case atStart => exact ⟨(0), zV, H', ⟨Nat.le_refl _⟩, ⟨zB BKB.o⟩, ⟨zL1 HB.o GEB.o⟩⟩
 case round =>
  clear H'
  try clear c1
  try clear p2
  try clear BKB
  obtain ⟨x9_1, rfl, HA, HK1, BKB, HB⟩ := hrel
  cases gk with
  | zero => exact absurd HA.o (by simp [spec_l8Slot.l0])
  | succ k1 =>
   have H := HA.o
   clear HA
   simp only [spec_l8Slot.l0] at H
   by_cases c6 : x9_1 < (l1.length : Int)
   ·rw [if_pos c6] at H
    have c6b0 := dT c6
    clear c6
    by_cases c7 : 0 ≤ x9_1
    ·rw [if_pos c7] at H
     have c7b0 := dT c7
     clear c7
     have HC8 := aM H
     clear H
     have pC : 0 ≤ (x9_1 : Int) := zD
     have qC : x9_1 < (l1.length : Int) := zD
     obtain ⟨adC, eC, hxC_0, hxC_1, hxC_2⟩ := at_T46 HR1.o x9_1 pC qC
     cases eC
     replace hxC_0 := zh HB.o hxC_0
     replace hxC_1 := zh HB.o hxC_1
     replace hxC_2 := zh HB.o hxC_2
     replace pC := eq_true pC
     replace qC := eq_true qC
     go_upto_region 5 with (first | ((with_reducible refine gD 10 rfl ?_); refine bE 10 #[.int .i64 0, .int .i64 0, .int .i64 0] 46 ?_; intro gbA hg w9 hbox hb; have BKA := aM hbox; have GWA := aM (zg (zL1 HB.o GEB.o) hg : w.heap.size ≤ gbA); have GEA := GWA; replace HB := zLB (zL1 HB.o GEB.o) hb; have NBB_A := aM (zN BKB.o hg : gbB ≠ gbA); have NBA_B := aM (zM BKB.o hg : gbA ≠ gbB); replace BKB := zBB BKB hb; clear hb hbox hg; have hnb10 := NBA_B.o; have hnc10 := NBB_A.o; have hcz11_0 : w9.cell? ⟨gbA, 0, none⟩ = some (.int .i64 0) := (bC BKA.o 0).trans rfl; have hcz11_1 : w9.cell? ⟨gbA, 1, none⟩ = some (.int .i64 0) := (bC BKA.o 1).trans rfl; have hcz11_2 : w9.cell? ⟨gbA, 2, none⟩ = some (.int .i64 0) := (bC BKA.o 2).trans rfl; have hfz11_0 := blk_frozen BKA.o 0; have hfz11_1 := blk_frozen BKA.o 1; have hfz11_2 := blk_frozen BKA.o 2))
     (try simp only [Act.put, List.setIfInBounds_toArray, List.set_cons_zero, List.set_cons_succ])
     go_cut [40] (fun v40 wc => ∃ (kq : Nat) (x40_7 : Bool), v40 = .bool x40_7 ∧ Aside0 (spec_l8Slot.j1 kq l1 a2 a3 x9_1 x40_7 a0_0 l0_1 l0_2 l0_3 ((rd_T46 l1 x9_1).f0) ((rd_T46 l1 x9_1).f1) ((rd_T46 l1 x9_1).f2) = some r) ∧ Aside0 (kq ≤ k1) ∧ Aside0 (wc.heap[gbB]? = some (.cells #[.int .i64 a0_0, (.slice A0_1 l0_1.length c0_1), (.slice A0_2 l0_2.length c0_2), (.slice A0_3 l0_3.length c0_3)] 25 (0, 0))) ∧ Aside0 (wc.heap[gbA]? = some (.cells #[.int .i64 ((rd_T46 l1 x9_1).f0), .int .i64 ((rd_T46 l1 x9_1).f1), .int .i64 ((rd_T46 l1 x9_1).f2)] 46 (0, 0))) ∧ Aside0 (Below w.heap.size w wc))
     case first =>
      have H := HC8.o
      clear HC8
      by_cases c12 : ((rd_T46 l1 x9_1).f0) < 1
      ·rw [if_pos c12] at H
       have c12b0 := dT c12
       clear c12
       (first | rw [c12b0] | (simp only [i64_w, i32_w]; rw [c12b0]) | skip)
       have H' := aM H
       clear H
       have hnb13 := NBA_B.o
       have hnc13 := NBB_A.o
       have hcz14_0 : w9.cell? ⟨gbA, 0, none⟩ = some (.int .i64 0) := (bC BKA.o 0).trans rfl
       have hcz14_1 : w9.cell? ⟨gbA, 1, none⟩ = some (.int .i64 0) := (bC BKA.o 1).trans rfl
       have hcz14_2 : w9.cell? ⟨gbA, 2, none⟩ = some (.int .i64 0) := (bC BKA.o 2).trans rfl
       have hfz14_0 := blk_frozen BKA.o 0
       have hfz14_1 := blk_frozen BKA.o 1
       have hfz14_2 := blk_frozen BKA.o 2
       go_wp2
       go_meet
       case rel => exact ⟨_, (true), zV, H', ⟨by have := HK1.o; first | omega | exact Nat.le_refl _⟩, ⟨by refine zB ?_; refine blk_far ?_ NBB_A.o _; refine zB ?_; refine blk_far ?_ NBB_A.o _; refine zB ?_; refine blk_far ?_ NBB_A.o _; exact zB BKB.o⟩, ⟨by refine zB ?_; refine blk_put (cs := #[.int .i64 ((rd_T46 l1 x9_1).f0), .int .i64 ((rd_T46 l1 x9_1).f1), .int .i64 0]) ?_ 2 _ rfl; refine zB ?_; refine blk_put (cs := #[.int .i64 ((rd_T46 l1 x9_1).f0), .int .i64 0, .int .i64 0]) ?_ 1 _ rfl; refine zB ?_; refine blk_put (cs := #[.int .i64 0, .int .i64 0, .int .i64 0]) ?_ 0 _ rfl; exact zB BKA.o⟩, ⟨zL2 HB.o GEB.o GEA.o⟩⟩
      ·rw [if_neg c12] at H
       have c12b0 := dF c12
       clear c12
       (first | rw [c12b0] | (simp only [i64_w, i32_w]; rw [c12b0]) | skip)
       obtain ⟨tK, A15, H⟩ := zO H; try dsimp only at H
       by_cases c16 : tK = true
       ·subst c16
        rw [if_pos rfl] at H
        obtain ⟨tI, A17, H⟩ := zO H; try dsimp only at H
        have H' := aM H
        clear H
        have hnb18 := NBA_B.o
        have hnc18 := NBB_A.o
        have hcz19_0 : w9.cell? ⟨gbA, 0, none⟩ = some (.int .i64 0) := (bC BKA.o 0).trans rfl
        have hcz19_1 : w9.cell? ⟨gbA, 1, none⟩ = some (.int .i64 0) := (bC BKA.o 1).trans rfl
        have hcz19_2 : w9.cell? ⟨gbA, 2, none⟩ = some (.int .i64 0) := (bC BKA.o 2).trans rfl
        have hfz19_0 := blk_frozen BKA.o 0
        have hfz19_1 := blk_frozen BKA.o 1
        have hfz19_2 := blk_frozen BKA.o 2
        go_wp2_with (first | (go_at_call 67; (with_reducible refine (spec_l1In.calls ((rd_T46 l1 x9_1).f1) 1 999 true _ A15.o).mono ?_); rintro e w' ⟨rfl, ⟨nd, rfl⟩⟩; have hcz20 := zc4 BKB.o; have hfz20 := zf4 BKB.o) | (go_at_call 67; (with_reducible refine (spec_l1In.calls ((rd_T46 l1 x9_1).f2) (wrap64 (a0_0 + 1)) 2147483647 tI _ A17.o).mono ?_); rintro e w' ⟨rfl, ⟨nd, rfl⟩⟩))
        go_meet
        case rel => exact ⟨_, (!tI), zV, H', ⟨by have := HK1.o; first | omega | exact Nat.le_refl _⟩, ⟨by refine zB ?_; refine blk_far ?_ NBB_A.o _; refine zB ?_; refine blk_far ?_ NBB_A.o _; refine zB ?_; refine blk_far ?_ NBB_A.o _; exact zB BKB.o⟩, ⟨by refine zB ?_; refine blk_put (cs := #[.int .i64 ((rd_T46 l1 x9_1).f0), .int .i64 ((rd_T46 l1 x9_1).f1), .int .i64 0]) ?_ 2 _ rfl; refine zB ?_; refine blk_put (cs := #[.int .i64 ((rd_T46 l1 x9_1).f0), .int .i64 0, .int .i64 0]) ?_ 1 _ rfl; refine zB ?_; refine blk_put (cs := #[.int .i64 0, .int .i64 0, .int .i64 0]) ?_ 0 _ rfl; exact zB BKA.o⟩, ⟨zL2 HB.o GEB.o GEA.o⟩⟩
       ·obtain rfl := Bool.eq_false_iff.mpr c16
        rw [if_neg zn] at H
        have H' := aM H
        clear H
        have hnb21 := NBA_B.o
        have hnc21 := NBB_A.o
        have hcz22_0 : w9.cell? ⟨gbA, 0, none⟩ = some (.int .i64 0) := (bC BKA.o 0).trans rfl
        have hcz22_1 : w9.cell? ⟨gbA, 1, none⟩ = some (.int .i64 0) := (bC BKA.o 1).trans rfl
        have hcz22_2 : w9.cell? ⟨gbA, 2, none⟩ = some (.int .i64 0) := (bC BKA.o 2).trans rfl
        have hfz22_0 := blk_frozen BKA.o 0
        have hfz22_1 := blk_frozen BKA.o 1
        have hfz22_2 := blk_frozen BKA.o 2
        go_wp2_with (first | (go_at_call 67; (with_reducible refine (spec_l1In.calls ((rd_T46 l1 x9_1).f1) 1 999 false _ A15.o).mono ?_); rintro e w' ⟨rfl, ⟨nd, rfl⟩⟩))
        go_meet
        case rel => exact ⟨_, (true), zV, H', ⟨by have := HK1.o; first | omega | exact Nat.le_refl _⟩, ⟨by refine zB ?_; refine blk_far ?_ NBB_A.o _; refine zB ?_; refine blk_far ?_ NBB_A.o _; refine zB ?_; refine blk_far ?_ NBB_A.o _; exact zB BKB.o⟩, ⟨by refine zB ?_; refine blk_put (cs := #[.int .i64 ((rd_T46 l1 x9_1).f0), .int .i64 ((rd_T46 l1 x9_1).f1), .int .i64 0]) ?_ 2 _ rfl; refine zB ?_; refine blk_put (cs := #[.int .i64 ((rd_T46 l1 x9_1).f0), .int .i64 0, .int .i64 0]) ?_ 1 _ rfl; refine zB ?_; refine blk_put (cs := #[.int .i64 0, .int .i64 0, .int .i64 0]) ?_ 0 _ rfl; exact zB BKA.o⟩, ⟨zL2 HB.o GEB.o GEA.o⟩⟩
     case rest =>
      clear HC8
      try clear c1
      try clear p1
      try clear q1
      try clear hx1
      try clear c2
      try clear p2
      try clear c6
      try clear c6b0
      try clear p6
      try clear c7
      try clear c7b0
      try clear c10
      try clear c12
      try clear c12b0
      try clear c13
      try clear p13
      try clear q13
      try clear hx13
      try clear c16
      try clear c18
      try clear c21
      try clear hcz11; try clear hcz14; try clear hcz19; try clear hcz20; try clear hcz22; try clear hfz11; try clear hfz14; try clear hfz19; try clear hfz20; try clear hfz22
      try clear hxC_0
      try clear hxC_1
      try clear hxC_2
      try clear pC
      try clear p2
      try clear qC
      obtain ⟨kq, x40_7, rfl, HA, HJ7, BKB, BKA, HB⟩ := hcut
      cases kq with
      | zero => exact absurd HA.o (by simp [spec_l8Slot.j1])
      | succ kj7 =>
       have H := HA.o
       clear HA
       simp only [spec_l8Slot.j1] at H
       by_cases c23 : x40_7 = true
       ·subst c23
        rw [if_pos rfl] at H
        obtain rfl := Option.some.inj H
        go_wp2
        go_ret
        exact ⟨zW, zL2 HB.o GEB.o GEA.o⟩
       ·obtain rfl := Bool.eq_false_iff.mpr c23
        rw [if_neg zn] at H
        obtain ⟨⟨tE, tJ⟩, A24, H⟩ := zO H; try dsimp only at H
        by_cases c25 : tE = a2
        ·rw [if_pos c25] at H
         obtain ⟨c25b0, c25b1⟩ := zt c25
         clear c25
         by_cases c26 : tJ = a3
         ·rw [if_pos c26] at H
          obtain ⟨c26b0, c26b1⟩ := zt c26
          clear c26
          have H' := aM H
          clear H
          have hnb27 := NBB_A.o
          have hnc27 := NBA_B.o
          have hcz28 := zc4 BKB.o
          have hfz28 := zf4 BKB.o
          have hcz29_0 : wc.cell? ⟨gbA, 0, none⟩ = some (.int .i64 ((rd_T46 l1 x9_1).f0)) := (bC BKA.o 0).trans rfl
          have hcz29_1 : wc.cell? ⟨gbA, 1, none⟩ = some (.int .i64 ((rd_T46 l1 x9_1).f1)) := (bC BKA.o 1).trans rfl
          have hcz29_2 : wc.cell? ⟨gbA, 2, none⟩ = some (.int .i64 ((rd_T46 l1 x9_1).f2)) := (bC BKA.o 2).trans rfl
          have hfz29_0 := blk_frozen BKA.o 0
          have hfz29_1 := blk_frozen BKA.o 1
          have hfz29_2 := blk_frozen BKA.o 2
          go_wp2_with (first | ((with_reducible refine gC 88 rfl ?_); refine gL 46 Try.func88 #[.int .i64 a0_0, .int .i64 ((rd_T46 l1 x9_1).f2)] ?_; (with_reducible refine (spec_l8Place.calls a0_0 ((rd_T46 l1 x9_1).f2) tE tJ _ A24.o).mono ?_); rintro e w' ⟨rfl, ⟨nd, rfl⟩⟩; refine ⟨_, rfl, ?_⟩))
          go_roundg kj7
          case measure => have := HK1.o; have := HJ7.o; omega
          case rel => exact ⟨(wrap64 (x9_1 + 1)), zV, H', ⟨by have := HK1.o; have := HJ7.o; omega⟩, ⟨zB BKB.o⟩, ⟨zL2 HB.o GEB.o GEA.o⟩⟩
         ·rw [if_neg c26] at H
          obtain ⟨c26b0, c26b1⟩ := zf c26
          obtain rfl := Option.some.inj H
          have hnb30 := NBB_A.o
          have hnc30 := NBA_B.o
          have hcz31 := zc4 BKB.o
          have hfz31 := zf4 BKB.o
          have hcz32_0 : wc.cell? ⟨gbA, 0, none⟩ = some (.int .i64 ((rd_T46 l1 x9_1).f0)) := (bC BKA.o 0).trans rfl
          have hcz32_1 : wc.cell? ⟨gbA, 1, none⟩ = some (.int .i64 ((rd_T46 l1 x9_1).f1)) := (bC BKA.o 1).trans rfl
          have hcz32_2 : wc.cell? ⟨gbA, 2, none⟩ = some (.int .i64 ((rd_T46 l1 x9_1).f2)) := (bC BKA.o 2).trans rfl
          have hfz32_0 := blk_frozen BKA.o 0
          have hfz32_1 := blk_frozen BKA.o 1
          have hfz32_2 := blk_frozen BKA.o 2
          go_wp2_with (first | ((with_reducible refine gC 88 rfl ?_); refine gL 46 Try.func88 #[.int .i64 a0_0, .int .i64 ((rd_T46 l1 x9_1).f2)] ?_; (with_reducible refine (spec_l8Place.calls a0_0 ((rd_T46 l1 x9_1).f2) tE tJ _ A24.o).mono ?_); rintro e w' ⟨rfl, ⟨nd, rfl⟩⟩; refine ⟨_, rfl, ?_⟩))
          go_ret
          exact ⟨zW, zL2 HB.o GEB.o GEA.o⟩
        ·rw [if_neg c25] at H
         obtain ⟨c25b0, c25b1⟩ := zf c25
         obtain rfl := Option.some.inj H
         have hnb33 := NBB_A.o
         have hnc33 := NBA_B.o
         have hcz34 := zc4 BKB.o
         have hfz34 := zf4 BKB.o
         have hcz35_0 : wc.cell? ⟨gbA, 0, none⟩ = some (.int .i64 ((rd_T46 l1 x9_1).f0)) := (bC BKA.o 0).trans rfl
         have hcz35_1 : wc.cell? ⟨gbA, 1, none⟩ = some (.int .i64 ((rd_T46 l1 x9_1).f1)) := (bC BKA.o 1).trans rfl
         have hcz35_2 : wc.cell? ⟨gbA, 2, none⟩ = some (.int .i64 ((rd_T46 l1 x9_1).f2)) := (bC BKA.o 2).trans rfl
         have hfz35_0 := blk_frozen BKA.o 0
         have hfz35_1 := blk_frozen BKA.o 1
         have hfz35_2 := blk_frozen BKA.o 2
         go_wp2_with (first | ((with_reducible refine gC 88 rfl ?_); refine gL 46 Try.func88 #[.int .i64 a0_0, .int .i64 ((rd_T46 l1 x9_1).f2)] ?_; (with_reducible refine (spec_l8Place.calls a0_0 ((rd_T46 l1 x9_1).f2) tE tJ _ A24.o).mono ?_); rintro e w' ⟨rfl, ⟨nd, rfl⟩⟩; refine ⟨_, rfl, ?_⟩))
         go_ret
         exact ⟨zW, zL2 HB.o GEB.o GEA.o⟩
    ·rw [if_neg c7] at H
     exact absurd H (by simp)
   ·rw [if_neg c6] at H
    have c6b0 := dF c6
    clear c6
    obtain rfl := Option.some.inj H
    go_wp2
    go_ret
    exact ⟨zW, zL1 HB.o GEB.o⟩

end Go.Proofs.Ytggenhomnbnodaa.QFnWheels
