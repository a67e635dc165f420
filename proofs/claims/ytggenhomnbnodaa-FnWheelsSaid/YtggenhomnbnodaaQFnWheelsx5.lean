/- What functions that the law reaches answer, with their walks. Conditions: those that each theorem names. -/
import Derived.Test.YtggenhomnbnodaaQFnWheelsx0
import Derived.Test.YtggenhomnbnodaaQFnWheelsx4
namespace Go.Proofs.Ytggenhomnbnodaa.QFnWheels
open Go.RowKit Go.Proofs.YtggenhomnbnodaaW.PrintWords Go.Proofs.YtggenhomnbnodaaW.PrintLast Go.Proofs.YtggenhomnbnodaaW.PrintMore
attribute [local go_sem] max2_int min2_int max_two min_two max_three min_three max_four min_four
set_option linter.unusedVariables false
set_option linter.unusedSimpArgs false

open Go.Proofs.YtggenhomnbnodaaW.PrintWords renaming blk_drewN → bN, blk_drew → bD, blk_alloc → bA, blk_cell → bC, blk_below → bB, below_set → bS
mutual
def impl_belongs.l0 : Nat → Int → Int → List (S46) → Int → Int → Int → List (List (S46)) → List (List (S46)) → List (S46) → Option (Bool)
 | 0, _, _, _, _, _, _, _, _, _ => none
 | k + 1, x2, x3, x13, x14, x15, xE, xF, xG, xH => if x15 < x14 then (if 0 ≤ x15 then (if x15 < (x13.length : Int) then (if ((rd_T46 x13 x15).f0) < 1 then (impl_belongs.j1 k x2 x3 x13 x14 x15 true xE xF xG xH ((rd_T46 x13 x15).f0) ((rd_T46 x13 x15).f1) ((rd_T46 x13 x15).f2)) else ((impl_within.f ((rd_T46 x13 x15).f1) 1 999).bind fun tJ => (if tJ = true then (if ((rd_T46 x13 x15).f2) ≤ xE then (impl_belongs.j1 k x2 x3 x13 x14 x15 true xE xF xG xH ((rd_T46 x13 x15).f0) ((rd_T46 x13 x15).f1) ((rd_T46 x13 x15).f2)) else (impl_belongs.j1 k x2 x3 x13 x14 x15 (decide (((rd_T46 x13 x15).f2) > 2147483647)) xE xF xG xH ((rd_T46 x13 x15).f0) ((rd_T46 x13 x15).f1) ((rd_T46 x13 x15).f2))) else (impl_belongs.j1 k x2 x3 x13 x14 x15 true xE xF xG xH ((rd_T46 x13 x15).f0) ((rd_T46 x13 x15).f1) ((rd_T46 x13 x15).f2))))) else (none)) else (none)) else (some true)
def impl_belongs.j1 : Nat → Int → Int → List (S46) → Int → Int → Bool → Int → List (List (S46)) → List (List (S46)) → List (S46) → Int → Int → Int → Option (Bool)
 | 0, _, _, _, _, _, _, _, _, _, _, _, _, _ => none
 | k + 1, x2, x3, x13, x14, x15, x39, xE, xF, xG, xH, xM, xN, xI => if x39 = true then (some false) else (if x2 = 0 then (if (wrap64 ((wrap64 (Int.tdiv xI 8)) - (wrap64 (Int.tdiv xE 8)))) = 0 then (if ((Int.tmod xI 8) = x3) then (impl_belongs.l0 k x2 x3 x13 x14 (wrap64 (x15 + 1)) xE xF xG xH) else (some false)) else (some false)) else (if x2 = 1 then ((impl_within.f (wrap64 ((wrap64 (Int.tdiv xI 8)) - (wrap64 (Int.tdiv xE 8)))) 1 7).bind fun tK => (if tK = true then (if ((Int.tmod (wrap64 (Int.tdiv xI 8)) 8) = x3) then (impl_belongs.l0 k x2 x3 x13 x14 (wrap64 (x15 + 1)) xE xF xG xH) else (some false)) else (some false))) else (if ((wrap64 ((wrap64 (Int.tdiv xI 8)) - (wrap64 (Int.tdiv xE 8)))) ≥ 8) then (impl_belongs.l0 k x2 x3 x13 x14 (wrap64 (x15 + 1)) xE xF xG xH) else (some false))))
end
def impl_belongs.f (k : Nat) (a0_0 : Int) (l0_1 : List (List (S46))) (l0_2 : List (List (S46))) (l0_3 : List (S46)) (l1 : List (S46)) (a2 : Int) (a3 : Int) : Option (Bool) := impl_belongs.l0 k a2 a3 l1 (l1.length : Int) 0 a0_0 l0_1 l0_2 l0_3
set_option maxHeartbeats 8000000 in
set_option maxRecDepth 100000 in
theorem impl_belongs.calls (k : Nat) (a0_0 : Int) (A0_1 : Option Addr) (c0_1 : Nat) (l0_1 : List (List (S46))) (A0_2 : Option Addr) (c0_2 : Nat) (l0_2 : List (List (S46))) (A0_3 : Option Addr) (c0_3 : Nat) (l0_3 : List (S46)) (A1 : Option Addr) (c1 : Nat) (l1 : List (S46)) (a2 : Int) (a3 : Int) (r : Bool) (w : World) (hr0_1 : Kd.C (Kd.slice 46 k46) w A0_1 l0_1.length l0_1) (hc0_1 : l0_1.length ≤ c0_1) (hr0_2 : Kd.C (Kd.slice 46 k46) w A0_2 l0_2.length l0_2) (hc0_2 : l0_2.length ≤ c0_2) (hr0_3 : Kd.C k46 w A0_3 l0_3.length l0_3) (hc0_3 : l0_3.length ≤ c0_3) (hr1 : Kd.C k46 w A1 l1.length l1) (hc1 : l1.length ≤ c1) (h : impl_belongs.f k a0_0 l0_1 l0_2 l0_3 l1 a2 a3 = some r) :
  Calls Try.prog 70 #[.agg #[.int .i64 a0_0, .slice A0_1 l0_1.length c0_1, .slice A0_2 l0_2.length c0_2, .slice A0_3 l0_3.length c0_3], .slice A1 l1.length c1, .int .i64 a2, .int .i64 a3] w fun e w' => e = .returned (.bool r) ∧ Below w.heap.size w w' := by
 have hu25 := Try.underlying25
 have hu46 := Try.underlying46
 have HR0_1 := aM hr0_1
 have HC0_1 := aM hc0_1
 clear hr0_1 hc0_1
 have HR0_2 := aM hr0_2
 have HC0_2 := aM hc0_2
 clear hr0_2 hc0_2
 have HR0_3 := aM hr0_3
 have HC0_3 := aM hc0_3
 clear hr0_3 hc0_3
 have HR1 := aM hr1
 have HC1 := aM hc1
 clear hr1 hc1
 have HB := aM (Below.refl w.heap.size w)
 unfold impl_belongs.f at h; have H := h
 clear h
 have H' := aM H
 clear H
 go_enter Try.func70, Try.ntmps70
 go_wp2_with (first | ((with_reducible refine gD 4 rfl ?_); refine bE 4 #[.int .i64 a0_0, .slice A0_1 l0_1.length c0_1, .slice A0_2 l0_2.length c0_2, .slice A0_3 l0_3.length c0_3] 25 ?_; intro gbB hg w5 hbox hb; have BKB := aM hbox; have GWB := aM (zg (zL HB.o) hg : w.heap.size ≤ gbB); have GEB := GWB; replace HB := zLB (zL HB.o) hb; clear hb hbox hg))
 go_loopg [15] k (fun kq v15 w' => ∃ (x15_1 : Int), v15 = .int .i64 x15_1 ∧ Aside0 (impl_belongs.l0 kq a2 a3 l1 (l1.length : Int) x15_1 a0_0 l0_1 l0_2 l0_3 = some r) ∧ Aside0 (kq ≤ k) ∧ Aside0 (w'.heap[gbB]? = some (.cells #[.int .i64 a0_0, (.slice A0_1 l0_1.length c0_1), (.slice A0_2 l0_2.length c0_2), (.slice A0_3 l0_3.length c0_3)] 25 (0, 0))) ∧ Aside0 (Below w.heap.size w w'))
 case atStart => exact ⟨(0), zV, H', ⟨Nat.le_refl _⟩, ⟨zB BKB.o⟩, ⟨zL1 HB.o GEB.o⟩⟩
 case round =>
  clear H'
  try clear c1
  try clear p2
  try clear BKB
  obtain ⟨x15_1, rfl, HA, HK1, BKB, HB⟩ := hrel
  cases gk with
  | zero => exact absurd HA.o (by simp [impl_belongs.l0])
  | succ k1 =>
   have H := HA.o
   clear HA
   simp only [impl_belongs.l0] at H
   by_cases c6 : x15_1 < (l1.length : Int)
   ·rw [if_pos c6] at H
    have c6b0 := dT c6
    clear c6
    by_cases c7 : 0 ≤ x15_1
    ·rw [if_pos c7] at H
     have c7b0 := dT c7
     clear c7
     by_cases c8 : x15_1 < (l1.length : Int)
     ·rw [if_pos c8] at H
      have c8b0 := dT c8
      clear c8
      have HC9 := aM H
      clear H
      have pD : 0 ≤ (x15_1 : Int) := zD
      have qD : x15_1 < (l1.length : Int) := zD
      obtain ⟨adD, eD, hxD_0, hxD_1, hxD_2⟩ := at_T46 HR1.o x15_1 pD qD
      cases eD
      replace hxD_0 := zh HB.o hxD_0
      replace hxD_1 := zh HB.o hxD_1
      replace hxD_2 := zh HB.o hxD_2
      replace pD := eq_true pD
      replace qD := eq_true qD
      go_upto_region 4 with (first | ((with_reducible refine gD 10 rfl ?_); refine bE 10 #[.int .i64 0, .int .i64 0, .int .i64 0] 46 ?_; intro gbA hg w10 hbox hb; have BKA := aM hbox; have GWA := aM (zg (zL1 HB.o GEB.o) hg : w.heap.size ≤ gbA); have GEA := GWA; replace HB := zLB (zL1 HB.o GEB.o) hb; have NBB_A := aM (zN BKB.o hg : gbB ≠ gbA); have NBA_B := aM (zM BKB.o hg : gbA ≠ gbB); replace BKB := zBB BKB hb; clear hb hbox hg; have hnb11 := NBA_B.o; have hnc11 := NBB_A.o; have hcz12_0 : w10.cell? ⟨gbA, 0, none⟩ = some (.int .i64 0) := (bC BKA.o 0).trans rfl; have hcz12_1 : w10.cell? ⟨gbA, 1, none⟩ = some (.int .i64 0) := (bC BKA.o 1).trans rfl; have hcz12_2 : w10.cell? ⟨gbA, 2, none⟩ = some (.int .i64 0) := (bC BKA.o 2).trans rfl; have hfz12_0 := blk_frozen BKA.o 0; have hfz12_1 := blk_frozen BKA.o 1; have hfz12_2 := blk_frozen BKA.o 2))
      (try simp only [Act.put, List.setIfInBounds_toArray, List.set_cons_zero, List.set_cons_succ])
      go_cut [39] (fun v39 wc => ∃ (kq : Nat) (x39_8 : Bool), v39 = .bool x39_8 ∧ Aside0 (impl_belongs.j1 kq a2 a3 l1 (l1.length : Int) x15_1 x39_8 a0_0 l0_1 l0_2 l0_3 ((rd_T46 l1 x15_1).f0) ((rd_T46 l1 x15_1).f1) ((rd_T46 l1 x15_1).f2) = some r) ∧ Aside0 (kq ≤ k1) ∧ Aside0 (wc.heap[gbB]? = some (.cells #[.int .i64 a0_0, (.slice A0_1 l0_1.length c0_1), (.slice A0_2 l0_2.length c0_2), (.slice A0_3 l0_3.length c0_3)] 25 (0, 0))) ∧ Aside0 (wc.heap[gbA]? = some (.cells #[.int .i64 ((rd_T46 l1 x15_1).f0), .int .i64 ((rd_T46 l1 x15_1).f1), .int .i64 ((rd_T46 l1 x15_1).f2)] 46 (0, 0))) ∧ Aside0 (Below w.heap.size w wc))
      case first =>
       have H := HC9.o
       clear HC9
       by_cases c13 : ((rd_T46 l1 x15_1).f0) < 1
       ·rw [if_pos c13] at H
        have c13b0 := dT c13
        clear c13
        (first | rw [c13b0] | (simp only [i64_w, i32_w]; rw [c13b0]) | skip)
        have H' := aM H
        clear H
        have hnb14 := NBA_B.o
        have hnc14 := NBB_A.o
        have hcz15_0 : w10.cell? ⟨gbA, 0, none⟩ = some (.int .i64 0) := (bC BKA.o 0).trans rfl
        have hcz15_1 : w10.cell? ⟨gbA, 1, none⟩ = some (.int .i64 0) := (bC BKA.o 1).trans rfl
        have hcz15_2 : w10.cell? ⟨gbA, 2, none⟩ = some (.int .i64 0) := (bC BKA.o 2).trans rfl
        have hfz15_0 := blk_frozen BKA.o 0
        have hfz15_1 := blk_frozen BKA.o 1
        have hfz15_2 := blk_frozen BKA.o 2
        go_wp2
        go_meet
        case rel => exact ⟨_, (true), zV, H', ⟨by have := HK1.o; first | omega | exact Nat.le_refl _⟩, ⟨by refine zB ?_; refine blk_far ?_ NBB_A.o _; refine zB ?_; refine blk_far ?_ NBB_A.o _; refine zB ?_; refine blk_far ?_ NBB_A.o _; exact zB BKB.o⟩, ⟨by refine zB ?_; refine blk_put (cs := #[.int .i64 ((rd_T46 l1 x15_1).f0), .int .i64 ((rd_T46 l1 x15_1).f1), .int .i64 0]) ?_ 2 _ rfl; refine zB ?_; refine blk_put (cs := #[.int .i64 ((rd_T46 l1 x15_1).f0), .int .i64 0, .int .i64 0]) ?_ 1 _ rfl; refine zB ?_; refine blk_put (cs := #[.int .i64 0, .int .i64 0, .int .i64 0]) ?_ 0 _ rfl; exact zB BKA.o⟩, ⟨zL2 HB.o GEB.o GEA.o⟩⟩
       ·rw [if_neg c13] at H
        have c13b0 := dF c13
        clear c13
        (first | rw [c13b0] | (simp only [i64_w, i32_w]; rw [c13b0]) | skip)
        obtain ⟨tJ, A16, H⟩ := zO H; try dsimp only at H
        by_cases c17 : tJ = true
        ·subst c17
         rw [if_pos rfl] at H
         by_cases c18 : ((rd_T46 l1 x15_1).f2) ≤ a0_0
         ·rw [if_pos c18] at H
          have c18b0 := dT c18
          clear c18
          have H' := aM H
          clear H
          have hnb19 := NBA_B.o
          have hnc19 := NBB_A.o
          have hcz20_0 : w10.cell? ⟨gbA, 0, none⟩ = some (.int .i64 0) := (bC BKA.o 0).trans rfl
          have hcz20_1 : w10.cell? ⟨gbA, 1, none⟩ = some (.int .i64 0) := (bC BKA.o 1).trans rfl
          have hcz20_2 : w10.cell? ⟨gbA, 2, none⟩ = some (.int .i64 0) := (bC BKA.o 2).trans rfl
          have hfz20_0 := blk_frozen BKA.o 0
          have hfz20_1 := blk_frozen BKA.o 1
          have hfz20_2 := blk_frozen BKA.o 2
          go_wp2_with (first | (go_at_call 69; (with_reducible refine (impl_within.calls ((rd_T46 l1 x15_1).f1) 1 999 true _ A16.o).mono ?_); rintro e w' ⟨rfl, ⟨nd, rfl⟩⟩; have hcz21 := zc4 BKB.o; have hfz21 := zf4 BKB.o))
          go_meet
          case rel => exact ⟨_, (true), zV, H', ⟨by have := HK1.o; first | omega | exact Nat.le_refl _⟩, ⟨by refine zB ?_; refine blk_far ?_ NBB_A.o _; refine zB ?_; refine blk_far ?_ NBB_A.o _; refine zB ?_; refine blk_far ?_ NBB_A.o _; exact zB BKB.o⟩, ⟨by refine zB ?_; refine blk_put (cs := #[.int .i64 ((rd_T46 l1 x15_1).f0), .int .i64 ((rd_T46 l1 x15_1).f1), .int .i64 0]) ?_ 2 _ rfl; refine zB ?_; refine blk_put (cs := #[.int .i64 ((rd_T46 l1 x15_1).f0), .int .i64 0, .int .i64 0]) ?_ 1 _ rfl; refine zB ?_; refine blk_put (cs := #[.int .i64 0, .int .i64 0, .int .i64 0]) ?_ 0 _ rfl; exact zB BKA.o⟩, ⟨zL2 HB.o GEB.o GEA.o⟩⟩
         ·rw [if_neg c18] at H
          have c18b0 := dF c18
          clear c18
          have H' := aM H
          clear H
          have hnb22 := NBA_B.o
          have hnc22 := NBB_A.o
          have hcz23_0 : w10.cell? ⟨gbA, 0, none⟩ = some (.int .i64 0) := (bC BKA.o 0).trans rfl
          have hcz23_1 : w10.cell? ⟨gbA, 1, none⟩ = some (.int .i64 0) := (bC BKA.o 1).trans rfl
          have hcz23_2 : w10.cell? ⟨gbA, 2, none⟩ = some (.int .i64 0) := (bC BKA.o 2).trans rfl
          have hfz23_0 := blk_frozen BKA.o 0
          have hfz23_1 := blk_frozen BKA.o 1
          have hfz23_2 := blk_frozen BKA.o 2
          go_wp2_with (first | (go_at_call 69; (with_reducible refine (impl_within.calls ((rd_T46 l1 x15_1).f1) 1 999 true _ A16.o).mono ?_); rintro e w' ⟨rfl, ⟨nd, rfl⟩⟩; have hcz24 := zc4 BKB.o; have hfz24 := zf4 BKB.o))
          go_meet
          case rel => exact ⟨_, (decide (((rd_T46 l1 x15_1).f2) > 2147483647)), zV, H', ⟨by have := HK1.o; first | omega | exact Nat.le_refl _⟩, ⟨by refine zB ?_; refine blk_far ?_ NBB_A.o _; refine zB ?_; refine blk_far ?_ NBB_A.o _; refine zB ?_; refine blk_far ?_ NBB_A.o _; exact zB BKB.o⟩, ⟨by refine zB ?_; refine blk_put (cs := #[.int .i64 ((rd_T46 l1 x15_1).f0), .int .i64 ((rd_T46 l1 x15_1).f1), .int .i64 0]) ?_ 2 _ rfl; refine zB ?_; refine blk_put (cs := #[.int .i64 ((rd_T46 l1 x15_1).f0), .int .i64 0, .int .i64 0]) ?_ 1 _ rfl; refine zB ?_; refine blk_put (cs := #[.int .i64 0, .int .i64 0, .int .i64 0]) ?_ 0 _ rfl; exact zB BKA.o⟩, ⟨zL2 HB.o GEB.o GEA.o⟩⟩
        ·obtain rfl := Bool.eq_false_iff.mpr c17
         rw [if_neg zn] at H
         have H' := aM H
         clear H
         have hnb25 := NBA_B.o
         have hnc25 := NBB_A.o
         have hcz26_0 : w10.cell? ⟨gbA, 0, none⟩ = some (.int .i64 0) := (bC BKA.o 0).trans rfl
         have hcz26_1 : w10.cell? ⟨gbA, 1, none⟩ = some (.int .i64 0) := (bC BKA.o 1).trans rfl
         have hcz26_2 : w10.cell? ⟨gbA, 2, none⟩ = some (.int .i64 0) := (bC BKA.o 2).trans rfl
         have hfz26_0 := blk_frozen BKA.o 0
         have hfz26_1 := blk_frozen BKA.o 1
         have hfz26_2 := blk_frozen BKA.o 2
         go_wp2_with (first | (go_at_call 69; (with_reducible refine (impl_within.calls ((rd_T46 l1 x15_1).f1) 1 999 false _ A16.o).mono ?_); rintro e w' ⟨rfl, ⟨nd, rfl⟩⟩))
         go_meet
         case rel => exact ⟨_, (true), zV, H', ⟨by have := HK1.o; first | omega | exact Nat.le_refl _⟩, ⟨by refine zB ?_; refine blk_far ?_ NBB_A.o _; refine zB ?_; refine blk_far ?_ NBB_A.o _; refine zB ?_; refine blk_far ?_ NBB_A.o _; exact zB BKB.o⟩, ⟨by refine zB ?_; refine blk_put (cs := #[.int .i64 ((rd_T46 l1 x15_1).f0), .int .i64 ((rd_T46 l1 x15_1).f1), .int .i64 0]) ?_ 2 _ rfl; refine zB ?_; refine blk_put (cs := #[.int .i64 ((rd_T46 l1 x15_1).f0), .int .i64 0, .int .i64 0]) ?_ 1 _ rfl; refine zB ?_; refine blk_put (cs := #[.int .i64 0, .int .i64 0, .int .i64 0]) ?_ 0 _ rfl; exact zB BKA.o⟩, ⟨zL2 HB.o GEB.o GEA.o⟩⟩
      case rest =>
       clear HC9
       try clear c1
       try clear p1
       try clear q1
       try clear hx1
       try clear c2
       try clear p2
       try clear c6
       try clear c6b0
       try clear c7
       try clear c7b0
       try clear c8
       try clear c8b0
       try clear c11
       try clear c13
       try clear c13b0
       try clear c14
       try clear p15
       try clear q15
       try clear hx15
       try clear c17
       try clear c18
       try clear c18b0
       try clear c19
       try clear c22
       try clear c25
       try clear hcz12; try clear hcz15; try clear hcz20; try clear hcz21; try clear hcz23; try clear hcz24; try clear hcz26; try clear hfz12; try clear hfz15; try clear hfz20; try clear hfz21; try clear hfz23; try clear hfz24; try clear hfz26
       try clear hxD_0
       try clear hxD_1
       try clear hxD_2
       try clear pD
       try clear p2
       try clear qD
       obtain ⟨kq, x39_8, rfl, HA, HJ8, BKB, BKA, HB⟩ := hcut
       cases kq with
       | zero => exact absurd HA.o (by simp [impl_belongs.j1])
       | succ kj8 =>
        have H := HA.o
        clear HA
        simp only [impl_belongs.j1] at H
        by_cases c27 : x39_8 = true
        ·subst c27
         rw [if_pos rfl] at H
         obtain rfl := Option.some.inj H
         go_wp2
         go_ret
         exact ⟨zW, zL2 HB.o GEB.o GEA.o⟩
        ·obtain rfl := Bool.eq_false_iff.mpr c27
         rw [if_neg zn] at H
         by_cases c28 : a2 = 0
         ·rw [if_pos c28] at H
          obtain ⟨c28b0, c28b1⟩ := zt c28
          clear c28
          by_cases c29 : (wrap64 ((wrap64 (Int.tdiv ((rd_T46 l1 x15_1).f2) 8)) - (wrap64 (Int.tdiv a0_0 8)))) = 0
          ·rw [if_pos c29] at H
           obtain ⟨c29b0, c29b1⟩ := zt c29
           clear c29
           by_cases c30 : ((Int.tmod ((rd_T46 l1 x15_1).f2) 8) = a3)
           ·rw [if_pos c30] at H
            obtain ⟨c30b0, c30b1⟩ := zt c30
            clear c30
            have H' := aM H
            clear H
            have hnb31 := NBA_B.o
            have hnc31 := NBB_A.o
            have hcz32_0 : wc.cell? ⟨gbA, 0, none⟩ = some (.int .i64 ((rd_T46 l1 x15_1).f0)) := (bC BKA.o 0).trans rfl
            have hcz32_1 : wc.cell? ⟨gbA, 1, none⟩ = some (.int .i64 ((rd_T46 l1 x15_1).f1)) := (bC BKA.o 1).trans rfl
            have hcz32_2 : wc.cell? ⟨gbA, 2, none⟩ = some (.int .i64 ((rd_T46 l1 x15_1).f2)) := (bC BKA.o 2).trans rfl
            have hfz32_0 := blk_frozen BKA.o 0
            have hfz32_1 := blk_frozen BKA.o 1
            have hfz32_2 := blk_frozen BKA.o 2
            have hcz33 := zc4 BKB.o
            have hfz33 := zf4 BKB.o
            go_wp2
            go_roundg kj8
            case measure => have := HK1.o; have := HJ8.o; omega
            case rel => exact ⟨(wrap64 (x15_1 + 1)), zV, H', ⟨by have := HK1.o; have := HJ8.o; omega⟩, ⟨zB BKB.o⟩, ⟨zL2 HB.o GEB.o GEA.o⟩⟩
           ·rw [if_neg c30] at H
            obtain ⟨c30b0, c30b1⟩ := zf c30
            obtain rfl := Option.some.inj H
            have hnb34 := NBA_B.o
            have hnc34 := NBB_A.o
            have hcz35_0 : wc.cell? ⟨gbA, 0, none⟩ = some (.int .i64 ((rd_T46 l1 x15_1).f0)) := (bC BKA.o 0).trans rfl
            have hcz35_1 : wc.cell? ⟨gbA, 1, none⟩ = some (.int .i64 ((rd_T46 l1 x15_1).f1)) := (bC BKA.o 1).trans rfl
            have hcz35_2 : wc.cell? ⟨gbA, 2, none⟩ = some (.int .i64 ((rd_T46 l1 x15_1).f2)) := (bC BKA.o 2).trans rfl
            have hfz35_0 := blk_frozen BKA.o 0
            have hfz35_1 := blk_frozen BKA.o 1
            have hfz35_2 := blk_frozen BKA.o 2
            have hcz36 := zc4 BKB.o
            have hfz36 := zf4 BKB.o
            go_wp2
            go_ret
            exact ⟨zW, zL2 HB.o GEB.o GEA.o⟩
          ·rw [if_neg c29] at H
           obtain ⟨c29b0, c29b1⟩ := zf c29
           obtain rfl := Option.some.inj H
           have hnb37 := NBA_B.o
           have hnc37 := NBB_A.o
           have hcz38_0 : wc.cell? ⟨gbA, 0, none⟩ = some (.int .i64 ((rd_T46 l1 x15_1).f0)) := (bC BKA.o 0).trans rfl
           have hcz38_1 : wc.cell? ⟨gbA, 1, none⟩ = some (.int .i64 ((rd_T46 l1 x15_1).f1)) := (bC BKA.o 1).trans rfl
           have hcz38_2 : wc.cell? ⟨gbA, 2, none⟩ = some (.int .i64 ((rd_T46 l1 x15_1).f2)) := (bC BKA.o 2).trans rfl
           have hfz38_0 := blk_frozen BKA.o 0
           have hfz38_1 := blk_frozen BKA.o 1
           have hfz38_2 := blk_frozen BKA.o 2
           have hcz39 := zc4 BKB.o
           have hfz39 := zf4 BKB.o
           go_wp2
           go_ret
           exact ⟨zW, zL2 HB.o GEB.o GEA.o⟩
         ·rw [if_neg c28] at H
          obtain ⟨c28b0, c28b1⟩ := zf c28
          by_cases c40 : a2 = 1
          ·rw [if_pos c40] at H
           obtain ⟨c40b0, c40b1⟩ := zt c40
           clear c40
           obtain ⟨tK, A41, H⟩ := zO H; try dsimp only at H
           by_cases c42 : tK = true
           ·subst c42
            rw [if_pos rfl] at H
            by_cases c43 : ((Int.tmod (wrap64 (Int.tdiv ((rd_T46 l1 x15_1).f2) 8)) 8) = a3)
            ·rw [if_pos c43] at H
             obtain ⟨c43b0, c43b1⟩ := zt c43
             clear c43
             have H' := aM H
             clear H
             have hnb44 := NBA_B.o
             have hnc44 := NBB_A.o
             have hcz45_0 : wc.cell? ⟨gbA, 0, none⟩ = some (.int .i64 ((rd_T46 l1 x15_1).f0)) := (bC BKA.o 0).trans rfl
             have hcz45_1 : wc.cell? ⟨gbA, 1, none⟩ = some (.int .i64 ((rd_T46 l1 x15_1).f1)) := (bC BKA.o 1).trans rfl
             have hcz45_2 : wc.cell? ⟨gbA, 2, none⟩ = some (.int .i64 ((rd_T46 l1 x15_1).f2)) := (bC BKA.o 2).trans rfl
             have hfz45_0 := blk_frozen BKA.o 0
             have hfz45_1 := blk_frozen BKA.o 1
             have hfz45_2 := blk_frozen BKA.o 2
             have hcz46 := zc4 BKB.o
             have hfz46 := zf4 BKB.o
             go_wp2_with (first | ((with_reducible refine gC 69 rfl ?_); refine gL 64 Try.func69 #[.int .i64 (wrap64 ((wrap64 (Int.tdiv ((rd_T46 l1 x15_1).f2) 8)) - (wrap64 (Int.tdiv a0_0 8)))), .int .i64 1, .int .i64 7] ?_; (with_reducible refine (impl_within.calls (wrap64 ((wrap64 (Int.tdiv ((rd_T46 l1 x15_1).f2) 8)) - (wrap64 (Int.tdiv a0_0 8)))) 1 7 true _ A41.o).mono ?_); rintro e w' ⟨rfl, ⟨nd, rfl⟩⟩; refine ⟨_, rfl, ?_⟩))
             go_roundg kj8
             case measure => have := HK1.o; have := HJ8.o; omega
             case rel => exact ⟨(wrap64 (x15_1 + 1)), zV, H', ⟨by have := HK1.o; have := HJ8.o; omega⟩, ⟨zB BKB.o⟩, ⟨zL2 HB.o GEB.o GEA.o⟩⟩
            ·rw [if_neg c43] at H
             obtain ⟨c43b0, c43b1⟩ := zf c43
             obtain rfl := Option.some.inj H
             have hnb47 := NBA_B.o
             have hnc47 := NBB_A.o
             have hcz48_0 : wc.cell? ⟨gbA, 0, none⟩ = some (.int .i64 ((rd_T46 l1 x15_1).f0)) := (bC BKA.o 0).trans rfl
             have hcz48_1 : wc.cell? ⟨gbA, 1, none⟩ = some (.int .i64 ((rd_T46 l1 x15_1).f1)) := (bC BKA.o 1).trans rfl
             have hcz48_2 : wc.cell? ⟨gbA, 2, none⟩ = some (.int .i64 ((rd_T46 l1 x15_1).f2)) := (bC BKA.o 2).trans rfl
             have hfz48_0 := blk_frozen BKA.o 0
             have hfz48_1 := blk_frozen BKA.o 1
             have hfz48_2 := blk_frozen BKA.o 2
             have hcz49 := zc4 BKB.o
             have hfz49 := zf4 BKB.o
             go_wp2_with (first | ((with_reducible refine gC 69 rfl ?_); refine gL 64 Try.func69 #[.int .i64 (wrap64 ((wrap64 (Int.tdiv ((rd_T46 l1 x15_1).f2) 8)) - (wrap64 (Int.tdiv a0_0 8)))), .int .i64 1, .int .i64 7] ?_; (with_reducible refine (impl_within.calls (wrap64 ((wrap64 (Int.tdiv ((rd_T46 l1 x15_1).f2) 8)) - (wrap64 (Int.tdiv a0_0 8)))) 1 7 true _ A41.o).mono ?_); rintro e w' ⟨rfl, ⟨nd, rfl⟩⟩; refine ⟨_, rfl, ?_⟩))
             go_ret
             exact ⟨zW, zL2 HB.o GEB.o GEA.o⟩
           ·obtain rfl := Bool.eq_false_iff.mpr c42
            rw [if_neg zn] at H
            obtain rfl := Option.some.inj H
            have hnb50 := NBA_B.o
            have hnc50 := NBB_A.o
            have hcz51_0 : wc.cell? ⟨gbA, 0, none⟩ = some (.int .i64 ((rd_T46 l1 x15_1).f0)) := (bC BKA.o 0).trans rfl
            have hcz51_1 : wc.cell? ⟨gbA, 1, none⟩ = some (.int .i64 ((rd_T46 l1 x15_1).f1)) := (bC BKA.o 1).trans rfl
            have hcz51_2 : wc.cell? ⟨gbA, 2, none⟩ = some (.int .i64 ((rd_T46 l1 x15_1).f2)) := (bC BKA.o 2).trans rfl
            have hfz51_0 := blk_frozen BKA.o 0
            have hfz51_1 := blk_frozen BKA.o 1
            have hfz51_2 := blk_frozen BKA.o 2
            have hcz52 := zc4 BKB.o
            have hfz52 := zf4 BKB.o
            go_wp2_with (first | ((with_reducible refine gC 69 rfl ?_); refine gL 64 Try.func69 #[.int .i64 (wrap64 ((wrap64 (Int.tdiv ((rd_T46 l1 x15_1).f2) 8)) - (wrap64 (Int.tdiv a0_0 8)))), .int .i64 1, .int .i64 7] ?_; (with_reducible refine (impl_within.calls (wrap64 ((wrap64 (Int.tdiv ((rd_T46 l1 x15_1).f2) 8)) - (wrap64 (Int.tdiv a0_0 8)))) 1 7 false _ A41.o).mono ?_); rintro e w' ⟨rfl, ⟨nd, rfl⟩⟩; refine ⟨_, rfl, ?_⟩))
            go_ret
            exact ⟨zW, zL2 HB.o GEB.o GEA.o⟩
          ·rw [if_neg c40] at H
           obtain ⟨c40b0, c40b1⟩ := zf c40
           by_cases c53 : ((wrap64 ((wrap64 (Int.tdiv ((rd_T46 l1 x15_1).f2) 8)) - (wrap64 (Int.tdiv a0_0 8)))) ≥ 8)
           ·rw [if_pos c53] at H
            have c53b0 := dT c53
            clear c53
            have H' := aM H
            clear H
            have hnb54 := NBA_B.o
            have hnc54 := NBB_A.o
            have hcz55_0 : wc.cell? ⟨gbA, 0, none⟩ = some (.int .i64 ((rd_T46 l1 x15_1).f0)) := (bC BKA.o 0).trans rfl
            have hcz55_1 : wc.cell? ⟨gbA, 1, none⟩ = some (.int .i64 ((rd_T46 l1 x15_1).f1)) := (bC BKA.o 1).trans rfl
            have hcz55_2 : wc.cell? ⟨gbA, 2, none⟩ = some (.int .i64 ((rd_T46 l1 x15_1).f2)) := (bC BKA.o 2).trans rfl
            have hfz55_0 := blk_frozen BKA.o 0
            have hfz55_1 := blk_frozen BKA.o 1
            have hfz55_2 := blk_frozen BKA.o 2
            have hcz56 := zc4 BKB.o
            have hfz56 := zf4 BKB.o
            go_wp2
            go_roundg kj8
            case measure => have := HK1.o; have := HJ8.o; omega
            case rel => exact ⟨(wrap64 (x15_1 + 1)), zV, H', ⟨by have := HK1.o; have := HJ8.o; omega⟩, ⟨zB BKB.o⟩, ⟨zL2 HB.o GEB.o GEA.o⟩⟩
           ·rw [if_neg c53] at H
            have c53b0 := dF c53
            clear c53
            obtain rfl := Option.some.inj H
            have hnb57 := NBA_B.o
            have hnc57 := NBB_A.o
            have hcz58_0 : wc.cell? ⟨gbA, 0, none⟩ = some (.int .i64 ((rd_T46 l1 x15_1).f0)) := (bC BKA.o 0).trans rfl
            have hcz58_1 : wc.cell? ⟨gbA, 1, none⟩ = some (.int .i64 ((rd_T46 l1 x15_1).f1)) := (bC BKA.o 1).trans rfl
            have hcz58_2 : wc.cell? ⟨gbA, 2, none⟩ = some (.int .i64 ((rd_T46 l1 x15_1).f2)) := (bC BKA.o 2).trans rfl
            have hfz58_0 := blk_frozen BKA.o 0
            have hfz58_1 := blk_frozen BKA.o 1
            have hfz58_2 := blk_frozen BKA.o 2
            have hcz59 := zc4 BKB.o
            have hfz59 := zf4 BKB.o
            go_wp2
            go_ret
            exact ⟨zW, zL2 HB.o GEB.o GEA.o⟩
     ·rw [if_neg c8] at H
      exact absurd H (by simp)
    ·rw [if_neg c7] at H
     exact absurd H (by simp)
   ·rw [if_neg c6] at H
    have c6b0 := dF c6
    clear c6
    obtain rfl := Option.some.inj H
    go_wp2
    go_ret
    exact ⟨zW, zL1 HB.o GEB.o⟩

section
variable {P : Program} {ops : Array Oper} {rest : List Oper} {Q : Exit → Act → World → Prop} {W : World} {a : Act}
theorem gate_calleeC {o : Oper} {t : Tmp} {us : Array Operand} {ts : Array TypeId} (_ho : o.op = .call { callee := .value (.tmp t), args := us, argTypes := ts }) (h : wpList P ops Q (o :: rest) a W) : wpList P ops Q (o :: rest) a W := h
theorem goesC_ {oi : Oper} {w : World} {t : Tmp} {f : FuncId} {cap : Array Value} (hv : a.eval (.tmp t) = .func (.func f) #[] cap) (N : Option Tmp) (hd : oi.dst = N) (hg : oi.guard = none) {fn : Func} {us : Array Operand} {ts : Array TypeId} (hf : P.funcs[f]? = some fn) (hname : (fn.name == "runtime.NumGoroutine") = false) (hb : fn.body.isSome = true) (args : Array Value)
  (hop : oi.op = .call { callee := .value (.tmp t), args := us, argTypes := ts }) (hargs : us.map a.eval = args)
  (h : Calls P f (args ++ cap) w fun e w' => ∃ v, e = .returned v ∧ wpList P ops Q rest (a.put N v) w') : wpList P ops Q (oi :: rest) a w := by
 refine wpList_plain hg fun K hK => ?_
 have he := enters_ hf hname hb (args ++ cap) w
 have hrun : (execOp a.eval oi).run P w = .ok (.enter f (args ++ cap)) w := by
  unfold execOp
  simp [hop, resolve, Deferred.ofValue, invoke, hv, hargs, he]
 unfold Oper.wp
 rw [hrun, Oper.upon_enter]
 refine h.mono fun e w'' hh => ?_
 obtain ⟨v, rfl, hk⟩ := hh
 subst hd
 exact hK _ _ hk
end
open Go.Proofs.YtggenhomnbnodaaW.PrintWords renaming blk_drewN → bN, blk_drew → bD, blk_alloc → bA, blk_cell → bC, blk_below → bB, below_set → bS
def impl_Timer_89.l0 (F_ : Int → Int → Int → Option (Bool)) : Nat → List (S46) → Int → Int → Option (Int)
 | 0, _, _, _ => none
 | k + 1, x0, x7, x8 => if x8 < x7 then (if 0 ≤ x8 then (if x8 < (x0.length : Int) then ((F_ ((rd_T46 x0 x8).f0) ((rd_T46 x0 x8).f1) ((rd_T46 x0 x8).f2)).bind fun tL => (if tL = true then (some x8) else (impl_Timer_89.l0 F_ k x0 x7 (wrap64 (x8 + 1))))) else (none)) else (none)) else (some (-1))
def impl_Timer_89.f (F_ : Int → Int → Int → Option (Bool)) (k : Nat) (l0 : List (S46)) : Option (Int) := impl_Timer_89.l0 F_ k l0 (l0.length : Int) 0
set_option maxHeartbeats 8000000 in
set_option maxRecDepth 100000 in
theorem impl_Timer_89.calls {F_ : Int → Int → Int → Option (Bool)} {v_ : Value} (k : Nat) (A0 : Option Addr) (c0 : Nat) (l0 : List (S46)) (r : Int) (w : World) (hF_ : ∀ (x_ y_ z_ : Int) (q_ : Bool) (W_ : World), Below w.heap.size w W_ → F_ x_ y_ z_ = some q_ → Calls Try.prog 90 (#[.agg #[.int .i64 x_, .int .i64 y_, .int .i64 z_]] ++ #[v_]) W_ fun e w' => e = .returned (.bool q_) ∧ Below W_.heap.size W_ w') (hr0 : Kd.C k46 w A0 l0.length l0) (hc0 : l0.length ≤ c0) (h : impl_Timer_89.f F_ k l0 = some r) :
  Calls Try.prog 89 #[.slice A0 l0.length c0, .func (.func 90) #[] #[v_]] w fun e w' => e = .returned (.int .i64 r) ∧ Below w.heap.size w w' := by
 have hu46 := Try.underlying46
 have HR0 := aM hr0
 have HC0 := aM hc0
 clear hr0 hc0
 have HB := aM (Below.refl w.heap.size w)
 unfold impl_Timer_89.f at h; have H := h
 clear h
 have H' := aM H
 clear H
 go_enter Try.func89, Try.ntmps89
 go_wp2
 go_loopg [8] k (fun kq v8 w' => ∃ (x8_1 : Int), v8 = .int .i64 x8_1 ∧ Aside0 (impl_Timer_89.l0 F_ kq l0 (l0.length : Int) x8_1 = some r) ∧ Aside0 (kq ≤ k) ∧ Aside0 (Below w.heap.size w w'))
 case atStart => exact ⟨(0), zV, H', ⟨Nat.le_refl _⟩, ⟨zL HB.o⟩⟩
 case round =>
  clear H'
  obtain ⟨x8_1, rfl, HA, HK1, HB⟩ := hrel
  cases gk with
  | zero => exact absurd HA.o (by simp [impl_Timer_89.l0])
  | succ k1 =>
   have H := HA.o
   clear HA
   simp only [impl_Timer_89.l0] at H
   by_cases c2 : x8_1 < (l0.length : Int)
   ·rw [if_pos c2] at H
    have c2b0 := dT c2
    clear c2
    by_cases c3 : 0 ≤ x8_1
    ·rw [if_pos c3] at H
     have c3b0 := dT c3
     clear c3
     by_cases c4 : x8_1 < (l0.length : Int)
     ·rw [if_pos c4] at H
      have c4b0 := dT c4
      clear c4
      obtain ⟨tL, A5, H⟩ := zO H; try dsimp only at H
      by_cases c6 : tL = true
      ·subst c6
       rw [if_pos rfl] at H
       obtain rfl := Option.some.inj H
       have pC : 0 ≤ (x8_1 : Int) := zD
       have qC : x8_1 < (l0.length : Int) := zD
       obtain ⟨adC, eC, hxC_0, hxC_1, hxC_2⟩ := at_T46 HR0.o x8_1 pC qC
       cases eC
       replace hxC_0 := zh HB.o hxC_0
       replace hxC_1 := zh HB.o hxC_1
       replace hxC_2 := zh HB.o hxC_2
       replace pC := eq_true pC
       replace qC := eq_true qC
       go_wp2_with (first | ((with_reducible refine gate_calleeC (t := 11) rfl ?_); refine goesC_ (t := 11) (f := 90) (cap := #[v_]) (by rfl) (some 16) rfl rfl Try.func90 (by kernel_rfl) rfl #[.agg #[.int .i64 ((rd_T46 l0 x8_1).f0), .int .i64 ((rd_T46 l0 x8_1).f1), .int .i64 ((rd_T46 l0 x8_1).f2)]] rfl zE ?_; (with_reducible refine (hF_ ((rd_T46 l0 x8_1).f0) ((rd_T46 l0 x8_1).f1) ((rd_T46 l0 x8_1).f2) true _ HB.o A5.o).mono ?_); rintro e w7 ⟨rfl, hb⟩; refine ⟨_, rfl, ?_⟩; replace HB := zLB (zL HB.o) hb; clear hb))
       go_ret
       exact ⟨zW, zL HB.o⟩
      ·obtain rfl := Bool.eq_false_iff.mpr c6
       rw [if_neg zn] at H
       have H' := aM H
       clear H
       have pC : 0 ≤ (x8_1 : Int) := zD
       have qC : x8_1 < (l0.length : Int) := zD
       obtain ⟨adC, eC, hxC_0, hxC_1, hxC_2⟩ := at_T46 HR0.o x8_1 pC qC
       cases eC
       replace hxC_0 := zh HB.o hxC_0
       replace hxC_1 := zh HB.o hxC_1
       replace hxC_2 := zh HB.o hxC_2
       replace pC := eq_true pC
       replace qC := eq_true qC
       go_wp2_with (first | ((with_reducible refine gate_calleeC (t := 11) rfl ?_); refine goesC_ (t := 11) (f := 90) (cap := #[v_]) (by rfl) (some 16) rfl rfl Try.func90 (by kernel_rfl) rfl #[.agg #[.int .i64 ((rd_T46 l0 x8_1).f0), .int .i64 ((rd_T46 l0 x8_1).f1), .int .i64 ((rd_T46 l0 x8_1).f2)]] rfl zE ?_; (with_reducible refine (hF_ ((rd_T46 l0 x8_1).f0) ((rd_T46 l0 x8_1).f1) ((rd_T46 l0 x8_1).f2) false _ HB.o A5.o).mono ?_); rintro e w8 ⟨rfl, hb⟩; refine ⟨_, rfl, ?_⟩; replace HB := zLB (zL HB.o) hb; clear hb))
       go_roundg k1
       case measure => have := HK1.o; omega
       case rel => exact ⟨(wrap64 (x8_1 + 1)), zV, H', ⟨by have := HK1.o; omega⟩, ⟨zL HB.o⟩⟩
     ·rw [if_neg c4] at H
      exact absurd H (by simp)
    ·rw [if_neg c3] at H
     exact absurd H (by simp)
   ·rw [if_neg c2] at H
    have c2b0 := dF c2
    clear c2
    obtain rfl := Option.some.inj H
    go_wp2
    go_ret
    exact ⟨zW, zL HB.o⟩

set_option maxHeartbeats 8000000 in
set_option maxRecDepth 100000 in
theorem impl_timerAt.closure (x y z id : Int) (g : Nat) (w : World) (hg0 : w.cell? ⟨g, 0, none⟩ = some (.int .i64 id)) :
  Calls Try.prog 90 (#[.agg #[.int .i64 x, .int .i64 y, .int .i64 z]] ++ #[.pointer (some ⟨g, 0, none⟩)]) w fun e w' => e = .returned (.bool (x == id)) ∧ Below w.heap.size w w' := by
 show Calls Try.prog 90 #[.agg #[.int .i64 x, .int .i64 y, .int .i64 z], .pointer (some ⟨g, 0, none⟩)] w _
 have hu := Try.underlying46
 have HB := aM (Below.refl w.heap.size w)
 go_enter Try.func90, Try.ntmps90
 go_wp2_with (first | ((with_reducible refine gate_dst (N := 2) rfl ?_); refine box_event ?hg (N := 2) ?hd (cs := #[.int .i64 x, .int .i64 y, .int .i64 z]) (t := 46) ?hr ?_; (case hd => rfl); (case hg => rfl); (case hr => first | (go_simp; done) | (go_simp; rfl)); intro gb hg w7 hbox hb; have n0_ := aM (below_step HB.o hb); have n1_ := aM hbox; clear HB; have HB := n0_; have BK := n1_; clear n0_ n1_; clear hb hbox hg; have hx0 : w7.cell? ⟨g, 0, none⟩ = some (.int .i64 id) := (HB.o.cell (World.block_lt_of_cell? w _ hg0)).trans hg0; have hcz_0 : w7.cell? ⟨gb, 0, none⟩ = some (.int .i64 x) := (blk_cell BK.o 0).trans rfl; have hfz_0 := blk_frozen BK.o 0))
 go_ret
 exact ⟨rfl, by repeat (first | (with_reducible first | exact HB.o | apply below_alloc | apply pw_below_drewN | apply below_drew1) | exact HB.o)⟩
def impl_timerAt.f (k : Nat) (l0 : List S46) (a1 : Int) : Option Int := impl_Timer_89.f (fun x _ _ => some (x == a1)) k l0
set_option maxHeartbeats 8000000 in
set_option maxRecDepth 100000 in
theorem impl_timerAt.calls (k : Nat) (A0 : Option Addr) (c0 : Nat) (l0 : List S46) (a1 : Int) (r : Int) (w : World) (hr0 : Kd.C k46 w A0 l0.length l0) (hc0 : l0.length ≤ c0) (h : impl_timerAt.f k l0 a1 = some r) :
  Calls Try.prog 71 #[.slice A0 l0.length c0, .int .i64 a1] w fun e w' => e = .returned (.int .i64 r) ∧ Below w.heap.size w w' := by
 have HR0 := aM hr0
 have HC0 := aM hc0
 have A1 := aM h
 clear hr0 hc0 h
 have HB := aM (Below.refl w.heap.size w)
 have hmf : ∀ (fn : Fn) (first cap : Array Value) (w : World), (Instr.makeFunc fn first cap).run Try.prog w = .ok (.func fn first cap) w := fun _ _ _ _ => rfl
 go_enter Try.func71, Try.ntmps71
 go_wp2_with (first | ((with_reducible refine gate_dst (N := 3) rfl ?_); refine box_event ?hg (N := 3) ?hd (cs := #[.int .i64 a1]) (t := 3) ?hr ?_; (case hd => rfl); (case hg => rfl); (case hr => first | (go_simp; done) | (go_simp; rfl)); intro gb hg w7 hbox hb; have n0_ := aM (below_step HB.o hb); have n1_ := aM hbox; clear HB; have HB := n0_; have BK := n1_; clear n0_ n1_; clear hb hbox hg) | (go_at_call 89; (refine (impl_Timer_89.calls k A0 c0 l0 r w7 ?side0 (Kd.C_below HR0.o HB.o) HC0.o A1.o).mono ?_); (case side0 => intro x y z q W hb hq; have hq' := Option.some.inj hq; subst hq'; have hc0_ : w7.cell? ⟨gb, 0, none⟩ = some (.int .i64 a1) := (blk_cell BK.o 0).trans rfl; exact impl_timerAt.closure x y z a1 gb W ((hb.cell (World.block_lt_of_cell? w7 _ hc0_)).trans hc0_)); rintro e w11 ⟨rfl, hb⟩; have n0_ := aM (below_step HB.o hb); clear HB; have HB := n0_; clear n0_))
 go_ret
 exact ⟨rfl, by repeat (first | (with_reducible first | exact HB.o | apply below_alloc | apply pw_below_drewN | apply below_drew1) | exact HB.o)⟩

end Go.Proofs.Ytggenhomnbnodaa.QFnWheels
