/- What the Go functions that the law FnTimes reaches answer: each as a Lean function, with its walk. Written by a program of this session. Conditions: those that each theorem names. -/
import Derived.Test.YtggenhomnbnodaaQFnTimesx0
import Derived.Test.YtggenhomnbnodaaQFnTimesx10
namespace Go.Proofs.Ytggenhomnbnodaa.QFnTimes
open Go.RowKit Go.Proofs.YtggenhomnbnodaaW.PrintWords Go.Proofs.YtggenhomnbnodaaW.PrintLast Go.Proofs.YtggenhomnbnodaaW.PrintMore
attribute [local go_sem] max2_int min2_int max_two min_two max_three min_three max_four min_four   -- for this text's walks alone
set_option linter.unusedVariables false
set_option linter.unusedSimpArgs false

open Go.Proofs.YtggenhomnbnodaaW.PrintWords renaming blk_drewN → bN, blk_drew → bD, blk_alloc → bA, blk_cell → bC, blk_below → bB, below_set → bS
mutual
def laws_sameWheel.j0 : Nat → Bool → Int → List (List (S46)) → List (List (S46)) → List (S46) → Int → List (List (S46)) → List (List (S46)) → List (S46) → Option (Bool)
 | 0, _, _, _, _, _, _, _, _, _ => none
 | k + 1, x37, x200000, x200001, x200002, x200003, x201000, x201001, x201002, x201003 => if x37 = true then (some false) else (laws_sameWheel.l0 k 0 x200000 x200001 x200002 x200003 x201000 x201001 x201002 x201003)
def laws_sameWheel.l0 : Nat → Int → Int → List (List (S46)) → List (List (S46)) → List (S46) → Int → List (List (S46)) → List (List (S46)) → List (S46) → Option (Bool)
 | 0, _, _, _, _, _, _, _, _, _ => none
 | k + 1, x5, x200000, x200001, x200002, x200003, x201000, x201001, x201002, x201003 => if x5 < (x200001.length : Int) then (if 0 ≤ x5 then (if x5 < (x201001.length : Int) then ((laws_sameTimers.f k (rd_L2 x200001 x5) (rd_L2 x201001 x5)).bind fun t204 => (if t204 = true then (laws_sameWheel.l0 k (wrap64 (x5 + 1)) x200000 x200001 x200002 x200003 x201000 x201001 x201002 x201003) else (some false))) else (none)) else (none)) else (laws_sameWheel.l1 k 0 x200000 x200001 x200002 x200003 x201000 x201001 x201002 x201003)
def laws_sameWheel.l1 : Nat → Int → Int → List (List (S46)) → List (List (S46)) → List (S46) → Int → List (List (S46)) → List (List (S46)) → List (S46) → Option (Bool)
 | 0, _, _, _, _, _, _, _, _, _ => none
 | k + 1, x6, x200000, x200001, x200002, x200003, x201000, x201001, x201002, x201003 => if x6 < (x200002.length : Int) then (if 0 ≤ x6 then (if x6 < (x201002.length : Int) then ((laws_sameTimers.f k (rd_L2 x200002 x6) (rd_L2 x201002 x6)).bind fun t207 => (if t207 = true then (laws_sameWheel.l1 k (wrap64 (x6 + 1)) x200000 x200001 x200002 x200003 x201000 x201001 x201002 x201003) else (some false))) else (none)) else (none)) else (some true)
end
def laws_sameWheel.f (k : Nat) (a0_0 : Int) (l0_1 : List (List (S46))) (l0_2 : List (List (S46))) (l0_3 : List (S46)) (a1_0 : Int) (l1_1 : List (List (S46))) (l1_2 : List (List (S46))) (l1_3 : List (S46)) : Option (Bool) := if a0_0 = a1_0 then (if (l0_1.length : Int) = (l1_1.length : Int) then (if (l0_2.length : Int) = (l1_2.length : Int) then ((laws_sameTimers.f k l0_3 l1_3).bind fun t201 => (laws_sameWheel.j0 k (!t201) a0_0 l0_1 l0_2 l0_3 a1_0 l1_1 l1_2 l1_3)) else (laws_sameWheel.j0 k true a0_0 l0_1 l0_2 l0_3 a1_0 l1_1 l1_2 l1_3)) else (laws_sameWheel.j0 k true a0_0 l0_1 l0_2 l0_3 a1_0 l1_1 l1_2 l1_3)) else (laws_sameWheel.j0 k true a0_0 l0_1 l0_2 l0_3 a1_0 l1_1 l1_2 l1_3)
set_option maxHeartbeats 8000000 in
set_option maxRecDepth 100000 in
theorem laws_sameWheel.calls (k : Nat) (a0_0 : Int) (A0_1 : Option Addr) (c0_1 : Nat) (l0_1 : List (List (S46))) (A0_2 : Option Addr) (c0_2 : Nat) (l0_2 : List (List (S46))) (A0_3 : Option Addr) (c0_3 : Nat) (l0_3 : List (S46)) (a1_0 : Int) (A1_1 : Option Addr) (c1_1 : Nat) (l1_1 : List (List (S46))) (A1_2 : Option Addr) (c1_2 : Nat) (l1_2 : List (List (S46))) (A1_3 : Option Addr) (c1_3 : Nat) (l1_3 : List (S46)) (r : Bool) (w : World) (hr0_1 : Kd.C (Kd.slice 46 k46) w A0_1 l0_1.length l0_1) (hc0_1 : l0_1.length ≤ c0_1) (hr0_2 : Kd.C (Kd.slice 46 k46) w A0_2 l0_2.length l0_2) (hc0_2 : l0_2.length ≤ c0_2) (hr0_3 : Kd.C k46 w A0_3 l0_3.length l0_3) (hc0_3 : l0_3.length ≤ c0_3) (hr1_1 : Kd.C (Kd.slice 46 k46) w A1_1 l1_1.length l1_1) (hc1_1 : l1_1.length ≤ c1_1) (hr1_2 : Kd.C (Kd.slice 46 k46) w A1_2 l1_2.length l1_2) (hc1_2 : l1_2.length ≤ c1_2) (hr1_3 : Kd.C k46 w A1_3 l1_3.length l1_3) (hc1_3 : l1_3.length ≤ c1_3) (h : laws_sameWheel.f k a0_0 l0_1 l0_2 l0_3 a1_0 l1_1 l1_2 l1_3 = some r) :
  Calls Try.prog 50 #[.agg #[.int .i64 a0_0, .slice A0_1 l0_1.length c0_1, .slice A0_2 l0_2.length c0_2, .slice A0_3 l0_3.length c0_3], .agg #[.int .i64 a1_0, .slice A1_1 l1_1.length c1_1, .slice A1_2 l1_2.length c1_2, .slice A1_3 l1_3.length c1_3]] w fun e w' => e = .returned (.bool r) ∧ Below w.heap.size w w' := by
 have hu25 := Try.underlying25
 have HR0_1 := aM hr0_1
 have HC0_1 := aM hc0_1
 clear hr0_1 hc0_1
 have HR0_2 := aM hr0_2
 have HC0_2 := aM hc0_2
 clear hr0_2 hc0_2
 have HR0_3 := aM hr0_3
 have HC0_3 := aM hc0_3
 clear hr0_3 hc0_3
 have HR1_1 := aM hr1_1
 have HC1_1 := aM hc1_1
 clear hr1_1 hc1_1
 have HR1_2 := aM hr1_2
 have HC1_2 := aM hc1_2
 clear hr1_2 hc1_2
 have HR1_3 := aM hr1_3
 have HC1_3 := aM hc1_3
 clear hr1_3 hc1_3
 have HB := aM (Below.refl w.heap.size w)
 unfold laws_sameWheel.f at h; have H := h
 clear h
 have HC3 := aM H
 clear H
 go_enter Try.func50, Try.ntmps50
 go_upto_region 1 with (first | ((with_reducible refine gD 2 rfl ?_); (try (refine gate_guard (by rfl) ?_; dsimp only)); refine box_event ?hg (N := 2) ?hd (cs := #[.int .i64 a0_0, .slice A0_1 l0_1.length c0_1, .slice A0_2 l0_2.length c0_2, .slice A0_3 l0_3.length c0_3]) (t := 25) ?hr ?_; (case hd => rfl); (case hg => rfl); (case hr => first | (go_simp; done) | (go_simp; rfl)); intro gb199 hg w4 hbox hb; have BK199 := aM hbox; have GW199 := aM (zg (zL HB.out) hg : w.heap.size ≤ gb199); have GE199 := GW199; replace HB := zLB (zL HB.out) hb; clear hb hbox hg) | ((with_reducible refine gD 3 rfl ?_); (try (refine gate_guard (by rfl) ?_; dsimp only)); refine box_event ?hg (N := 3) ?hd (cs := #[.int .i64 a1_0, .slice A1_1 l1_1.length c1_1, .slice A1_2 l1_2.length c1_2, .slice A1_3 l1_3.length c1_3]) (t := 25) ?hr ?_; (case hd => rfl); (case hg => rfl); (case hr => first | (go_simp; done) | (go_simp; rfl)); intro gb200 hg w5 hbox hb; have BK200 := aM hbox; have GW200 := aM (zg (zL1 HB.out GE199.out) hg : w.heap.size ≤ gb200); have GE200 := GW200; replace HB := zLB (zL1 HB.out GE199.out) hb; have NB199_200 := aM (zN BK199.out hg : gb199 ≠ gb200); have NB200_199 := aM (zM BK199.out hg : gb200 ≠ gb199); replace BK199 := zBB BK199 hb; clear hb hbox hg))
 repeat (go_quiet (first | ((with_reducible refine gD 2 rfl ?_); (try (refine gate_guard (by rfl) ?_; dsimp only)); refine box_event ?hg (N := 2) ?hd (cs := #[.int .i64 a0_0, .slice A0_1 l0_1.length c0_1, .slice A0_2 l0_2.length c0_2, .slice A0_3 l0_3.length c0_3]) (t := 25) ?hr ?_; (case hd => rfl); (case hg => rfl); (case hr => first | (go_simp; done) | (go_simp; rfl)); intro gb199 hg w4 hbox hb; have BK199 := aM hbox; have GW199 := aM (zg (zL HB.out) hg : w.heap.size ≤ gb199); have GE199 := GW199; replace HB := zLB (zL HB.out) hb; clear hb hbox hg) | ((with_reducible refine gD 3 rfl ?_); (try (refine gate_guard (by rfl) ?_; dsimp only)); refine box_event ?hg (N := 3) ?hd (cs := #[.int .i64 a1_0, .slice A1_1 l1_1.length c1_1, .slice A1_2 l1_2.length c1_2, .slice A1_3 l1_3.length c1_3]) (t := 25) ?hr ?_; (case hd => rfl); (case hg => rfl); (case hr => first | (go_simp; done) | (go_simp; rfl)); intro gb200 hg w5 hbox hb; have BK200 := aM hbox; have GW200 := aM (zg (zL1 HB.out GE199.out) hg : w.heap.size ≤ gb200); have GE200 := GW200; replace HB := zLB (zL1 HB.out GE199.out) hb; have NB199_200 := aM (zN BK199.out hg : gb199 ≠ gb200); have NB200_199 := aM (zM BK199.out hg : gb200 ≠ gb199); replace BK199 := zBB BK199 hb; clear hb hbox hg)); go_upto_region 1 with (first | ((with_reducible refine gD 2 rfl ?_); (try (refine gate_guard (by rfl) ?_; dsimp only)); refine box_event ?hg (N := 2) ?hd (cs := #[.int .i64 a0_0, .slice A0_1 l0_1.length c0_1, .slice A0_2 l0_2.length c0_2, .slice A0_3 l0_3.length c0_3]) (t := 25) ?hr ?_; (case hd => rfl); (case hg => rfl); (case hr => first | (go_simp; done) | (go_simp; rfl)); intro gb199 hg w4 hbox hb; have BK199 := aM hbox; have GW199 := aM (zg (zL HB.out) hg : w.heap.size ≤ gb199); have GE199 := GW199; replace HB := zLB (zL HB.out) hb; clear hb hbox hg) | ((with_reducible refine gD 3 rfl ?_); (try (refine gate_guard (by rfl) ?_; dsimp only)); refine box_event ?hg (N := 3) ?hd (cs := #[.int .i64 a1_0, .slice A1_1 l1_1.length c1_1, .slice A1_2 l1_2.length c1_2, .slice A1_3 l1_3.length c1_3]) (t := 25) ?hr ?_; (case hd => rfl); (case hg => rfl); (case hr => first | (go_simp; done) | (go_simp; rfl)); intro gb200 hg w5 hbox hb; have BK200 := aM hbox; have GW200 := aM (zg (zL1 HB.out GE199.out) hg : w.heap.size ≤ gb200); have GE200 := GW200; replace HB := zLB (zL1 HB.out GE199.out) hb; have NB199_200 := aM (zN BK199.out hg : gb199 ≠ gb200); have NB200_199 := aM (zM BK199.out hg : gb200 ≠ gb199); replace BK199 := zBB BK199 hb; clear hb hbox hg)))
 (try simp only [Act.put, List.setIfInBounds_toArray, List.set_cons_zero, List.set_cons_succ])
 go_cut [37] (fun v37 wc => ∃ (kq : Nat) (x37_2 : Bool), v37 = .bool x37_2 ∧ Aside0 (laws_sameWheel.j0 kq x37_2 a0_0 l0_1 l0_2 l0_3 a1_0 l1_1 l1_2 l1_3 = some r) ∧ Aside0 (kq ≤ k) ∧ Aside0 (wc.heap[gb199]? = some (.cells #[.int .i64 a0_0, (.slice A0_1 l0_1.length c0_1), (.slice A0_2 l0_2.length c0_2), (.slice A0_3 l0_3.length c0_3)] 25 (0, 0))) ∧ Aside0 (wc.heap[gb200]? = some (.cells #[.int .i64 a1_0, (.slice A1_1 l1_1.length c1_1), (.slice A1_2 l1_2.length c1_2), (.slice A1_3 l1_3.length c1_3)] 25 (0, 0))) ∧ Aside0 (Below w.heap.size w wc))
 case first =>
  have H := HC3.out
  clear HC3
  by_cases c6 : a0_0 = a1_0
  ·rw [if_pos c6] at H
   obtain ⟨c6b0, c6b1⟩ := zt c6
   clear c6
   (first | rw [c6b0] | (simp only [i64_w, i32_w]; rw [c6b0]) | skip)
   by_cases c7 : (l0_1.length : Int) = (l1_1.length : Int)
   ·rw [if_pos c7] at H
    obtain ⟨c7b0, c7b1⟩ := zt c7
    have c7b2 : (l0_1.length == l1_1.length) = true := by first | simpa using c7 | (simp at c7 ⊢; omega)
    clear c7
    by_cases c8 : (l0_2.length : Int) = (l1_2.length : Int)
    ·rw [if_pos c8] at H
     obtain ⟨c8b0, c8b1⟩ := zt c8
     have c8b2 : (l0_2.length == l1_2.length) = true := by first | simpa using c8 | (simp at c8 ⊢; omega)
     clear c8
     obtain ⟨t201, A9, H⟩ := zO H; try dsimp only at H
     have H' := aM H
     clear H
     have hnb10 := NB199_200.out
     have hnc10 := NB200_199.out
     have hcz11 := zc4 BK199.out
     have hfz11 := zf4 BK199.out
     have hcz12 := zc4 BK200.out
     have hfz12 := zf4 BK200.out
     go_wp2_with (first | (go_at_call 51; (with_reducible refine (laws_sameTimers.calls k _ _ l0_3 _ _ l1_3 t201 _ ?side1 ?side2 ?side3 ?side4 A9.out).mono ?_); (case side1 => exact zC (Kd.C_below HR0_3.out HB.out)); (case side2 => exact HC0_3.out); (case side3 => exact zC (Kd.C_below HR1_3.out HB.out)); (case side4 => exact HC1_3.out); rintro e w' ⟨rfl, ⟨nd, rfl⟩⟩; (try first | exact ⟨rfl, _, World.drewN_drewN _ _ _⟩ | exact ⟨rfl, _, Eq.trans (World.drewN_drewN _ _ _) (congrArg (World.drewN _) (Nat.add_assoc _ _ _))⟩)))
     repeat (go_quiet (first | (go_at_call 51; (with_reducible refine (laws_sameTimers.calls k _ _ l0_3 _ _ l1_3 t201 _ ?side1 ?side2 ?side3 ?side4 A9.out).mono ?_); (case side1 => exact zC (Kd.C_below HR0_3.out HB.out)); (case side2 => exact HC0_3.out); (case side3 => exact zC (Kd.C_below HR1_3.out HB.out)); (case side4 => exact HC1_3.out); rintro e w' ⟨rfl, ⟨nd, rfl⟩⟩; (try first | exact ⟨rfl, _, World.drewN_drewN _ _ _⟩ | exact ⟨rfl, _, Eq.trans (World.drewN_drewN _ _ _) (congrArg (World.drewN _) (Nat.add_assoc _ _ _))⟩))); try go_wp2_with (first | (go_at_call 51; (with_reducible refine (laws_sameTimers.calls k _ _ l0_3 _ _ l1_3 t201 _ ?side1 ?side2 ?side3 ?side4 A9.out).mono ?_); (case side1 => exact zC (Kd.C_below HR0_3.out HB.out)); (case side2 => exact HC0_3.out); (case side3 => exact zC (Kd.C_below HR1_3.out HB.out)); (case side4 => exact HC1_3.out); rintro e w' ⟨rfl, ⟨nd, rfl⟩⟩; (try first | exact ⟨rfl, _, World.drewN_drewN _ _ _⟩ | exact ⟨rfl, _, Eq.trans (World.drewN_drewN _ _ _) (congrArg (World.drewN _) (Nat.add_assoc _ _ _))⟩))))
     go_meet
     case rel => exact ⟨_, (!t201), zV, H', ⟨by first | omega | exact Nat.le_refl _⟩, ⟨zB BK199.out⟩, ⟨zB BK200.out⟩, ⟨zL2 HB.out GE199.out GE200.out⟩⟩
    ·rw [if_neg c8] at H
     obtain ⟨c8b0, c8b1⟩ := zf c8
     have c8b2 : (l0_2.length == l1_2.length) = false := by first | simpa using c8 | (simp at c8 ⊢; omega)
     have H' := aM H
     clear H
     have hnb13 := NB199_200.out
     have hnc13 := NB200_199.out
     have hcz14 := zc4 BK199.out
     have hfz14 := zf4 BK199.out
     have hcz15 := zc4 BK200.out
     have hfz15 := zf4 BK200.out
     go_wp2
     repeat (go_quiet (fail); try go_wp2)
     go_meet
     case rel => exact ⟨_, (true), zV, H', ⟨by first | omega | exact Nat.le_refl _⟩, ⟨zB BK199.out⟩, ⟨zB BK200.out⟩, ⟨zL2 HB.out GE199.out GE200.out⟩⟩
   ·rw [if_neg c7] at H
    obtain ⟨c7b0, c7b1⟩ := zf c7
    have c7b2 : (l0_1.length == l1_1.length) = false := by first | simpa using c7 | (simp at c7 ⊢; omega)
    have H' := aM H
    clear H
    have hnb16 := NB199_200.out
    have hnc16 := NB200_199.out
    have hcz17 := zc4 BK199.out
    have hfz17 := zf4 BK199.out
    have hcz18 := zc4 BK200.out
    have hfz18 := zf4 BK200.out
    go_wp2
    repeat (go_quiet (fail); try go_wp2)
    go_meet
    case rel => exact ⟨_, (true), zV, H', ⟨by first | omega | exact Nat.le_refl _⟩, ⟨zB BK199.out⟩, ⟨zB BK200.out⟩, ⟨zL2 HB.out GE199.out GE200.out⟩⟩
  ·rw [if_neg c6] at H
   obtain ⟨c6b0, c6b1⟩ := zf c6
   (first | rw [c6b0] | (simp only [i64_w, i32_w]; rw [c6b0]) | skip)
   have H' := aM H
   clear H
   have hnb19 := NB199_200.out
   have hnc19 := NB200_199.out
   have hcz20 := zc4 BK199.out
   have hfz20 := zf4 BK199.out
   have hcz21 := zc4 BK200.out
   have hfz21 := zf4 BK200.out
   go_wp2
   repeat (go_quiet (fail); try go_wp2)
   go_meet
   case rel => exact ⟨_, (true), zV, H', ⟨by first | omega | exact Nat.le_refl _⟩, ⟨zB BK199.out⟩, ⟨zB BK200.out⟩, ⟨zL2 HB.out GE199.out GE200.out⟩⟩
 case rest =>
  clear HC3
  try clear c1
  try clear p2
  try clear c5
  try clear c6
  try clear c6b0
  try clear c6b1
  try clear c7
  try clear c7b0
  try clear c7b1
  try clear c7b2
  try clear c8
  try clear c8b0
  try clear c8b1
  try clear c8b2
  try clear c10
  try clear c13
  try clear c16
  try clear c19
  try clear hcz11; try clear hcz12; try clear hcz14; try clear hcz15; try clear hcz17; try clear hcz18; try clear hcz20; try clear hcz21; try clear hfz11; try clear hfz12; try clear hfz14; try clear hfz15; try clear hfz17; try clear hfz18; try clear hfz20; try clear hfz21
  obtain ⟨kq, x37_2, rfl, HA, HJ2, BK199, BK200, HB⟩ := hcut
  cases kq with
  | zero => exact absurd HA.out (by simp [laws_sameWheel.j0])
  | succ kj2 =>
   have H := HA.out
   clear HA
   simp only [laws_sameWheel.j0] at H
   by_cases c22 : x37_2 = true
   ·subst c22
    rw [if_pos rfl] at H
    obtain rfl := Option.some.inj H
    go_wp2
    repeat (go_quiet (fail); try go_wp2)
    go_ret
    exact ⟨zW, zL2 HB.out GE199.out GE200.out⟩
   ·obtain rfl := Bool.eq_false_iff.mpr c22
    rw [if_neg zn] at H
    have H' := aM H
    clear H
    go_wp2
    repeat (go_quiet (fail); try go_wp2)
    go_loopg [5] kj2 (fun kq v5 w' => ∃ (x5_2 : Int), v5 = .int .i64 x5_2 ∧ Aside0 (laws_sameWheel.l0 kq x5_2 a0_0 l0_1 l0_2 l0_3 a1_0 l1_1 l1_2 l1_3 = some r) ∧ Aside0 (kq ≤ kj2) ∧ Aside0 (w'.heap[gb199]? = some (.cells #[.int .i64 a0_0, (.slice A0_1 l0_1.length c0_1), (.slice A0_2 l0_2.length c0_2), (.slice A0_3 l0_3.length c0_3)] 25 (0, 0))) ∧ Aside0 (w'.heap[gb200]? = some (.cells #[.int .i64 a1_0, (.slice A1_1 l1_1.length c1_1), (.slice A1_2 l1_2.length c1_2), (.slice A1_3 l1_3.length c1_3)] 25 (0, 0))) ∧ Aside0 (Below w.heap.size w w'))
    case atStart => exact ⟨(0), zV, H', ⟨Nat.le_refl _⟩, ⟨zB BK199.out⟩, ⟨zB BK200.out⟩, ⟨zL2 HB.out GE199.out GE200.out⟩⟩
    case round =>
     clear H'
     try clear c1
     try clear c2
     try clear p2
     try clear c5
     try clear c6
     try clear c6b0
     try clear c6b1
     try clear c7
     try clear c7b0
     try clear c7b1
     try clear c7b2
     try clear c8
     try clear c8b0
     try clear c8b1
     try clear c8b2
     try clear c10
     try clear c13
     try clear c16
     try clear c19
     try clear c22
     try clear hcz11; try clear hcz12; try clear hcz14; try clear hcz15; try clear hcz17; try clear hcz18; try clear hcz20; try clear hcz21; try clear hfz11; try clear hfz12; try clear hfz14; try clear hfz15; try clear hfz17; try clear hfz18; try clear hfz20; try clear hfz21
     try clear p2
     try clear BK199; try clear BK200
     obtain ⟨x5_2, rfl, HA, HK2, BK199, BK200, HB⟩ := hrel
     cases gk with
     | zero => exact absurd HA.out (by simp [laws_sameWheel.l0])
     | succ k2 =>
      have H := HA.out
      clear HA
      simp only [laws_sameWheel.l0] at H
      by_cases c23 : x5_2 < (l0_1.length : Int)
      ·rw [if_pos c23] at H
       have c23b0 := dT c23
       clear c23
       by_cases c24 : 0 ≤ x5_2
       ·rw [if_pos c24] at H
        have c24b0 := dT c24
        clear c24
        by_cases c25 : x5_2 < (l1_1.length : Int)
        ·rw [if_pos c25] at H
         have c25b0 := dT c25
         clear c25
         obtain ⟨t204, A26, H⟩ := zO H; try dsimp only at H
         by_cases c27 : t204 = true
         ·subst c27
          rw [if_pos rfl] at H
          have H' := aM H
          clear H
          have hnb28 := NB199_200.out
          have hnc28 := NB200_199.out
          have hcz29 := zc4 BK199.out
          have hfz29 := zf4 BK199.out
          have p202 : 0 ≤ (x5_2 : Int) := zD
          have q202 : x5_2 < (l0_1.length : Int) := zD
          obtain ⟨ad202, A202_0, c202_0, e202, hx202_0, hl202_0, hi202_0⟩ := at_L2 HR0_1.out x5_2 p202 q202
          cases e202
          replace hx202_0 := zh HB.out hx202_0
          have HR202_0 := aM hi202_0
          have HC202_0 := aM hl202_0
          clear hi202_0 hl202_0
          replace p202 := eq_true p202
          replace q202 := eq_true q202
          have hcz30 := zc4 BK200.out
          have hfz30 := zf4 BK200.out
          have p203 : 0 ≤ (x5_2 : Int) := zD
          have q203 : x5_2 < (l1_1.length : Int) := zD
          obtain ⟨ad203, A203_0, c203_0, e203, hx203_0, hl203_0, hi203_0⟩ := at_L2 HR1_1.out x5_2 p203 q203
          cases e203
          replace hx203_0 := zh HB.out hx203_0
          have HR203_0 := aM hi203_0
          have HC203_0 := aM hl203_0
          clear hi203_0 hl203_0
          replace p203 := eq_true p203
          replace q203 := eq_true q203
          go_wp2_with (first | (go_at_call 51; (with_reducible refine (laws_sameTimers.calls k2 _ _ (rd_L2 l0_1 x5_2) _ _ (rd_L2 l1_1 x5_2) true _ ?side1 ?side2 ?side3 ?side4 A26.out).mono ?_); (case side1 => exact zC (Kd.C_below HR202_0.out HB.out)); (case side2 => exact HC202_0.out); (case side3 => exact zC (Kd.C_below HR203_0.out HB.out)); (case side4 => exact HC203_0.out); rintro e w' ⟨rfl, ⟨nd, rfl⟩⟩; (try first | exact ⟨rfl, _, World.drewN_drewN _ _ _⟩ | exact ⟨rfl, _, Eq.trans (World.drewN_drewN _ _ _) (congrArg (World.drewN _) (Nat.add_assoc _ _ _))⟩)))
          repeat (go_quiet (first | (go_at_call 51; (with_reducible refine (laws_sameTimers.calls k2 _ _ (rd_L2 l0_1 x5_2) _ _ (rd_L2 l1_1 x5_2) true _ ?side1 ?side2 ?side3 ?side4 A26.out).mono ?_); (case side1 => exact zC (Kd.C_below HR202_0.out HB.out)); (case side2 => exact HC202_0.out); (case side3 => exact zC (Kd.C_below HR203_0.out HB.out)); (case side4 => exact HC203_0.out); rintro e w' ⟨rfl, ⟨nd, rfl⟩⟩; (try first | exact ⟨rfl, _, World.drewN_drewN _ _ _⟩ | exact ⟨rfl, _, Eq.trans (World.drewN_drewN _ _ _) (congrArg (World.drewN _) (Nat.add_assoc _ _ _))⟩))); try go_wp2_with (first | (go_at_call 51; (with_reducible refine (laws_sameTimers.calls k2 _ _ (rd_L2 l0_1 x5_2) _ _ (rd_L2 l1_1 x5_2) true _ ?side1 ?side2 ?side3 ?side4 A26.out).mono ?_); (case side1 => exact zC (Kd.C_below HR202_0.out HB.out)); (case side2 => exact HC202_0.out); (case side3 => exact zC (Kd.C_below HR203_0.out HB.out)); (case side4 => exact HC203_0.out); rintro e w' ⟨rfl, ⟨nd, rfl⟩⟩; (try first | exact ⟨rfl, _, World.drewN_drewN _ _ _⟩ | exact ⟨rfl, _, Eq.trans (World.drewN_drewN _ _ _) (congrArg (World.drewN _) (Nat.add_assoc _ _ _))⟩))))
          go_roundg k2
          case measure => have := HJ2.out; have := HK2.out; omega
          case rel => exact ⟨(wrap64 (x5_2 + 1)), zV, H', ⟨by have := HJ2.out; have := HK2.out; omega⟩, ⟨zB BK199.out⟩, ⟨zB BK200.out⟩, ⟨zL2 HB.out GE199.out GE200.out⟩⟩
         ·obtain rfl := Bool.eq_false_iff.mpr c27
          rw [if_neg zn] at H
          obtain rfl := Option.some.inj H
          have hnb31 := NB199_200.out
          have hnc31 := NB200_199.out
          have hcz32 := zc4 BK199.out
          have hfz32 := zf4 BK199.out
          have p202 : 0 ≤ (x5_2 : Int) := zD
          have q202 : x5_2 < (l0_1.length : Int) := zD
          obtain ⟨ad202, A202_0, c202_0, e202, hx202_0, hl202_0, hi202_0⟩ := at_L2 HR0_1.out x5_2 p202 q202
          cases e202
          replace hx202_0 := zh HB.out hx202_0
          have HR202_0 := aM hi202_0
          have HC202_0 := aM hl202_0
          clear hi202_0 hl202_0
          replace p202 := eq_true p202
          replace q202 := eq_true q202
          have hcz33 := zc4 BK200.out
          have hfz33 := zf4 BK200.out
          have p203 : 0 ≤ (x5_2 : Int) := zD
          have q203 : x5_2 < (l1_1.length : Int) := zD
          obtain ⟨ad203, A203_0, c203_0, e203, hx203_0, hl203_0, hi203_0⟩ := at_L2 HR1_1.out x5_2 p203 q203
          cases e203
          replace hx203_0 := zh HB.out hx203_0
          have HR203_0 := aM hi203_0
          have HC203_0 := aM hl203_0
          clear hi203_0 hl203_0
          replace p203 := eq_true p203
          replace q203 := eq_true q203
          go_wp2_with (first | (go_at_call 51; (with_reducible refine (laws_sameTimers.calls k2 _ _ (rd_L2 l0_1 x5_2) _ _ (rd_L2 l1_1 x5_2) false _ ?side1 ?side2 ?side3 ?side4 A26.out).mono ?_); (case side1 => exact zC (Kd.C_below HR202_0.out HB.out)); (case side2 => exact HC202_0.out); (case side3 => exact zC (Kd.C_below HR203_0.out HB.out)); (case side4 => exact HC203_0.out); rintro e w' ⟨rfl, ⟨nd, rfl⟩⟩; (try first | exact ⟨rfl, _, World.drewN_drewN _ _ _⟩ | exact ⟨rfl, _, Eq.trans (World.drewN_drewN _ _ _) (congrArg (World.drewN _) (Nat.add_assoc _ _ _))⟩)))
          repeat (go_quiet (first | (go_at_call 51; (with_reducible refine (laws_sameTimers.calls k2 _ _ (rd_L2 l0_1 x5_2) _ _ (rd_L2 l1_1 x5_2) false _ ?side1 ?side2 ?side3 ?side4 A26.out).mono ?_); (case side1 => exact zC (Kd.C_below HR202_0.out HB.out)); (case side2 => exact HC202_0.out); (case side3 => exact zC (Kd.C_below HR203_0.out HB.out)); (case side4 => exact HC203_0.out); rintro e w' ⟨rfl, ⟨nd, rfl⟩⟩; (try first | exact ⟨rfl, _, World.drewN_drewN _ _ _⟩ | exact ⟨rfl, _, Eq.trans (World.drewN_drewN _ _ _) (congrArg (World.drewN _) (Nat.add_assoc _ _ _))⟩))); try go_wp2_with (first | (go_at_call 51; (with_reducible refine (laws_sameTimers.calls k2 _ _ (rd_L2 l0_1 x5_2) _ _ (rd_L2 l1_1 x5_2) false _ ?side1 ?side2 ?side3 ?side4 A26.out).mono ?_); (case side1 => exact zC (Kd.C_below HR202_0.out HB.out)); (case side2 => exact HC202_0.out); (case side3 => exact zC (Kd.C_below HR203_0.out HB.out)); (case side4 => exact HC203_0.out); rintro e w' ⟨rfl, ⟨nd, rfl⟩⟩; (try first | exact ⟨rfl, _, World.drewN_drewN _ _ _⟩ | exact ⟨rfl, _, Eq.trans (World.drewN_drewN _ _ _) (congrArg (World.drewN _) (Nat.add_assoc _ _ _))⟩))))
          go_ret
          exact ⟨zW, zL2 HB.out GE199.out GE200.out⟩
        ·rw [if_neg c25] at H
         exact absurd H (by simp)
       ·rw [if_neg c24] at H
        exact absurd H (by simp)
      ·rw [if_neg c23] at H
       have c23b0 := dF c23
       clear c23
       have H' := aM H
       clear H
       have hnb34 := NB199_200.out
       have hnc34 := NB200_199.out
       have hcz35 := zc4 BK199.out
       have hfz35 := zf4 BK199.out
       go_wp2
       repeat (go_quiet (fail); try go_wp2)
       go_loopg [6] k2 (fun kq v6 w' => ∃ (x6_3 : Int), v6 = .int .i64 x6_3 ∧ Aside0 (laws_sameWheel.l1 kq x6_3 a0_0 l0_1 l0_2 l0_3 a1_0 l1_1 l1_2 l1_3 = some r) ∧ Aside0 (kq ≤ k2) ∧ Aside0 (w'.heap[gb199]? = some (.cells #[.int .i64 a0_0, (.slice A0_1 l0_1.length c0_1), (.slice A0_2 l0_2.length c0_2), (.slice A0_3 l0_3.length c0_3)] 25 (0, 0))) ∧ Aside0 (w'.heap[gb200]? = some (.cells #[.int .i64 a1_0, (.slice A1_1 l1_1.length c1_1), (.slice A1_2 l1_2.length c1_2), (.slice A1_3 l1_3.length c1_3)] 25 (0, 0))) ∧ Aside0 (Below w.heap.size w w'))
       case atStart => exact ⟨(0), zV, H', ⟨Nat.le_refl _⟩, ⟨zB BK199.out⟩, ⟨zB BK200.out⟩, ⟨zL2 HB.out GE199.out GE200.out⟩⟩
       case round =>
        clear H'
        try clear c1
        try clear c2
        try clear p2
        try clear q2
        try clear hx2
        try clear c3
        try clear c5
        try clear c6
        try clear c6b0
        try clear c6b1
        try clear p6
        try clear c7
        try clear c7b0
        try clear c7b1
        try clear c7b2
        try clear c8
        try clear c8b0
        try clear c8b1
        try clear c8b2
        try clear c10
        try clear c13
        try clear c16
        try clear c19
        try clear c20
        try clear p20
        try clear q20
        try clear hx20
        try clear c22
        try clear c23
        try clear c23b0
        try clear c24
        try clear c24b0
        try clear c25
        try clear c25b0
        try clear c27
        try clear c28
        try clear c31
        try clear c34
        try clear hcz11; try clear hcz12; try clear hcz14; try clear hcz15; try clear hcz17; try clear hcz18; try clear hcz20; try clear hcz21; try clear hcz29; try clear hcz30; try clear hcz32; try clear hcz33; try clear hcz35; try clear hfz11; try clear hfz12; try clear hfz14; try clear hfz15; try clear hfz17; try clear hfz18; try clear hfz20; try clear hfz21; try clear hfz29; try clear hfz30; try clear hfz32; try clear hfz33; try clear hfz35
        try clear hx202_0
        try clear hx203_0
        try clear p2
        try clear p202
        try clear p203
        try clear q202
        try clear q203
        try clear BK199; try clear BK200
        obtain ⟨x6_3, rfl, HA, HK3, BK199, BK200, HB⟩ := hrel
        cases gk with
        | zero => exact absurd HA.out (by simp [laws_sameWheel.l1])
        | succ k3 =>
         have H := HA.out
         clear HA
         simp only [laws_sameWheel.l1] at H
         by_cases c36 : x6_3 < (l0_2.length : Int)
         ·rw [if_pos c36] at H
          have c36b0 := dT c36
          clear c36
          by_cases c37 : 0 ≤ x6_3
          ·rw [if_pos c37] at H
           have c37b0 := dT c37
           clear c37
           by_cases c38 : x6_3 < (l1_2.length : Int)
           ·rw [if_pos c38] at H
            have c38b0 := dT c38
            clear c38
            obtain ⟨t207, A39, H⟩ := zO H; try dsimp only at H
            by_cases c40 : t207 = true
            ·subst c40
             rw [if_pos rfl] at H
             have H' := aM H
             clear H
             have hnb41 := NB199_200.out
             have hnc41 := NB200_199.out
             have hcz42 := zc4 BK199.out
             have hfz42 := zf4 BK199.out
             have p205 : 0 ≤ (x6_3 : Int) := zD
             have q205 : x6_3 < (l0_2.length : Int) := zD
             obtain ⟨ad205, A205_0, c205_0, e205, hx205_0, hl205_0, hi205_0⟩ := at_L2 HR0_2.out x6_3 p205 q205
             cases e205
             replace hx205_0 := zh HB.out hx205_0
             have HR205_0 := aM hi205_0
             have HC205_0 := aM hl205_0
             clear hi205_0 hl205_0
             replace p205 := eq_true p205
             replace q205 := eq_true q205
             have hcz43 := zc4 BK200.out
             have hfz43 := zf4 BK200.out
             have p206 : 0 ≤ (x6_3 : Int) := zD
             have q206 : x6_3 < (l1_2.length : Int) := zD
             obtain ⟨ad206, A206_0, c206_0, e206, hx206_0, hl206_0, hi206_0⟩ := at_L2 HR1_2.out x6_3 p206 q206
             cases e206
             replace hx206_0 := zh HB.out hx206_0
             have HR206_0 := aM hi206_0
             have HC206_0 := aM hl206_0
             clear hi206_0 hl206_0
             replace p206 := eq_true p206
             replace q206 := eq_true q206
             go_wp2_with (first | (go_at_call 51; (with_reducible refine (laws_sameTimers.calls k3 _ _ (rd_L2 l0_2 x6_3) _ _ (rd_L2 l1_2 x6_3) true _ ?side1 ?side2 ?side3 ?side4 A39.out).mono ?_); (case side1 => exact zC (Kd.C_below HR205_0.out HB.out)); (case side2 => exact HC205_0.out); (case side3 => exact zC (Kd.C_below HR206_0.out HB.out)); (case side4 => exact HC206_0.out); rintro e w' ⟨rfl, ⟨nd, rfl⟩⟩; (try first | exact ⟨rfl, _, World.drewN_drewN _ _ _⟩ | exact ⟨rfl, _, Eq.trans (World.drewN_drewN _ _ _) (congrArg (World.drewN _) (Nat.add_assoc _ _ _))⟩)))
             repeat (go_quiet (first | (go_at_call 51; (with_reducible refine (laws_sameTimers.calls k3 _ _ (rd_L2 l0_2 x6_3) _ _ (rd_L2 l1_2 x6_3) true _ ?side1 ?side2 ?side3 ?side4 A39.out).mono ?_); (case side1 => exact zC (Kd.C_below HR205_0.out HB.out)); (case side2 => exact HC205_0.out); (case side3 => exact zC (Kd.C_below HR206_0.out HB.out)); (case side4 => exact HC206_0.out); rintro e w' ⟨rfl, ⟨nd, rfl⟩⟩; (try first | exact ⟨rfl, _, World.drewN_drewN _ _ _⟩ | exact ⟨rfl, _, Eq.trans (World.drewN_drewN _ _ _) (congrArg (World.drewN _) (Nat.add_assoc _ _ _))⟩))); try go_wp2_with (first | (go_at_call 51; (with_reducible refine (laws_sameTimers.calls k3 _ _ (rd_L2 l0_2 x6_3) _ _ (rd_L2 l1_2 x6_3) true _ ?side1 ?side2 ?side3 ?side4 A39.out).mono ?_); (case side1 => exact zC (Kd.C_below HR205_0.out HB.out)); (case side2 => exact HC205_0.out); (case side3 => exact zC (Kd.C_below HR206_0.out HB.out)); (case side4 => exact HC206_0.out); rintro e w' ⟨rfl, ⟨nd, rfl⟩⟩; (try first | exact ⟨rfl, _, World.drewN_drewN _ _ _⟩ | exact ⟨rfl, _, Eq.trans (World.drewN_drewN _ _ _) (congrArg (World.drewN _) (Nat.add_assoc _ _ _))⟩))))
             go_roundg k3
             case measure => have := HJ2.out; have := HK2.out; have := HK3.out; omega
             case rel => exact ⟨(wrap64 (x6_3 + 1)), zV, H', ⟨by have := HJ2.out; have := HK2.out; have := HK3.out; omega⟩, ⟨zB BK199.out⟩, ⟨zB BK200.out⟩, ⟨zL2 HB.out GE199.out GE200.out⟩⟩
            ·obtain rfl := Bool.eq_false_iff.mpr c40
             rw [if_neg zn] at H
             obtain rfl := Option.some.inj H
             have hnb44 := NB199_200.out
             have hnc44 := NB200_199.out
             have hcz45 := zc4 BK199.out
             have hfz45 := zf4 BK199.out
             have p205 : 0 ≤ (x6_3 : Int) := zD
             have q205 : x6_3 < (l0_2.length : Int) := zD
             obtain ⟨ad205, A205_0, c205_0, e205, hx205_0, hl205_0, hi205_0⟩ := at_L2 HR0_2.out x6_3 p205 q205
             cases e205
             replace hx205_0 := zh HB.out hx205_0
             have HR205_0 := aM hi205_0
             have HC205_0 := aM hl205_0
             clear hi205_0 hl205_0
             replace p205 := eq_true p205
             replace q205 := eq_true q205
             have hcz46 := zc4 BK200.out
             have hfz46 := zf4 BK200.out
             have p206 : 0 ≤ (x6_3 : Int) := zD
             have q206 : x6_3 < (l1_2.length : Int) := zD
             obtain ⟨ad206, A206_0, c206_0, e206, hx206_0, hl206_0, hi206_0⟩ := at_L2 HR1_2.out x6_3 p206 q206
             cases e206
             replace hx206_0 := zh HB.out hx206_0
             have HR206_0 := aM hi206_0
             have HC206_0 := aM hl206_0
             clear hi206_0 hl206_0
             replace p206 := eq_true p206
             replace q206 := eq_true q206
             go_wp2_with (first | (go_at_call 51; (with_reducible refine (laws_sameTimers.calls k3 _ _ (rd_L2 l0_2 x6_3) _ _ (rd_L2 l1_2 x6_3) false _ ?side1 ?side2 ?side3 ?side4 A39.out).mono ?_); (case side1 => exact zC (Kd.C_below HR205_0.out HB.out)); (case side2 => exact HC205_0.out); (case side3 => exact zC (Kd.C_below HR206_0.out HB.out)); (case side4 => exact HC206_0.out); rintro e w' ⟨rfl, ⟨nd, rfl⟩⟩; (try first | exact ⟨rfl, _, World.drewN_drewN _ _ _⟩ | exact ⟨rfl, _, Eq.trans (World.drewN_drewN _ _ _) (congrArg (World.drewN _) (Nat.add_assoc _ _ _))⟩)))
             repeat (go_quiet (first | (go_at_call 51; (with_reducible refine (laws_sameTimers.calls k3 _ _ (rd_L2 l0_2 x6_3) _ _ (rd_L2 l1_2 x6_3) false _ ?side1 ?side2 ?side3 ?side4 A39.out).mono ?_); (case side1 => exact zC (Kd.C_below HR205_0.out HB.out)); (case side2 => exact HC205_0.out); (case side3 => exact zC (Kd.C_below HR206_0.out HB.out)); (case side4 => exact HC206_0.out); rintro e w' ⟨rfl, ⟨nd, rfl⟩⟩; (try first | exact ⟨rfl, _, World.drewN_drewN _ _ _⟩ | exact ⟨rfl, _, Eq.trans (World.drewN_drewN _ _ _) (congrArg (World.drewN _) (Nat.add_assoc _ _ _))⟩))); try go_wp2_with (first | (go_at_call 51; (with_reducible refine (laws_sameTimers.calls k3 _ _ (rd_L2 l0_2 x6_3) _ _ (rd_L2 l1_2 x6_3) false _ ?side1 ?side2 ?side3 ?side4 A39.out).mono ?_); (case side1 => exact zC (Kd.C_below HR205_0.out HB.out)); (case side2 => exact HC205_0.out); (case side3 => exact zC (Kd.C_below HR206_0.out HB.out)); (case side4 => exact HC206_0.out); rintro e w' ⟨rfl, ⟨nd, rfl⟩⟩; (try first | exact ⟨rfl, _, World.drewN_drewN _ _ _⟩ | exact ⟨rfl, _, Eq.trans (World.drewN_drewN _ _ _) (congrArg (World.drewN _) (Nat.add_assoc _ _ _))⟩))))
             go_ret
             exact ⟨zW, zL2 HB.out GE199.out GE200.out⟩
           ·rw [if_neg c38] at H
            exact absurd H (by simp)
          ·rw [if_neg c37] at H
           exact absurd H (by simp)
         ·rw [if_neg c36] at H
          have c36b0 := dF c36
          clear c36
          obtain rfl := Option.some.inj H
          have hnb47 := NB199_200.out
          have hnc47 := NB200_199.out
          have hcz48 := zc4 BK199.out
          have hfz48 := zf4 BK199.out
          go_wp2
          repeat (go_quiet (fail); try go_wp2)
          go_ret
          exact ⟨zW, zL2 HB.out GE199.out GE200.out⟩

open Go.Proofs.YtggenhomnbnodaaW.PrintWords renaming blk_drewN → bN, blk_drew → bD, blk_alloc → bA, blk_cell → bC, blk_below → bB, below_set → bS
def IsS98 (w0 W : World) (g : Nat) (f0 : List Int) (f1 : Int) (f2 : Int) : Prop := ∃ A0 c0, W.heap[g]? = some (.cells #[.slice A0 f0.length c0, .int .i64 f1, .int .i64 f2] 98 (0, 0)) ∧ w0.heap.size ≤ g ∧ Kd.C (Kd.int .u8) w0 A0 f0.length f0
theorem IsS98.grown {w0 W : World} {g : Nat} {f0 : List Int} {f1 : Int} {f2 : Int} {W1 : World} {row : Option Nat} (h : IsS98 w0 W g f0 f1 f2) (hw : W.grownBy W1 row) (hne : some g ≠ row) : IsS98 w0 W1 g f0 f1 f2 := by
 obtain ⟨A0, c0, hb, hg, hr0⟩ := h
 exact ⟨A0, c0, blk_grown hb hw hne, hg, hr0⟩
theorem IsS98.own_neN {w0 W : World} {g : Nat} {f0 : List Int} {f1 : Int} {f2 : Int} {α : Type} {d : Kd α} {e : Nat} {base : Nat} {ok : Nat → Prop} {v : Value} {xs : List α} (h : IsS98 w0 W g f0 f1 f2) (ho : Kd.N d e W base ok v xs) (ht : e ≠ 98) : some g ≠ v.ownBlock := by
 obtain ⟨A0, c0, hb, hg, hr0⟩ := h
 exact Kd.N_ne ho hb ht
theorem IsS98.fresh {w0 W : World} {g : Nat} {f0 : List Int} {f1 : Int} {f2 : Int} (h : IsS98 w0 W g f0 f1 f2) : ∀ k, W.heap.size ≤ k → k ≠ g := by
 obtain ⟨A0, c0, hb, hg, hr0⟩ := h
 exact Kd.freshB hb
theorem IsS98.kept {w0 W : World} {g : Nat} {f0 : List Int} {f1 : Int} {f2 : Int} {W1 : World} {S : Nat → Prop} (h : IsS98 w0 W g f0 f1 f2) (hk : Kept W W1 S) (hne : ¬ S g) : IsS98 w0 W1 g f0 f1 f2 := by
 obtain ⟨A0, c0, hb, hg, hr0⟩ := h
 exact ⟨A0, c0, blk_kept hb hk hne, hg, hr0⟩
theorem IsS98.below {w0 W : World} {g : Nat} {f0 : List Int} {f1 : Int} {f2 : Int} {W1 : World} (h : IsS98 w0 W g f0 f1 f2) (hw : Below W.heap.size W W1) : IsS98 w0 W1 g f0 f1 f2 := h.grown (grown_of_below hw none) (by simp)
theorem IsS98.alloc {w0 W : World} {g : Nat} {f0 : List Int} {f1 : Int} {f2 : Int} (h : IsS98 w0 W g f0 f1 f2) (o : Obj) : IsS98 w0 (W.alloc o) g f0 f1 f2 := h.below (below_alloc (Below.refl _ _) o)
theorem IsS98.drewN {w0 W : World} {g : Nat} {f0 : List Int} {f1 : Int} {f2 : Int} (h : IsS98 w0 W g f0 f1 f2) (m : Nat) : IsS98 w0 (W.drewN m) g f0 f1 f2 := h
theorem IsS98.drew {w0 W : World} {g : Nat} {f0 : List Int} {f1 : Int} {f2 : Int} (h : IsS98 w0 W g f0 f1 f2) : IsS98 w0 W.drew g f0 f1 f2 := h
theorem IsS98.apart {w0 W : World} {g : Nat} {f0 : List Int} {f1 : Int} {f2 : Int} {α : Type} {d : Kd α} {e : Nat} {base : Nat} {ok : Nat → Prop} {v : Value} {xs : List α} (h : IsS98 w0 W g f0 f1 f2) (ho : d.R e W base ok v xs) (ht : ∀ q, q ∈ e :: d.E → q ≠ 98) : d.R e W base (fun k => ok k ∧ k ≠ g) v xs := by
 obtain ⟨A0, c0, hb, hg, hr0⟩ := h
 exact Kd.R_types ho hb ht
theorem IsS98.own_ne {w0 W : World} {g : Nat} {f0 : List Int} {f1 : Int} {f2 : Int} {α : Type} {d : Kd α} {e : Nat} {base : Nat} {ok : Nat → Prop} {v : Value} {xs : List α} (h : IsS98 w0 W g f0 f1 f2) (ho : d.R e W base ok v xs) (ht : e ≠ 98) : some g ≠ v.ownBlock := by
 obtain ⟨A0, c0, hb, hg, hr0⟩ := h
 exact Kd.R_ne ho hb ht
theorem IsS98.apartS {w0 W : World} {g : Nat} {f0 : List Int} {f1 : Int} {f2 : Int} {α : Type} {d : Kd α} {e : Nat} {base : Nat} {ok : Nat → Prop} {v : Value} {xs : List α} (h : IsS98 w0 W g f0 f1 f2) (ho : d.S e W base ok v xs) (ht : ∀ q, q ∈ e :: d.E → q ≠ 98) : d.S e W base (fun k => ok k ∧ k ≠ g) v xs := by
 obtain ⟨A0, c0, hb, hg, hr0⟩ := h
 exact Kd.S_types ho hb ht
theorem IsS98.lt {w0 W : World} {g : Nat} {f0 : List Int} {f1 : Int} {f2 : Int} (h : IsS98 w0 W g f0 f1 f2) : g < W.heap.size := by
 obtain ⟨A0, c0, hb, hg, hr0⟩ := h
 exact blk_lt hb
theorem IsS98.ge {w0 W : World} {g : Nat} {f0 : List Int} {f1 : Int} {f2 : Int} (h : IsS98 w0 W g f0 f1 f2) : w0.heap.size ≤ g := by
 obtain ⟨A0, c0, hb, hg, hr0⟩ := h
 exact hg
theorem IsS98.ne_blk {w0 W : World} {g : Nat} {f0 : List Int} {f1 : Int} {f2 : Int} {a : Nat} {cs : Array Value} {t : TypeId} {fr : Nat × Nat} (h : IsS98 w0 W g f0 f1 f2) (hb2 : W.heap[a]? = some (.cells cs t fr)) (ht : t ≠ 98) : g ≠ a := by
 obtain ⟨A0, c0, hb, hg, hr0⟩ := h
 rintro rfl
 rw [hb] at hb2
 injection hb2 with hb2
 injection hb2 with _ ht2
 exact ht ht2.symm
theorem IsS98.far {w0 W : World} {g : Nat} {f0 : List Int} {f1 : Int} {f2 : Int} {p : Addr} (h : IsS98 w0 W g f0 f1 f2) (hne : g ≠ p.block) (u : Value) : IsS98 w0 (W.setCell p u) g f0 f1 f2 := by
 obtain ⟨A0, c0, hb, hg, hr0⟩ := h
 exact ⟨A0, c0, blk_far hb hne u, hg, hr0⟩
theorem cellS98_0 {W : World} {g : Nat} {A0 : Option Addr} {c0 : Nat} {f0 : List Int} {f1 : Int} {f2 : Int} (h : W.heap[g]? = some (.cells #[.slice A0 f0.length c0, .int .i64 f1, .int .i64 f2] 98 (0, 0))) : W.cell? ⟨g, 0, none⟩ = some (.slice A0 f0.length c0) := (bC h 0).trans rfl
theorem cellS98_1 {W : World} {g : Nat} {A0 : Option Addr} {c0 : Nat} {f0 : List Int} {f1 : Int} {f2 : Int} (h : W.heap[g]? = some (.cells #[.slice A0 f0.length c0, .int .i64 f1, .int .i64 f2] 98 (0, 0))) : W.cell? ⟨g, 1, none⟩ = some (.int .i64 f1) := (bC h 1).trans rfl
theorem IsS98.set_1 {w0 W : World} {g : Nat} {f0 : List Int} {f1 : Int} {f2 : Int} (h : IsS98 w0 W g f0 f1 f2) (x : Int) : IsS98 w0 (W.setCell ⟨g, 1, none⟩ (.int .i64 x)) g f0 x f2 := by
 obtain ⟨A0, c0, hb, hg, hr0⟩ := h
 exact ⟨A0, c0, by simpa using blk_set hb 1 (.int .i64 x), hg, hr0⟩
theorem cellS98_2 {W : World} {g : Nat} {A0 : Option Addr} {c0 : Nat} {f0 : List Int} {f1 : Int} {f2 : Int} (h : W.heap[g]? = some (.cells #[.slice A0 f0.length c0, .int .i64 f1, .int .i64 f2] 98 (0, 0))) : W.cell? ⟨g, 2, none⟩ = some (.int .i64 f2) := (bC h 2).trans rfl
theorem IsS98.set_2 {w0 W : World} {g : Nat} {f0 : List Int} {f1 : Int} {f2 : Int} (h : IsS98 w0 W g f0 f1 f2) (x : Int) : IsS98 w0 (W.setCell ⟨g, 2, none⟩ (.int .i64 x)) g f0 f1 x := by
 obtain ⟨A0, c0, hb, hg, hr0⟩ := h
 exact ⟨A0, c0, by simpa using blk_set hb 2 (.int .i64 x), hg, hr0⟩
theorem IsS98.new (w0 W : World) (A0 : Option Addr) (c0 : Nat) (f0 : List Int) (f1 : Int) (f2 : Int) (hB : Below w0.heap.size w0 W) (hr0 : Kd.C (Kd.int .u8) w0 A0 f0.length f0) : IsS98 w0 (W.alloc (.cells #[.slice A0 f0.length c0, .int .i64 f1, .int .i64 f2] 98)) W.heap.size f0 f1 f2 := ⟨A0, c0, by simpa using heap_alloc_new W _, hB.size, hr0⟩

def spec_l1New.l0 : Nat → List Int → Int → Int → Option (List Int × Int × Int)
 | 0, _, _, _ => none
 | k + 1, x0, x3, x4 => if x4 < (x0.length : Int) then (if x4 < 4000 then (if 0 ≤ x4 then (spec_l1New.l0 k x0 (Go.bits .and .i64 (wrap64 ((wrap64 ((wrap64 (x3 * 137)) + (wrap64 (rd x0 x4)))) + 11)) 1073741823) (wrap64 (x4 + 1))) else (none)) else (some (x0, 0, x3))) else (some (x0, 0, x3))
def spec_l1New.f (k : Nat) (l0 : List Int) : Option (List Int × Int × Int) := spec_l1New.l0 k l0 (wrap64 (140371 + (l0.length : Int))) 0
set_option maxHeartbeats 8000000 in
set_option maxRecDepth 100000 in
theorem spec_l1New.calls (k : Nat) (A0 : Option Addr) (c0 : Nat) (l0 : List Int) (r1 : List Int) (r2 : Int) (r3 : Int) (w0 w : World) (hB : Below w0.heap.size w0 w) (hr0 : Kd.C (Kd.int .u8) w0 A0 l0.length l0) (hc0 : l0.length ≤ c0) (h : spec_l1New.f k l0 = some (r1, r2, r3)) :
  Calls Try.prog 80 #[.slice A0 l0.length c0] w fun e w' => ∃ g_ : Nat, e = .returned (.pointer (some ⟨g_, 0, none⟩)) ∧ IsS98 w0 w' g_ r1 r2 r3 ∧ Below w0.heap.size w0 w' ∧ Below w.heap.size w w' := by
 have hu98 := Try.underlying98
 have HR0 := aM hr0
 have HC0 := aM hc0
 clear hr0 hc0
 have HBW := aM (Below.refl w.heap.size w)
 have HW0 := aM hB.size
 have HB := aM hB
 clear hB
 unfold spec_l1New.f at h; have H := h
 clear h
 have H' := aM H
 clear H
 go_enter Try.func80, Try.ntmps80
 go_wp2
 go_loopg [3, 4] k (fun kq v3 v4 w' => ∃ (x3_1 : Int) (x4_1 : Int), v3 = .int .i64 x3_1 ∧ v4 = .int .i64 x4_1 ∧ Aside0 (spec_l1New.l0 kq l0 x3_1 x4_1 = some (r1, r2, r3)) ∧ Aside0 (kq ≤ k) ∧ Aside0 (Below w0.heap.size w0 w') ∧ Aside0 (Below w.heap.size w w'))
 case atStart => exact ⟨(wrap64 (140371 + (l0.length : Int))), (0), zV, zV, H', ⟨Nat.le_refl _⟩, ⟨zL HB.out⟩, ⟨zL HBW.out⟩⟩
 case round =>
  clear H'
  obtain ⟨x3_1, x4_1, rfl, rfl, HA, HK1, HB, HBW⟩ := hrel
  cases gk with
  | zero => exact absurd HA.out (by simp [spec_l1New.l0])
  | succ k1 =>
   have H := HA.out
   clear HA
   simp only [spec_l1New.l0] at H
   by_cases c2 : x4_1 < (l0.length : Int)
   ·rw [if_pos c2] at H
    have c2b0 := dT c2
    clear c2
    by_cases c3 : x4_1 < 4000
    ·rw [if_pos c3] at H
     have c3b0 := dT c3
     clear c3
     by_cases c4 : 0 ≤ x4_1
     ·rw [if_pos c4] at H
      have c4b0 := dT c4
      clear c4
      have H' := aM H
      clear H
      have p208 : 0 ≤ (x4_1 : Int) := zD
      have q208 : x4_1 < (l0.length : Int) := zD
      obtain ⟨ad208, e208, hx208_0⟩ := Kd.at_int HR0.out x4_1 p208 q208
      cases e208
      replace hx208_0 := pw_cell_below HB.out hx208_0
      replace p208 := eq_true p208
      replace q208 := eq_true q208
      go_wp2
      go_roundg k1
      case measure => have := HK1.out; omega
      case rel => exact ⟨(Go.bits .and .i64 (wrap64 ((wrap64 ((wrap64 (x3_1 * 137)) + (wrap64 (rd l0 x4_1)))) + 11)) 1073741823), (wrap64 (x4_1 + 1)), zV, zV, H', ⟨by have := HK1.out; omega⟩, ⟨zL HB.out⟩, ⟨zL HBW.out⟩⟩
     ·rw [if_neg c4] at H
      exact absurd H (by simp)
    ·rw [if_neg c3] at H
     have c3b0 := dF c3
     clear c3
     simp only [Option.some.injEq, Prod.mk.injEq] at H
     obtain ⟨rfl, rfl, rfl⟩ := H
     go_wp2
     go_ret
     exact ⟨_, rfl, IsS98.new w0 wr A0 c0 l0 0 x3_1 HB.out HR0.out, below_alloc HB.out _, below_alloc HBW.out _⟩
   ·rw [if_neg c2] at H
    have c2b0 := dF c2
    clear c2
    simp only [Option.some.injEq, Prod.mk.injEq] at H
    obtain ⟨rfl, rfl, rfl⟩ := H
    go_wp2
    go_ret
    exact ⟨_, rfl, IsS98.new w0 wr A0 c0 l0 0 x3_1 HB.out HR0.out, below_alloc HB.out _, below_alloc HBW.out _⟩

open Go.Proofs.YtggenhomnbnodaaW.PrintWords renaming blk_drewN → bN, blk_drew → bD, blk_alloc → bA, blk_cell → bC, blk_below → bB, below_set → bS
def spec_l1Byte.f (s0_0 : List Int) (s0_1 : Int) (s0_2 : Int) : Option (Int × Int × Int) := if s0_1 < (s0_0.length : Int) then (if 0 ≤ s0_1 then (some (Go.bits .and .i64 (wrap64 ((Go.bits .and .i64 (Go.bits .xor .i64 ((wrap64 ((wrap64 (s0_2 * 6364136223846793005)) + 1442695040888963407)) / 8589934592) ((wrap64 ((wrap64 (s0_2 * 6364136223846793005)) + 1442695040888963407)) / 140737488355328)) 255) + (wrap64 (rd s0_0 s0_1)))) 255, wrap64 (s0_1 + 1), wrap64 ((wrap64 (s0_2 * 6364136223846793005)) + 1442695040888963407))) else (none)) else (some (Go.bits .and .i64 (Go.bits .xor .i64 ((wrap64 ((wrap64 (s0_2 * 6364136223846793005)) + 1442695040888963407)) / 8589934592) ((wrap64 ((wrap64 (s0_2 * 6364136223846793005)) + 1442695040888963407)) / 140737488355328)) 255, s0_1, wrap64 ((wrap64 (s0_2 * 6364136223846793005)) + 1442695040888963407)))
set_option maxHeartbeats 8000000 in
set_option maxRecDepth 100000 in
theorem spec_l1Byte.calls (g : Nat) (s0_0 : List Int) (s0_1 : Int) (s0_2 : Int) (r1 : Int) (r2 : Int) (r3 : Int) (w0 w : World) (hI : IsS98 w0 w g s0_0 s0_1 s0_2) (hB : Below w0.heap.size w0 w) (h : spec_l1Byte.f s0_0 s0_1 s0_2 = some (r1, r2, r3)) :
  Calls Try.prog 95 #[.pointer (some ⟨g, 0, none⟩)] w fun e w' => e = .returned (.int .i64 r1) ∧ IsS98 w0 w' g s0_0 r2 r3 ∧ Below w0.heap.size w0 w' ∧ KeepBut w w' g none := by
 have HI0 := aM hI
 have HK := aM (KeepBut.refl w g none)
 have HL := aM hB.size
 clear hI
 have HW0 := aM hB.size
 have HB := aM hB
 clear hB
 unfold spec_l1Byte.f at h; have H := h
 clear h
 by_cases c2 : s0_1 < (s0_0.length : Int)
 ·rw [if_pos c2] at H
  have c2b0 := dT c2
  clear c2
  by_cases c3 : 0 ≤ s0_1
  ·rw [if_pos c3] at H
   have c3b0 := dT c3
   clear c3
   simp only [Option.some.injEq, Prod.mk.injEq] at H
   obtain ⟨rfl, rfl, rfl⟩ := H
   obtain ⟨ASz4_0, cSz4_0, HGz4, hgz4, HSz4_0⟩ := HI0.out
   have hcz4_0 := cellS98_0 HGz4
   have hcz4_1 := cellS98_1 HGz4
   have hcz4_2 := cellS98_2 HGz4
   have hfz4_1 := blk_frozen HGz4 1
   have hfz4_2 := blk_frozen HGz4 2
   clear HGz4 hgz4
   have p211 : 0 ≤ (s0_1 : Int) := zD
   have q211 : s0_1 < (s0_0.length : Int) := zD
   obtain ⟨ad211, e211, hx211_0⟩ := Kd.at_int HSz4_0 s0_1 p211 q211
   cases e211
   have hn211_0 : ad211.block ≠ g := Nat.ne_of_lt (Nat.lt_of_lt_of_le (by have := World.block_lt_of_cell? _ _ hx211_0; first | rwa [add_block] at this | exact this) (IsS98.ge HI0.out))
   replace hx211_0 := pw_cell_below HB.out hx211_0
   replace hx211_0 := (cell_far (p := ⟨g, 2, none⟩) (by first | (rw [add_block]; exact hn211_0) | (show (Addr.add _ _).block ≠ _; rw [add_block]; exact hn211_0) | exact hn211_0) (.int .i64 (wrap64 ((wrap64 (s0_2 * 6364136223846793005)) + 1442695040888963407)))).trans hx211_0
   (try have hy211_0 := fun (n_ : Nat) => (show (((w.drewN n_).setCell ⟨g, 2, none⟩ (.int .i64 (wrap64 ((wrap64 (s0_2 * 6364136223846793005)) + 1442695040888963407))))).cell? _ = some _ from hx211_0))
   clear hn211_0
   replace p211 := eq_true p211
   replace q211 := eq_true q211
   go_enter Try.func95, Try.ntmps95
   go_wp2
   repeat (go_quiet (fail); try go_wp2)
   go_ret
   exact ⟨zW, zI HI0.out, zL1 HB.out (IsS98.ge HI0.out), zK HK.out⟩
  ·rw [if_neg c3] at H
   exact absurd H (by simp)
 ·rw [if_neg c2] at H
  have c2b0 := dF c2
  clear c2
  simp only [Option.some.injEq, Prod.mk.injEq] at H
  obtain ⟨rfl, rfl, rfl⟩ := H
  obtain ⟨ASz5_0, cSz5_0, HGz5, hgz5, HSz5_0⟩ := HI0.out
  have hcz5_0 := cellS98_0 HGz5
  have hcz5_1 := cellS98_1 HGz5
  have hcz5_2 := cellS98_2 HGz5
  have hfz5_1 := blk_frozen HGz5 1
  have hfz5_2 := blk_frozen HGz5 2
  clear HGz5 hgz5
  go_enter Try.func95, Try.ntmps95
  go_wp2
  repeat (go_quiet (fail); try go_wp2)
  go_ret
  exact ⟨zW, zI HI0.out, zL1 HB.out (IsS98.ge HI0.out), zK HK.out⟩

open Go.Proofs.YtggenhomnbnodaaW.PrintWords renaming blk_drewN → bN, blk_drew → bD, blk_alloc → bA, blk_cell → bC, blk_below → bB, below_set → bS
def spec_l1Below.f (s0_0 : List Int) (s0_1 : Int) (s0_2 : Int) (a1 : Int) : Option (Int × Int × Int) := if a1 ≤ 0 then (some (0, s0_1, s0_2)) else (if a1 ≤ 256 then ((spec_l1Byte.f s0_0 s0_1 s0_2).bind fun bt212 => (if a1 = 0 then (none) else (some (Int.tmod bt212.1 a1, bt212.2.1, bt212.2.2)))) else ((spec_l1Byte.f s0_0 s0_1 s0_2).bind fun bt215 => ((spec_l1Byte.f s0_0 bt215.2.1 bt215.2.2).bind fun bt218 => ((spec_l1Byte.f s0_0 bt218.2.1 bt218.2.2).bind fun bt221 => (if a1 = 0 then (none) else (some (Int.tmod (wrap64 ((wrap64 ((wrap64 (bt215.1 * 65536)) + (wrap64 (bt218.1 * 256)))) + bt221.1)) a1, bt221.2.1, bt221.2.2)))))))
set_option maxHeartbeats 8000000 in
set_option maxRecDepth 100000 in
theorem spec_l1Below.calls (g : Nat) (s0_0 : List Int) (s0_1 : Int) (s0_2 : Int) (a1 : Int) (r1 : Int) (r2 : Int) (r3 : Int) (w0 w : World) (hI : IsS98 w0 w g s0_0 s0_1 s0_2) (hB : Below w0.heap.size w0 w) (h : spec_l1Below.f s0_0 s0_1 s0_2 a1 = some (r1, r2, r3)) :
  Calls Try.prog 83 #[.pointer (some ⟨g, 0, none⟩), .int .i64 a1] w fun e w' => e = .returned (.int .i64 r1) ∧ IsS98 w0 w' g s0_0 r2 r3 ∧ Below w0.heap.size w0 w' ∧ KeepBut w w' g none := by
 have HI0 := aM hI
 have HK := aM (KeepBut.refl w g none)
 have HL := aM hB.size
 clear hI
 have HW0 := aM hB.size
 have HB := aM hB
 clear hB
 unfold spec_l1Below.f at h; have H := h
 clear h
 by_cases c3 : a1 ≤ 0
 ·rw [if_pos c3] at H
  have c3b0 := dT c3
  clear c3
  simp only [Option.some.injEq, Prod.mk.injEq] at H
  obtain ⟨rfl, rfl, rfl⟩ := H
  go_enter Try.func83, Try.ntmps83
  go_wp2
  go_ret
  exact ⟨zW, zI HI0.out, zL1 HB.out (IsS98.ge HI0.out), zK HK.out⟩
 ·rw [if_neg c3] at H
  have c3b0 := dF c3
  clear c3
  by_cases c4 : a1 ≤ 256
  ·rw [if_pos c4] at H
   have c4b0 := dT c4
   clear c4
   obtain ⟨⟨t212, t213, t214⟩, A5, H⟩ := zO H; try dsimp only at H
   by_cases c6 : a1 = 0
   ·rw [if_pos c6] at H
    exact absurd H (by simp)
   ·rw [if_neg c6] at H
    obtain ⟨c6b0, c6b1⟩ := zf c6
    simp only [Option.some.injEq, Prod.mk.injEq] at H
    obtain ⟨rfl, rfl, rfl⟩ := H
    go_enter Try.func83, Try.ntmps83
    go_wp2_with (first | ((with_reducible refine gC 95 rfl ?_); refine gL 13 Try.func95 #[.pointer (some ⟨g, 0, none⟩)] ?_; (with_reducible refine (spec_l1Byte.calls g s0_0 s0_1 s0_2 t212 t213 t214 w0 _ ?side1 ?side2 A5.out).mono ?_); (case side1 => exact zI HI0.out); (case side2 => exact zL1 HB.out (IsS98.ge HI0.out)); rintro e w7 ⟨rfl, hi, hb, hk⟩; refine ⟨_, rfl, ?_⟩; replace HK := zKK (zK HK.out) hk; replace HB := aM hb; replace HI0 := aM hi; clear hi hb hk))
    go_ret
    exact ⟨zW, zI HI0.out, zL1 HB.out (IsS98.ge HI0.out), zK HK.out⟩
  ·rw [if_neg c4] at H
   have c4b0 := dF c4
   clear c4
   obtain ⟨⟨t215, t216, t217⟩, A8, H⟩ := zO H; try dsimp only at H
   obtain ⟨⟨t218, t219, t220⟩, A9, H⟩ := zO H; try dsimp only at H
   obtain ⟨⟨t221, t222, t223⟩, A10, H⟩ := zO H; try dsimp only at H
   by_cases c11 : a1 = 0
   ·rw [if_pos c11] at H
    exact absurd H (by simp)
   ·rw [if_neg c11] at H
    obtain ⟨c11b0, c11b1⟩ := zf c11
    simp only [Option.some.injEq, Prod.mk.injEq] at H
    obtain ⟨rfl, rfl, rfl⟩ := H
    go_enter Try.func83, Try.ntmps83
    go_wp2_with (first | ((with_reducible refine gC 95 rfl ?_); refine gL 17 Try.func95 #[.pointer (some ⟨g, 0, none⟩)] ?_; (with_reducible refine (spec_l1Byte.calls g s0_0 s0_1 s0_2 t215 t216 t217 w0 _ ?side1 ?side2 A8.out).mono ?_); (case side1 => exact zI HI0.out); (case side2 => exact zL1 HB.out (IsS98.ge HI0.out)); rintro e w12 ⟨rfl, hi, hb, hk⟩; refine ⟨_, rfl, ?_⟩; replace HK := zKK (zK HK.out) hk; replace HB := aM hb; replace HI0 := aM hi; clear hi hb hk) | ((with_reducible refine gC 95 rfl ?_); refine gL 19 Try.func95 #[.pointer (some ⟨g, 0, none⟩)] ?_; (with_reducible refine (spec_l1Byte.calls g s0_0 t216 t217 t218 t219 t220 w0 _ ?side1 ?side2 A9.out).mono ?_); (case side1 => exact zI HI0.out); (case side2 => exact zL1 HB.out (IsS98.ge HI0.out)); rintro e w13 ⟨rfl, hi, hb, hk⟩; refine ⟨_, rfl, ?_⟩; replace HK := zKK (zK HK.out) hk; replace HB := aM hb; replace HI0 := aM hi; clear hi hb hk) | ((with_reducible refine gC 95 rfl ?_); refine gL 21 Try.func95 #[.pointer (some ⟨g, 0, none⟩)] ?_; (with_reducible refine (spec_l1Byte.calls g s0_0 t219 t220 t221 t222 t223 w0 _ ?side1 ?side2 A10.out).mono ?_); (case side1 => exact zI HI0.out); (case side2 => exact zL1 HB.out (IsS98.ge HI0.out)); rintro e w14 ⟨rfl, hi, hb, hk⟩; refine ⟨_, rfl, ?_⟩; replace HK := zKK (zK HK.out) hk; replace HB := aM hb; replace HI0 := aM hi; clear hi hb hk))
    go_ret
    exact ⟨zW, zI HI0.out, zL1 HB.out (IsS98.ge HI0.out), zK HK.out⟩

end Go.Proofs.Ytggenhomnbnodaa.QFnTimes
