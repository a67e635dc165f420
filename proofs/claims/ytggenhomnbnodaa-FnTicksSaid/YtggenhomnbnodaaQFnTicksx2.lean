/- What the Go functions that the law FnTicks reaches answer: each as a Lean function, with its walk. Written by a program of this session. Conditions: those that each theorem names. -/
import Derived.Test.YtggenhomnbnodaaQFnTicksx0
namespace Go.Proofs.Ytggenhomnbnodaa.QFnTicks
open Go.RowKit Go.Proofs.YtggenhomnbnodaaW.PrintWords Go.Proofs.YtggenhomnbnodaaW.PrintLast Go.Proofs.YtggenhomnbnodaaW.PrintMore
attribute [local go_sem] max2_int min2_int max_two min_two max_three min_three max_four min_four   -- for this text's walks alone
set_option linter.unusedVariables false
set_option linter.unusedSimpArgs false

open Go.Proofs.YtggenhomnbnodaaW.PrintWords renaming blk_drewN → bN, blk_drew → bD, blk_alloc → bA, blk_cell → bC, blk_below → bB, below_set → bS
mutual
def spec_Timers.l0 : Nat → List (S46) → Int → Int → List (List (S46)) → List (List (S46)) → List (S46) → Option ((List (S46)))
 | 0, _, _, _, _, _, _ => none
 | k + 1, x3, x4, x102000, x102001, x102002, x102003 => if x4 < (x102001.length : Int) then (if 0 ≤ x4 then (if x3.length + (rd_L2 x102001 x4).length < 5864062014805 then (spec_Timers.l0 k (x3 ++ (rd_L2 x102001 x4)) (wrap64 (x4 + 1)) x102000 x102001 x102002 x102003) else (none)) else (none)) else (spec_Timers.l1 k x3 0 x102000 x102001 x102002 x102003)
def spec_Timers.l1 : Nat → List (S46) → Int → Int → List (List (S46)) → List (List (S46)) → List (S46) → Option ((List (S46)))
 | 0, _, _, _, _, _, _ => none
 | k + 1, x3, x5, x102000, x102001, x102002, x102003 => if x5 < (x102002.length : Int) then (if 0 ≤ x5 then (if x3.length + (rd_L2 x102002 x5).length < 5864062014805 then (spec_Timers.l1 k (x3 ++ (rd_L2 x102002 x5)) (wrap64 (x5 + 1)) x102000 x102001 x102002 x102003) else (none)) else (none)) else (if x3.length + x102003.length < 5864062014805 then (some (x3 ++ x102003)) else (none))
end
def spec_Timers.f (k : Nat) (a0_0 : Int) (l0_1 : List (List (S46))) (l0_2 : List (List (S46))) (l0_3 : List (S46)) : Option ((List (S46))) := spec_Timers.l0 k (([] : List (S46))) 0 a0_0 l0_1 l0_2 l0_3
set_option maxHeartbeats 8000000 in
set_option maxRecDepth 100000 in
theorem spec_Timers.calls (k : Nat) (a0_0 : Int) (A0_1 : Option Addr) (c0_1 : Nat) (l0_1 : List (List (S46))) (A0_2 : Option Addr) (c0_2 : Nat) (l0_2 : List (List (S46))) (A0_3 : Option Addr) (c0_3 : Nat) (l0_3 : List (S46)) (r : List (S46)) (w : World) (hr0_1 : Kd.C (Kd.slice 46 k46) w A0_1 l0_1.length l0_1) (hc0_1 : l0_1.length ≤ c0_1) (hr0_2 : Kd.C (Kd.slice 46 k46) w A0_2 l0_2.length l0_2) (hc0_2 : l0_2.length ≤ c0_2) (hr0_3 : Kd.C k46 w A0_3 l0_3.length l0_3) (hc0_3 : l0_3.length ≤ c0_3) (h : spec_Timers.f k a0_0 l0_1 l0_2 l0_3 = some r) :
  Calls Try.prog 24 #[.agg #[.int .i64 a0_0, .slice A0_1 l0_1.length c0_1, .slice A0_2 l0_2.length c0_2, .slice A0_3 l0_3.length c0_3]] w fun e w' => ∃ v0_ : Value, e = .returned (v0_) ∧ Kd.R k46 46 w' w.heap.size (fun _ => True) v0_ r ∧ Below w.heap.size w w' := by
 have hu25 := Try.underlying25
 have HR0_1 := aM hr0_1
 have HC0_1 := aM hc0_1
 clear hr0_1 hc0_1
 have HR0_2 := aM hr0_2
 have HC0_2 := aM hc0_2
 clear hr0_2 hc0_2
 have HR0_3 := aM hr0_3
 have HC0_3 := aM hc0_3
 clear hr0_3 hc0_3
 have HB := aM (Below.refl w.heap.size w)
 unfold spec_Timers.f at h; have H := h
 clear h
 obtain ⟨y102, hy102⟩ : ∃ y_ : List (S46), y_ = (([] : List (S46))) := ⟨_, rfl⟩
 replace H : (spec_Timers.l0 k y102 0 a0_0 l0_1 l0_2 l0_3) = some r := by first | (rw [hy102]; with_reducible exact H) | (have H2_ := (Option.bind_some _ _).symm.trans H; rw [hy102]; with_reducible exact H2_) | (have H2_ := (Option.bind_some _ _).symm.trans H; with_reducible exact H2_) | with_reducible exact H | (rw [hy102]; exact H) | exact H
 have Ny102 := aM hy102
 clear hy102
 have H' := aM H
 clear H
 go_enter Try.func24, Try.ntmps24
 go_wp2_with (first | ((with_reducible refine gD 1 rfl ?_); refine bE 1 #[.int .i64 a0_0, .slice A0_1 l0_1.length c0_1, .slice A0_2 l0_2.length c0_2, .slice A0_3 l0_3.length c0_3] 25 ?_; intro gb101 hg w2 hbox hb; have BK101 := aM hbox; have GW101 := aM (zg (zL HB.out) hg : w.heap.size ≤ gb101); have GE101 := GW101; replace HB := zLB (zL HB.out) hb; clear hb hbox hg) | ((with_reducible refine gD 6 rfl ?_); refine Kd.R_lit k46 _ 46 ?hg (N := 6) ?hd (xs := ([] : List (S46))) (inner := []) (ok := fun _ => True) (okp := fun _ => True) ?hr ?hp (fun _ hk => hk) trivial (Below.refl _ _) (Nat.le_refl _) (by simp) ?_; (case hd => rfl); (case hg => rfl); (case hr => first | (go_simp; done) | (go_simp; rfl)); (case hp => exact (Reps.none _ _)); intro v103 w3 ho4 hb hg_ hnew_; clear hg_ hnew_; (first | rw [← Ny102.out] at ho4 | (simp only [Int.reduceToNat] at ho4; rw [← Ny102.out] at ho4)); have HO104 := aM (Kd.R_lower ho4 (below_size (zL1 HB.out GE101.out))); replace BK101 := zBB BK101 hb; replace HB := zLB (zL1 HB.out GE101.out) hb; clear hb ho4))
 go_loopg [3, 4] k (fun kq v3 v4 w' => ∃ (x3_1 : List (S46)) (x4_1 : Int), v4 = .int .i64 x4_1 ∧ Aside0 (spec_Timers.l0 kq x3_1 x4_1 a0_0 l0_1 l0_2 l0_3 = some r) ∧ Aside0 (kq ≤ k) ∧ Aside0 (Kd.R k46 46 w' w.heap.size (fun _ => True) v3 x3_1) ∧ Aside0 (w'.heap[gb101]? = some (.cells #[.int .i64 a0_0, (.slice A0_1 l0_1.length c0_1), (.slice A0_2 l0_2.length c0_2), (.slice A0_3 l0_3.length c0_3)] 25 (0, 0))) ∧ Aside0 (Below w.heap.size w w'))
 case atStart => exact ⟨(y102), (0), zV, H', ⟨Nat.le_refl _⟩, ⟨zR HO104.out⟩, ⟨zB BK101.out⟩, ⟨zL1 HB.out GE101.out⟩⟩
 case round =>
  clear H'
  try clear c2
  try clear p2
  try clear BK101
  obtain ⟨x3_1, x4_1, rfl, HA, HK1, HO_3, BK101, HB⟩ := hrel
  cases gk with
  | zero => exact absurd HA.out (by simp [spec_Timers.l0])
  | succ k1 =>
   have H := HA.out
   clear HA
   simp only [spec_Timers.l0] at H
   by_cases c5 : x4_1 < (l0_1.length : Int)
   ·rw [if_pos c5] at H
    have c5b0 := dT c5
    clear c5
    by_cases c6 : 0 ≤ x4_1
    ·rw [if_pos c6] at H
     have c6b0 := dT c6
     clear c6
     by_cases c7 : x3_1.length + (rd_L2 l0_1 x4_1).length < 5864062014805
     ·rw [if_pos c7] at H
      have LMc7 := aM c7
      clear c7
      generalize hy106 : (x3_1 ++ (rd_L2 l0_1 x4_1)) = y106 at H; (try rw [Option.bind_some] at H); have Ny106 := aM hy106.symm; clear hy106
      have H' := aM H
      clear H
      have hcz8 := zc4 BK101.out
      have hfz8 := zf4 BK101.out
      have p105 : 0 ≤ (x4_1 : Int) := zD
      have q105 : x4_1 < (l0_1.length : Int) := zD
      obtain ⟨ad105, A105_0, c105_0, e105, hx105_0, hl105_0, hi105_0⟩ := at_L2 HR0_1.out x4_1 p105 q105
      cases e105
      replace hx105_0 := zh HB.out hx105_0
      have HR105_0 := aM hi105_0
      have HC105_0 := aM hl105_0
      clear hi105_0 hl105_0
      replace p105 := eq_true p105
      replace q105 := eq_true q105
      go_wp2_with (first | ((with_reducible refine gate_builtin (b := .append) (xs := #[.tmp 14, .tmp 19]) rfl ?_); at_builtin; refine Kd.R_append_rows k46 (w0 := w) w.heap.size rfl (.tmp 14) (.tmp 19) 23 46 (.agg #[(.int .i64 0), (.int .i64 0), (.int .i64 0)]) 24 rfl Try.underlying23 info46 rfl (by decide) (by omega) u3 x3_1 (rd_L2 l0_1 x4_1) _ _ _ (fun _ => True) (fun _ => False) rfl rfl ?aO ?aR (fun _ _ h => h) (fun _ h => h.elim) ?aF ?aB ?aS ?aL ?_; (case aR => repeat (first | exact (Kd.C_below HR105_0.out HB.out) | (with_reducible refine Kd.C_alloc ?_ _) | (with_reducible refine Kd.C_drewN ?_ _) | (with_reducible refine Kd.C_drew ?_))); (case aB => exact (zL1 HB.out GE101.out)); (case aF => exact (fun _ _ => trivial)); (case aO => exact (zR HO_3.out)); (case aS => exact (below_size (zL1 HB.out GE101.out))); (case aL => have := LMc7.out; omega); intro v107 w9 ho hb hg hat; rw [← Ny106.out] at ho; replace BK101 := aM (blk_grown (g := gb101) (o := .cells #[.int .i64 a0_0, .slice (some ad105) l0_1.length c0_1, .slice A0_2 l0_2.length c0_2, .slice A0_3 l0_3.length c0_3] 25 (0, 0)) (zB BK101.out) hg (Kd.R_ne HO_3.out BK101.out (by decide))); replace HB := aM hb; have HO108 := aM (ho); clear HO_3; clear ho hb hg hat))
      go_roundg k1
      case measure => have := HK1.out; omega
      case rel => exact ⟨(y106), (wrap64 (x4_1 + 1)), zV, H', ⟨by have := HK1.out; omega⟩, ⟨zR HO108.out⟩, ⟨zB BK101.out⟩, ⟨zL1 HB.out GE101.out⟩⟩
     ·rw [if_neg c7] at H
      exact absurd H (by simp)
    ·rw [if_neg c6] at H
     exact absurd H (by simp)
   ·rw [if_neg c5] at H
    have c5b0 := dF c5
    clear c5
    have H' := aM H
    clear H
    have hcz10 := zc4 BK101.out
    have hfz10 := zf4 BK101.out
    go_wp2
    go_loopg [3, 5] k1 (fun kq v3 v5 w' => ∃ (x3_2 : List (S46)) (x5_2 : Int), v5 = .int .i64 x5_2 ∧ Aside0 (spec_Timers.l1 kq x3_2 x5_2 a0_0 l0_1 l0_2 l0_3 = some r) ∧ Aside0 (kq ≤ k1) ∧ Aside0 (Kd.R k46 46 w' w.heap.size (fun _ => True) v3 x3_2) ∧ Aside0 (w'.heap[gb101]? = some (.cells #[.int .i64 a0_0, (.slice A0_1 l0_1.length c0_1), (.slice A0_2 l0_2.length c0_2), (.slice A0_3 l0_3.length c0_3)] 25 (0, 0))) ∧ Aside0 (Below w.heap.size w w'))
    case atStart => exact ⟨(x3_1), (0), zV, H', ⟨Nat.le_refl _⟩, ⟨zR HO_3.out⟩, ⟨zB BK101.out⟩, ⟨zL1 HB.out GE101.out⟩⟩
    case round =>
     clear H'
     try clear c1
     try clear p1
     try clear q1
     try clear hx1
     try clear c2
     try clear p2
     try clear c5
     try clear c5b0
     try clear c6
     try clear c6b0
     try clear p6
     try clear c7
     try clear c10
     try clear p10
     try clear q10
     try clear hx10
     try clear hcz10; try clear hcz8; try clear hfz10; try clear hfz8
     try clear hx105_0
     try clear p105
     try clear p2
     try clear q105
     try clear BK101
     obtain ⟨x3_2, x5_2, rfl, HA, HK2, HO_3, BK101, HB⟩ := hrel
     cases gk with
     | zero => exact absurd HA.out (by simp [spec_Timers.l1])
     | succ k2 =>
      have H := HA.out
      clear HA
      simp only [spec_Timers.l1] at H
      by_cases c11 : x5_2 < (l0_2.length : Int)
      ·rw [if_pos c11] at H
       have c11b0 := dT c11
       clear c11
       by_cases c12 : 0 ≤ x5_2
       ·rw [if_pos c12] at H
        have c12b0 := dT c12
        clear c12
        by_cases c13 : x3_2.length + (rd_L2 l0_2 x5_2).length < 5864062014805
        ·rw [if_pos c13] at H
         have LMc13 := aM c13
         clear c13
         generalize hy110 : (x3_2 ++ (rd_L2 l0_2 x5_2)) = y110 at H; (try rw [Option.bind_some] at H); have Ny110 := aM hy110.symm; clear hy110
         have H' := aM H
         clear H
         have hcz14 := zc4 BK101.out
         have hfz14 := zf4 BK101.out
         have p109 : 0 ≤ (x5_2 : Int) := zD
         have q109 : x5_2 < (l0_2.length : Int) := zD
         obtain ⟨ad109, A109_0, c109_0, e109, hx109_0, hl109_0, hi109_0⟩ := at_L2 HR0_2.out x5_2 p109 q109
         cases e109
         replace hx109_0 := zh HB.out hx109_0
         have HR109_0 := aM hi109_0
         have HC109_0 := aM hl109_0
         clear hi109_0 hl109_0
         replace p109 := eq_true p109
         replace q109 := eq_true q109
         go_wp2_with (first | ((with_reducible refine gate_builtin (b := .append) (xs := #[.tmp 28, .tmp 33]) rfl ?_); at_builtin; refine Kd.R_append_rows k46 (w0 := w) w.heap.size rfl (.tmp 28) (.tmp 33) 23 46 (.agg #[(.int .i64 0), (.int .i64 0), (.int .i64 0)]) 24 rfl Try.underlying23 info46 rfl (by decide) (by omega) u3 x3_2 (rd_L2 l0_2 x5_2) _ _ _ (fun _ => True) (fun _ => False) rfl rfl ?aO ?aR (fun _ _ h => h) (fun _ h => h.elim) ?aF ?aB ?aS ?aL ?_; (case aR => repeat (first | exact (Kd.C_below HR109_0.out HB.out) | (with_reducible refine Kd.C_alloc ?_ _) | (with_reducible refine Kd.C_drewN ?_ _) | (with_reducible refine Kd.C_drew ?_))); (case aB => exact (zL1 HB.out GE101.out)); (case aF => exact (fun _ _ => trivial)); (case aO => exact (zR HO_3.out)); (case aS => exact (below_size (zL1 HB.out GE101.out))); (case aL => have := LMc13.out; omega); intro v111 w15 ho hb hg hat; rw [← Ny110.out] at ho; replace BK101 := aM (blk_grown (g := gb101) (o := .cells #[.int .i64 a0_0, .slice A0_1 l0_1.length c0_1, .slice (some ad109) l0_2.length c0_2, .slice A0_3 l0_3.length c0_3] 25 (0, 0)) (zB BK101.out) hg (Kd.R_ne HO_3.out BK101.out (by decide))); replace HB := aM hb; have HO112 := aM (ho); clear HO_3; clear ho hb hg hat))
         go_roundg k2
         case measure => have := HK1.out; have := HK2.out; omega
         case rel => exact ⟨(y110), (wrap64 (x5_2 + 1)), zV, H', ⟨by have := HK1.out; have := HK2.out; omega⟩, ⟨zR HO112.out⟩, ⟨zB BK101.out⟩, ⟨zL1 HB.out GE101.out⟩⟩
        ·rw [if_neg c13] at H
         exact absurd H (by simp)
       ·rw [if_neg c12] at H
        exact absurd H (by simp)
      ·rw [if_neg c11] at H
       have c11b0 := dF c11
       clear c11
       by_cases c16 : x3_2.length + l0_3.length < 5864062014805
       ·rw [if_pos c16] at H
        have LMc16 := aM c16
        clear c16
        generalize hy113 : (x3_2 ++ l0_3) = y113 at H; (try rw [Option.bind_some] at H); have Ny113 := aM hy113.symm; clear hy113
        obtain rfl := Option.some.inj H
        have hcz17 := zc4 BK101.out
        have hfz17 := zf4 BK101.out
        go_wp2_with (first | ((with_reducible refine gate_builtin (b := .append) (xs := #[.tmp 35, .tmp 37]) rfl ?_); at_builtin; refine Kd.R_append_rows k46 (w0 := w) w.heap.size rfl (.tmp 35) (.tmp 37) 23 46 (.agg #[(.int .i64 0), (.int .i64 0), (.int .i64 0)]) 24 rfl Try.underlying23 info46 rfl (by decide) (by omega) u3 x3_2 l0_3 _ _ _ (fun _ => True) (fun _ => False) rfl rfl ?aO ?aR (fun _ _ h => h) (fun _ h => h.elim) ?aF ?aB ?aS ?aL ?_; (case aR => repeat (first | exact (Kd.C_below HR0_3.out HB.out) | (with_reducible refine Kd.C_alloc ?_ _) | (with_reducible refine Kd.C_drewN ?_ _) | (with_reducible refine Kd.C_drew ?_))); (case aB => exact (zL1 HB.out GE101.out)); (case aF => exact (fun _ _ => trivial)); (case aO => exact (zR HO_3.out)); (case aS => exact (below_size (zL1 HB.out GE101.out))); (case aL => have := LMc16.out; omega); intro v114 w18 ho hb hg hat; rw [← Ny113.out] at ho; replace BK101 := aM (blk_grown (g := gb101) (o := .cells #[.int .i64 a0_0, .slice A0_1 l0_1.length c0_1, .slice A0_2 l0_2.length c0_2, .slice A0_3 l0_3.length c0_3] 25 (0, 0)) (zB BK101.out) hg (Kd.R_ne HO_3.out BK101.out (by decide))); replace HB := aM hb; have HO115 := aM (ho); clear HO_3; clear ho hb hg hat))
        go_ret
        exact ⟨_, zW, zR HO115.out, zL1 HB.out GE101.out⟩
       ·rw [if_neg c16] at H
        exact absurd H (by simp)

open Go.Proofs.YtggenhomnbnodaaW.PrintWords renaming blk_drewN → bN, blk_drew → bD, blk_alloc → bA, blk_cell → bC, blk_below → bB, below_set → bS
def spec_NextDue.l0 : Nat → Int → List (S46) → Int → Option (Int)
 | 0, _, _, _ => none
 | k + 1, x3, x4, x5 => if x5 < (x4.length : Int) then (if x5 = 0 then (if 0 ≤ x5 then (spec_NextDue.l0 k ((rd_T46 x4 x5).f2) x4 (wrap64 (x5 + 1))) else (none)) else (if 0 ≤ x5 then (if ((rd_T46 x4 x5).f2) < x3 then (spec_NextDue.l0 k ((rd_T46 x4 x5).f2) x4 (wrap64 (x5 + 1))) else (spec_NextDue.l0 k x3 x4 (wrap64 (x5 + 1)))) else (none))) else (some x3)
def spec_NextDue.f (k : Nat) (a0_0 : Int) (l0_1 : List (List (S46))) (l0_2 : List (List (S46))) (l0_3 : List (S46)) : Option (Int) := (spec_Timers.f k a0_0 l0_1 l0_2 l0_3).bind fun t117 => (spec_NextDue.l0 k (-1) t117 0)
set_option maxHeartbeats 8000000 in
set_option maxRecDepth 100000 in
theorem spec_NextDue.calls (k : Nat) (a0_0 : Int) (A0_1 : Option Addr) (c0_1 : Nat) (l0_1 : List (List (S46))) (A0_2 : Option Addr) (c0_2 : Nat) (l0_2 : List (List (S46))) (A0_3 : Option Addr) (c0_3 : Nat) (l0_3 : List (S46)) (r : Int) (w : World) (hr0_1 : Kd.C (Kd.slice 46 k46) w A0_1 l0_1.length l0_1) (hc0_1 : l0_1.length ≤ c0_1) (hr0_2 : Kd.C (Kd.slice 46 k46) w A0_2 l0_2.length l0_2) (hc0_2 : l0_2.length ≤ c0_2) (hr0_3 : Kd.C k46 w A0_3 l0_3.length l0_3) (hc0_3 : l0_3.length ≤ c0_3) (h : spec_NextDue.f k a0_0 l0_1 l0_2 l0_3 = some r) :
  Calls Try.prog 21 #[.agg #[.int .i64 a0_0, .slice A0_1 l0_1.length c0_1, .slice A0_2 l0_2.length c0_2, .slice A0_3 l0_3.length c0_3]] w fun e w' => e = .returned (.int .i64 r) ∧ Below w.heap.size w w' := by
 have hu25 := Try.underlying25
 have HR0_1 := aM hr0_1
 have HC0_1 := aM hc0_1
 clear hr0_1 hc0_1
 have HR0_2 := aM hr0_2
 have HC0_2 := aM hc0_2
 clear hr0_2 hc0_2
 have HR0_3 := aM hr0_3
 have HC0_3 := aM hc0_3
 clear hr0_3 hc0_3
 have HB := aM (Below.refl w.heap.size w)
 unfold spec_NextDue.f at h; have H := h
 clear h
 obtain ⟨t117, A2, H⟩ := zO H; try dsimp only at H
 have H' := aM H
 clear H
 go_enter Try.func21, Try.ntmps21
 go_wp2_with (first | ((with_reducible refine gD 1 rfl ?_); refine bE 1 #[.int .i64 a0_0, .slice A0_1 l0_1.length c0_1, .slice A0_2 l0_2.length c0_2, .slice A0_3 l0_3.length c0_3] 25 ?_; intro gb116 hg w3 hbox hb; have BK116 := aM hbox; have GW116 := aM (zg (zL HB.out) hg : w.heap.size ≤ gb116); have GE116 := GW116; replace HB := zLB (zL HB.out) hb; clear hb hbox hg; have hcz4 := zc4 BK116.out; have hfz4 := zf4 BK116.out) | ((with_reducible refine gC 24 rfl ?_); refine gL 7 Try.func24 #[.agg #[.int .i64 a0_0, .slice A0_1 l0_1.length c0_1, .slice A0_2 l0_2.length c0_2, .slice A0_3 l0_3.length c0_3]] ?_; (with_reducible refine (spec_Timers.calls k a0_0 _ _ l0_1 _ _ l0_2 _ _ l0_3 t117 _ ?side1 ?side2 ?side3 ?side4 ?side5 ?side6 A2.out).mono ?_); (case side1 => exact zC (Kd.C_below HR0_1.out HB.out)); (case side2 => exact HC0_1.out); (case side3 => exact zC (Kd.C_below HR0_2.out HB.out)); (case side4 => exact HC0_2.out); (case side5 => exact zC (Kd.C_below HR0_3.out HB.out)); (case side6 => exact HC0_3.out); rintro e w5 ⟨v118, rfl, ho0, hb⟩; refine ⟨_, rfl, ?_⟩; have HO119 := aM (Kd.R_lower ho0 (below_size (zL1 HB.out GE116.out))); replace BK116 := zBB BK116 hb; replace HB := zLB (zL1 HB.out GE116.out) hb; clear ho0 hb))
 go_loopg [3, 5] k (fun kq v3 v5 w' => ∃ (x3_1 : Int) (x5_1 : Int), v3 = .int .i64 x3_1 ∧ v5 = .int .i64 x5_1 ∧ Aside0 (spec_NextDue.l0 kq x3_1 t117 x5_1 = some r) ∧ Aside0 (kq ≤ k) ∧ Aside0 (Kd.R k46 46 w' w.heap.size (fun _ => True) v118 t117) ∧ Aside0 (w'.heap[gb116]? = some (.cells #[.int .i64 a0_0, (.slice A0_1 l0_1.length c0_1), (.slice A0_2 l0_2.length c0_2), (.slice A0_3 l0_3.length c0_3)] 25 (0, 0))) ∧ Aside0 (Below w.heap.size w w'))
 case atStart => exact ⟨((-1)), (0), zV, zV, H', ⟨Nat.le_refl _⟩, ⟨zR HO119.out⟩, ⟨zB BK116.out⟩, ⟨zL1 HB.out GE116.out⟩⟩
 case round =>
  clear H'
  try clear c2
  try clear p2
  try clear hcz4; try clear hfz4
  try clear BK116
  obtain ⟨x3_1, x5_1, rfl, rfl, HA, HK1, HO_4, BK116, HB⟩ := hrel
  cases gk with
  | zero => exact absurd HA.out (by simp [spec_NextDue.l0])
  | succ k1 =>
   have H := HA.out
   clear HA
   simp only [spec_NextDue.l0] at H
   by_cases c6 : x5_1 < (t117.length : Int)
   ·rw [if_pos c6] at H
    have c6b0 := dT c6
    clear c6
    by_cases c7 : x5_1 = 0
    ·rw [if_pos c7] at H
     obtain ⟨c7b0, c7b1⟩ := zt c7
     clear c7
     by_cases c8 : 0 ≤ x5_1
     ·rw [if_pos c8] at H
      have c8b0 := dT c8
      clear c8
      have H' := aM H
      clear H
      obtain ⟨Ao9, co9, eo9⟩ := Kd.R_slice HO_4.out
      subst eo9
      have p120 : 0 ≤ (x5_1 : Int) := zD
      have q120 : x5_1 < (t117.length : Int) := zD
      obtain ⟨ad120, e120, hx120_0, hx120_1, hx120_2⟩ := at_T46 (Kd.R_reads' HO_4.out).2.2 x5_1 p120 q120
      cases e120
      replace p120 := eq_true p120
      replace q120 := eq_true q120
      go_wp2
      go_roundg k1
      case measure => have := HK1.out; omega
      case rel => exact ⟨((rd_T46 t117 x5_1).f2), (wrap64 (x5_1 + 1)), zV, zV, H', ⟨by have := HK1.out; omega⟩, ⟨zR HO_4.out⟩, ⟨zB BK116.out⟩, ⟨zL1 HB.out GE116.out⟩⟩
     ·rw [if_neg c8] at H
      exact absurd H (by simp)
    ·rw [if_neg c7] at H
     obtain ⟨c7b0, c7b1⟩ := zf c7
     by_cases c10 : 0 ≤ x5_1
     ·rw [if_pos c10] at H
      have c10b0 := dT c10
      clear c10
      by_cases c11 : ((rd_T46 t117 x5_1).f2) < x3_1
      ·rw [if_pos c11] at H
       have c11b0 := dT c11
       clear c11
       have H' := aM H
       clear H
       obtain ⟨Ao12, co12, eo12⟩ := Kd.R_slice HO_4.out
       subst eo12
       have p121 : 0 ≤ (x5_1 : Int) := zD
       have q121 : x5_1 < (t117.length : Int) := zD
       obtain ⟨ad121, e121, hx121_0, hx121_1, hx121_2⟩ := at_T46 (Kd.R_reads' HO_4.out).2.2 x5_1 p121 q121
       cases e121
       replace p121 := eq_true p121
       replace q121 := eq_true q121
       have p122 : 0 ≤ (x5_1 : Int) := zD
       have q122 : x5_1 < (t117.length : Int) := zD
       obtain ⟨ad122, e122, hx122_0, hx122_1, hx122_2⟩ := at_T46 (Kd.R_reads' HO_4.out).2.2 x5_1 p122 q122
       obtain rfl : ad121 = ad122 := (by injection e122)
       replace p122 := eq_true p122
       replace q122 := eq_true q122
       go_wp2
       go_roundg k1
       case measure => have := HK1.out; omega
       case rel => exact ⟨((rd_T46 t117 x5_1).f2), (wrap64 (x5_1 + 1)), zV, zV, H', ⟨by have := HK1.out; omega⟩, ⟨zR HO_4.out⟩, ⟨zB BK116.out⟩, ⟨zL1 HB.out GE116.out⟩⟩
      ·rw [if_neg c11] at H
       have c11b0 := dF c11
       clear c11
       have H' := aM H
       clear H
       obtain ⟨Ao13, co13, eo13⟩ := Kd.R_slice HO_4.out
       subst eo13
       have p121 : 0 ≤ (x5_1 : Int) := zD
       have q121 : x5_1 < (t117.length : Int) := zD
       obtain ⟨ad121, e121, hx121_0, hx121_1, hx121_2⟩ := at_T46 (Kd.R_reads' HO_4.out).2.2 x5_1 p121 q121
       cases e121
       replace p121 := eq_true p121
       replace q121 := eq_true q121
       go_wp2
       go_roundg k1
       case measure => have := HK1.out; omega
       case rel => exact ⟨(x3_1), (wrap64 (x5_1 + 1)), zV, zV, H', ⟨by have := HK1.out; omega⟩, ⟨zR HO_4.out⟩, ⟨zB BK116.out⟩, ⟨zL1 HB.out GE116.out⟩⟩
     ·rw [if_neg c10] at H
      exact absurd H (by simp)
   ·rw [if_neg c6] at H
    have c6b0 := dF c6
    clear c6
    obtain rfl := Option.some.inj H
    obtain ⟨Ao14, co14, eo14⟩ := Kd.R_slice HO_4.out
    subst eo14
    go_wp2
    go_ret
    exact ⟨zW, zL1 HB.out GE116.out⟩

open Go.Proofs.YtggenhomnbnodaaW.PrintWords renaming blk_drewN → bN, blk_drew → bD, blk_alloc → bA, blk_cell → bC, blk_below → bB, below_set → bS
mutual
def impl_Timers.l0 : Nat → List (S46) → List (List (S46)) → Int → Int → Int → List (List (S46)) → List (List (S46)) → List (S46) → Option ((List (S46)))
 | 0, _, _, _, _, _, _, _, _ => none
 | k + 1, x3, x9, x10, x11, x124000, x124001, x124002, x124003 => if x11 < x10 then (if 0 ≤ x11 then (if x11 < (x9.length : Int) then (if x3.length + (rd_L2 x9 x11).length < 5864062014805 then (impl_Timers.l0 k (x3 ++ (rd_L2 x9 x11)) x9 x10 (wrap64 (x11 + 1)) x124000 x124001 x124002 x124003) else (none)) else (none)) else (none)) else (impl_Timers.l1 k x3 x124002 (x124002.length : Int) 0 x124000 x124001 x124002 x124003)
def impl_Timers.l1 : Nat → List (S46) → List (List (S46)) → Int → Int → Int → List (List (S46)) → List (List (S46)) → List (S46) → Option ((List (S46)))
 | 0, _, _, _, _, _, _, _, _ => none
 | k + 1, x3, x20, x21, x22, x124000, x124001, x124002, x124003 => if x22 < x21 then (if 0 ≤ x22 then (if x22 < (x20.length : Int) then (if x3.length + (rd_L2 x20 x22).length < 5864062014805 then (impl_Timers.l1 k (x3 ++ (rd_L2 x20 x22)) x20 x21 (wrap64 (x22 + 1)) x124000 x124001 x124002 x124003) else (none)) else (none)) else (none)) else (if x3.length + x124003.length < 5864062014805 then (some (x3 ++ x124003)) else (none))
end
def impl_Timers.f (k : Nat) (a0_0 : Int) (l0_1 : List (List (S46))) (l0_2 : List (List (S46))) (l0_3 : List (S46)) : Option ((List (S46))) := impl_Timers.l0 k ([] : List (S46)) l0_1 (l0_1.length : Int) 0 a0_0 l0_1 l0_2 l0_3
set_option maxHeartbeats 8000000 in
set_option maxRecDepth 100000 in
theorem impl_Timers.calls (k : Nat) (a0_0 : Int) (A0_1 : Option Addr) (c0_1 : Nat) (l0_1 : List (List (S46))) (A0_2 : Option Addr) (c0_2 : Nat) (l0_2 : List (List (S46))) (A0_3 : Option Addr) (c0_3 : Nat) (l0_3 : List (S46)) (r : List (S46)) (w : World) (hr0_1 : Kd.C (Kd.slice 46 k46) w A0_1 l0_1.length l0_1) (hc0_1 : l0_1.length ≤ c0_1) (hr0_2 : Kd.C (Kd.slice 46 k46) w A0_2 l0_2.length l0_2) (hc0_2 : l0_2.length ≤ c0_2) (hr0_3 : Kd.C k46 w A0_3 l0_3.length l0_3) (hc0_3 : l0_3.length ≤ c0_3) (h : impl_Timers.f k a0_0 l0_1 l0_2 l0_3 = some r) :
  Calls Try.prog 25 #[.agg #[.int .i64 a0_0, .slice A0_1 l0_1.length c0_1, .slice A0_2 l0_2.length c0_2, .slice A0_3 l0_3.length c0_3]] w fun e w' => ∃ v0_ : Value, e = .returned (v0_) ∧ Kd.R k46 46 w' w.heap.size (fun _ => True) v0_ r ∧ Below w.heap.size w w' := by
 have hu25 := Try.underlying25
 have HR0_1 := aM hr0_1
 have HC0_1 := aM hc0_1
 clear hr0_1 hc0_1
 have HR0_2 := aM hr0_2
 have HC0_2 := aM hc0_2
 clear hr0_2 hc0_2
 have HR0_3 := aM hr0_3
 have HC0_3 := aM hc0_3
 clear hr0_3 hc0_3
 have HB := aM (Below.refl w.heap.size w)
 unfold impl_Timers.f at h; have H := h
 clear h
 have H' := aM H
 clear H
 go_enter Try.func25, Try.ntmps25
 go_wp2_with (first | ((with_reducible refine gD 1 rfl ?_); refine bE 1 #[.int .i64 a0_0, .slice A0_1 l0_1.length c0_1, .slice A0_2 l0_2.length c0_2, .slice A0_3 l0_3.length c0_3] 25 ?_; intro gb123 hg w2 hbox hb; have BK123 := aM hbox; have GW123 := aM (zg (zL HB.out) hg : w.heap.size ≤ gb123); have GE123 := GW123; replace HB := zLB (zL HB.out) hb; clear hb hbox hg; have hcz3 := zc4 BK123.out; have hfz3 := zf4 BK123.out))
 go_loopg [3, 11] k (fun kq v3 v11 w' => ∃ (x3_1 : List (S46)) (x11_1 : Int), v11 = .int .i64 x11_1 ∧ Aside0 (impl_Timers.l0 kq x3_1 l0_1 (l0_1.length : Int) x11_1 a0_0 l0_1 l0_2 l0_3 = some r) ∧ Aside0 (kq ≤ k) ∧ Aside0 (Kd.R k46 46 w' w.heap.size (fun _ => True) v3 x3_1) ∧ Aside0 (w'.heap[gb123]? = some (.cells #[.int .i64 a0_0, (.slice A0_1 l0_1.length c0_1), (.slice A0_2 l0_2.length c0_2), (.slice A0_3 l0_3.length c0_3)] 25 (0, 0))) ∧ Aside0 (Below w.heap.size w w'))
 case atStart => exact ⟨(([] : List (S46))), (0), zV, H', ⟨Nat.le_refl _⟩, ⟨by first | exact Kd.R_nil _ _ _ _ _ | exact Kd.N_nil _ _ _ _ _ | exact Kd.V_nil _ _ _ _ _ | exact Kd.Q_nil _ _ _ _ _ | exact Kd.S_nil _ _ _ _ _⟩, ⟨zB BK123.out⟩, ⟨zL1 HB.out GE123.out⟩⟩
 case round =>
  clear H'
  try clear c2
  try clear p2
  try clear hcz3; try clear hfz3
  try clear BK123
  obtain ⟨x3_1, x11_1, rfl, HA, HK1, HO_3, BK123, HB⟩ := hrel
  cases gk with
  | zero => exact absurd HA.out (by simp [impl_Timers.l0])
  | succ k1 =>
   have H := HA.out
   clear HA
   simp only [impl_Timers.l0] at H
   by_cases c4 : x11_1 < (l0_1.length : Int)
   ·rw [if_pos c4] at H
    have c4b0 := dT c4
    clear c4
    by_cases c5 : 0 ≤ x11_1
    ·rw [if_pos c5] at H
     have c5b0 := dT c5
     clear c5
     by_cases c6 : x11_1 < (l0_1.length : Int)
     ·rw [if_pos c6] at H
      have c6b0 := dT c6
      clear c6
      by_cases c7 : x3_1.length + (rd_L2 l0_1 x11_1).length < 5864062014805
      ·rw [if_pos c7] at H
       have LMc7 := aM c7
       clear c7
       generalize hy125 : (x3_1 ++ (rd_L2 l0_1 x11_1)) = y125 at H; (try rw [Option.bind_some] at H); have Ny125 := aM hy125.symm; clear hy125
       have H' := aM H
       clear H
       have p124 : 0 ≤ (x11_1 : Int) := zD
       have q124 : x11_1 < (l0_1.length : Int) := zD
       obtain ⟨ad124, A124_0, c124_0, e124, hx124_0, hl124_0, hi124_0⟩ := at_L2 HR0_1.out x11_1 p124 q124
       cases e124
       replace hx124_0 := zh HB.out hx124_0
       have HR124_0 := aM hi124_0
       have HC124_0 := aM hl124_0
       clear hi124_0 hl124_0
       replace p124 := eq_true p124
       replace q124 := eq_true q124
       go_wp2_with (first | ((with_reducible refine gate_builtin (b := .append) (xs := #[.tmp 15, .tmp 16]) rfl ?_); at_builtin; refine Kd.R_append_rows k46 (w0 := w) w.heap.size rfl (.tmp 15) (.tmp 16) 23 46 (.agg #[(.int .i64 0), (.int .i64 0), (.int .i64 0)]) 24 rfl Try.underlying23 info46 rfl (by decide) (by omega) u3 x3_1 (rd_L2 l0_1 x11_1) _ _ _ (fun _ => True) (fun _ => False) rfl rfl ?aO ?aR (fun _ _ h => h) (fun _ h => h.elim) ?aF ?aB ?aS ?aL ?_; (case aR => repeat (first | exact (Kd.C_below HR124_0.out HB.out) | (with_reducible refine Kd.C_alloc ?_ _) | (with_reducible refine Kd.C_drewN ?_ _) | (with_reducible refine Kd.C_drew ?_))); (case aB => exact (zL1 HB.out GE123.out)); (case aF => exact (fun _ _ => trivial)); (case aO => exact (zR HO_3.out)); (case aS => exact (below_size (zL1 HB.out GE123.out))); (case aL => have := LMc7.out; omega); intro v126 w8 ho hb hg hat; rw [← Ny125.out] at ho; replace BK123 := aM (blk_grown (g := gb123) (o := .cells #[.int .i64 a0_0, .slice (some ad124) l0_1.length c0_1, .slice A0_2 l0_2.length c0_2, .slice A0_3 l0_3.length c0_3] 25 (0, 0)) (zB BK123.out) hg (Kd.R_ne HO_3.out BK123.out (by decide))); replace HB := aM hb; have HO127 := aM (ho); clear HO_3; clear ho hb hg hat))
       go_roundg k1
       case measure => have := HK1.out; omega
       case rel => exact ⟨(y125), (wrap64 (x11_1 + 1)), zV, H', ⟨by have := HK1.out; omega⟩, ⟨zR HO127.out⟩, ⟨zB BK123.out⟩, ⟨zL1 HB.out GE123.out⟩⟩
      ·rw [if_neg c7] at H
       exact absurd H (by simp)
     ·rw [if_neg c6] at H
      exact absurd H (by simp)
    ·rw [if_neg c5] at H
     exact absurd H (by simp)
   ·rw [if_neg c4] at H
    have c4b0 := dF c4
    clear c4
    have H' := aM H
    clear H
    have hcz9 := zc4 BK123.out
    have hfz9 := zf4 BK123.out
    go_wp2
    go_loopg [3, 22] k1 (fun kq v3 v22 w' => ∃ (x3_2 : List (S46)) (x22_2 : Int), v22 = .int .i64 x22_2 ∧ Aside0 (impl_Timers.l1 kq x3_2 l0_2 (l0_2.length : Int) x22_2 a0_0 l0_1 l0_2 l0_3 = some r) ∧ Aside0 (kq ≤ k1) ∧ Aside0 (Kd.R k46 46 w' w.heap.size (fun _ => True) v3 x3_2) ∧ Aside0 (w'.heap[gb123]? = some (.cells #[.int .i64 a0_0, (.slice A0_1 l0_1.length c0_1), (.slice A0_2 l0_2.length c0_2), (.slice A0_3 l0_3.length c0_3)] 25 (0, 0))) ∧ Aside0 (Below w.heap.size w w'))
    case atStart => exact ⟨(x3_1), (0), zV, H', ⟨Nat.le_refl _⟩, ⟨zR HO_3.out⟩, ⟨zB BK123.out⟩, ⟨zL1 HB.out GE123.out⟩⟩
    case round =>
     clear H'
     try clear c1
     try clear p1
     try clear q1
     try clear hx1
     try clear c2
     try clear p2
     try clear c4
     try clear c4b0
     try clear c5
     try clear c5b0
     try clear c6
     try clear c6b0
     try clear p6
     try clear c7
     try clear hcz3; try clear hcz9; try clear hfz3; try clear hfz9
     try clear hx124_0
     try clear p124
     try clear p2
     try clear q124
     try clear BK123
     obtain ⟨x3_2, x22_2, rfl, HA, HK2, HO_3, BK123, HB⟩ := hrel
     cases gk with
     | zero => exact absurd HA.out (by simp [impl_Timers.l1])
     | succ k2 =>
      have H := HA.out
      clear HA
      simp only [impl_Timers.l1] at H
      by_cases c10 : x22_2 < (l0_2.length : Int)
      ·rw [if_pos c10] at H
       have c10b0 := dT c10
       clear c10
       by_cases c11 : 0 ≤ x22_2
       ·rw [if_pos c11] at H
        have c11b0 := dT c11
        clear c11
        by_cases c12 : x22_2 < (l0_2.length : Int)
        ·rw [if_pos c12] at H
         have c12b0 := dT c12
         clear c12
         by_cases c13 : x3_2.length + (rd_L2 l0_2 x22_2).length < 5864062014805
         ·rw [if_pos c13] at H
          have LMc13 := aM c13
          clear c13
          generalize hy129 : (x3_2 ++ (rd_L2 l0_2 x22_2)) = y129 at H; (try rw [Option.bind_some] at H); have Ny129 := aM hy129.symm; clear hy129
          have H' := aM H
          clear H
          have p128 : 0 ≤ (x22_2 : Int) := zD
          have q128 : x22_2 < (l0_2.length : Int) := zD
          obtain ⟨ad128, A128_0, c128_0, e128, hx128_0, hl128_0, hi128_0⟩ := at_L2 HR0_2.out x22_2 p128 q128
          cases e128
          replace hx128_0 := zh HB.out hx128_0
          have HR128_0 := aM hi128_0
          have HC128_0 := aM hl128_0
          clear hi128_0 hl128_0
          replace p128 := eq_true p128
          replace q128 := eq_true q128
          go_wp2_with (first | ((with_reducible refine gate_builtin (b := .append) (xs := #[.tmp 26, .tmp 27]) rfl ?_); at_builtin; refine Kd.R_append_rows k46 (w0 := w) w.heap.size rfl (.tmp 26) (.tmp 27) 23 46 (.agg #[(.int .i64 0), (.int .i64 0), (.int .i64 0)]) 24 rfl Try.underlying23 info46 rfl (by decide) (by omega) u3 x3_2 (rd_L2 l0_2 x22_2) _ _ _ (fun _ => True) (fun _ => False) rfl rfl ?aO ?aR (fun _ _ h => h) (fun _ h => h.elim) ?aF ?aB ?aS ?aL ?_; (case aR => repeat (first | exact (Kd.C_below HR128_0.out HB.out) | (with_reducible refine Kd.C_alloc ?_ _) | (with_reducible refine Kd.C_drewN ?_ _) | (with_reducible refine Kd.C_drew ?_))); (case aB => exact (zL1 HB.out GE123.out)); (case aF => exact (fun _ _ => trivial)); (case aO => exact (zR HO_3.out)); (case aS => exact (below_size (zL1 HB.out GE123.out))); (case aL => have := LMc13.out; omega); intro v130 w14 ho hb hg hat; rw [← Ny129.out] at ho; replace BK123 := aM (blk_grown (g := gb123) (o := .cells #[.int .i64 a0_0, .slice A0_1 l0_1.length c0_1, .slice (some ad128) l0_2.length c0_2, .slice A0_3 l0_3.length c0_3] 25 (0, 0)) (zB BK123.out) hg (Kd.R_ne HO_3.out BK123.out (by decide))); replace HB := aM hb; have HO131 := aM (ho); clear HO_3; clear ho hb hg hat))
          go_roundg k2
          case measure => have := HK1.out; have := HK2.out; omega
          case rel => exact ⟨(y129), (wrap64 (x22_2 + 1)), zV, H', ⟨by have := HK1.out; have := HK2.out; omega⟩, ⟨zR HO131.out⟩, ⟨zB BK123.out⟩, ⟨zL1 HB.out GE123.out⟩⟩
         ·rw [if_neg c13] at H
          exact absurd H (by simp)
        ·rw [if_neg c12] at H
         exact absurd H (by simp)
       ·rw [if_neg c11] at H
        exact absurd H (by simp)
      ·rw [if_neg c10] at H
       have c10b0 := dF c10
       clear c10
       by_cases c15 : x3_2.length + l0_3.length < 5864062014805
       ·rw [if_pos c15] at H
        have LMc15 := aM c15
        clear c15
        generalize hy132 : (x3_2 ++ l0_3) = y132 at H; (try rw [Option.bind_some] at H); have Ny132 := aM hy132.symm; clear hy132
        obtain rfl := Option.some.inj H
        have hcz16 := zc4 BK123.out
        have hfz16 := zf4 BK123.out
        go_wp2_with (first | ((with_reducible refine gate_builtin (b := .append) (xs := #[.tmp 30, .tmp 32]) rfl ?_); at_builtin; refine Kd.R_append_rows k46 (w0 := w) w.heap.size rfl (.tmp 30) (.tmp 32) 23 46 (.agg #[(.int .i64 0), (.int .i64 0), (.int .i64 0)]) 24 rfl Try.underlying23 info46 rfl (by decide) (by omega) u3 x3_2 l0_3 _ _ _ (fun _ => True) (fun _ => False) rfl rfl ?aO ?aR (fun _ _ h => h) (fun _ h => h.elim) ?aF ?aB ?aS ?aL ?_; (case aR => repeat (first | exact (Kd.C_below HR0_3.out HB.out) | (with_reducible refine Kd.C_alloc ?_ _) | (with_reducible refine Kd.C_drewN ?_ _) | (with_reducible refine Kd.C_drew ?_))); (case aB => exact (zL1 HB.out GE123.out)); (case aF => exact (fun _ _ => trivial)); (case aO => exact (zR HO_3.out)); (case aS => exact (below_size (zL1 HB.out GE123.out))); (case aL => have := LMc15.out; omega); intro v133 w17 ho hb hg hat; rw [← Ny132.out] at ho; replace BK123 := aM (blk_grown (g := gb123) (o := .cells #[.int .i64 a0_0, .slice A0_1 l0_1.length c0_1, .slice A0_2 l0_2.length c0_2, .slice A0_3 l0_3.length c0_3] 25 (0, 0)) (zB BK123.out) hg (Kd.R_ne HO_3.out BK123.out (by decide))); replace HB := aM hb; have HO134 := aM (ho); clear HO_3; clear ho hb hg hat))
        go_ret
        exact ⟨_, zW, zR HO134.out, zL1 HB.out GE123.out⟩
       ·rw [if_neg c15] at H
        exact absurd H (by simp)

open Go.Proofs.YtggenhomnbnodaaW.PrintWords renaming blk_drewN → bN, blk_drew → bD, blk_alloc → bA, blk_cell → bC, blk_below → bB, below_set → bS
def impl_NextDue.l0 : Nat → Int → List (S46) → Int → Int → Option (Int)
 | 0, _, _, _, _ => none
 | k + 1, x4, x16, x17, x18 => if x18 < x17 then (if 0 ≤ x18 then (if x18 < (x16.length : Int) then (impl_NextDue.l0 k (mn x4 ((rd_T46 x16 x18).f2)) x16 x17 (wrap64 (x18 + 1))) else (none)) else (none)) else (some x4)
def impl_NextDue.f (k : Nat) (a0_0 : Int) (l0_1 : List (List (S46))) (l0_2 : List (List (S46))) (l0_3 : List (S46)) : Option (Int) := (impl_Timers.f k a0_0 l0_1 l0_2 l0_3).bind fun t136 => (if (t136.length : Int) = 0 then (some (-1)) else (if 0 < (t136.length : Int) then (impl_NextDue.l0 k ((rd_T46 t136 0).f2) t136 (t136.length : Int) 0) else (none)))
set_option maxHeartbeats 8000000 in
set_option maxRecDepth 100000 in
theorem impl_NextDue.calls (k : Nat) (a0_0 : Int) (A0_1 : Option Addr) (c0_1 : Nat) (l0_1 : List (List (S46))) (A0_2 : Option Addr) (c0_2 : Nat) (l0_2 : List (List (S46))) (A0_3 : Option Addr) (c0_3 : Nat) (l0_3 : List (S46)) (r : Int) (w : World) (hr0_1 : Kd.C (Kd.slice 46 k46) w A0_1 l0_1.length l0_1) (hc0_1 : l0_1.length ≤ c0_1) (hr0_2 : Kd.C (Kd.slice 46 k46) w A0_2 l0_2.length l0_2) (hc0_2 : l0_2.length ≤ c0_2) (hr0_3 : Kd.C k46 w A0_3 l0_3.length l0_3) (hc0_3 : l0_3.length ≤ c0_3) (h : impl_NextDue.f k a0_0 l0_1 l0_2 l0_3 = some r) :
  Calls Try.prog 23 #[.agg #[.int .i64 a0_0, .slice A0_1 l0_1.length c0_1, .slice A0_2 l0_2.length c0_2, .slice A0_3 l0_3.length c0_3]] w fun e w' => e = .returned (.int .i64 r) ∧ Below w.heap.size w w' := by
 have hu25 := Try.underlying25
 have hu46 := Try.underlying46
 have HR0_1 := aM hr0_1
 have HC0_1 := aM hc0_1
 clear hr0_1 hc0_1
 have HR0_2 := aM hr0_2
 have HC0_2 := aM hc0_2
 clear hr0_2 hc0_2
 have HR0_3 := aM hr0_3
 have HC0_3 := aM hc0_3
 clear hr0_3 hc0_3
 have HB := aM (Below.refl w.heap.size w)
 unfold impl_NextDue.f at h; have H := h
 clear h
 obtain ⟨t136, A2, H⟩ := zO H; try dsimp only at H
 by_cases c3 : (t136.length : Int) = 0
 ·rw [if_pos c3] at H
  obtain ⟨c3b0, c3b1⟩ := zt c3
  clear c3
  obtain rfl := Option.some.inj H
  go_enter Try.func23, Try.ntmps23
  go_wp2_with (first | ((with_reducible refine gD 1 rfl ?_); refine bE 1 #[.int .i64 a0_0, .slice A0_1 l0_1.length c0_1, .slice A0_2 l0_2.length c0_2, .slice A0_3 l0_3.length c0_3] 25 ?_; intro gb135 hg w4 hbox hb; have BK135 := aM hbox; have GW135 := aM (zg (zL HB.out) hg : w.heap.size ≤ gb135); have GE135 := GW135; replace HB := zLB (zL HB.out) hb; clear hb hbox hg; have hcz5 := zc4 BK135.out; have hfz5 := zf4 BK135.out) | ((with_reducible refine gC 25 rfl ?_); refine gL 8 Try.func25 #[.agg #[.int .i64 a0_0, .slice A0_1 l0_1.length c0_1, .slice A0_2 l0_2.length c0_2, .slice A0_3 l0_3.length c0_3]] ?_; (with_reducible refine (impl_Timers.calls k a0_0 _ _ l0_1 _ _ l0_2 _ _ l0_3 t136 _ ?side1 ?side2 ?side3 ?side4 ?side5 ?side6 A2.out).mono ?_); (case side1 => exact zC (Kd.C_below HR0_1.out HB.out)); (case side2 => exact HC0_1.out); (case side3 => exact zC (Kd.C_below HR0_2.out HB.out)); (case side4 => exact HC0_2.out); (case side5 => exact zC (Kd.C_below HR0_3.out HB.out)); (case side6 => exact HC0_3.out); rintro e w6 ⟨v137, rfl, ho0, hb⟩; refine ⟨_, rfl, ?_⟩; have HO138 := aM (Kd.R_lower ho0 (below_size (zL1 HB.out GE135.out))); replace BK135 := zBB BK135 hb; replace HB := zLB (zL1 HB.out GE135.out) hb; clear ho0 hb; obtain ⟨Ao7, co7, eo7⟩ := Kd.R_slice HO138.out; subst eo7))
  go_ret
  exact ⟨zW, zL1 HB.out GE135.out⟩
 ·rw [if_neg c3] at H
  obtain ⟨c3b0, c3b1⟩ := zf c3
  have c3b2 : ¬ (t136 = []) := fun h_ => c3 (by rw [h_]; rfl)
  by_cases c8 : 0 < (t136.length : Int)
  ·rw [if_pos c8] at H
   have c8b0 := dT c8
   have c8b1 : decide (0 < t136.length) = true := dT (by omega)
   clear c8
   have H' := aM H
   clear H
   go_enter Try.func23, Try.ntmps23
   go_wp2_with (first | ((with_reducible refine gD 1 rfl ?_); refine bE 1 #[.int .i64 a0_0, .slice A0_1 l0_1.length c0_1, .slice A0_2 l0_2.length c0_2, .slice A0_3 l0_3.length c0_3] 25 ?_; intro gb135 hg w9 hbox hb; have BK135 := aM hbox; have GW135 := aM (zg (zL HB.out) hg : w.heap.size ≤ gb135); have GE135 := GW135; replace HB := zLB (zL HB.out) hb; clear hb hbox hg; have hcz10 := zc4 BK135.out; have hfz10 := zf4 BK135.out) | ((with_reducible refine gC 25 rfl ?_); refine gL 8 Try.func25 #[.agg #[.int .i64 a0_0, .slice A0_1 l0_1.length c0_1, .slice A0_2 l0_2.length c0_2, .slice A0_3 l0_3.length c0_3]] ?_; (with_reducible refine (impl_Timers.calls k a0_0 _ _ l0_1 _ _ l0_2 _ _ l0_3 t136 _ ?side1 ?side2 ?side3 ?side4 ?side5 ?side6 A2.out).mono ?_); (case side1 => exact zC (Kd.C_below HR0_1.out HB.out)); (case side2 => exact HC0_1.out); (case side3 => exact zC (Kd.C_below HR0_2.out HB.out)); (case side4 => exact HC0_2.out); (case side5 => exact zC (Kd.C_below HR0_3.out HB.out)); (case side6 => exact HC0_3.out); rintro e w11 ⟨v137, rfl, ho0, hb⟩; refine ⟨_, rfl, ?_⟩; have HO138 := aM (Kd.R_lower ho0 (below_size (zL1 HB.out GE135.out))); replace BK135 := zBB BK135 hb; replace HB := zLB (zL1 HB.out GE135.out) hb; clear ho0 hb; obtain ⟨Ao12, co12, eo12⟩ := Kd.R_slice HO138.out; subst eo12; have p139 : 0 ≤ (0 : Int) := (by omega); have q139 : 0 < (t136.length : Int) := zD; obtain ⟨ad139, e139, hx139_0, hx139_1, hx139_2⟩ := at_T46 (Kd.R_reads' HO138.out).2.2 0 p139 q139; cases e139; have qi139 : (0 < t136.length) = True := eq_true (by omega); (try rw [show ((0 : Int)).toNat = 0 from rfl] at hx139_0); (try rw [show 0 * 3 = 0 from rfl] at hx139_0); (try rw [Addr.add_zero'] at hx139_0); (try rw [show ((0 : Int)).toNat = 0 from rfl] at hx139_1); (try rw [show 0 * 3 = 0 from rfl] at hx139_1); (try rw [Addr.add_zero'] at hx139_1); (try rw [show ((0 : Int)).toNat = 0 from rfl] at hx139_2); (try rw [show 0 * 3 = 0 from rfl] at hx139_2); (try rw [Addr.add_zero'] at hx139_2); replace p139 := eq_true p139; replace q139 := eq_true q139))
   go_loopg [4, 18] k (fun kq v4 v18 w' => ∃ (x4_1 : Int) (x18_1 : Int), v4 = .int .i64 x4_1 ∧ v18 = .int .i64 x18_1 ∧ Aside0 (impl_NextDue.l0 kq x4_1 t136 (t136.length : Int) x18_1 = some r) ∧ Aside0 (kq ≤ k) ∧ Aside0 (Kd.R k46 46 w' w.heap.size (fun _ => True) (.slice (some ad139) t136.length co12) t136) ∧ Aside0 (w'.heap[gb135]? = some (.cells #[.int .i64 a0_0, (.slice A0_1 l0_1.length c0_1), (.slice A0_2 l0_2.length c0_2), (.slice A0_3 l0_3.length c0_3)] 25 (0, 0))) ∧ Aside0 (Below w.heap.size w w'))
   case atStart => exact ⟨((rd_T46 t136 0).f2), (0), zV, zV, H', ⟨Nat.le_refl _⟩, ⟨zR HO138.out⟩, ⟨zB BK135.out⟩, ⟨zL1 HB.out GE135.out⟩⟩
   case round =>
    clear H'
    try clear p1
    try clear q1
    try clear hx1
    try clear qi1
    try clear c2
    try clear p2
    try clear c3
    try clear c3b0
    try clear c3b1
    try clear c3b2
    try clear c8
    try clear c8b0
    try clear c8b1
    try clear hcz10; try clear hcz5; try clear hfz10; try clear hfz5
    try clear hx139_0
    try clear hx139_1
    try clear hx139_2
    try clear p139
    try clear q139
    try clear BK135
    obtain ⟨x4_1, x18_1, rfl, rfl, HA, HK1, HO_16, BK135, HB⟩ := hrel
    cases gk with
    | zero => exact absurd HA.out (by simp [impl_NextDue.l0])
    | succ k1 =>
     have H := HA.out
     clear HA
     simp only [impl_NextDue.l0] at H
     by_cases c13 : x18_1 < (t136.length : Int)
     ·rw [if_pos c13] at H
      have c13b0 := dT c13
      clear c13
      by_cases c14 : 0 ≤ x18_1
      ·rw [if_pos c14] at H
       have c14b0 := dT c14
       clear c14
       by_cases c15 : x18_1 < (t136.length : Int)
       ·rw [if_pos c15] at H
        have c15b0 := dT c15
        clear c15
        obtain ⟨ji16, hji16⟩ : ∃ j_ : Int, (mn x4_1 ((rd_T46 t136 x18_1).f2)) = j_ := ⟨_, rfl⟩
        replace H : (impl_NextDue.l0 k1 ji16 t136 (t136.length : Int) (wrap64 (x18_1 + 1))) = some r := by first | (rw [hji16] at H; exact H) | (simp only [hji16] at H ⊢; exact H)
        have hji16_ : (if ((rd_T46 t136 x18_1).f2) < x4_1 then ((rd_T46 t136 x18_1).f2) else x4_1) = ji16 := hji16
        have H' := aM H
        clear H
        have p140 : 0 ≤ (x18_1 : Int) := zD
        have q140 : x18_1 < (t136.length : Int) := zD
        obtain ⟨ad140, e140, hx140_0, hx140_1, hx140_2⟩ := at_T46 (Kd.R_reads' HO_16.out).2.2 x18_1 p140 q140
        obtain rfl : ad139 = ad140 := (by injection e140)
        replace p140 := eq_true p140
        replace q140 := eq_true q140
        go_wp2_with (first | ((with_reducible refine gD 6 rfl ?_); refine bE 6 #[.int .i64 0, .int .i64 0, .int .i64 0] 46 ?_; intro gb141 hg w17 hbox hb; replace HO_16 := aM (Kd.R_below (Kd.R_elderB (zR HO_16.out) gb141 (Nat.le_of_eq hg.symm)) hb); have BK141 := aM hbox; have GW141 := aM (zg (zL1 HB.out GE135.out) hg : w.heap.size ≤ gb141); have GE141 := GW141; replace HB := zLB (zL1 HB.out GE135.out) hb; have NB135_141 := aM (zN BK135.out hg : gb135 ≠ gb141); have NB141_135 := aM (zM BK135.out hg : gb141 ≠ gb135); replace BK135 := zBB BK135 hb; clear hb hbox hg; have hnb18 := NB141_135.out; have hnc18 := NB135_141.out; have hcz19_0 : w17.cell? ⟨gb141, 0, none⟩ = some (.int .i64 0) := (bC BK141.out 0).trans rfl; have hcz19_1 : w17.cell? ⟨gb141, 1, none⟩ = some (.int .i64 0) := (bC BK141.out 1).trans rfl; have hcz19_2 : w17.cell? ⟨gb141, 2, none⟩ = some (.int .i64 0) := (bC BK141.out 2).trans rfl; have hfz19_0 := blk_frozen BK141.out 0; have hfz19_1 := blk_frozen BK141.out 1; have hfz19_2 := blk_frozen BK141.out 2))
        go_roundg k1
        case measure => have := HK1.out; omega
        case rel => exact ⟨(ji16), (wrap64 (x18_1 + 1)), (by first | rfl | (simp; done) | (simp only [← hji16] <;> (first | rfl | simp)) | (simp [*]; done)), zV, H', ⟨by have := HK1.out; omega⟩, ⟨by (with_reducible repeat (first | apply Kd.R_alloc | apply Kd.R_drewN | apply Kd.R_drew)); exact Kd.R_mono (Kd.R_far (p := ⟨gb141, 2, none⟩) (Kd.R_far (p := ⟨gb141, 1, none⟩) (Kd.R_far (p := ⟨gb141, 0, none⟩) (Kd.R_mono HO_16.out (fun k_ hk => (⟨hk, hk.2⟩ : _ ∧ k_ ≠ gb141))) (fun _ hk => hk.2) (.int .i64 ((rd_T46 t136 x18_1).f0))) (fun _ hk => hk.2) (.int .i64 ((rd_T46 t136 x18_1).f1))) (fun _ hk => hk.2) (.int .i64 ((rd_T46 t136 x18_1).f2))) (fun _ hk => trivial)⟩, ⟨by (with_reducible repeat (first | refine bN ?_ _ | refine bD ?_ | refine bA ?_ _)); refine blk_far ?_ NB135_141.out _; (with_reducible repeat (first | refine bN ?_ _ | refine bD ?_ | refine bA ?_ _)); refine blk_far ?_ NB135_141.out _; (with_reducible repeat (first | refine bN ?_ _ | refine bD ?_ | refine bA ?_ _)); refine blk_far ?_ NB135_141.out _; exact zB BK135.out⟩, ⟨zL2 HB.out GE135.out GE141.out⟩⟩
       ·rw [if_neg c15] at H
        exact absurd H (by simp)
      ·rw [if_neg c14] at H
       exact absurd H (by simp)
     ·rw [if_neg c13] at H
      have c13b0 := dF c13
      clear c13
      obtain rfl := Option.some.inj H
      go_wp2
      go_ret
      exact ⟨zW, zL1 HB.out GE135.out⟩
  ·rw [if_neg c8] at H
   exact absurd H (by simp)

open Go.Proofs.YtggenhomnbnodaaW.PrintWords renaming blk_drewN → bN, blk_drew → bD, blk_alloc → bA, blk_cell → bC, blk_below → bB, below_set → bS
def impl_within.f (a0 : Int) (a1 : Int) (a2 : Int) : Option (Bool) := if a0 ≥ a1 then (some (decide (a0 ≤ a2))) else (some false)
set_option maxHeartbeats 8000000 in
set_option maxRecDepth 100000 in
theorem impl_within.calls (a0 : Int) (a1 : Int) (a2 : Int) (r : Bool) (w : World) (h : impl_within.f a0 a1 a2 = some r) :
  Calls Try.prog 69 #[.int .i64 a0, .int .i64 a1, .int .i64 a2] w fun e w' => e = .returned (.bool r) ∧ Drawn0 w w' := by
 unfold impl_within.f at h; have H := h
 clear h
 by_cases c4 : a0 ≥ a1
 ·rw [if_pos c4] at H
  have c4b0 := dT c4
  clear c4
  obtain rfl := Option.some.inj H
  go_enter Try.func69, Try.ntmps69
  go_wp2
  go_ret
  exact ⟨zV, zU⟩
 ·rw [if_neg c4] at H
  have c4b0 := dF c4
  clear c4
  obtain rfl := Option.some.inj H
  go_enter Try.func69, Try.ntmps69
  go_wp2
  go_ret
  exact ⟨zV, zU⟩

end Go.Proofs.Ytggenhomnbnodaa.QFnTicks
