/- What the Go functions that the law FnTicks reaches answer: each as a Lean function, with its walk. Written by a program of this session. Conditions: those that each theorem names. -/
import Derived.Test.YtggenhomnbnodaaQFnTicksx0
import Derived.Test.YtggenhomnbnodaaQFnTicksx1
import Derived.Test.YtggenhomnbnodaaQFnTicksx2
namespace Go.Proofs.Ytggenhomnbnodaa.QFnTicks
open Go.RowKit Go.Proofs.YtggenhomnbnodaaW.PrintWords Go.Proofs.YtggenhomnbnodaaW.PrintLast Go.Proofs.YtggenhomnbnodaaW.PrintMore
attribute [local go_sem] max2_int min2_int max_two min_two max_three min_three max_four min_four   -- for this text's walks alone
set_option linter.unusedVariables false
set_option linter.unusedSimpArgs false

attribute [local go_sem high] eqA46
-- function 113: below what is taken by its contract

-- function 103: below what is taken by its contract

-- function 97: below what is taken by its contract

-- function 108: below what is taken by its contract

-- function 98: below what is taken by its contract

-- function 106: below what is taken by its contract

-- function 107: below what is taken by its contract

-- function 94: below what is taken by its contract

-- function 109: below what is taken by its contract

-- function 110: below what is taken by its contract

-- function 99: below what is taken by its contract

-- function 114: below what is taken by its contract

-- function 112: below what is taken by its contract

-- function 111: below what is taken by its contract

-- function 100: below what is taken by its contract

-- function 101: below what is taken by its contract

-- function 102: below what is taken by its contract

-- function 104: below what is taken by its contract

-- function 105: below what is taken by its contract

-- function 93: below what is taken by its contract

def slices_Sort.f (l0 : List Int) : Option (List Int) := if l0.length < 4611686018427387904 then some (l0.mergeSort fun x y => decide (x ≤ y)) else none
set_option maxHeartbeats 8000000 in
theorem slices_Sort.calls (P0_ : Nat → Prop) (u9000_ : Value) (l0 : List Int) (r : List Int) (w0 w : World) (hB : Below w0.heap.size w0 w) (ho0 : Kd.R (Kd.int .i64) 3 w w0.heap.size P0_ u9000_ l0) (h : slices_Sort.f l0 = some r) :
  Calls Try.prog 79 #[u9000_] w fun e w' => e = .returned (.tuple #[]) ∧ Kd.R (Kd.int .i64) 3 w' w0.heap.size (fun k_ => (P0_ k_ ∨ w.heap.size ≤ k_)) u9000_ r ∧ Below w0.heap.size w0 w' ∧ Kept w w' (fun k_ => P0_ k_) := by
 unfold slices_Sort.f at h
 by_cases hl : l0.length < 4611686018427387904
 ·rw [if_pos hl] at h
  obtain rfl := Option.some.inj h
  have HO : w.ownsRow w0.heap.size 3 1 u9000_ l0.length (l0.map (Value.int .i64)) := Kd.own_of_R (enc := Value.int .i64) (h1 := fun _ => rfl) ho0
  rcases HO.2 with ⟨rfl, hn⟩ | ⟨g, cap, cur, rfl, hg, hh, hc1, hc2, hc3, hc4⟩
  ·obtain rfl : l0 = [] := List.length_eq_zero_iff.mp hn
   refine (Any.slices_Sort_int_none Try.lays189 none 0 w).mono ?_
   rintro e w' ⟨rfl, rfl⟩
   have e0 : ([] : List Int).mergeSort (fun x y => decide (x ≤ y)) = [] := by simp
   rw [e0]
   exact ⟨rfl, Kd.R_mono ho0 (fun k_ hk => .inl hk), hB, Kept.refl _ _⟩
  ·have hlt : g < w.heap.size := (Array.getElem?_eq_some_iff.1 hh).1
   have hs : (l0.mergeSort fun x y => decide (x ≤ y)).length = l0.length := List.length_mergeSort _
   have hH := holds_of_blockI hh (by simpa using hc4)
   refine (Any.slices_Sort_int Try.lays189 g 0 cap l0 w hH hlt hl).mono ?_
   rintro e w' ⟨rfl, n, os, rfl⟩
   have hown := ownsRow_sortedI (n := n) (os := os) (ts := l0.mergeSort fun x y => decide (x ≤ y)) (ss := l0) hs hg hh hc1 hc2 hc3
   have hgr := grownBy_sortedI (w := w) (g := g) (n := n) (os := os) (l0.mergeSort fun x y => decide (x ≤ y)).toArray
   refine ⟨rfl, ?_, hB.grown hgr hB.size (fun k hk => by simp at hk; omega), Kept.of_grown hgr (Kept.refl _ _) (fun k hk => by simp at hk; subst hk; exact .inl (ho0.1 _ rfl))⟩
   exact Kd.R_of_own (enc := Value.int .i64) (h1 := fun _ => rfl) (by rw [hs]; exact hown) (fun k hk => .inl (ho0.1 k hk))
 ·rw [if_neg hl] at h
  exact absurd h (by simp)

open Go.Proofs.YtggenhomnbnodaaW.PrintWords renaming blk_drewN → bN, blk_drew → bD, blk_alloc → bA, blk_cell → bC, blk_below → bB, below_set → bS
def impl_DueBy.l0 : Nat → Int → List Int → List (S46) → Int → Int → Option (List Int)
 | 0, _, _, _, _, _ => none
 | k + 1, x1, x5, x9, x10, x11 => if x11 < x10 then (if 0 ≤ x11 then (if x11 < (x9.length : Int) then (if ((rd_T46 x9 x11).f2) ≤ x1 then (if x5.length < 17592186044416 then (impl_DueBy.l0 k x1 (x5 ++ [(rd_T46 x9 x11).f0]) x9 x10 (wrap64 (x11 + 1))) else (none)) else (impl_DueBy.l0 k x1 x5 x9 x10 (wrap64 (x11 + 1)))) else (none)) else (none)) else ((slices_Sort.f x5).bind fun t268 => (some t268))
def impl_DueBy.f (k : Nat) (a0_0 : Int) (l0_1 : List (List (S46))) (l0_2 : List (List (S46))) (l0_3 : List (S46)) (a1 : Int) : Option (List Int) := (impl_Timers.f k a0_0 l0_1 l0_2 l0_3).bind fun t260 => (impl_DueBy.l0 k a1 ([] : List Int) t260 (t260.length : Int) 0)
set_option maxHeartbeats 8000000 in
set_option maxRecDepth 100000 in
theorem impl_DueBy.calls (k : Nat) (a0_0 : Int) (A0_1 : Option Addr) (c0_1 : Nat) (l0_1 : List (List (S46))) (A0_2 : Option Addr) (c0_2 : Nat) (l0_2 : List (List (S46))) (A0_3 : Option Addr) (c0_3 : Nat) (l0_3 : List (S46)) (a1 : Int) (r : List Int) (w : World) (hr0_1 : Kd.C (Kd.slice 46 k46) w A0_1 l0_1.length l0_1) (hc0_1 : l0_1.length ≤ c0_1) (hr0_2 : Kd.C (Kd.slice 46 k46) w A0_2 l0_2.length l0_2) (hc0_2 : l0_2.length ≤ c0_2) (hr0_3 : Kd.C k46 w A0_3 l0_3.length l0_3) (hc0_3 : l0_3.length ≤ c0_3) (h : impl_DueBy.f k a0_0 l0_1 l0_2 l0_3 a1 = some r) :
  Calls Try.prog 41 #[.agg #[.int .i64 a0_0, .slice A0_1 l0_1.length c0_1, .slice A0_2 l0_2.length c0_2, .slice A0_3 l0_3.length c0_3], .int .i64 a1] w fun e w' => ∃ v0_ : Value, e = .returned (v0_) ∧ Kd.R (Kd.int .i64) 3 w' w.heap.size (fun _ => True) v0_ r ∧ Below w.heap.size w w' := by
 have hu25 := Try.underlying25
 have hu46 := Try.underlying46
 have HR0_1 := aM hr0_1
 have HC0_1 := aM hc0_1
 clear hr0_1 hc0_1
 have HR0_2 := aM hr0_2
 have HC0_2 := aM hc0_2
 clear hr0_2 hc0_2
 have HR0_3 := aM hr0_3
 have HC0_3 := aM hc0_3
 clear hr0_3 hc0_3
 have HB := aM (Below.refl w.heap.size w)
 unfold impl_DueBy.f at h; have H := h
 clear h
 obtain ⟨t260, A3, H⟩ := zO H; try dsimp only at H
 have H' := aM H
 clear H
 go_enter Try.func41, Try.ntmps41
 go_wp2_with (first | ((with_reducible refine gD 2 rfl ?_); refine bE 2 #[.int .i64 a0_0, .slice A0_1 l0_1.length c0_1, .slice A0_2 l0_2.length c0_2, .slice A0_3 l0_3.length c0_3] 25 ?_; intro gb259 hg w4 hbox hb; have BK259 := aM hbox; have GW259 := aM (zg (zL HB.out) hg : w.heap.size ≤ gb259); have GE259 := GW259; replace HB := zLB (zL HB.out) hb; clear hb hbox hg; have hcz5 := zc4 BK259.out; have hfz5 := zf4 BK259.out) | ((with_reducible refine gC 25 rfl ?_); refine gL 9 Try.func25 #[.agg #[.int .i64 a0_0, .slice A0_1 l0_1.length c0_1, .slice A0_2 l0_2.length c0_2, .slice A0_3 l0_3.length c0_3]] ?_; (with_reducible refine (impl_Timers.calls k a0_0 _ _ l0_1 _ _ l0_2 _ _ l0_3 t260 _ ?side1 ?side2 ?side3 ?side4 ?side5 ?side6 A3.out).mono ?_); (case side1 => exact zC (Kd.C_below HR0_1.out HB.out)); (case side2 => exact HC0_1.out); (case side3 => exact zC (Kd.C_below HR0_2.out HB.out)); (case side4 => exact HC0_2.out); (case side5 => exact zC (Kd.C_below HR0_3.out HB.out)); (case side6 => exact HC0_3.out); rintro e w6 ⟨v261, rfl, ho0, hb⟩; refine ⟨_, rfl, ?_⟩; have HO262 := aM (Kd.R_lower ho0 (below_size (zL1 HB.out GE259.out))); replace BK259 := zBB BK259 hb; replace HB := zLB (zL1 HB.out GE259.out) hb; clear ho0 hb; obtain ⟨Ao7, co7, eo7⟩ := Kd.R_slice HO262.out; subst eo7))
 go_loopg [5, 11] k (fun kq v5 v11 w' => ∃ (x5_1 : List Int) (x11_1 : Int), v11 = .int .i64 x11_1 ∧ Aside0 (impl_DueBy.l0 kq a1 x5_1 t260 (t260.length : Int) x11_1 = some r) ∧ Aside0 (kq ≤ k) ∧ Aside0 (Kd.R (Kd.int .i64) 3 w' w.heap.size (fun _ => True) v5 x5_1) ∧ Aside0 (Kd.R k46 46 w' w.heap.size (fun _ => True) (.slice Ao7 t260.length co7) t260) ∧ Aside0 (w'.heap[gb259]? = some (.cells #[.int .i64 a0_0, (.slice A0_1 l0_1.length c0_1), (.slice A0_2 l0_2.length c0_2), (.slice A0_3 l0_3.length c0_3)] 25 (0, 0))) ∧ Aside0 (Below w.heap.size w w'))
 case atStart => exact ⟨(([] : List Int)), (0), zV, H', ⟨Nat.le_refl _⟩, ⟨by first | exact Kd.R_nil _ _ _ _ _ | exact Kd.N_nil _ _ _ _ _ | exact Kd.V_nil _ _ _ _ _ | exact Kd.Q_nil _ _ _ _ _ | exact Kd.S_nil _ _ _ _ _⟩, ⟨zR HO262.out⟩, ⟨zB BK259.out⟩, ⟨zL1 HB.out GE259.out⟩⟩
 case round =>
  clear H'
  try clear c2
  try clear p2
  try clear c4
  try clear hcz5; try clear hfz5
  try clear BK259
  obtain ⟨x5_1, x11_1, rfl, HA, HK1, HO_5, HO_9, BK259, HB⟩ := hrel
  cases gk with
  | zero => exact absurd HA.out (by simp [impl_DueBy.l0])
  | succ k1 =>
   have H := HA.out
   clear HA
   simp only [impl_DueBy.l0] at H
   by_cases c8 : x11_1 < (t260.length : Int)
   ·rw [if_pos c8] at H
    have c8b0 := dT c8
    clear c8
    by_cases c9 : 0 ≤ x11_1
    ·rw [if_pos c9] at H
     have c9b0 := dT c9
     clear c9
     by_cases c10 : x11_1 < (t260.length : Int)
     ·rw [if_pos c10] at H
      have c10b0 := dT c10
      clear c10
      by_cases c11 : ((rd_T46 t260 x11_1).f2) ≤ a1
      ·rw [if_pos c11] at H
       have c11b0 := dT c11
       clear c11
       by_cases c12 : x5_1.length < 17592186044416
       ·rw [if_pos c12] at H
        have LMc12 := aM c12
        clear c12
        generalize hy265 : (x5_1 ++ [(rd_T46 t260 x11_1).f0]) = y265 at H; (try rw [Option.bind_some] at H); have Ny265 := aM hy265.symm; clear hy265
        have H' := aM H
        clear H
        have p263 : 0 ≤ (x11_1 : Int) := zD
        have q263 : x11_1 < (t260.length : Int) := zD
        obtain ⟨ad263, e263, hx263_0, hx263_1, hx263_2⟩ := at_T46 (Kd.R_reads' HO_9.out).2.2 x11_1 p263 q263
        cases e263
        replace p263 := eq_true p263
        replace q263 := eq_true q263
        go_wp2_with (first | ((with_reducible refine gD 7 rfl ?_); refine bE 7 #[.int .i64 0, .int .i64 0, .int .i64 0] 46 ?_; intro gb264 hg w13 hbox hb; replace HO_5 := zRB HO_5 hb; replace HO_9 := aM (Kd.R_below (Kd.R_elderB (zR HO_9.out) gb264 (Nat.le_of_eq hg.symm)) hb); have BK264 := aM hbox; have GW264 := aM (zg (zL1 HB.out GE259.out) hg : w.heap.size ≤ gb264); have GE264 := GW264; replace HB := zLB (zL1 HB.out GE259.out) hb; have NB259_264 := aM (zN BK259.out hg : gb259 ≠ gb264); have NB264_259 := aM (zM BK259.out hg : gb264 ≠ gb259); replace BK259 := zBB BK259 hb; clear hb hbox hg; have hnb14 := NB264_259.out; have hnc14 := NB259_264.out; have hcz15_0 : w13.cell? ⟨gb264, 0, none⟩ = some (.int .i64 0) := (bC BK264.out 0).trans rfl; have hcz15_1 : w13.cell? ⟨gb264, 1, none⟩ = some (.int .i64 0) := (bC BK264.out 1).trans rfl; have hcz15_2 : w13.cell? ⟨gb264, 2, none⟩ = some (.int .i64 0) := (bC BK264.out 2).trans rfl; have hfz15_0 := blk_frozen BK264.out 0; have hfz15_1 := blk_frozen BK264.out 1; have hfz15_2 := blk_frozen BK264.out 2) | ((with_reducible refine gate_builtin (b := .append) (xs := #[.tmp 19, .tmp 22]) rfl ?_); at_builtin; refine Kd.R_append (Kd.int .i64) (w0 := w) w.heap.size rfl (.tmp 19) (.tmp 22) 54 3 (.int .i64 0) 8 rfl Try.underlying54 info3 rfl (by decide) (by omega) u5 x5_1 ((rd_T46 t260 x11_1).f0) [.int .i64 ((rd_T46 t260 x11_1).f0)] (fun _ => True) (fun _ => False) rfl (by first | (go_simp; done) | (go_simp; rfl)) ?aP (fun _ hk => hk.elim) ?aF ?aO ?aB ?aS ?aL ?_; (case aP => exact rfl); (case aB => exact (zL2 HB.out GE259.out GE264.out)); (case aF => exact (fun _ _ => trivial)); (case aO => exact (by (with_reducible repeat (first | apply Kd.R_alloc | apply Kd.R_drewN | apply Kd.R_drew)); exact Kd.R_mono (Kd.R_far (p := ⟨gb264, 2, none⟩) (Kd.R_far (p := ⟨gb264, 1, none⟩) (Kd.R_far (p := ⟨gb264, 0, none⟩) (Kd.R_types HO_5.out BK264.out (by decide)) (fun _ hk => hk.2) (.int .i64 ((rd_T46 t260 x11_1).f0))) (fun _ hk => hk.2) (.int .i64 ((rd_T46 t260 x11_1).f1))) (fun _ hk => hk.2) (.int .i64 ((rd_T46 t260 x11_1).f2))) (fun _ hk => trivial))); (case aS => exact (below_size (zL2 HB.out GE259.out GE264.out))); (case aL => have := LMc12.out; omega); intro v266 w16 ho hb hg hat; rw [← Ny265.out] at ho; replace HO_9 := aM (Kd.R_over' (by (with_reducible repeat (first | apply Kd.R_alloc | apply Kd.R_drewN | apply Kd.R_drew)); exact (Kd.R_mono (Kd.R_far (p := ⟨gb264, 2, none⟩) (Kd.R_far (p := ⟨gb264, 1, none⟩) (Kd.R_far (p := ⟨gb264, 0, none⟩) (Kd.R_mono HO_9.out (fun k_ hk => (⟨hk, hk.2⟩ : _ ∧ k_ ≠ gb264))) (fun _ hk => hk.2) (.int .i64 ((rd_T46 t260 x11_1).f0))) (fun _ hk => hk.2) (.int .i64 ((rd_T46 t260 x11_1).f1))) (fun _ hk => hk.2) (.int .i64 ((rd_T46 t260 x11_1).f2))) (fun _ h_ => h_.1))) (Kd.R_typed (by (with_reducible repeat (first | apply Kd.R_alloc | apply Kd.R_drewN | apply Kd.R_drew)); exact (Kd.R_mono (Kd.R_far (p := ⟨gb264, 2, none⟩) (Kd.R_far (p := ⟨gb264, 1, none⟩) (Kd.R_far (p := ⟨gb264, 0, none⟩) (Kd.R_types HO_5.out BK264.out (by decide)) (fun _ hk => hk.2) (.int .i64 ((rd_T46 t260 x11_1).f0))) (fun _ hk => hk.2) (.int .i64 ((rd_T46 t260 x11_1).f1))) (fun _ hk => hk.2) (.int .i64 ((rd_T46 t260 x11_1).f2))) (fun _ h_ => h_.1)))) (by decide) hg); replace BK259 := aM (blk_grown (g := gb259) (o := .cells #[.int .i64 a0_0, .slice A0_1 l0_1.length c0_1, .slice A0_2 l0_2.length c0_2, .slice A0_3 l0_3.length c0_3] 25 (0, 0)) (by (with_reducible repeat (first | refine bN ?_ _ | refine bD ?_ | refine bA ?_ _)); refine blk_far ?_ NB259_264.out _; (with_reducible repeat (first | refine bN ?_ _ | refine bD ?_ | refine bA ?_ _)); refine blk_far ?_ NB259_264.out _; (with_reducible repeat (first | refine bN ?_ _ | refine bD ?_ | refine bA ?_ _)); refine blk_far ?_ NB259_264.out _; exact zB BK259.out) hg (Kd.R_ne HO_5.out BK259.out (by decide))); replace BK264 := aM (blk_grown (g := gb264) (o := .cells #[.int .i64 ((rd_T46 t260 x11_1).f0), .int .i64 ((rd_T46 t260 x11_1).f1), .int .i64 ((rd_T46 t260 x11_1).f2)] 46 (0, 0)) (by (with_reducible repeat (first | refine bN ?_ _ | refine bD ?_ | refine bA ?_ _)); refine blk_put (cs := #[.int .i64 ((rd_T46 t260 x11_1).f0), .int .i64 ((rd_T46 t260 x11_1).f1), .int .i64 0]) ?_ 2 _ rfl; (with_reducible repeat (first | refine bN ?_ _ | refine bD ?_ | refine bA ?_ _)); refine blk_put (cs := #[.int .i64 ((rd_T46 t260 x11_1).f0), .int .i64 0, .int .i64 0]) ?_ 1 _ rfl; (with_reducible repeat (first | refine bN ?_ _ | refine bD ?_ | refine bA ?_ _)); refine blk_put (cs := #[.int .i64 0, .int .i64 0, .int .i64 0]) ?_ 0 _ rfl; exact zB BK264.out) hg (Kd.R_ne HO_5.out BK264.out (by decide))); replace HB := aM hb; have HO267 := aM (ho); clear HO_5; clear ho hb hg hat))
        go_roundg k1
        case measure => have := HK1.out; omega
        case rel => exact ⟨(y265), (wrap64 (x11_1 + 1)), zV, H', ⟨by have := HK1.out; omega⟩, ⟨zR HO267.out⟩, ⟨zRm HO_9.out (fun _ hk => trivial)⟩, ⟨zB BK259.out⟩, ⟨zL2 HB.out GE259.out GE264.out⟩⟩
       ·rw [if_neg c12] at H
        exact absurd H (by simp)
      ·rw [if_neg c11] at H
       have c11b0 := dF c11
       clear c11
       have H' := aM H
       clear H
       have p263 : 0 ≤ (x11_1 : Int) := zD
       have q263 : x11_1 < (t260.length : Int) := zD
       obtain ⟨ad263, e263, hx263_0, hx263_1, hx263_2⟩ := at_T46 (Kd.R_reads' HO_9.out).2.2 x11_1 p263 q263
       cases e263
       replace p263 := eq_true p263
       replace q263 := eq_true q263
       go_wp2_with (first | ((with_reducible refine gD 7 rfl ?_); refine bE 7 #[.int .i64 0, .int .i64 0, .int .i64 0] 46 ?_; intro gb264 hg w17 hbox hb; replace HO_5 := zRB HO_5 hb; replace HO_9 := aM (Kd.R_below (Kd.R_elderB (zR HO_9.out) gb264 (Nat.le_of_eq hg.symm)) hb); have BK264 := aM hbox; have GW264 := aM (zg (zL1 HB.out GE259.out) hg : w.heap.size ≤ gb264); have GE264 := GW264; replace HB := zLB (zL1 HB.out GE259.out) hb; have NB259_264 := aM (zN BK259.out hg : gb259 ≠ gb264); have NB264_259 := aM (zM BK259.out hg : gb264 ≠ gb259); replace BK259 := zBB BK259 hb; clear hb hbox hg; have hnb18 := NB264_259.out; have hnc18 := NB259_264.out; have hcz19_0 : w17.cell? ⟨gb264, 0, none⟩ = some (.int .i64 0) := (bC BK264.out 0).trans rfl; have hcz19_1 : w17.cell? ⟨gb264, 1, none⟩ = some (.int .i64 0) := (bC BK264.out 1).trans rfl; have hcz19_2 : w17.cell? ⟨gb264, 2, none⟩ = some (.int .i64 0) := (bC BK264.out 2).trans rfl; have hfz19_0 := blk_frozen BK264.out 0; have hfz19_1 := blk_frozen BK264.out 1; have hfz19_2 := blk_frozen BK264.out 2))
       go_roundg k1
       case measure => have := HK1.out; omega
       case rel => exact ⟨(x5_1), (wrap64 (x11_1 + 1)), zV, H', ⟨by have := HK1.out; omega⟩, ⟨by (with_reducible repeat (first | apply Kd.R_alloc | apply Kd.R_drewN | apply Kd.R_drew)); exact Kd.R_mono (Kd.R_far (p := ⟨gb264, 2, none⟩) (Kd.R_far (p := ⟨gb264, 1, none⟩) (Kd.R_far (p := ⟨gb264, 0, none⟩) (Kd.R_types HO_5.out BK264.out (by decide)) (fun _ hk => hk.2) (.int .i64 ((rd_T46 t260 x11_1).f0))) (fun _ hk => hk.2) (.int .i64 ((rd_T46 t260 x11_1).f1))) (fun _ hk => hk.2) (.int .i64 ((rd_T46 t260 x11_1).f2))) (fun _ hk => trivial)⟩, ⟨by (with_reducible repeat (first | apply Kd.R_alloc | apply Kd.R_drewN | apply Kd.R_drew)); exact Kd.R_mono (Kd.R_far (p := ⟨gb264, 2, none⟩) (Kd.R_far (p := ⟨gb264, 1, none⟩) (Kd.R_far (p := ⟨gb264, 0, none⟩) (Kd.R_mono HO_9.out (fun k_ hk => (⟨hk, hk.2⟩ : _ ∧ k_ ≠ gb264))) (fun _ hk => hk.2) (.int .i64 ((rd_T46 t260 x11_1).f0))) (fun _ hk => hk.2) (.int .i64 ((rd_T46 t260 x11_1).f1))) (fun _ hk => hk.2) (.int .i64 ((rd_T46 t260 x11_1).f2))) (fun _ hk => trivial)⟩, ⟨by (with_reducible repeat (first | refine bN ?_ _ | refine bD ?_ | refine bA ?_ _)); refine blk_far ?_ NB259_264.out _; (with_reducible repeat (first | refine bN ?_ _ | refine bD ?_ | refine bA ?_ _)); refine blk_far ?_ NB259_264.out _; (with_reducible repeat (first | refine bN ?_ _ | refine bD ?_ | refine bA ?_ _)); refine blk_far ?_ NB259_264.out _; exact zB BK259.out⟩, ⟨zL2 HB.out GE259.out GE264.out⟩⟩
     ·rw [if_neg c10] at H
      exact absurd H (by simp)
    ·rw [if_neg c9] at H
     exact absurd H (by simp)
   ·rw [if_neg c8] at H
    have c8b0 := dF c8
    clear c8
    obtain ⟨t268, A20, H⟩ := zO H; try dsimp only at H
    obtain rfl := Option.some.inj H
    obtain ⟨Ao21, co21, eo21⟩ := Kd.R_slice HO_5.out
    subst eo21
    go_wp2_with (first | ((with_reducible refine gC 79 rfl ?_); refine gL 26 Try.func79 #[.slice Ao21 x5_1.length co21] ?_; (with_reducible refine (slices_Sort.calls (fun k_ => some k_ = (.slice Ao21 x5_1.length co21 : Value).ownBlock) (.slice Ao21 x5_1.length co21) x5_1 t268 w _ ?side1 ?side2 A20.out).mono ?_); (case side1 => exact zL1 HB.out GE259.out); (case side2 => exact Kd.R_tight rfl HO_5.out); rintro e w22 ⟨rfl, hy0, hb, hkp⟩; refine ⟨_, rfl, ?_⟩; replace HO_9 := aM (Kd.R_mono (ok' := fun k_ => True) (Kd.R_keptB ((Kd.R_apart' HO_9.out (Kd.R_typed HO_5.out) (by decide))) hkp (fun k_ hk_ hs_ => (hk_.2) hs_)) (fun k_ hk_ => trivial)); replace BK259 := aM (blk_kept (zB BK259.out) hkp (fun hs_ => (fun e_ => (Kd.R_ne HO_5.out BK259.out (by decide)) e_) hs_)); replace HO_5 := aM (Kd.R_reok rfl hy0 (fun k_ e_ => HO_5.out.1 k_ e_)); replace HB := aM hb; (try clear hb); (try clear hkp); (try clear hy0)))
    go_ret
    exact ⟨_, zW, zR HO_5.out, zL1 HB.out GE259.out⟩

open Go.Proofs.YtggenhomnbnodaaW.PrintWords renaming blk_drewN → bN, blk_drew → bD, blk_alloc → bA, blk_cell → bC, blk_below → bB, below_set → bS
def laws_big.f (l0 : List Int) : Option (Bool) := some (decide ((l0.length : Int) > 1048576))
set_option maxHeartbeats 8000000 in
set_option maxRecDepth 100000 in
theorem laws_big.calls (A0 : Option Addr) (c0 : Nat) (l0 : List Int) (r : Bool) (w : World) (hr0 : Kd.C (Kd.int .u8) w A0 l0.length l0) (hc0 : l0.length ≤ c0) (h : laws_big.f l0 = some r) :
  Calls Try.prog 45 #[.slice A0 l0.length c0] w fun e w' => e = .returned (.bool r) ∧ Drawn0 w w' := by
 have HR0 := aM hr0
 have HC0 := aM hc0
 clear hr0 hc0
 unfold laws_big.f at h; have H := h
 clear h
 obtain rfl := Option.some.inj H
 go_enter Try.func45, Try.ntmps45
 go_wp2
 go_ret
 exact ⟨zV, zU⟩

open Go.Proofs.YtggenhomnbnodaaW.PrintWords renaming blk_drewN → bN, blk_drew → bD, blk_alloc → bA, blk_cell → bC, blk_below → bB, below_set → bS
def laws_sameTimers.l0 : Nat → List (S46) → List (S46) → Int → Option (Bool)
 | 0, _, _, _ => none
 | k + 1, x0, x1, x5 => if x5 < (x0.length : Int) then (if 0 ≤ x5 then (if x5 < (x1.length : Int) then (if (!(((rd_T46 x0 x5).f0) == ((rd_T46 x1 x5).f0)) || (!(((rd_T46 x0 x5).f1) == ((rd_T46 x1 x5).f1)) || (!(((rd_T46 x0 x5).f2) == ((rd_T46 x1 x5).f2))))) = true then (some false) else (laws_sameTimers.l0 k x0 x1 (wrap64 (x5 + 1)))) else (none)) else (none)) else (some true)
def laws_sameTimers.f (k : Nat) (l0 : List (S46)) (l1 : List (S46)) : Option (Bool) := if (l0.length : Int) = (l1.length : Int) then (laws_sameTimers.l0 k l0 l1 0) else (some false)
set_option maxHeartbeats 8000000 in
set_option maxRecDepth 100000 in
theorem laws_sameTimers.calls (k : Nat) (A0 : Option Addr) (c0 : Nat) (l0 : List (S46)) (A1 : Option Addr) (c1 : Nat) (l1 : List (S46)) (r : Bool) (w : World) (hr0 : Kd.C k46 w A0 l0.length l0) (hc0 : l0.length ≤ c0) (hr1 : Kd.C k46 w A1 l1.length l1) (hc1 : l1.length ≤ c1) (h : laws_sameTimers.f k l0 l1 = some r) :
  Calls Try.prog 51 #[.slice A0 l0.length c0, .slice A1 l1.length c1] w fun e w' => e = .returned (.bool r) ∧ Drawn0 w w' := by
 have hu46 := Try.underlying46
 have HR0 := aM hr0
 have HC0 := aM hc0
 clear hr0 hc0
 have HR1 := aM hr1
 have HC1 := aM hc1
 clear hr1 hc1
 unfold laws_sameTimers.f at h; have H := h
 clear h
 by_cases c3 : (l0.length : Int) = (l1.length : Int)
 ·rw [if_pos c3] at H
  obtain ⟨c3b0, c3b1⟩ := zt c3
  have c3b2 : (l0.length == l1.length) = true := by first | simpa using c3 | (simp at c3 ⊢; omega)
  clear c3
  have H' := aM H
  clear H
  go_enter Try.func51, Try.ntmps51
  go_wp2
  repeat (go_quiet (fail); try go_wp2)
  go_loopg [5] k (fun kq v5 w' => ∃ (x5_1 : Int), v5 = .int .i64 x5_1 ∧ Aside0 (laws_sameTimers.l0 kq l0 l1 x5_1 = some r) ∧ Aside0 (kq ≤ k) ∧ Drawn0 w w')
  case atStart => exact ⟨(0), zV, H', ⟨Nat.le_refl _⟩, zU⟩
  case round =>
   clear H'
   try clear c1
   try clear p2
   try clear c3
   try clear c3b0
   try clear c3b1
   try clear c3b2
   obtain ⟨x5_1, rfl, HA, HK1, ⟨m1, rfl⟩⟩ := hrel
   cases gk with
   | zero => exact absurd HA.out (by simp [laws_sameTimers.l0])
   | succ k1 =>
    have H := HA.out
    clear HA
    simp only [laws_sameTimers.l0] at H
    by_cases c4 : x5_1 < (l0.length : Int)
    ·rw [if_pos c4] at H
     have c4b0 := dT c4
     clear c4
     by_cases c5 : 0 ≤ x5_1
     ·rw [if_pos c5] at H
      have c5b0 := dT c5
      clear c5
      by_cases c6 : x5_1 < (l1.length : Int)
      ·rw [if_pos c6] at H
       have c6b0 := dT c6
       clear c6
       by_cases c7 : (!(((rd_T46 l0 x5_1).f0) == ((rd_T46 l1 x5_1).f0)) || (!(((rd_T46 l0 x5_1).f1) == ((rd_T46 l1 x5_1).f1)) || (!(((rd_T46 l0 x5_1).f2) == ((rd_T46 l1 x5_1).f2))))) = true
       ·rw [if_pos c7] at H
        have c7b0 := c7
        clear c7
        obtain rfl := Option.some.inj H
        have p269 : 0 ≤ (x5_1 : Int) := zD
        have q269 : x5_1 < (l0.length : Int) := zD
        obtain ⟨ad269, e269, hx269_0, hx269_1, hx269_2⟩ := at_T46 HR0.out x5_1 p269 q269
        cases e269
        replace p269 := eq_true p269
        replace q269 := eq_true q269
        have p270 : 0 ≤ (x5_1 : Int) := zD
        have q270 : x5_1 < (l1.length : Int) := zD
        obtain ⟨ad270, e270, hx270_0, hx270_1, hx270_2⟩ := at_T46 HR1.out x5_1 p270 q270
        cases e270
        replace p270 := eq_true p270
        replace q270 := eq_true q270
        go_wp2
        repeat (go_quiet (fail); try go_wp2)
        go_ret
        exact ⟨zV, zU⟩
       ·rw [if_neg c7] at H
        have c7b0 : (!(((rd_T46 l0 x5_1).f0) == ((rd_T46 l1 x5_1).f0)) || (!(((rd_T46 l0 x5_1).f1) == ((rd_T46 l1 x5_1).f1)) || (!(((rd_T46 l0 x5_1).f2) == ((rd_T46 l1 x5_1).f2))))) = false := by simpa using c7
        clear c7
        have H' := aM H
        clear H
        have p269 : 0 ≤ (x5_1 : Int) := zD
        have q269 : x5_1 < (l0.length : Int) := zD
        obtain ⟨ad269, e269, hx269_0, hx269_1, hx269_2⟩ := at_T46 HR0.out x5_1 p269 q269
        cases e269
        replace p269 := eq_true p269
        replace q269 := eq_true q269
        have p270 : 0 ≤ (x5_1 : Int) := zD
        have q270 : x5_1 < (l1.length : Int) := zD
        obtain ⟨ad270, e270, hx270_0, hx270_1, hx270_2⟩ := at_T46 HR1.out x5_1 p270 q270
        cases e270
        replace p270 := eq_true p270
        replace q270 := eq_true q270
        go_wp2
        repeat (go_quiet (fail); try go_wp2)
        go_roundg k1
        case measure => have := HK1.out; omega
        case rel => exact ⟨(wrap64 (x5_1 + 1)), zV, H', ⟨by have := HK1.out; omega⟩, zU⟩
      ·rw [if_neg c6] at H
       exact absurd H (by simp)
     ·rw [if_neg c5] at H
      exact absurd H (by simp)
    ·rw [if_neg c4] at H
     have c4b0 := dF c4
     clear c4
     obtain rfl := Option.some.inj H
     go_wp2
     repeat (go_quiet (fail); try go_wp2)
     go_ret
     exact ⟨zV, zU⟩
 ·rw [if_neg c3] at H
  obtain ⟨c3b0, c3b1⟩ := zf c3
  have c3b2 : (l0.length == l1.length) = false := by first | simpa using c3 | (simp at c3 ⊢; omega)
  obtain rfl := Option.some.inj H
  go_enter Try.func51, Try.ntmps51
  go_wp2
  repeat (go_quiet (fail); try go_wp2)
  go_ret
  exact ⟨zV, zU⟩

open Go.Proofs.YtggenhomnbnodaaW.PrintWords renaming blk_drewN → bN, blk_drew → bD, blk_alloc → bA, blk_cell → bC, blk_below → bB, below_set → bS
mutual
def laws_sameWheel.j0 : Nat → Bool → Int → List (List (S46)) → List (List (S46)) → List (S46) → Int → List (List (S46)) → List (List (S46)) → List (S46) → Option (Bool)
 | 0, _, _, _, _, _, _, _, _, _ => none
 | k + 1, x37, x272000, x272001, x272002, x272003, x273000, x273001, x273002, x273003 => if x37 = true then (some false) else (laws_sameWheel.l0 k 0 x272000 x272001 x272002 x272003 x273000 x273001 x273002 x273003)
def laws_sameWheel.l0 : Nat → Int → Int → List (List (S46)) → List (List (S46)) → List (S46) → Int → List (List (S46)) → List (List (S46)) → List (S46) → Option (Bool)
 | 0, _, _, _, _, _, _, _, _, _ => none
 | k + 1, x5, x272000, x272001, x272002, x272003, x273000, x273001, x273002, x273003 => if x5 < (x272001.length : Int) then (if 0 ≤ x5 then (if x5 < (x273001.length : Int) then ((laws_sameTimers.f k (rd_L2 x272001 x5) (rd_L2 x273001 x5)).bind fun t276 => (if t276 = true then (laws_sameWheel.l0 k (wrap64 (x5 + 1)) x272000 x272001 x272002 x272003 x273000 x273001 x273002 x273003) else (some false))) else (none)) else (none)) else (laws_sameWheel.l1 k 0 x272000 x272001 x272002 x272003 x273000 x273001 x273002 x273003)
def laws_sameWheel.l1 : Nat → Int → Int → List (List (S46)) → List (List (S46)) → List (S46) → Int → List (List (S46)) → List (List (S46)) → List (S46) → Option (Bool)
 | 0, _, _, _, _, _, _, _, _, _ => none
 | k + 1, x6, x272000, x272001, x272002, x272003, x273000, x273001, x273002, x273003 => if x6 < (x272002.length : Int) then (if 0 ≤ x6 then (if x6 < (x273002.length : Int) then ((laws_sameTimers.f k (rd_L2 x272002 x6) (rd_L2 x273002 x6)).bind fun t279 => (if t279 = true then (laws_sameWheel.l1 k (wrap64 (x6 + 1)) x272000 x272001 x272002 x272003 x273000 x273001 x273002 x273003) else (some false))) else (none)) else (none)) else (some true)
end
def laws_sameWheel.f (k : Nat) (a0_0 : Int) (l0_1 : List (List (S46))) (l0_2 : List (List (S46))) (l0_3 : List (S46)) (a1_0 : Int) (l1_1 : List (List (S46))) (l1_2 : List (List (S46))) (l1_3 : List (S46)) : Option (Bool) := if a0_0 = a1_0 then (if (l0_1.length : Int) = (l1_1.length : Int) then (if (l0_2.length : Int) = (l1_2.length : Int) then ((laws_sameTimers.f k l0_3 l1_3).bind fun t273 => (laws_sameWheel.j0 k (!t273) a0_0 l0_1 l0_2 l0_3 a1_0 l1_1 l1_2 l1_3)) else (laws_sameWheel.j0 k true a0_0 l0_1 l0_2 l0_3 a1_0 l1_1 l1_2 l1_3)) else (laws_sameWheel.j0 k true a0_0 l0_1 l0_2 l0_3 a1_0 l1_1 l1_2 l1_3)) else (laws_sameWheel.j0 k true a0_0 l0_1 l0_2 l0_3 a1_0 l1_1 l1_2 l1_3)
set_option maxHeartbeats 8000000 in
set_option maxRecDepth 100000 in
theorem laws_sameWheel.calls (k : Nat) (a0_0 : Int) (A0_1 : Option Addr) (c0_1 : Nat) (l0_1 : List (List (S46))) (A0_2 : Option Addr) (c0_2 : Nat) (l0_2 : List (List (S46))) (A0_3 : Option Addr) (c0_3 : Nat) (l0_3 : List (S46)) (a1_0 : Int) (A1_1 : Option Addr) (c1_1 : Nat) (l1_1 : List (List (S46))) (A1_2 : Option Addr) (c1_2 : Nat) (l1_2 : List (List (S46))) (A1_3 : Option Addr) (c1_3 : Nat) (l1_3 : List (S46)) (r : Bool) (w : World) (hr0_1 : Kd.C (Kd.slice 46 k46) w A0_1 l0_1.length l0_1) (hc0_1 : l0_1.length ≤ c0_1) (hr0_2 : Kd.C (Kd.slice 46 k46) w A0_2 l0_2.length l0_2) (hc0_2 : l0_2.length ≤ c0_2) (hr0_3 : Kd.C k46 w A0_3 l0_3.length l0_3) (hc0_3 : l0_3.length ≤ c0_3) (hr1_1 : Kd.C (Kd.slice 46 k46) w A1_1 l1_1.length l1_1) (hc1_1 : l1_1.length ≤ c1_1) (hr1_2 : Kd.C (Kd.slice 46 k46) w A1_2 l1_2.length l1_2) (hc1_2 : l1_2.length ≤ c1_2) (hr1_3 : Kd.C k46 w A1_3 l1_3.length l1_3) (hc1_3 : l1_3.length ≤ c1_3) (h : laws_sameWheel.f k a0_0 l0_1 l0_2 l0_3 a1_0 l1_1 l1_2 l1_3 = some r) :
  Calls Try.prog 50 #[.agg #[.int .i64 a0_0, .slice A0_1 l0_1.length c0_1, .slice A0_2 l0_2.length c0_2, .slice A0_3 l0_3.length c0_3], .agg #[.int .i64 a1_0, .slice A1_1 l1_1.length c1_1, .slice A1_2 l1_2.length c1_2, .slice A1_3 l1_3.length c1_3]] w fun e w' => e = .returned (.bool r) ∧ Below w.heap.size w w' := by
 have hu25 := Try.underlying25
 have HR0_1 := aM hr0_1
 have HC0_1 := aM hc0_1
 clear hr0_1 hc0_1
 have HR0_2 := aM hr0_2
 have HC0_2 := aM hc0_2
 clear hr0_2 hc0_2
 have HR0_3 := aM hr0_3
 have HC0_3 := aM hc0_3
 clear hr0_3 hc0_3
 have HR1_1 := aM hr1_1
 have HC1_1 := aM hc1_1
 clear hr1_1 hc1_1
 have HR1_2 := aM hr1_2
 have HC1_2 := aM hc1_2
 clear hr1_2 hc1_2
 have HR1_3 := aM hr1_3
 have HC1_3 := aM hc1_3
 clear hr1_3 hc1_3
 have HB := aM (Below.refl w.heap.size w)
 unfold laws_sameWheel.f at h; have H := h
 clear h
 have HC3 := aM H
 clear H
 go_enter Try.func50, Try.ntmps50
 go_upto_region 1 with (first | ((with_reducible refine gD 2 rfl ?_); (try (refine gate_guard (by rfl) ?_; dsimp only)); refine box_event ?hg (N := 2) ?hd (cs := #[.int .i64 a0_0, .slice A0_1 l0_1.length c0_1, .slice A0_2 l0_2.length c0_2, .slice A0_3 l0_3.length c0_3]) (t := 25) ?hr ?_; (case hd => rfl); (case hg => rfl); (case hr => first | (go_simp; done) | (go_simp; rfl)); intro gb271 hg w4 hbox hb; have BK271 := aM hbox; have GW271 := aM (zg (zL HB.out) hg : w.heap.size ≤ gb271); have GE271 := GW271; replace HB := zLB (zL HB.out) hb; clear hb hbox hg) | ((with_reducible refine gD 3 rfl ?_); (try (refine gate_guard (by rfl) ?_; dsimp only)); refine box_event ?hg (N := 3) ?hd (cs := #[.int .i64 a1_0, .slice A1_1 l1_1.length c1_1, .slice A1_2 l1_2.length c1_2, .slice A1_3 l1_3.length c1_3]) (t := 25) ?hr ?_; (case hd => rfl); (case hg => rfl); (case hr => first | (go_simp; done) | (go_simp; rfl)); intro gb272 hg w5 hbox hb; have BK272 := aM hbox; have GW272 := aM (zg (zL1 HB.out GE271.out) hg : w.heap.size ≤ gb272); have GE272 := GW272; replace HB := zLB (zL1 HB.out GE271.out) hb; have NB271_272 := aM (zN BK271.out hg : gb271 ≠ gb272); have NB272_271 := aM (zM BK271.out hg : gb272 ≠ gb271); replace BK271 := zBB BK271 hb; clear hb hbox hg))
 repeat (go_quiet (first | ((with_reducible refine gD 2 rfl ?_); (try (refine gate_guard (by rfl) ?_; dsimp only)); refine box_event ?hg (N := 2) ?hd (cs := #[.int .i64 a0_0, .slice A0_1 l0_1.length c0_1, .slice A0_2 l0_2.length c0_2, .slice A0_3 l0_3.length c0_3]) (t := 25) ?hr ?_; (case hd => rfl); (case hg => rfl); (case hr => first | (go_simp; done) | (go_simp; rfl)); intro gb271 hg w4 hbox hb; have BK271 := aM hbox; have GW271 := aM (zg (zL HB.out) hg : w.heap.size ≤ gb271); have GE271 := GW271; replace HB := zLB (zL HB.out) hb; clear hb hbox hg) | ((with_reducible refine gD 3 rfl ?_); (try (refine gate_guard (by rfl) ?_; dsimp only)); refine box_event ?hg (N := 3) ?hd (cs := #[.int .i64 a1_0, .slice A1_1 l1_1.length c1_1, .slice A1_2 l1_2.length c1_2, .slice A1_3 l1_3.length c1_3]) (t := 25) ?hr ?_; (case hd => rfl); (case hg => rfl); (case hr => first | (go_simp; done) | (go_simp; rfl)); intro gb272 hg w5 hbox hb; have BK272 := aM hbox; have GW272 := aM (zg (zL1 HB.out GE271.out) hg : w.heap.size ≤ gb272); have GE272 := GW272; replace HB := zLB (zL1 HB.out GE271.out) hb; have NB271_272 := aM (zN BK271.out hg : gb271 ≠ gb272); have NB272_271 := aM (zM BK271.out hg : gb272 ≠ gb271); replace BK271 := zBB BK271 hb; clear hb hbox hg)); go_upto_region 1 with (first | ((with_reducible refine gD 2 rfl ?_); (try (refine gate_guard (by rfl) ?_; dsimp only)); refine box_event ?hg (N := 2) ?hd (cs := #[.int .i64 a0_0, .slice A0_1 l0_1.length c0_1, .slice A0_2 l0_2.length c0_2, .slice A0_3 l0_3.length c0_3]) (t := 25) ?hr ?_; (case hd => rfl); (case hg => rfl); (case hr => first | (go_simp; done) | (go_simp; rfl)); intro gb271 hg w4 hbox hb; have BK271 := aM hbox; have GW271 := aM (zg (zL HB.out) hg : w.heap.size ≤ gb271); have GE271 := GW271; replace HB := zLB (zL HB.out) hb; clear hb hbox hg) | ((with_reducible refine gD 3 rfl ?_); (try (refine gate_guard (by rfl) ?_; dsimp only)); refine box_event ?hg (N := 3) ?hd (cs := #[.int .i64 a1_0, .slice A1_1 l1_1.length c1_1, .slice A1_2 l1_2.length c1_2, .slice A1_3 l1_3.length c1_3]) (t := 25) ?hr ?_; (case hd => rfl); (case hg => rfl); (case hr => first | (go_simp; done) | (go_simp; rfl)); intro gb272 hg w5 hbox hb; have BK272 := aM hbox; have GW272 := aM (zg (zL1 HB.out GE271.out) hg : w.heap.size ≤ gb272); have GE272 := GW272; replace HB := zLB (zL1 HB.out GE271.out) hb; have NB271_272 := aM (zN BK271.out hg : gb271 ≠ gb272); have NB272_271 := aM (zM BK271.out hg : gb272 ≠ gb271); replace BK271 := zBB BK271 hb; clear hb hbox hg)))
 (try simp only [Act.put, List.setIfInBounds_toArray, List.set_cons_zero, List.set_cons_succ])
 go_cut [37] (fun v37 wc => ∃ (kq : Nat) (x37_2 : Bool), v37 = .bool x37_2 ∧ Aside0 (laws_sameWheel.j0 kq x37_2 a0_0 l0_1 l0_2 l0_3 a1_0 l1_1 l1_2 l1_3 = some r) ∧ Aside0 (kq ≤ k) ∧ Aside0 (wc.heap[gb271]? = some (.cells #[.int .i64 a0_0, (.slice A0_1 l0_1.length c0_1), (.slice A0_2 l0_2.length c0_2), (.slice A0_3 l0_3.length c0_3)] 25 (0, 0))) ∧ Aside0 (wc.heap[gb272]? = some (.cells #[.int .i64 a1_0, (.slice A1_1 l1_1.length c1_1), (.slice A1_2 l1_2.length c1_2), (.slice A1_3 l1_3.length c1_3)] 25 (0, 0))) ∧ Aside0 (Below w.heap.size w wc))
 case first =>
  have H := HC3.out
  clear HC3
  by_cases c6 : a0_0 = a1_0
  ·rw [if_pos c6] at H
   obtain ⟨c6b0, c6b1⟩ := zt c6
   clear c6
   (first | rw [c6b0] | (simp only [i64_w, i32_w]; rw [c6b0]) | skip)
   by_cases c7 : (l0_1.length : Int) = (l1_1.length : Int)
   ·rw [if_pos c7] at H
    obtain ⟨c7b0, c7b1⟩ := zt c7
    have c7b2 : (l0_1.length == l1_1.length) = true := by first | simpa using c7 | (simp at c7 ⊢; omega)
    clear c7
    by_cases c8 : (l0_2.length : Int) = (l1_2.length : Int)
    ·rw [if_pos c8] at H
     obtain ⟨c8b0, c8b1⟩ := zt c8
     have c8b2 : (l0_2.length == l1_2.length) = true := by first | simpa using c8 | (simp at c8 ⊢; omega)
     clear c8
     obtain ⟨t273, A9, H⟩ := zO H; try dsimp only at H
     have H' := aM H
     clear H
     have hnb10 := NB271_272.out
     have hnc10 := NB272_271.out
     have hcz11 := zc4 BK271.out
     have hfz11 := zf4 BK271.out
     have hcz12 := zc4 BK272.out
     have hfz12 := zf4 BK272.out
     go_wp2_with (first | (go_at_call 51; (with_reducible refine (laws_sameTimers.calls k _ _ l0_3 _ _ l1_3 t273 _ ?side1 ?side2 ?side3 ?side4 A9.out).mono ?_); (case side1 => exact zC (Kd.C_below HR0_3.out HB.out)); (case side2 => exact HC0_3.out); (case side3 => exact zC (Kd.C_below HR1_3.out HB.out)); (case side4 => exact HC1_3.out); rintro e w' ⟨rfl, ⟨nd, rfl⟩⟩; (try first | exact ⟨rfl, _, World.drewN_drewN _ _ _⟩ | exact ⟨rfl, _, Eq.trans (World.drewN_drewN _ _ _) (congrArg (World.drewN _) (Nat.add_assoc _ _ _))⟩)))
     repeat (go_quiet (first | (go_at_call 51; (with_reducible refine (laws_sameTimers.calls k _ _ l0_3 _ _ l1_3 t273 _ ?side1 ?side2 ?side3 ?side4 A9.out).mono ?_); (case side1 => exact zC (Kd.C_below HR0_3.out HB.out)); (case side2 => exact HC0_3.out); (case side3 => exact zC (Kd.C_below HR1_3.out HB.out)); (case side4 => exact HC1_3.out); rintro e w' ⟨rfl, ⟨nd, rfl⟩⟩; (try first | exact ⟨rfl, _, World.drewN_drewN _ _ _⟩ | exact ⟨rfl, _, Eq.trans (World.drewN_drewN _ _ _) (congrArg (World.drewN _) (Nat.add_assoc _ _ _))⟩))); try go_wp2_with (first | (go_at_call 51; (with_reducible refine (laws_sameTimers.calls k _ _ l0_3 _ _ l1_3 t273 _ ?side1 ?side2 ?side3 ?side4 A9.out).mono ?_); (case side1 => exact zC (Kd.C_below HR0_3.out HB.out)); (case side2 => exact HC0_3.out); (case side3 => exact zC (Kd.C_below HR1_3.out HB.out)); (case side4 => exact HC1_3.out); rintro e w' ⟨rfl, ⟨nd, rfl⟩⟩; (try first | exact ⟨rfl, _, World.drewN_drewN _ _ _⟩ | exact ⟨rfl, _, Eq.trans (World.drewN_drewN _ _ _) (congrArg (World.drewN _) (Nat.add_assoc _ _ _))⟩))))
     go_meet
     case rel => exact ⟨_, (!t273), zV, H', ⟨by first | omega | exact Nat.le_refl _⟩, ⟨zB BK271.out⟩, ⟨zB BK272.out⟩, ⟨zL2 HB.out GE271.out GE272.out⟩⟩
    ·rw [if_neg c8] at H
     obtain ⟨c8b0, c8b1⟩ := zf c8
     have c8b2 : (l0_2.length == l1_2.length) = false := by first | simpa using c8 | (simp at c8 ⊢; omega)
     have H' := aM H
     clear H
     have hnb13 := NB271_272.out
     have hnc13 := NB272_271.out
     have hcz14 := zc4 BK271.out
     have hfz14 := zf4 BK271.out
     have hcz15 := zc4 BK272.out
     have hfz15 := zf4 BK272.out
     go_wp2
     repeat (go_quiet (fail); try go_wp2)
     go_meet
     case rel => exact ⟨_, (true), zV, H', ⟨by first | omega | exact Nat.le_refl _⟩, ⟨zB BK271.out⟩, ⟨zB BK272.out⟩, ⟨zL2 HB.out GE271.out GE272.out⟩⟩
   ·rw [if_neg c7] at H
    obtain ⟨c7b0, c7b1⟩ := zf c7
    have c7b2 : (l0_1.length == l1_1.length) = false := by first | simpa using c7 | (simp at c7 ⊢; omega)
    have H' := aM H
    clear H
    have hnb16 := NB271_272.out
    have hnc16 := NB272_271.out
    have hcz17 := zc4 BK271.out
    have hfz17 := zf4 BK271.out
    have hcz18 := zc4 BK272.out
    have hfz18 := zf4 BK272.out
    go_wp2
    repeat (go_quiet (fail); try go_wp2)
    go_meet
    case rel => exact ⟨_, (true), zV, H', ⟨by first | omega | exact Nat.le_refl _⟩, ⟨zB BK271.out⟩, ⟨zB BK272.out⟩, ⟨zL2 HB.out GE271.out GE272.out⟩⟩
  ·rw [if_neg c6] at H
   obtain ⟨c6b0, c6b1⟩ := zf c6
   (first | rw [c6b0] | (simp only [i64_w, i32_w]; rw [c6b0]) | skip)
   have H' := aM H
   clear H
   have hnb19 := NB271_272.out
   have hnc19 := NB272_271.out
   have hcz20 := zc4 BK271.out
   have hfz20 := zf4 BK271.out
   have hcz21 := zc4 BK272.out
   have hfz21 := zf4 BK272.out
   go_wp2
   repeat (go_quiet (fail); try go_wp2)
   go_meet
   case rel => exact ⟨_, (true), zV, H', ⟨by first | omega | exact Nat.le_refl _⟩, ⟨zB BK271.out⟩, ⟨zB BK272.out⟩, ⟨zL2 HB.out GE271.out GE272.out⟩⟩
 case rest =>
  clear HC3
  try clear c1
  try clear p2
  try clear c5
  try clear c6
  try clear c6b0
  try clear c6b1
  try clear c7
  try clear c7b0
  try clear c7b1
  try clear c7b2
  try clear c8
  try clear c8b0
  try clear c8b1
  try clear c8b2
  try clear c10
  try clear c13
  try clear c16
  try clear c19
  try clear hcz11; try clear hcz12; try clear hcz14; try clear hcz15; try clear hcz17; try clear hcz18; try clear hcz20; try clear hcz21; try clear hfz11; try clear hfz12; try clear hfz14; try clear hfz15; try clear hfz17; try clear hfz18; try clear hfz20; try clear hfz21
  obtain ⟨kq, x37_2, rfl, HA, HJ2, BK271, BK272, HB⟩ := hcut
  cases kq with
  | zero => exact absurd HA.out (by simp [laws_sameWheel.j0])
  | succ kj2 =>
   have H := HA.out
   clear HA
   simp only [laws_sameWheel.j0] at H
   by_cases c22 : x37_2 = true
   ·subst c22
    rw [if_pos rfl] at H
    obtain rfl := Option.some.inj H
    go_wp2
    repeat (go_quiet (fail); try go_wp2)
    go_ret
    exact ⟨zW, zL2 HB.out GE271.out GE272.out⟩
   ·obtain rfl := Bool.eq_false_iff.mpr c22
    rw [if_neg zn] at H
    have H' := aM H
    clear H
    go_wp2
    repeat (go_quiet (fail); try go_wp2)
    go_loopg [5] kj2 (fun kq v5 w' => ∃ (x5_2 : Int), v5 = .int .i64 x5_2 ∧ Aside0 (laws_sameWheel.l0 kq x5_2 a0_0 l0_1 l0_2 l0_3 a1_0 l1_1 l1_2 l1_3 = some r) ∧ Aside0 (kq ≤ kj2) ∧ Aside0 (w'.heap[gb271]? = some (.cells #[.int .i64 a0_0, (.slice A0_1 l0_1.length c0_1), (.slice A0_2 l0_2.length c0_2), (.slice A0_3 l0_3.length c0_3)] 25 (0, 0))) ∧ Aside0 (w'.heap[gb272]? = some (.cells #[.int .i64 a1_0, (.slice A1_1 l1_1.length c1_1), (.slice A1_2 l1_2.length c1_2), (.slice A1_3 l1_3.length c1_3)] 25 (0, 0))) ∧ Aside0 (Below w.heap.size w w'))
    case atStart => exact ⟨(0), zV, H', ⟨Nat.le_refl _⟩, ⟨zB BK271.out⟩, ⟨zB BK272.out⟩, ⟨zL2 HB.out GE271.out GE272.out⟩⟩
    case round =>
     clear H'
     try clear c1
     try clear c2
     try clear p2
     try clear c5
     try clear c6
     try clear c6b0
     try clear c6b1
     try clear c7
     try clear c7b0
     try clear c7b1
     try clear c7b2
     try clear c8
     try clear c8b0
     try clear c8b1
     try clear c8b2
     try clear c10
     try clear c13
     try clear c16
     try clear c19
     try clear c22
     try clear hcz11; try clear hcz12; try clear hcz14; try clear hcz15; try clear hcz17; try clear hcz18; try clear hcz20; try clear hcz21; try clear hfz11; try clear hfz12; try clear hfz14; try clear hfz15; try clear hfz17; try clear hfz18; try clear hfz20; try clear hfz21
     try clear p2
     try clear BK271; try clear BK272
     obtain ⟨x5_2, rfl, HA, HK2, BK271, BK272, HB⟩ := hrel
     cases gk with
     | zero => exact absurd HA.out (by simp [laws_sameWheel.l0])
     | succ k2 =>
      have H := HA.out
      clear HA
      simp only [laws_sameWheel.l0] at H
      by_cases c23 : x5_2 < (l0_1.length : Int)
      ·rw [if_pos c23] at H
       have c23b0 := dT c23
       clear c23
       by_cases c24 : 0 ≤ x5_2
       ·rw [if_pos c24] at H
        have c24b0 := dT c24
        clear c24
        by_cases c25 : x5_2 < (l1_1.length : Int)
        ·rw [if_pos c25] at H
         have c25b0 := dT c25
         clear c25
         obtain ⟨t276, A26, H⟩ := zO H; try dsimp only at H
         by_cases c27 : t276 = true
         ·subst c27
          rw [if_pos rfl] at H
          have H' := aM H
          clear H
          have hnb28 := NB271_272.out
          have hnc28 := NB272_271.out
          have hcz29 := zc4 BK271.out
          have hfz29 := zf4 BK271.out
          have p274 : 0 ≤ (x5_2 : Int) := zD
          have q274 : x5_2 < (l0_1.length : Int) := zD
          obtain ⟨ad274, A274_0, c274_0, e274, hx274_0, hl274_0, hi274_0⟩ := at_L2 HR0_1.out x5_2 p274 q274
          cases e274
          replace hx274_0 := zh HB.out hx274_0
          have HR274_0 := aM hi274_0
          have HC274_0 := aM hl274_0
          clear hi274_0 hl274_0
          replace p274 := eq_true p274
          replace q274 := eq_true q274
          have hcz30 := zc4 BK272.out
          have hfz30 := zf4 BK272.out
          have p275 : 0 ≤ (x5_2 : Int) := zD
          have q275 : x5_2 < (l1_1.length : Int) := zD
          obtain ⟨ad275, A275_0, c275_0, e275, hx275_0, hl275_0, hi275_0⟩ := at_L2 HR1_1.out x5_2 p275 q275
          cases e275
          replace hx275_0 := zh HB.out hx275_0
          have HR275_0 := aM hi275_0
          have HC275_0 := aM hl275_0
          clear hi275_0 hl275_0
          replace p275 := eq_true p275
          replace q275 := eq_true q275
          go_wp2_with (first | (go_at_call 51; (with_reducible refine (laws_sameTimers.calls k2 _ _ (rd_L2 l0_1 x5_2) _ _ (rd_L2 l1_1 x5_2) true _ ?side1 ?side2 ?side3 ?side4 A26.out).mono ?_); (case side1 => exact zC (Kd.C_below HR274_0.out HB.out)); (case side2 => exact HC274_0.out); (case side3 => exact zC (Kd.C_below HR275_0.out HB.out)); (case side4 => exact HC275_0.out); rintro e w' ⟨rfl, ⟨nd, rfl⟩⟩; (try first | exact ⟨rfl, _, World.drewN_drewN _ _ _⟩ | exact ⟨rfl, _, Eq.trans (World.drewN_drewN _ _ _) (congrArg (World.drewN _) (Nat.add_assoc _ _ _))⟩)))
          repeat (go_quiet (first | (go_at_call 51; (with_reducible refine (laws_sameTimers.calls k2 _ _ (rd_L2 l0_1 x5_2) _ _ (rd_L2 l1_1 x5_2) true _ ?side1 ?side2 ?side3 ?side4 A26.out).mono ?_); (case side1 => exact zC (Kd.C_below HR274_0.out HB.out)); (case side2 => exact HC274_0.out); (case side3 => exact zC (Kd.C_below HR275_0.out HB.out)); (case side4 => exact HC275_0.out); rintro e w' ⟨rfl, ⟨nd, rfl⟩⟩; (try first | exact ⟨rfl, _, World.drewN_drewN _ _ _⟩ | exact ⟨rfl, _, Eq.trans (World.drewN_drewN _ _ _) (congrArg (World.drewN _) (Nat.add_assoc _ _ _))⟩))); try go_wp2_with (first | (go_at_call 51; (with_reducible refine (laws_sameTimers.calls k2 _ _ (rd_L2 l0_1 x5_2) _ _ (rd_L2 l1_1 x5_2) true _ ?side1 ?side2 ?side3 ?side4 A26.out).mono ?_); (case side1 => exact zC (Kd.C_below HR274_0.out HB.out)); (case side2 => exact HC274_0.out); (case side3 => exact zC (Kd.C_below HR275_0.out HB.out)); (case side4 => exact HC275_0.out); rintro e w' ⟨rfl, ⟨nd, rfl⟩⟩; (try first | exact ⟨rfl, _, World.drewN_drewN _ _ _⟩ | exact ⟨rfl, _, Eq.trans (World.drewN_drewN _ _ _) (congrArg (World.drewN _) (Nat.add_assoc _ _ _))⟩))))
          go_roundg k2
          case measure => have := HJ2.out; have := HK2.out; omega
          case rel => exact ⟨(wrap64 (x5_2 + 1)), zV, H', ⟨by have := HJ2.out; have := HK2.out; omega⟩, ⟨zB BK271.out⟩, ⟨zB BK272.out⟩, ⟨zL2 HB.out GE271.out GE272.out⟩⟩
         ·obtain rfl := Bool.eq_false_iff.mpr c27
          rw [if_neg zn] at H
          obtain rfl := Option.some.inj H
          have hnb31 := NB271_272.out
          have hnc31 := NB272_271.out
          have hcz32 := zc4 BK271.out
          have hfz32 := zf4 BK271.out
          have p274 : 0 ≤ (x5_2 : Int) := zD
          have q274 : x5_2 < (l0_1.length : Int) := zD
          obtain ⟨ad274, A274_0, c274_0, e274, hx274_0, hl274_0, hi274_0⟩ := at_L2 HR0_1.out x5_2 p274 q274
          cases e274
          replace hx274_0 := zh HB.out hx274_0
          have HR274_0 := aM hi274_0
          have HC274_0 := aM hl274_0
          clear hi274_0 hl274_0
          replace p274 := eq_true p274
          replace q274 := eq_true q274
          have hcz33 := zc4 BK272.out
          have hfz33 := zf4 BK272.out
          have p275 : 0 ≤ (x5_2 : Int) := zD
          have q275 : x5_2 < (l1_1.length : Int) := zD
          obtain ⟨ad275, A275_0, c275_0, e275, hx275_0, hl275_0, hi275_0⟩ := at_L2 HR1_1.out x5_2 p275 q275
          cases e275
          replace hx275_0 := zh HB.out hx275_0
          have HR275_0 := aM hi275_0
          have HC275_0 := aM hl275_0
          clear hi275_0 hl275_0
          replace p275 := eq_true p275
          replace q275 := eq_true q275
          go_wp2_with (first | (go_at_call 51; (with_reducible refine (laws_sameTimers.calls k2 _ _ (rd_L2 l0_1 x5_2) _ _ (rd_L2 l1_1 x5_2) false _ ?side1 ?side2 ?side3 ?side4 A26.out).mono ?_); (case side1 => exact zC (Kd.C_below HR274_0.out HB.out)); (case side2 => exact HC274_0.out); (case side3 => exact zC (Kd.C_below HR275_0.out HB.out)); (case side4 => exact HC275_0.out); rintro e w' ⟨rfl, ⟨nd, rfl⟩⟩; (try first | exact ⟨rfl, _, World.drewN_drewN _ _ _⟩ | exact ⟨rfl, _, Eq.trans (World.drewN_drewN _ _ _) (congrArg (World.drewN _) (Nat.add_assoc _ _ _))⟩)))
          repeat (go_quiet (first | (go_at_call 51; (with_reducible refine (laws_sameTimers.calls k2 _ _ (rd_L2 l0_1 x5_2) _ _ (rd_L2 l1_1 x5_2) false _ ?side1 ?side2 ?side3 ?side4 A26.out).mono ?_); (case side1 => exact zC (Kd.C_below HR274_0.out HB.out)); (case side2 => exact HC274_0.out); (case side3 => exact zC (Kd.C_below HR275_0.out HB.out)); (case side4 => exact HC275_0.out); rintro e w' ⟨rfl, ⟨nd, rfl⟩⟩; (try first | exact ⟨rfl, _, World.drewN_drewN _ _ _⟩ | exact ⟨rfl, _, Eq.trans (World.drewN_drewN _ _ _) (congrArg (World.drewN _) (Nat.add_assoc _ _ _))⟩))); try go_wp2_with (first | (go_at_call 51; (with_reducible refine (laws_sameTimers.calls k2 _ _ (rd_L2 l0_1 x5_2) _ _ (rd_L2 l1_1 x5_2) false _ ?side1 ?side2 ?side3 ?side4 A26.out).mono ?_); (case side1 => exact zC (Kd.C_below HR274_0.out HB.out)); (case side2 => exact HC274_0.out); (case side3 => exact zC (Kd.C_below HR275_0.out HB.out)); (case side4 => exact HC275_0.out); rintro e w' ⟨rfl, ⟨nd, rfl⟩⟩; (try first | exact ⟨rfl, _, World.drewN_drewN _ _ _⟩ | exact ⟨rfl, _, Eq.trans (World.drewN_drewN _ _ _) (congrArg (World.drewN _) (Nat.add_assoc _ _ _))⟩))))
          go_ret
          exact ⟨zW, zL2 HB.out GE271.out GE272.out⟩
        ·rw [if_neg c25] at H
         exact absurd H (by simp)
       ·rw [if_neg c24] at H
        exact absurd H (by simp)
      ·rw [if_neg c23] at H
       have c23b0 := dF c23
       clear c23
       have H' := aM H
       clear H
       have hnb34 := NB271_272.out
       have hnc34 := NB272_271.out
       have hcz35 := zc4 BK271.out
       have hfz35 := zf4 BK271.out
       go_wp2
       repeat (go_quiet (fail); try go_wp2)
       go_loopg [6] k2 (fun kq v6 w' => ∃ (x6_3 : Int), v6 = .int .i64 x6_3 ∧ Aside0 (laws_sameWheel.l1 kq x6_3 a0_0 l0_1 l0_2 l0_3 a1_0 l1_1 l1_2 l1_3 = some r) ∧ Aside0 (kq ≤ k2) ∧ Aside0 (w'.heap[gb271]? = some (.cells #[.int .i64 a0_0, (.slice A0_1 l0_1.length c0_1), (.slice A0_2 l0_2.length c0_2), (.slice A0_3 l0_3.length c0_3)] 25 (0, 0))) ∧ Aside0 (w'.heap[gb272]? = some (.cells #[.int .i64 a1_0, (.slice A1_1 l1_1.length c1_1), (.slice A1_2 l1_2.length c1_2), (.slice A1_3 l1_3.length c1_3)] 25 (0, 0))) ∧ Aside0 (Below w.heap.size w w'))
       case atStart => exact ⟨(0), zV, H', ⟨Nat.le_refl _⟩, ⟨zB BK271.out⟩, ⟨zB BK272.out⟩, ⟨zL2 HB.out GE271.out GE272.out⟩⟩
       case round =>
        clear H'
        try clear c1
        try clear c2
        try clear p2
        try clear q2
        try clear hx2
        try clear c3
        try clear c5
        try clear c6
        try clear c6b0
        try clear c6b1
        try clear p6
        try clear c7
        try clear c7b0
        try clear c7b1
        try clear c7b2
        try clear c8
        try clear c8b0
        try clear c8b1
        try clear c8b2
        try clear c10
        try clear c13
        try clear c16
        try clear c19
        try clear c22
        try clear c23
        try clear c23b0
        try clear c24
        try clear c24b0
        try clear c25
        try clear c25b0
        try clear c27
        try clear p27
        try clear q27
        try clear hx27
        try clear c28
        try clear c31
        try clear c34
        try clear hcz11; try clear hcz12; try clear hcz14; try clear hcz15; try clear hcz17; try clear hcz18; try clear hcz20; try clear hcz21; try clear hcz29; try clear hcz30; try clear hcz32; try clear hcz33; try clear hcz35; try clear hfz11; try clear hfz12; try clear hfz14; try clear hfz15; try clear hfz17; try clear hfz18; try clear hfz20; try clear hfz21; try clear hfz29; try clear hfz30; try clear hfz32; try clear hfz33; try clear hfz35
        try clear hx274_0
        try clear hx275_0
        try clear p2
        try clear p274
        try clear p275
        try clear q274
        try clear q275
        try clear BK271; try clear BK272
        obtain ⟨x6_3, rfl, HA, HK3, BK271, BK272, HB⟩ := hrel
        cases gk with
        | zero => exact absurd HA.out (by simp [laws_sameWheel.l1])
        | succ k3 =>
         have H := HA.out
         clear HA
         simp only [laws_sameWheel.l1] at H
         by_cases c36 : x6_3 < (l0_2.length : Int)
         ·rw [if_pos c36] at H
          have c36b0 := dT c36
          clear c36
          by_cases c37 : 0 ≤ x6_3
          ·rw [if_pos c37] at H
           have c37b0 := dT c37
           clear c37
           by_cases c38 : x6_3 < (l1_2.length : Int)
           ·rw [if_pos c38] at H
            have c38b0 := dT c38
            clear c38
            obtain ⟨t279, A39, H⟩ := zO H; try dsimp only at H
            by_cases c40 : t279 = true
            ·subst c40
             rw [if_pos rfl] at H
             have H' := aM H
             clear H
             have hnb41 := NB271_272.out
             have hnc41 := NB272_271.out
             have hcz42 := zc4 BK271.out
             have hfz42 := zf4 BK271.out
             have p277 : 0 ≤ (x6_3 : Int) := zD
             have q277 : x6_3 < (l0_2.length : Int) := zD
             obtain ⟨ad277, A277_0, c277_0, e277, hx277_0, hl277_0, hi277_0⟩ := at_L2 HR0_2.out x6_3 p277 q277
             cases e277
             replace hx277_0 := zh HB.out hx277_0
             have HR277_0 := aM hi277_0
             have HC277_0 := aM hl277_0
             clear hi277_0 hl277_0
             replace p277 := eq_true p277
             replace q277 := eq_true q277
             have hcz43 := zc4 BK272.out
             have hfz43 := zf4 BK272.out
             have p278 : 0 ≤ (x6_3 : Int) := zD
             have q278 : x6_3 < (l1_2.length : Int) := zD
             obtain ⟨ad278, A278_0, c278_0, e278, hx278_0, hl278_0, hi278_0⟩ := at_L2 HR1_2.out x6_3 p278 q278
             cases e278
             replace hx278_0 := zh HB.out hx278_0
             have HR278_0 := aM hi278_0
             have HC278_0 := aM hl278_0
             clear hi278_0 hl278_0
             replace p278 := eq_true p278
             replace q278 := eq_true q278
             go_wp2_with (first | (go_at_call 51; (with_reducible refine (laws_sameTimers.calls k3 _ _ (rd_L2 l0_2 x6_3) _ _ (rd_L2 l1_2 x6_3) true _ ?side1 ?side2 ?side3 ?side4 A39.out).mono ?_); (case side1 => exact zC (Kd.C_below HR277_0.out HB.out)); (case side2 => exact HC277_0.out); (case side3 => exact zC (Kd.C_below HR278_0.out HB.out)); (case side4 => exact HC278_0.out); rintro e w' ⟨rfl, ⟨nd, rfl⟩⟩; (try first | exact ⟨rfl, _, World.drewN_drewN _ _ _⟩ | exact ⟨rfl, _, Eq.trans (World.drewN_drewN _ _ _) (congrArg (World.drewN _) (Nat.add_assoc _ _ _))⟩)))
             repeat (go_quiet (first | (go_at_call 51; (with_reducible refine (laws_sameTimers.calls k3 _ _ (rd_L2 l0_2 x6_3) _ _ (rd_L2 l1_2 x6_3) true _ ?side1 ?side2 ?side3 ?side4 A39.out).mono ?_); (case side1 => exact zC (Kd.C_below HR277_0.out HB.out)); (case side2 => exact HC277_0.out); (case side3 => exact zC (Kd.C_below HR278_0.out HB.out)); (case side4 => exact HC278_0.out); rintro e w' ⟨rfl, ⟨nd, rfl⟩⟩; (try first | exact ⟨rfl, _, World.drewN_drewN _ _ _⟩ | exact ⟨rfl, _, Eq.trans (World.drewN_drewN _ _ _) (congrArg (World.drewN _) (Nat.add_assoc _ _ _))⟩))); try go_wp2_with (first | (go_at_call 51; (with_reducible refine (laws_sameTimers.calls k3 _ _ (rd_L2 l0_2 x6_3) _ _ (rd_L2 l1_2 x6_3) true _ ?side1 ?side2 ?side3 ?side4 A39.out).mono ?_); (case side1 => exact zC (Kd.C_below HR277_0.out HB.out)); (case side2 => exact HC277_0.out); (case side3 => exact zC (Kd.C_below HR278_0.out HB.out)); (case side4 => exact HC278_0.out); rintro e w' ⟨rfl, ⟨nd, rfl⟩⟩; (try first | exact ⟨rfl, _, World.drewN_drewN _ _ _⟩ | exact ⟨rfl, _, Eq.trans (World.drewN_drewN _ _ _) (congrArg (World.drewN _) (Nat.add_assoc _ _ _))⟩))))
             go_roundg k3
             case measure => have := HJ2.out; have := HK2.out; have := HK3.out; omega
             case rel => exact ⟨(wrap64 (x6_3 + 1)), zV, H', ⟨by have := HJ2.out; have := HK2.out; have := HK3.out; omega⟩, ⟨zB BK271.out⟩, ⟨zB BK272.out⟩, ⟨zL2 HB.out GE271.out GE272.out⟩⟩
            ·obtain rfl := Bool.eq_false_iff.mpr c40
             rw [if_neg zn] at H
             obtain rfl := Option.some.inj H
             have hnb44 := NB271_272.out
             have hnc44 := NB272_271.out
             have hcz45 := zc4 BK271.out
             have hfz45 := zf4 BK271.out
             have p277 : 0 ≤ (x6_3 : Int) := zD
             have q277 : x6_3 < (l0_2.length : Int) := zD
             obtain ⟨ad277, A277_0, c277_0, e277, hx277_0, hl277_0, hi277_0⟩ := at_L2 HR0_2.out x6_3 p277 q277
             cases e277
             replace hx277_0 := zh HB.out hx277_0
             have HR277_0 := aM hi277_0
             have HC277_0 := aM hl277_0
             clear hi277_0 hl277_0
             replace p277 := eq_true p277
             replace q277 := eq_true q277
             have hcz46 := zc4 BK272.out
             have hfz46 := zf4 BK272.out
             have p278 : 0 ≤ (x6_3 : Int) := zD
             have q278 : x6_3 < (l1_2.length : Int) := zD
             obtain ⟨ad278, A278_0, c278_0, e278, hx278_0, hl278_0, hi278_0⟩ := at_L2 HR1_2.out x6_3 p278 q278
             cases e278
             replace hx278_0 := zh HB.out hx278_0
             have HR278_0 := aM hi278_0
             have HC278_0 := aM hl278_0
             clear hi278_0 hl278_0
             replace p278 := eq_true p278
             replace q278 := eq_true q278
             go_wp2_with (first | (go_at_call 51; (with_reducible refine (laws_sameTimers.calls k3 _ _ (rd_L2 l0_2 x6_3) _ _ (rd_L2 l1_2 x6_3) false _ ?side1 ?side2 ?side3 ?side4 A39.out).mono ?_); (case side1 => exact zC (Kd.C_below HR277_0.out HB.out)); (case side2 => exact HC277_0.out); (case side3 => exact zC (Kd.C_below HR278_0.out HB.out)); (case side4 => exact HC278_0.out); rintro e w' ⟨rfl, ⟨nd, rfl⟩⟩; (try first | exact ⟨rfl, _, World.drewN_drewN _ _ _⟩ | exact ⟨rfl, _, Eq.trans (World.drewN_drewN _ _ _) (congrArg (World.drewN _) (Nat.add_assoc _ _ _))⟩)))
             repeat (go_quiet (first | (go_at_call 51; (with_reducible refine (laws_sameTimers.calls k3 _ _ (rd_L2 l0_2 x6_3) _ _ (rd_L2 l1_2 x6_3) false _ ?side1 ?side2 ?side3 ?side4 A39.out).mono ?_); (case side1 => exact zC (Kd.C_below HR277_0.out HB.out)); (case side2 => exact HC277_0.out); (case side3 => exact zC (Kd.C_below HR278_0.out HB.out)); (case side4 => exact HC278_0.out); rintro e w' ⟨rfl, ⟨nd, rfl⟩⟩; (try first | exact ⟨rfl, _, World.drewN_drewN _ _ _⟩ | exact ⟨rfl, _, Eq.trans (World.drewN_drewN _ _ _) (congrArg (World.drewN _) (Nat.add_assoc _ _ _))⟩))); try go_wp2_with (first | (go_at_call 51; (with_reducible refine (laws_sameTimers.calls k3 _ _ (rd_L2 l0_2 x6_3) _ _ (rd_L2 l1_2 x6_3) false _ ?side1 ?side2 ?side3 ?side4 A39.out).mono ?_); (case side1 => exact zC (Kd.C_below HR277_0.out HB.out)); (case side2 => exact HC277_0.out); (case side3 => exact zC (Kd.C_below HR278_0.out HB.out)); (case side4 => exact HC278_0.out); rintro e w' ⟨rfl, ⟨nd, rfl⟩⟩; (try first | exact ⟨rfl, _, World.drewN_drewN _ _ _⟩ | exact ⟨rfl, _, Eq.trans (World.drewN_drewN _ _ _) (congrArg (World.drewN _) (Nat.add_assoc _ _ _))⟩))))
             go_ret
             exact ⟨zW, zL2 HB.out GE271.out GE272.out⟩
           ·rw [if_neg c38] at H
            exact absurd H (by simp)
          ·rw [if_neg c37] at H
           exact absurd H (by simp)
         ·rw [if_neg c36] at H
          have c36b0 := dF c36
          clear c36
          obtain rfl := Option.some.inj H
          have hnb47 := NB271_272.out
          have hnc47 := NB272_271.out
          have hcz48 := zc4 BK271.out
          have hfz48 := zf4 BK271.out
          go_wp2
          repeat (go_quiet (fail); try go_wp2)
          go_ret
          exact ⟨zW, zL2 HB.out GE271.out GE272.out⟩

end Go.Proofs.Ytggenhomnbnodaa.QFnTicks
