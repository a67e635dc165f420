/- What the Go functions that the law FnJudges reaches answer: each as a Lean function, with its walk. Written by a program of this session. Conditions: those that each theorem names. -/
import Derived.Test.YtfhblnbicnmndaaQFnJudgesx0
namespace Go.Proofs.Ytfhblnbicnmndaa.QFnJudges
open Go.RowKit Go.Proofs.YtfhblnbicnmndaaW.PrintWords Go.Proofs.YtfhblnbicnmndaaW.PrintLast Go.Proofs.YtfhblnbicnmndaaW.PrintMore
attribute [local go_sem] max2_int min2_int max_two min_two max_three min_three max_four min_four   -- for this text's walks alone
set_option linter.unusedVariables false
set_option linter.unusedSimpArgs false

open Go.Proofs.YtfhblnbicnmndaaW.PrintWords renaming blk_drewN → bN, blk_drew → bD, blk_alloc → bA, blk_cell → bC, blk_below → bB, below_set → bS
/-! ### impl_copyPol: function 55 -/
mutual
def impl_copyPol.l0 : Nat → List (S29) → Int → Int → Int → Int → ByteArray → ByteArray → List (S29) → Option (Int × Int × ByteArray × ByteArray × (List (S29)))
 | 0, _, _, _, _, _, _, _, _ => none
 | k + 1, x9, x10, x11, x152000, x152001, x152002, x152003, x152004 => if x11 < x10 then (if 0 ≤ x11 then (if x11 < (x9.length : Int) then ((impl_copyPol.f k ((rd_T29 x9 x11).f0) ((rd_T29 x9 x11).f1) ((rd_T29 x9 x11).f2) ((rd_T29 x9 x11).f3) ((rd_T29 x9 x11).f4)).bind fun bt154 => (if x152004.length < 1954687338268 then (impl_copyPol.l0 k x9 x10 (wrap64 (x11 + 1)) x152000 x152001 x152002 x152003 (x152004 ++ [(⟨bt154.1, bt154.2.1, bt154.2.2.1, bt154.2.2.2.1, bt154.2.2.2.2⟩ : S29)])) else (none))) else (none)) else (none)) else (some (x152000, x152001, x152002, x152003, x152004))
def impl_copyPol.f : Nat → Int → Int → ByteArray → ByteArray → List (S29) → Option (Int × Int × ByteArray × ByteArray × (List (S29)))
 | 0, _, _, _, _, _ => none
 | k + 1, a0_0, a0_1, a0_2, a0_3, l0_4 => impl_copyPol.l0 k l0_4 (l0_4.length : Int) 0 a0_0 a0_1 a0_2 a0_3 ([] : List (S29))
end
theorem impl_copyPol.mono_l : ∀ k, (∀ y0 y1 y2 y3 y4, LeO (impl_copyPol.f k y0 y1 y2 y3 y4) (impl_copyPol.f (k + 1) y0 y1 y2 y3 y4)) ∧ (∀ y0 y1 y2 y3 y4 y5 y6 y7, LeO (impl_copyPol.l0 k y0 y1 y2 y3 y4 y5 y6 y7) (impl_copyPol.l0 (k + 1) y0 y1 y2 y3 y4 y5 y6 y7))
 | 0 => ⟨fun _ _ _ _ _ r h => by simp [impl_copyPol.f] at h, fun _ _ _ _ _ _ _ _ r h => by simp [impl_copyPol.l0] at h⟩
 | k + 1 => by
  obtain ⟨ih0, ih1⟩ := impl_copyPol.mono_l k
  refine ⟨?_, ?_⟩
  ·intro y0 y1 y2 y3 y4
   unfold impl_copyPol.f
   repeat' first
   | (with_reducible exact ih0 _ _ _ _ _)
   | (with_reducible exact ih1 _ _ _ _ _ _ _ _)
   | (with_reducible exact LeO.refl _)
   | (with_reducible exact LeO.none _)
   | (with_reducible refine LeO.ite ?_ ?_)
   | (with_reducible refine LeO.bind ?_ (fun _ => ?_))
   | exact ih0 _ _ _ _ _
   | exact ih1 _ _ _ _ _ _ _ _
   | exact LeO.none _
   | refine LeO.ite ?_ ?_
   | refine LeO.bind ?_ (fun _ => ?_)
  ·intro y0 y1 y2 y3 y4 y5 y6 y7
   unfold impl_copyPol.l0
   repeat' first
   | (with_reducible exact ih0 _ _ _ _ _)
   | (with_reducible exact ih1 _ _ _ _ _ _ _ _)
   | (with_reducible exact LeO.refl _)
   | (with_reducible exact LeO.none _)
   | (with_reducible refine LeO.ite ?_ ?_)
   | (with_reducible refine LeO.bind ?_ (fun _ => ?_))
   | exact ih0 _ _ _ _ _
   | exact ih1 _ _ _ _ _ _ _ _
   | exact LeO.none _
   | refine LeO.ite ?_ ?_
   | refine LeO.bind ?_ (fun _ => ?_)
theorem impl_copyPol.mono : ∀ a0 a1 a2 a3 a4 k, LeO (impl_copyPol.f k a0 a1 a2 a3 a4) (impl_copyPol.f (k + 1) a0 a1 a2 a3 a4) := by
 intro a0 a1 a2 a3 a4 k
 obtain ⟨ih0, ih1⟩ := impl_copyPol.mono_l k
 exact ih0 a0 a1 a2 a3 a4
def impl_copyPol.T6 : Bool × List (List Nat × List Nat) := (true, [([], []), ([0], [0]), ([], []), ([2], [2]), ([3], [3]), ([1, 4, 3], [1, 4]), ([0, 1, 2, 3, 4, 5], []), ([6, 5, 5, 0, 1, 2, 3, 4, 5], [5, 6])])
def impl_copyPol.B6 : List Nat := [0, 1, 0, 4, 12, 31, 63, 127]
theorem impl_copyPol.tab6 : rtab .any (opsOf Try.f55 6) = impl_copyPol.T6 := by kernel_rfl
theorem impl_copyPol.bits6 : waitsOk impl_copyPol.T6.2 impl_copyPol.B6 = true := by kernel_rfl
set_option maxHeartbeats 8000000 in
set_option maxRecDepth 100000 in
theorem impl_copyPol.calls (k : Nat) : ∀ (a0_0 : Int) (a0_1 : Int) (a0_2 : ByteArray) (a0_3 : ByteArray) (A0_4 : Option Addr) (c0_4 : Nat) (l0_4 : List (S29)) (r1 : Int) (r2 : Int) (r3 : ByteArray) (r4 : ByteArray) (r5 : List (S29)) (w : World) (hr0_4 : Kd.C k29 w A0_4 l0_4.length l0_4) (hc0_4 : l0_4.length ≤ c0_4) (h : impl_copyPol.f k a0_0 a0_1 a0_2 a0_3 l0_4 = some (r1, r2, r3, r4, r5)),
  Calls Try.prog 55 #[.agg #[.int .i64 a0_0, .int .i64 a0_1, .string a0_2, .string a0_3, .slice A0_4 l0_4.length c0_4]] w fun e w' => ∃ v4_ : Value, e = .returned (.agg #[.int .i64 r1, .int .i64 r2, .string r3, .string r4, v4_]) ∧ Kd.R k29 29 w' w.heap.size (fun _ => True) v4_ r5 ∧ Below w.heap.size w w' := by
 induction k using Nat.strongRecOn with
 | _ k ih =>
 intro a0_0 a0_1 a0_2 a0_3 A0_4 c0_4 l0_4 r1 r2 r3 r4 r5 w hr0_4 hc0_4 h
 cases k with
 | zero => exact absurd h (by simp [impl_copyPol.f])
 | succ k =>
 simp only [impl_copyPol.f] at h
 have hu29 := Try.underlying29
 have HR0_4 := Aside0.mk hr0_4
 have HC0_4 := Aside0.mk hc0_4
 clear hr0_4 hc0_4
 have HB := Aside0.mk (Below.refl w.heap.size w)
 have H : (impl_copyPol.l0 k l0_4 (l0_4.length : Int) 0 a0_0 a0_1 a0_2 a0_3 ([] : List (S29))) = some (r1, r2, r3, r4, r5) := h
 clear h
 have H' := Aside0.mk H
 clear H
 go_enter Try.func55, Try.ntmps55
 go_wp2_with (first | ((with_reducible refine gD 1 rfl ?_); refine bE 1 #[.int .i64 a0_0, .int .i64 a0_1, .string a0_2, .string a0_3, .slice A0_4 l0_4.length c0_4] 29 ?_; intro gb149 hg w2 hbox hb; have BK149 := Aside0.mk hbox; have GW149 := Aside0.mk (zg (zL HB.out) hg : w.heap.size ≤ gb149); have GE149 := GW149; replace HB := zLB (zL HB.out) hb; clear hb hbox hg) | ((with_reducible refine gD 2 rfl ?_); refine bE 2 #[.int .i64 0, .int .i64 0, .string (⟨#[]⟩ : ByteArray), .string (⟨#[]⟩ : ByteArray), .slice none 0 0] 29 ?_; intro gb150 hg w3 hbox hb; have BK150 := Aside0.mk hbox; have GW150 := Aside0.mk (zg (zL1 HB.out GE149.out) hg : w.heap.size ≤ gb150); have GE150 := GW150; replace HB := zLB (zL1 HB.out GE149.out) hb; have NB149_150 := Aside0.mk (zN BK149.out hg : gb149 ≠ gb150); have NB150_149 := Aside0.mk (zM BK149.out hg : gb150 ≠ gb149); replace BK149 := zBB BK149 hb; clear hb hbox hg; have hnb4 := NB149_150.out; have hnc4 := NB150_149.out; have hcz5 := zc5 BK149.out; have hfz5 := zf5 BK149.out) | ((with_reducible refine gD 3 rfl ?_); refine bE 3 #[.int .i64 0, .int .i64 0, .string (⟨#[]⟩ : ByteArray), .string (⟨#[]⟩ : ByteArray), .slice none 0 0] 29 ?_; intro gb151 hg w6 hbox hb; have BK151 := Aside0.mk hbox; have GW151 := Aside0.mk (zg (zL2 HB.out GE149.out GE150.out) hg : w.heap.size ≤ gb151); have GE151 := GW151; replace HB := zLB (zL2 HB.out GE149.out GE150.out) hb; have NB149_151 := Aside0.mk (zN BK149.out hg : gb149 ≠ gb151); have NB151_149 := Aside0.mk (zM BK149.out hg : gb151 ≠ gb149); replace BK149 := zBB BK149 hb; have NB150_151 := Aside0.mk (zN BK150.out hg : gb150 ≠ gb151); have NB151_150 := Aside0.mk (zM BK150.out hg : gb151 ≠ gb150); replace BK150 := zBB BK150 hb; clear hb hbox hg; have hnb7 := NB151_149.out; have hnc7 := NB149_151.out; have hnb8 := NB151_150.out; have hnc8 := NB150_151.out; have hcz9 := zc5 BK151.out; have hfz9 := zf5 BK151.out; have hcz10 := zc5 BK149.out; have hfz10 := zf5 BK149.out))
 go_loopg [11] k (fun kq v11 w' => ∃ (x11_1 : Int) (x152004_1 : List (S29)) (u152004 : Value), v11 = .int .i64 x11_1 ∧ Aside0 (impl_copyPol.l0 kq l0_4 (l0_4.length : Int) x11_1 a0_0 a0_1 a0_2 a0_3 x152004_1 = some (r1, r2, r3, r4, r5)) ∧ Aside0 (kq ≤ k) ∧ Aside0 (Kd.R k29 29 w' w.heap.size (fun k_ => k_ ≠ gb149 ∧ k_ ≠ gb150 ∧ k_ ≠ gb151) u152004 x152004_1) ∧ Aside0 (w'.heap[gb149]? = some (.cells #[.int .i64 a0_0, .int .i64 a0_1, .string a0_2, .string a0_3, (.slice A0_4 l0_4.length c0_4)] 29 (0, 0))) ∧ Aside0 (w'.heap[gb150]? = some (.cells #[.int .i64 0, .int .i64 0, .string (⟨#[]⟩ : ByteArray), .string (⟨#[]⟩ : ByteArray), (.slice none 0 0)] 29 (0, 0))) ∧ Aside0 (w'.heap[gb151]? = some (.cells #[.int .i64 a0_0, .int .i64 a0_1, .string a0_2, .string a0_3, u152004] 29 (0, 0))) ∧ Aside0 (Below w.heap.size w w'))
 case atStart => exact ⟨(0), (([] : List (S29))), (.slice none 0 0), zV, H', ⟨Nat.le_refl _⟩, ⟨by first | exact Kd.R_nil _ _ _ _ _ | exact Kd.N_nil _ _ _ _ _ | exact Kd.V_nil _ _ _ _ _ | exact Kd.Q_nil _ _ _ _ _ | exact Kd.S_nil _ _ _ _ _⟩, ⟨by (with_reducible repeat (first | refine bN ?_ _ | refine bD ?_ | refine bA ?_ _)); refine blk_far ?_ NB149_151.out _; refine zB ?_; refine zr5 ?_ NB149_151.out; exact zB BK149.out⟩, ⟨by (with_reducible repeat (first | refine bN ?_ _ | refine bD ?_ | refine bA ?_ _)); refine blk_far ?_ NB150_151.out _; refine zB ?_; refine zr5 ?_ NB150_151.out; exact zB BK150.out⟩, ⟨by (with_reducible repeat (first | refine bN ?_ _ | refine bD ?_ | refine bA ?_ _)); refine blk_put (cs := #[.int .i64 a0_0, .int .i64 a0_1, .string a0_2, .string a0_3, .slice A0_4 l0_4.length c0_4]) ?_ 4 _ rfl; refine zB ?_; refine zp5 (cs := #[.int .i64 0, .int .i64 0, .string (⟨#[]⟩ : ByteArray), .string (⟨#[]⟩ : ByteArray), .slice none 0 0]) ?_; exact zB BK151.out⟩, ⟨zL3 HB.out GE149.out GE150.out GE151.out⟩⟩
 case round =>
  clear H'
  try clear p2
  try clear c4
  try clear c5
  try clear c7
  try clear c8
  try clear hcz10; try clear hcz5; try clear hcz9; try clear hfz10; try clear hfz5; try clear hfz9
  try clear BK149; try clear BK150; try clear BK151
  obtain ⟨x11_1, x152004_1, u152004, rfl, HA, HK1, HO_152004, BK149, BK150, BK151, HB⟩ := hrel
  cases gk with
  | zero => exact absurd HA.out (by simp [impl_copyPol.l0])
  | succ k1 =>
   have H := HA.out
   clear HA
   simp only [impl_copyPol.l0] at H
   by_cases c11 : x11_1 < (l0_4.length : Int)
   ·rw [if_pos c11] at H
    have c11b0 := decide_eq_true c11
    clear c11
    by_cases c12 : 0 ≤ x11_1
    ·rw [if_pos c12] at H
     have c12b0 := decide_eq_true c12
     clear c12
     by_cases c13 : x11_1 < (l0_4.length : Int)
     ·rw [if_pos c13] at H
      have c13b0 := decide_eq_true c13
      clear c13
      obtain ⟨⟨t154, t155, t156, t157, t158⟩, A14, H⟩ := zO H; try dsimp only at H
      by_cases c15 : x152004_1.length < 1954687338268
      ·rw [if_pos c15] at H
       have LMc15 := Aside0.mk c15
       clear c15
       generalize hy161 : (x152004_1 ++ [(⟨t154, t155, t156, t157, t158⟩ : S29)]) = y161 at H; (try rw [Option.bind_some] at H); have Ny161 := Aside0.mk hy161.symm; clear hy161
       have H' := Aside0.mk H
       clear H
       have p152 : 0 ≤ (x11_1 : Int) := zD
       have q152 : x11_1 < (l0_4.length : Int) := zD
       obtain ⟨ad152, A152_4, c152_4, e152, hx152_0, hx152_1, hx152_2, hx152_3, hx152_4, hl152_4, hi152_4⟩ := at_T29 HR0_4.out x11_1 p152 q152
       cases e152
       replace hx152_0 := zh HB.out hx152_0
       replace hx152_1 := zh HB.out hx152_1
       replace hx152_2 := zh HB.out hx152_2
       replace hx152_3 := zh HB.out hx152_3
       replace hx152_4 := zh HB.out hx152_4
       have HR152_4 := Aside0.mk hi152_4
       have HC152_4 := Aside0.mk hl152_4
       clear hi152_4 hl152_4
       replace p152 := eq_true p152
       replace q152 := eq_true q152
       try go_wp2_with (first | ((with_reducible refine gD 5 rfl ?_); refine bE 5 #[.int .i64 0, .int .i64 0, .string (⟨#[]⟩ : ByteArray), .string (⟨#[]⟩ : ByteArray), .slice none 0 0] 29 ?_; intro gb153 hg w16 hbox hb; replace HO_152004 := Aside0.mk (Kd.R_below (Kd.R_elderB (zR HO_152004.out) gb153 (Nat.le_of_eq hg.symm)) hb); have BK153 := Aside0.mk hbox; have GW153 := Aside0.mk (zg (zL3 HB.out GE149.out GE150.out GE151.out) hg : w.heap.size ≤ gb153); have GE153 := GW153; replace HB := zLB (zL3 HB.out GE149.out GE150.out GE151.out) hb; have NB149_153 := Aside0.mk (zN BK149.out hg : gb149 ≠ gb153); have NB153_149 := Aside0.mk (zM BK149.out hg : gb153 ≠ gb149); replace BK149 := zBB BK149 hb; have NB150_153 := Aside0.mk (zN BK150.out hg : gb150 ≠ gb153); have NB153_150 := Aside0.mk (zM BK150.out hg : gb153 ≠ gb150); replace BK150 := zBB BK150 hb; have NB151_153 := Aside0.mk (zN BK151.out hg : gb151 ≠ gb153); have NB153_151 := Aside0.mk (zM BK151.out hg : gb153 ≠ gb151); replace BK151 := zBB BK151 hb; clear hb hbox hg; have hnb17 := NB153_149.out; have hnc17 := NB149_153.out; have hnb18 := NB153_150.out; have hnc18 := NB150_153.out; have hnb19 := NB153_151.out; have hnc19 := NB151_153.out; have hcz20 := zc5 BK153.out; have hfz20 := zf5 BK153.out))
       have n0_ : Aside0 (Kd.R k29 29 (((((w16.setCell ⟨gb153, 0, none⟩ (.int .i64 ((rd_T29 l0_4 x11_1).f0))).setCell ⟨gb153, 1, none⟩ (.int .i64 ((rd_T29 l0_4 x11_1).f1))).setCell ⟨gb153, 2, none⟩ (.string ((rd_T29 l0_4 x11_1).f2))).setCell ⟨gb153, 3, none⟩ (.string ((rd_T29 l0_4 x11_1).f3))).setCell ⟨gb153, 4, none⟩ (.slice A152_4 ((rd_T29 l0_4 x11_1).f4).length c152_4)) w.heap.size (fun k_ => k_ ≠ gb149 ∧ k_ ≠ gb150 ∧ k_ ≠ gb151 ∧ k_ ≠ gb153) u152004 x152004_1) := ⟨by (with_reducible repeat (first | apply Kd.R_alloc | apply Kd.R_drewN | apply Kd.R_drew)); exact Kd.R_mono (zRF5 (Kd.R_mono HO_152004.out (fun k_ hk => (⟨hk, hk.2⟩ : _ ∧ k_ ≠ gb153))) gb153 (fun _ hk => hk.2) (.int .i64 ((rd_T29 l0_4 x11_1).f0)) (.int .i64 ((rd_T29 l0_4 x11_1).f1)) (.string ((rd_T29 l0_4 x11_1).f2)) (.string ((rd_T29 l0_4 x11_1).f3)) (.slice A152_4 ((rd_T29 l0_4 x11_1).f4).length c152_4)) (fun _ hk => ⟨hk.1.1.1, ⟨hk.1.1.2.1, ⟨hk.1.1.2.2, hk.1.2⟩⟩⟩)⟩
       have n1_ : Aside0 ((((((w16.setCell ⟨gb153, 0, none⟩ (.int .i64 ((rd_T29 l0_4 x11_1).f0))).setCell ⟨gb153, 1, none⟩ (.int .i64 ((rd_T29 l0_4 x11_1).f1))).setCell ⟨gb153, 2, none⟩ (.string ((rd_T29 l0_4 x11_1).f2))).setCell ⟨gb153, 3, none⟩ (.string ((rd_T29 l0_4 x11_1).f3))).setCell ⟨gb153, 4, none⟩ (.slice A152_4 ((rd_T29 l0_4 x11_1).f4).length c152_4)).heap[gb149]? = some (.cells #[.int .i64 a0_0, .int .i64 a0_1, .string a0_2, .string a0_3, .slice (some ad152) l0_4.length c0_4] 29 (0, 0))) := ⟨by refine zB ?_; refine zr5 ?_ NB149_153.out; exact zB BK149.out⟩
       have n2_ : Aside0 ((((((w16.setCell ⟨gb153, 0, none⟩ (.int .i64 ((rd_T29 l0_4 x11_1).f0))).setCell ⟨gb153, 1, none⟩ (.int .i64 ((rd_T29 l0_4 x11_1).f1))).setCell ⟨gb153, 2, none⟩ (.string ((rd_T29 l0_4 x11_1).f2))).setCell ⟨gb153, 3, none⟩ (.string ((rd_T29 l0_4 x11_1).f3))).setCell ⟨gb153, 4, none⟩ (.slice A152_4 ((rd_T29 l0_4 x11_1).f4).length c152_4)).heap[gb150]? = some (.cells #[.int .i64 0, .int .i64 0, .string (⟨#[]⟩ : ByteArray), .string (⟨#[]⟩ : ByteArray), .slice none 0 0] 29 (0, 0))) := ⟨by refine zB ?_; refine zr5 ?_ NB150_153.out; exact zB BK150.out⟩
       have n3_ : Aside0 ((((((w16.setCell ⟨gb153, 0, none⟩ (.int .i64 ((rd_T29 l0_4 x11_1).f0))).setCell ⟨gb153, 1, none⟩ (.int .i64 ((rd_T29 l0_4 x11_1).f1))).setCell ⟨gb153, 2, none⟩ (.string ((rd_T29 l0_4 x11_1).f2))).setCell ⟨gb153, 3, none⟩ (.string ((rd_T29 l0_4 x11_1).f3))).setCell ⟨gb153, 4, none⟩ (.slice A152_4 ((rd_T29 l0_4 x11_1).f4).length c152_4)).heap[gb151]? = some (.cells #[.int .i64 a0_0, .int .i64 a0_1, .string a0_2, .string a0_3, u152004] 29 (0, 0))) := ⟨by refine zB ?_; refine zr5 ?_ NB151_153.out; exact zB BK151.out⟩
       have n4_ : Aside0 ((((((w16.setCell ⟨gb153, 0, none⟩ (.int .i64 ((rd_T29 l0_4 x11_1).f0))).setCell ⟨gb153, 1, none⟩ (.int .i64 ((rd_T29 l0_4 x11_1).f1))).setCell ⟨gb153, 2, none⟩ (.string ((rd_T29 l0_4 x11_1).f2))).setCell ⟨gb153, 3, none⟩ (.string ((rd_T29 l0_4 x11_1).f3))).setCell ⟨gb153, 4, none⟩ (.slice A152_4 ((rd_T29 l0_4 x11_1).f4).length c152_4)).heap[gb153]? = some (.cells #[.int .i64 ((rd_T29 l0_4 x11_1).f0), .int .i64 ((rd_T29 l0_4 x11_1).f1), .string ((rd_T29 l0_4 x11_1).f2), .string ((rd_T29 l0_4 x11_1).f3), .slice A152_4 ((rd_T29 l0_4 x11_1).f4).length c152_4] 29 (0, 0))) := ⟨by refine zB ?_; refine zp5 (cs := #[.int .i64 0, .int .i64 0, .string (⟨#[]⟩ : ByteArray), .string (⟨#[]⟩ : ByteArray), .slice none 0 0]) ?_; exact zB BK153.out⟩
       have n5_ : Aside0 (Below w.heap.size w (((((w16.setCell ⟨gb153, 0, none⟩ (.int .i64 ((rd_T29 l0_4 x11_1).f0))).setCell ⟨gb153, 1, none⟩ (.int .i64 ((rd_T29 l0_4 x11_1).f1))).setCell ⟨gb153, 2, none⟩ (.string ((rd_T29 l0_4 x11_1).f2))).setCell ⟨gb153, 3, none⟩ (.string ((rd_T29 l0_4 x11_1).f3))).setCell ⟨gb153, 4, none⟩ (.slice A152_4 ((rd_T29 l0_4 x11_1).f4).length c152_4))) := ⟨zL4 HB.out GE149.out GE150.out GE151.out GE153.out⟩
       (try clear HO_152004)
       (try clear BK149)
       (try clear BK150)
       (try clear BK151)
       (try clear BK153)
       (try clear HB)
       generalize (((((w16.setCell ⟨gb153, 0, none⟩ (.int .i64 ((rd_T29 l0_4 x11_1).f0))).setCell ⟨gb153, 1, none⟩ (.int .i64 ((rd_T29 l0_4 x11_1).f1))).setCell ⟨gb153, 2, none⟩ (.string ((rd_T29 l0_4 x11_1).f2))).setCell ⟨gb153, 3, none⟩ (.string ((rd_T29 l0_4 x11_1).f3))).setCell ⟨gb153, 4, none⟩ (.slice A152_4 ((rd_T29 l0_4 x11_1).f4).length c152_4)) = w21 at n0_ n1_ n2_ n3_ n4_ n5_ ⊢
       have HO_152004 := n0_
       have BK149 := n1_
       have BK150 := n2_
       have BK151 := n3_
       have BK153 := n4_
       have HB := n5_
       clear n0_ n1_ n2_ n3_ n4_ n5_
       replace HO_152004 := zRD HO_152004; replace BK149 := zBD BK149; replace BK150 := zBD BK150; replace BK151 := zBD BK151; replace BK153 := zBD BK153; replace HB := zLD HB
       refine start_ (n := 8) (S := fun w' => zt5 w' gb151 (.int .i64 a0_0) (.int .i64 a0_1) (.string a0_2) (.string a0_3) (u152004) (zs5 w' gb153 (.int .i64 ((rd_T29 l0_4 x11_1).f0)) (.int .i64 ((rd_T29 l0_4 x11_1).f1)) (.string ((rd_T29 l0_4 x11_1).f2)) (.string ((rd_T29 l0_4 x11_1).f3)) (.slice A152_4 ((rd_T29 l0_4 x11_1).f4).length c152_4))) (ds := [7]) (fB 8 0) (by kernel_rfl) rfl rfl (zk5 BK151.out (zc5 BK153.out)) (fun hHeld => ?_); refine with_tabW impl_copyPol.tab6 impl_copyPol.bits6 (fun HT_ HW_ => ?_)
       generalize w21.drew = w22 at HO_152004 BK149 BK150 BK151 BK153 HB hHeld ⊢
       refine pY 0 15 (fB 8 1) HT_.out ?_
       refine tY 1 16 (fB 8 3) HT_.out HW_.out hHeld ?_
       refine tY 2 17 (fB 8 7) HT_.out HW_.out hHeld ?_
       refine oN 3 18 (fB 8 15) HT_.out fun K hK => ?_
       refine gS Try.func55 #[.agg #[.int .i64 ((rd_T29 l0_4 x11_1).f0), .int .i64 ((rd_T29 l0_4 x11_1).f1), .string ((rd_T29 l0_4 x11_1).f2), .string ((rd_T29 l0_4 x11_1).f3), .slice A152_4 ((rd_T29 l0_4 x11_1).f4).length c152_4]] ?_
       with_reducible refine (ih k1 (by have := HK1.out; omega) ((rd_T29 l0_4 x11_1).f0) ((rd_T29 l0_4 x11_1).f1) ((rd_T29 l0_4 x11_1).f2) ((rd_T29 l0_4 x11_1).f3) _ _ ((rd_T29 l0_4 x11_1).f4) t154 t155 t156 t157 t158 _ ?side1 ?side2 A14.out).mono ?_
       (case side1 => exact zC (Kd.C_below HR152_4.out HB.out))
       (case side2 => exact HC152_4.out)
       rintro e w23 ⟨v159, rfl, ho0, hb⟩
       refine ⟨_, rfl, ?_⟩
       have HO160 := Aside0.mk (Kd.R_lower (Kd.R_newB (Kd.R_newB (Kd.R_newB (Kd.R_newB (Kd.R_new' ho0 (Kd.R_lt (zR HO_152004.out))) (g := gb149) (o := .cells #[.int .i64 a0_0, .int .i64 a0_1, .string a0_2, .string a0_3, .slice (some ad152) l0_4.length c0_4] 29 (0, 0)) (zB BK149.out)) (g := gb150) (o := .cells #[.int .i64 0, .int .i64 0, .string (⟨#[]⟩ : ByteArray), .string (⟨#[]⟩ : ByteArray), .slice none 0 0] 29 (0, 0)) (zB BK150.out)) (g := gb151) (o := .cells #[.int .i64 a0_0, .int .i64 a0_1, .string a0_2, .string a0_3, u152004] 29 (0, 0)) (zB BK151.out)) (g := gb153) (o := .cells #[.int .i64 ((rd_T29 l0_4 x11_1).f0), .int .i64 ((rd_T29 l0_4 x11_1).f1), .string ((rd_T29 l0_4 x11_1).f2), .string ((rd_T29 l0_4 x11_1).f3), .slice A152_4 ((rd_T29 l0_4 x11_1).f4).length c152_4] 29 (0, 0)) (zB BK153.out)) (below_size (zL4 HB.out GE149.out GE150.out GE151.out GE153.out))); replace HO_152004 := Aside0.mk (Kd.R_elder' (zR HO_152004.out) (Kd.R_base ho0) hb); replace BK149 := zBB BK149 hb; replace BK150 := zBB BK150 hb; replace BK151 := zBB BK151 hb; replace BK153 := zBB BK153 hb; replace HB := zLB (zL4 HB.out GE149.out GE150.out GE151.out GE153.out) hb
       clear ho0 hb
       (try clear ho0)
       obtain ⟨Ao25, co25, eo25⟩ := Kd.R_slice HO160.out
       (first | subst eo25 | (injection eo25 with f1_ f2_ f3_; have f4_ := f1_.symm; have f5_ := f3_.symm; clear f1_ f2_ f3_; subst f4_; subst f5_))
       refine hK.out _ _ (zk5 BK151.out (zc5 BK153.out)) fun hHeld => ?_; clear hK K
       refine nZ 18 ?_
       refine oN 4 19 (fB 8 31) HT_.out fun K hK => ?_
       refine value_ (w1 := ?_) (v := ?_) (by rfl) rfl ?_ ?_
       rotate_left 2
       ·go_simp
        constructor
        ·rfl
        ·rfl
       refine hK.out _ _ ⟨(bC (bA BK151.out _) 0).trans rfl, (bC (bA BK151.out _) 1).trans rfl, (bC (bA BK151.out _) 2).trans rfl, (bC (bA BK151.out _) 3).trans rfl, (bC (bA BK151.out _) 4).trans rfl, (bC (bA BK153.out _) 0).trans rfl, (bC (bA BK153.out _) 1).trans rfl, (bC (bA BK153.out _) 2).trans rfl, (bC (bA BK153.out _) 3).trans rfl, (bC (bA BK153.out _) 4).trans rfl⟩ fun hHeld => ?_; clear hK K
       refine nZ 19 ?_
       refine oN 5 20 (fB 8 63) HT_.out fun K hK => ?_
       refine Kd.R_append_step k29 (w0 := w) w.heap.size (by rfl) (.tmp 16) (.tmp 19) 27 29 (.agg #[(.int .i64 0), (.int .i64 0), (.string ⟨#[]⟩), (.string ⟨#[]⟩), (.slice none 0 0)]) 72 rfl Try.underlying27 info29 rfl (by decide) (by omega) u152004 x152004_1 (⟨t154, t155, t156, t157, t158⟩ : S29) [.int .i64 t154, .int .i64 t155, .string t156, .string t157, .slice Ao25 t158.length co25] (fun k_ => k_ ≠ gb149 ∧ k_ ≠ gb150 ∧ k_ ≠ gb151 ∧ k_ ≠ gb153) (fun k_ => ((fun k_ => k_ ≠ gb149 ∧ k_ ≠ gb150 ∧ k_ ≠ gb151 ∧ k_ ≠ gb153)) k_ ∧ some k_ ≠ (u152004 : Value).ownBlock) rfl rfl ?aP (fun _ hk => hk) ?aF ?aO ?aB ?aS ?aL ?_
       (case aP => exact k29_mkM _ _ _ (⟨t154, t155, t156, t157, t158⟩ : S29) (Kd.R_mono (HO160.out) (fun k_ hk => ⟨⟨hk.1.1.1.2, ⟨hk.1.1.2, ⟨hk.1.2, hk.2⟩⟩⟩, hk.1.1.1.1.2⟩)))
       (case aB => exact (zL4 HB.out GE149.out GE150.out GE151.out GE153.out))
       (case aF => exact (fun k_ hk => ⟨Kd.freshB (g := gb149) (o := .cells #[.int .i64 a0_0, .int .i64 a0_1, .string a0_2, .string a0_3, .slice (some ad152) l0_4.length c0_4] 29 (0, 0)) (zB BK149.out) k_ hk, Kd.freshB (g := gb150) (o := .cells #[.int .i64 0, .int .i64 0, .string (⟨#[]⟩ : ByteArray), .string (⟨#[]⟩ : ByteArray), .slice none 0 0] 29 (0, 0)) (zB BK150.out) k_ hk, Kd.freshB (g := gb151) (o := .cells #[.int .i64 a0_0, .int .i64 a0_1, .string a0_2, .string a0_3, u152004] 29 (0, 0)) (zB BK151.out) k_ hk, Kd.freshB (g := gb153) (o := .cells #[.int .i64 ((rd_T29 l0_4 x11_1).f0), .int .i64 ((rd_T29 l0_4 x11_1).f1), .string ((rd_T29 l0_4 x11_1).f2), .string ((rd_T29 l0_4 x11_1).f3), .slice A152_4 ((rd_T29 l0_4 x11_1).f4).length c152_4] 29 (0, 0)) (zB BK153.out) k_ hk⟩))
       (case aO => exact (zRm HO_152004.out (fun _ hk => ⟨hk.1.1, ⟨hk.1.2.1, ⟨hk.1.2.2.1, hk.1.2.2.2⟩⟩⟩)))
       (case aS => exact (below_size (zL4 HB.out GE149.out GE150.out GE151.out GE153.out)))
       (case aL => have := LMc15.out; omega)
       intro v162 w24 ho hb hg hat
       rw [← Ny161.out] at ho
       replace BK149 := Aside0.mk (blk_grown (g := gb149) (o := .cells #[.int .i64 a0_0, .int .i64 a0_1, .string a0_2, .string a0_3, .slice (some ad152) l0_4.length c0_4] 29 (0, 0)) (zB BK149.out) hg (Kd.R_away HO_152004.out (fun _ hk => hk.1.1))); replace BK150 := Aside0.mk (blk_grown (g := gb150) (o := .cells #[.int .i64 0, .int .i64 0, .string (⟨#[]⟩ : ByteArray), .string (⟨#[]⟩ : ByteArray), .slice none 0 0] 29 (0, 0)) (zB BK150.out) hg (Kd.R_away HO_152004.out (fun _ hk => hk.1.2.1))); replace BK151 := Aside0.mk (blk_grown (g := gb151) (o := .cells #[.int .i64 a0_0, .int .i64 a0_1, .string a0_2, .string a0_3, u152004] 29 (0, 0)) (zB BK151.out) hg (Kd.R_away HO_152004.out (fun _ hk => hk.1.2.2.1))); replace BK153 := Aside0.mk (blk_grown (g := gb153) (o := .cells #[.int .i64 ((rd_T29 l0_4 x11_1).f0), .int .i64 ((rd_T29 l0_4 x11_1).f1), .string ((rd_T29 l0_4 x11_1).f2), .string ((rd_T29 l0_4 x11_1).f3), .slice A152_4 ((rd_T29 l0_4 x11_1).f4).length c152_4] 29 (0, 0)) (zB BK153.out) hg (Kd.R_away HO_152004.out (fun _ hk => hk.1.2.2.2))); replace HB := Aside0.mk hb; have HO163 := Aside0.mk (ho); clear HO_152004 HO160
       clear ho hb hg hat
       obtain ⟨Ao26, co26, eo26⟩ := Kd.R_slice HO163.out
       (first | subst eo26 | (injection eo26 with f1_ f2_ f3_; have f4_ := f1_.symm; have f5_ := f3_.symm; clear f1_ f2_ f3_; subst f4_; subst f5_))
       refine hK.out _ _ (zk5 BK151.out (zc5 BK153.out)) fun hHeld => ?_; clear hK K
       refine nZ 20 ?_
       refine pY 6 21 (fB 8 127) HT_.out ?_
       refine last_ (i := 7) (N := none) #[true, true, true, true, true, true, true, true] rfl rfl (one_of HT_.out (by kernel_rfl)) (by decide) (fun K hK => ?_)
       have hs27 : w24.cell? ⟨gb151, 4, none⟩ = some (u152004) := (bC BK151.out 4).trans rfl
       have hfs27 := blk_frozen BK151.out 4
       have hns27_0 := NB149_151.out
       have hns27_1 := NB150_151.out
       have hns27_3 := NB153_151.out
       have hms27_0 := NB151_149.out
       have hms27_1 := NB151_150.out
       have hms27_3 := NB151_153.out
       refine skip_ (w1 := ?_) (by rfl) rfl ?_ ?_
       rotate_left
       ·go_simp
        rfl
       refine hK.out _ _ ?_
       clear hK K
       refine done_ (done_of HT_.out (by kernel_rfl)) ?_
       try go_wp2
       go_roundg k1
       case measure => have := HK1.out; omega
       case rel => exact ⟨(wrap64 (x11_1 + 1)), (y161), (.slice Ao26 y161.length co26), zV, H', ⟨by have := HK1.out; omega⟩, ⟨by (with_reducible repeat (first | apply Kd.R_alloc | apply Kd.R_drewN | apply Kd.R_drew)); exact Kd.R_mono (Kd.R_far (p := ⟨gb151, 4, none⟩) (Kd.R_mono HO163.out (fun k_ hk => (⟨hk, hk.2.2.1⟩ : _ ∧ k_ ≠ gb151))) (fun _ hk => hk.2) (.slice Ao26 y161.length co26)) (fun _ hk => ⟨hk.1.1, ⟨hk.1.2.1, hk.1.2.2.1⟩⟩)⟩, ⟨by (with_reducible repeat (first | refine bN ?_ _ | refine bD ?_ | refine bA ?_ _)); refine blk_far ?_ NB149_151.out _; exact zB BK149.out⟩, ⟨by (with_reducible repeat (first | refine bN ?_ _ | refine bD ?_ | refine bA ?_ _)); refine blk_far ?_ NB150_151.out _; exact zB BK150.out⟩, ⟨by (with_reducible repeat (first | refine bN ?_ _ | refine bD ?_ | refine bA ?_ _)); refine blk_put (cs := #[.int .i64 a0_0, .int .i64 a0_1, .string a0_2, .string a0_3, u152004]) ?_ 4 _ rfl; exact zB BK151.out⟩, ⟨zL4 HB.out GE149.out GE150.out GE151.out GE153.out⟩⟩
      ·rw [if_neg c15] at H
       exact absurd H (by simp)
     ·rw [if_neg c13] at H
      exact absurd H (by simp)
    ·rw [if_neg c12] at H
     exact absurd H (by simp)
   ·rw [if_neg c11] at H
    have c11b0 := decide_eq_false c11
    clear c11
    simp only [Option.some.injEq, Prod.mk.injEq] at H
    obtain ⟨rfl, rfl, rfl, rfl, rfl⟩ := H
    have hnb28 := NB151_149.out
    have hnc28 := NB149_151.out
    have hnb29 := NB151_150.out
    have hnc29 := NB150_151.out
    have hcz30 := zc5 BK151.out
    have hfz30 := zf5 BK151.out
    have hnb31 := NB150_149.out
    have hnc31 := NB149_150.out
    have hcz32 := zc5 BK150.out
    have hfz32 := zf5 BK150.out
    obtain ⟨Ao33, co33, eo33⟩ := Kd.R_slice HO_152004.out
    subst eo33
    go_wp2
    refine bodyPost_ret (results_cell_row rfl _ _ gb150 29 #[.int .i64 a0_0, .int .i64 a0_1, .string a0_2, .string a0_3, .slice Ao33 x152004_1.length co33] (0, 0) _ rfl (by refine zB ?_; refine zp5 (cs := #[.int .i64 0, .int .i64 0, .string (⟨#[]⟩ : ByteArray), .string (⟨#[]⟩ : ByteArray), .slice none 0 0]) ?_; exact zB BK150.out) Try.underlying29 rfl (by kernel_rfl)) rfl ?_
    exact ⟨_, zW, by (with_reducible repeat (first | apply Kd.R_alloc | apply Kd.R_drewN | apply Kd.R_drew)); exact Kd.R_mono (zRF5 (Kd.R_mono HO_152004.out (fun k_ hk => (⟨hk, hk.2.1⟩ : _ ∧ k_ ≠ gb150))) gb150 (fun _ hk => hk.2) (.int .i64 a0_0) (.int .i64 a0_1) (.string a0_2) (.string a0_3) (.slice Ao33 x152004_1.length co33)) (fun _ hk => trivial), zL3 HB.out GE149.out GE150.out GE151.out⟩

open Go.Proofs.YtfhblnbicnmndaaW.PrintWords renaming blk_drewN → bN, blk_drew → bD, blk_alloc → bA, blk_cell → bC, blk_below → bB, below_set → bS
/-! ### impl_Opposite: function 28 -/
def impl_Opposite.j0 : Nat → Bool → Int → Int → ByteArray → ByteArray → List (S29) → Option (Int × Int × ByteArray × ByteArray × (List (S29)))
 | 0, _, _, _, _, _, _ => none
 | k + 1, x11, x165000, x165001, x165002, x165003, x165004 => if x11 = true then (if 0 < (x165004.length : Int) then ((impl_copyPol.f k ((rd_T29 x165004 0).f0) ((rd_T29 x165004 0).f1) ((rd_T29 x165004 0).f2) ((rd_T29 x165004 0).f3) ((rd_T29 x165004 0).f4)).bind fun bt167 => (some (bt167.1, bt167.2.1, bt167.2.2.1, bt167.2.2.2.1, bt167.2.2.2.2))) else (none)) else ((impl_copyPol.f k x165000 x165001 x165002 x165003 x165004).bind fun bt174 => (some (9, 0, (⟨#[]⟩ : ByteArray), (⟨#[]⟩ : ByteArray), (([(⟨bt174.1, bt174.2.1, bt174.2.2.1, bt174.2.2.2.1, bt174.2.2.2.2⟩ : S29)] : List (S29))))))
def impl_Opposite.f (k : Nat) (a0_0 : Int) (a0_1 : Int) (a0_2 : ByteArray) (a0_3 : ByteArray) (l0_4 : List (S29)) : Option (Int × Int × ByteArray × ByteArray × (List (S29))) := if a0_0 = 9 then (impl_Opposite.j0 k ((l0_4.length : Int) == 1) a0_0 a0_1 a0_2 a0_3 l0_4) else (impl_Opposite.j0 k false a0_0 a0_1 a0_2 a0_3 l0_4)
theorem impl_Opposite.mono_l : ∀ k, (∀ y0 y1 y2 y3 y4 y5, LeO (impl_Opposite.j0 k y0 y1 y2 y3 y4 y5) (impl_Opposite.j0 (k + 1) y0 y1 y2 y3 y4 y5))
 | 0 => fun _ _ _ _ _ _ r h => by simp [impl_Opposite.j0] at h
 | k + 1 => by
  have ih0 := impl_Opposite.mono_l k
  ·intro y0 y1 y2 y3 y4 y5
   unfold impl_Opposite.j0
   repeat' first
   | (with_reducible exact ih0 _ _ _ _ _ _)
   | (with_reducible apply impl_copyPol.mono)
   | (with_reducible exact LeO.refl _)
   | (with_reducible exact LeO.none _)
   | (with_reducible refine LeO.ite ?_ ?_)
   | (with_reducible refine LeO.bind ?_ (fun _ => ?_))
   | exact ih0 _ _ _ _ _ _
   | apply impl_copyPol.mono
   | exact LeO.none _
   | refine LeO.ite ?_ ?_
   | refine LeO.bind ?_ (fun _ => ?_)
theorem impl_Opposite.mono : ∀ a0 a1 a2 a3 a4 k, LeO (impl_Opposite.f k a0 a1 a2 a3 a4) (impl_Opposite.f (k + 1) a0 a1 a2 a3 a4) := by
 intro a0 a1 a2 a3 a4 k
 have ih0 := impl_Opposite.mono_l k
 unfold impl_Opposite.f
 repeat' first
   | (with_reducible exact ih0 _ _ _ _ _ _)
   | (with_reducible apply impl_copyPol.mono)
   | (with_reducible exact LeO.refl _)
   | (with_reducible exact LeO.none _)
   | (with_reducible refine LeO.ite ?_ ?_)
   | (with_reducible refine LeO.bind ?_ (fun _ => ?_))
   | exact ih0 _ _ _ _ _ _
   | apply impl_copyPol.mono
   | exact LeO.none _
   | refine LeO.ite ?_ ?_
   | refine LeO.bind ?_ (fun _ => ?_)
set_option maxHeartbeats 8000000 in
set_option maxRecDepth 100000 in
theorem impl_Opposite.calls (k : Nat) (a0_0 : Int) (a0_1 : Int) (a0_2 : ByteArray) (a0_3 : ByteArray) (A0_4 : Option Addr) (c0_4 : Nat) (l0_4 : List (S29)) (r1 : Int) (r2 : Int) (r3 : ByteArray) (r4 : ByteArray) (r5 : List (S29)) (w : World) (hr0_4 : Kd.C k29 w A0_4 l0_4.length l0_4) (hc0_4 : l0_4.length ≤ c0_4) (h : impl_Opposite.f k a0_0 a0_1 a0_2 a0_3 l0_4 = some (r1, r2, r3, r4, r5)) :
  Calls Try.prog 28 #[.agg #[.int .i64 a0_0, .int .i64 a0_1, .string a0_2, .string a0_3, .slice A0_4 l0_4.length c0_4]] w fun e w' => ∃ v4_ : Value, e = .returned (.agg #[.int .i64 r1, .int .i64 r2, .string r3, .string r4, v4_]) ∧ Kd.N k29 29 w' w.heap.size (fun k_ => (w.heap.size ≤ k_)) v4_ r5 ∧ Below w.heap.size w w' := by
 have hu29 := Try.underlying29
 have HR0_4 := Aside0.mk hr0_4
 have HC0_4 := Aside0.mk hc0_4
 clear hr0_4 hc0_4
 have HB := Aside0.mk (Below.refl w.heap.size w)
 unfold impl_Opposite.f at h; have H := h
 clear h
 have HC2 := Aside0.mk H
 clear H
 go_enter Try.func28, Try.ntmps28
 go_upto_region 1 with (first | ((with_reducible refine gD 1 rfl ?_); (try (refine gate_guard (by rfl) ?_; dsimp only)); refine box_event ?hg (N := 1) ?hd (cs := #[.int .i64 a0_0, .int .i64 a0_1, .string a0_2, .string a0_3, .slice A0_4 l0_4.length c0_4]) (t := 29) ?hr ?_; (case hd => rfl); (case hg => rfl); (case hr => first | (go_simp; done) | (go_simp; rfl)); intro gb164 hg w3 hbox hb; have BK164 := Aside0.mk hbox; have GW164 := Aside0.mk (zg (zL HB.out) hg : w.heap.size ≤ gb164); have GE164 := GW164; replace HB := zLB (zL HB.out) hb; clear hb hbox hg) | ((with_reducible refine gD 2 rfl ?_); (try (refine gate_guard (by rfl) ?_; dsimp only)); refine box_event ?hg (N := 2) ?hd (cs := #[.int .i64 0, .int .i64 0, .string (⟨#[]⟩ : ByteArray), .string (⟨#[]⟩ : ByteArray), .slice none 0 0]) (t := 29) ?hr ?_; (case hd => rfl); (case hg => rfl); (case hr => first | (go_simp; done) | (go_simp; rfl)); intro gb165 hg w4 hbox hb; have BK165 := Aside0.mk hbox; have GW165 := Aside0.mk (zg (zL1 HB.out GE164.out) hg : w.heap.size ≤ gb165); have GE165 := GW165; replace HB := zLB (zL1 HB.out GE164.out) hb; have NB164_165 := Aside0.mk (zN BK164.out hg : gb164 ≠ gb165); have NB165_164 := Aside0.mk (zM BK164.out hg : gb165 ≠ gb164); replace BK164 := zBB BK164 hb; clear hb hbox hg))
 (try simp only [Act.put, List.setIfInBounds_toArray, List.set_cons_zero, List.set_cons_succ])
 go_cut [11] (fun v11 wc => ∃ (kq : Nat) (x11_1 : Bool), v11 = .bool x11_1 ∧ Aside0 (impl_Opposite.j0 kq x11_1 a0_0 a0_1 a0_2 a0_3 l0_4 = some (r1, r2, r3, r4, r5)) ∧ Aside0 (kq ≤ k) ∧ Aside0 (wc.heap[gb164]? = some (.cells #[.int .i64 a0_0, .int .i64 a0_1, .string a0_2, .string a0_3, (.slice A0_4 l0_4.length c0_4)] 29 (0, 0))) ∧ Aside0 (wc.heap[gb165]? = some (.cells #[.int .i64 0, .int .i64 0, .string (⟨#[]⟩ : ByteArray), .string (⟨#[]⟩ : ByteArray), (.slice none 0 0)] 29 (0, 0))) ∧ Aside0 (Below w.heap.size w wc))
 case first =>
  have H := HC2.out
  clear HC2
  by_cases c5 : a0_0 = 9
  ·rw [if_pos c5] at H
   obtain ⟨c5b0, c5b1⟩ := zt c5
   clear c5
   (first | rw [c5b0] | (simp only [i64_w, i32_w]; rw [c5b0]) | skip)
   have H' := Aside0.mk H
   clear H
   have hnb6 := NB164_165.out
   have hnc6 := NB165_164.out
   have hcz7 := zc5 BK164.out
   have hfz7 := zf5 BK164.out
   go_wp2
   go_meet
   case rel => exact ⟨_, (((l0_4.length : Int) == 1)), zV, H', ⟨by first | omega | exact Nat.le_refl _⟩, ⟨zB BK164.out⟩, ⟨zB BK165.out⟩, ⟨zL2 HB.out GE164.out GE165.out⟩⟩
  ·rw [if_neg c5] at H
   obtain ⟨c5b0, c5b1⟩ := zf c5
   (first | rw [c5b0] | (simp only [i64_w, i32_w]; rw [c5b0]) | skip)
   have H' := Aside0.mk H
   clear H
   have hnb8 := NB164_165.out
   have hnc8 := NB165_164.out
   have hcz9 := zc5 BK164.out
   have hfz9 := zf5 BK164.out
   go_wp2
   go_meet
   case rel => exact ⟨_, (false), zV, H', ⟨by first | omega | exact Nat.le_refl _⟩, ⟨zB BK164.out⟩, ⟨zB BK165.out⟩, ⟨zL2 HB.out GE164.out GE165.out⟩⟩
 case rest =>
  clear HC2
  try clear c2
  try clear p2
  try clear c5
  try clear c5b0
  try clear c5b1
  try clear c6
  try clear c8
  try clear hcz7; try clear hcz9; try clear hfz7; try clear hfz9
  obtain ⟨kq, x11_1, rfl, HA, HJ1, BK164, BK165, HB⟩ := hcut
  cases kq with
  | zero => exact absurd HA.out (by simp [impl_Opposite.j0])
  | succ kj1 =>
   have H := HA.out
   clear HA
   simp only [impl_Opposite.j0] at H
   by_cases c10 : x11_1 = true
   ·subst c10
    rw [if_pos rfl] at H
    by_cases c11 : 0 < (l0_4.length : Int)
    ·rw [if_pos c11] at H
     have c11b0 := decide_eq_true c11
     have c11b1 : decide (0 < l0_4.length) = true := decide_eq_true (by omega)
     clear c11
     obtain ⟨⟨t167, t168, t169, t170, t171⟩, A12, H⟩ := zO H; try dsimp only at H
     simp only [Option.some.injEq, Prod.mk.injEq] at H
     obtain ⟨rfl, rfl, rfl, rfl, rfl⟩ := H
     have hnb13 := NB164_165.out
     have hnc13 := NB165_164.out
     have hcz14 := zc5 BK164.out
     have hfz14 := zf5 BK164.out
     have p166 : 0 ≤ (0 : Int) := (by omega)
     have q166 : 0 < (l0_4.length : Int) := zD
     obtain ⟨ad166, A166_4, c166_4, e166, hx166_0, hx166_1, hx166_2, hx166_3, hx166_4, hl166_4, hi166_4⟩ := at_T29 HR0_4.out 0 p166 q166
     cases e166
     have qi166 : (0 < l0_4.length) = True := eq_true (by omega)
     (try rw [show ((0 : Int)).toNat = 0 from rfl] at hx166_0)
     (try rw [show 0 * 5 = 0 from rfl] at hx166_0)
     (try rw [Addr.add_zero'] at hx166_0)
     (try rw [show ((0 : Int)).toNat = 0 from rfl] at hx166_1)
     (try rw [show 0 * 5 = 0 from rfl] at hx166_1)
     (try rw [Addr.add_zero'] at hx166_1)
     (try rw [show ((0 : Int)).toNat = 0 from rfl] at hx166_2)
     (try rw [show 0 * 5 = 0 from rfl] at hx166_2)
     (try rw [Addr.add_zero'] at hx166_2)
     (try rw [show ((0 : Int)).toNat = 0 from rfl] at hx166_3)
     (try rw [show 0 * 5 = 0 from rfl] at hx166_3)
     (try rw [Addr.add_zero'] at hx166_3)
     (try rw [show ((0 : Int)).toNat = 0 from rfl] at hx166_4)
     (try rw [show 0 * 5 = 0 from rfl] at hx166_4)
     (try rw [Addr.add_zero'] at hx166_4)
     replace hx166_0 := zh HB.out hx166_0
     replace hx166_1 := zh HB.out hx166_1
     replace hx166_2 := zh HB.out hx166_2
     replace hx166_3 := zh HB.out hx166_3
     replace hx166_4 := zh HB.out hx166_4
     have HR166_4 := Aside0.mk hi166_4
     have HC166_4 := Aside0.mk hl166_4
     clear hi166_4 hl166_4
     replace p166 := eq_true p166
     replace q166 := eq_true q166
     go_wp2_with (first | ((with_reducible refine gC 55 rfl ?_); refine gL 16 Try.func55 #[.agg #[.int .i64 ((rd_T29 l0_4 0).f0), .int .i64 ((rd_T29 l0_4 0).f1), .string ((rd_T29 l0_4 0).f2), .string ((rd_T29 l0_4 0).f3), .slice A166_4 ((rd_T29 l0_4 0).f4).length c166_4]] ?_; (with_reducible refine (impl_copyPol.calls kj1 ((rd_T29 l0_4 0).f0) ((rd_T29 l0_4 0).f1) ((rd_T29 l0_4 0).f2) ((rd_T29 l0_4 0).f3) _ _ ((rd_T29 l0_4 0).f4) t167 t168 t169 t170 t171 _ ?side1 ?side2 A12.out).mono ?_); (case side1 => exact zC (Kd.C_below HR166_4.out HB.out)); (case side2 => exact HC166_4.out); rintro e w15 ⟨v172, rfl, ho0, hb⟩; refine ⟨_, rfl, ?_⟩; have HO173 := Aside0.mk (Kd.N_lower (Kd.N_mono (ok' := fun k_ => (w.heap.size ≤ k_) ∧ k_ ≠ gb164 ∧ k_ ≠ gb165) (Kd.R_N (Kd.R_bound ho0)) (fun k_ hk_ => ⟨(Nat.le_trans (below_size (zL2 HB.out GE164.out GE165.out)) hk_.2.1), (Kd.freshB (g := gb164) (o := .cells #[.int .i64 a0_0, .int .i64 a0_1, .string a0_2, .string a0_3, .slice (some ad166) l0_4.length c0_4] 29 (0, 0)) (zB BK164.out) k_ hk_.2.1), (Kd.freshB (g := gb165) (o := .cells #[.int .i64 0, .int .i64 0, .string (⟨#[]⟩ : ByteArray), .string (⟨#[]⟩ : ByteArray), .slice none 0 0] 29 (0, 0)) (zB BK165.out) k_ hk_.2.1)⟩)) (below_size (zL2 HB.out GE164.out GE165.out))); replace BK164 := zBB BK164 hb; replace BK165 := zBB BK165 hb; replace HB := zLB (zL2 HB.out GE164.out GE165.out) hb; clear ho0 hb; have hcz16 := zc5 BK165.out; have hfz16 := zf5 BK165.out; obtain ⟨Ao17, co17, eo17⟩ := Kd.N_slice HO173.out; subst eo17))
     refine bodyPost_ret (results_cell_row rfl _ _ gb165 29 #[.int .i64 t167, .int .i64 t168, .string t169, .string t170, .slice Ao17 t171.length co17] (0, 0) _ rfl (by refine zB ?_; refine zp5 (cs := #[.int .i64 0, .int .i64 0, .string (⟨#[]⟩ : ByteArray), .string (⟨#[]⟩ : ByteArray), .slice none 0 0]) ?_; exact zB BK165.out) Try.underlying29 rfl (by kernel_rfl)) rfl ?_
     exact ⟨_, zW, by (with_reducible repeat (first | apply Kd.N_alloc | apply Kd.N_drewN | apply Kd.N_drew)); exact Kd.N_mono (zNF5 (Kd.N_mono HO173.out (fun k_ hk => (⟨hk, hk.2.2⟩ : _ ∧ k_ ≠ gb165))) gb165 (fun _ hk => hk.2) (.int .i64 t167) (.int .i64 t168) (.string t169) (.string t170) (.slice Ao17 t171.length co17)) (fun _ hk => hk.1.1), zL2 HB.out GE164.out GE165.out⟩
    ·rw [if_neg c11] at H
     exact absurd H (by simp)
   ·obtain rfl := Bool.eq_false_iff.mpr c10
    rw [if_neg zn] at H
    obtain ⟨⟨t174, t175, t176, t177, t178⟩, A18, H⟩ := zO H; try dsimp only at H
    generalize hy181 : (([(⟨t174, t175, t176, t177, t178⟩ : S29)] : List (S29))) = y181 at H; (try rw [Option.bind_some] at H); have Ny181 := Aside0.mk hy181.symm; clear hy181
    simp only [Option.some.injEq, Prod.mk.injEq] at H
    obtain ⟨rfl, rfl, rfl, rfl, rfl⟩ := H
    have hnb19 := NB164_165.out
    have hnc19 := NB165_164.out
    have hcz20 := zc5 BK164.out
    have hfz20 := zf5 BK164.out
    go_wp2_with (first | ((with_reducible refine gC 55 rfl ?_); refine gL 18 Try.func55 #[.agg #[.int .i64 a0_0, .int .i64 a0_1, .string a0_2, .string a0_3, .slice A0_4 l0_4.length c0_4]] ?_; (with_reducible refine (impl_copyPol.calls kj1 a0_0 a0_1 a0_2 a0_3 _ _ l0_4 t174 t175 t176 t177 t178 _ ?side1 ?side2 A18.out).mono ?_); (case side1 => exact zC (Kd.C_below HR0_4.out HB.out)); (case side2 => exact HC0_4.out); rintro e w21 ⟨v179, rfl, ho0, hb⟩; refine ⟨_, rfl, ?_⟩; have HO180 := Aside0.mk (Kd.N_lower (Kd.N_mono (ok' := fun k_ => (w.heap.size ≤ k_) ∧ k_ ≠ gb164 ∧ k_ ≠ gb165) (Kd.R_N (Kd.R_bound ho0)) (fun k_ hk_ => ⟨(Nat.le_trans (below_size (zL2 HB.out GE164.out GE165.out)) hk_.2.1), (Kd.freshB (g := gb164) (o := .cells #[.int .i64 a0_0, .int .i64 a0_1, .string a0_2, .string a0_3, .slice A0_4 l0_4.length c0_4] 29 (0, 0)) (zB BK164.out) k_ hk_.2.1), (Kd.freshB (g := gb165) (o := .cells #[.int .i64 0, .int .i64 0, .string (⟨#[]⟩ : ByteArray), .string (⟨#[]⟩ : ByteArray), .slice none 0 0] 29 (0, 0)) (zB BK165.out) k_ hk_.2.1)⟩)) (below_size (zL2 HB.out GE164.out GE165.out))); replace BK164 := zBB BK164 hb; replace BK165 := zBB BK165 hb; replace HB := zLB (zL2 HB.out GE164.out GE165.out) hb; clear ho0 hb; obtain ⟨Ao22, co22, eo22⟩ := Kd.N_slice HO180.out; subst eo22) | ((with_reducible refine gD 19 rfl ?_); (try (refine gate_guard (by rfl) ?_; dsimp only)); refine Kd.N_lit k29 _ 29 ?hg (N' := 19) ?hd (xs := ([(⟨t174, t175, t176, t177, t178⟩ : S29)] : List (S29))) (inner := [.int .i64 t174, .int .i64 t175, .string t176, .string t177, .slice Ao22 t178.length co22]) (ok := (fun k_ => (w.heap.size ≤ k_) ∧ k_ ≠ gb164 ∧ k_ ≠ gb165)) (okp := (fun k_ => (w.heap.size ≤ k_) ∧ k_ ≠ gb164 ∧ k_ ≠ gb165)) ?hr ?hp (fun _ hk => hk) ((show ∀ k_, w21.heap.size ≤ k_ → (fun k_ => (w.heap.size ≤ k_) ∧ k_ ≠ gb164 ∧ k_ ≠ gb165) k_ from fun k_ hk => ⟨(Nat.le_trans (below_size (zL2 HB.out GE164.out GE165.out)) hk), Kd.freshB (g := gb164) (o := .cells #[.int .i64 a0_0, .int .i64 a0_1, .string a0_2, .string a0_3, .slice A0_4 l0_4.length c0_4] 29 (0, 0)) (zB BK164.out) k_ hk, Kd.freshB (g := gb165) (o := .cells #[.int .i64 0, .int .i64 0, .string (⟨#[]⟩ : ByteArray), .string (⟨#[]⟩ : ByteArray), .slice none 0 0] 29 (0, 0)) (zB BK165.out) k_ hk⟩) _ (Nat.le_refl _)) (Below.refl _ _) (Nat.le_refl _) (by simp) ?_; (case hd => rfl); (case hg => rfl); (case hr => first | (go_simp; done) | (go_simp; rfl)); (case hp => exact (Reps.c5 (show Kd.FK k29 _ _ (⟨t174, t175, t176, t177, t178⟩ : S29) [.int .i64 t174, .int .i64 t175, .string t176, .string t177, .slice Ao22 t178.length co22] from (k29_mkF _ _ (⟨t174, t175, t176, t177, t178⟩ : S29) (Kd.N_reads' (Kd.N_mono (ok' := (fun k_ => (w.heap.size ≤ k_) ∧ k_ ≠ gb164 ∧ k_ ≠ gb165)) (HO180.out) (fun k_ hk => ⟨hk.1, ⟨hk.2.1, hk.2.2⟩⟩))).2.1 (Kd.N_F (Kd.N_mono (ok' := (fun k_ => (w.heap.size ≤ k_) ∧ k_ ≠ gb164 ∧ k_ ≠ gb165)) (HO180.out) (fun k_ hk => ⟨hk.1, ⟨hk.2.1, hk.2.2⟩⟩))))) (Reps.none _ _))); intro v182 w23 ho24 hb hg_ hnew_; clear hg_ hnew_; (first | rw [← Ny181.out] at ho24 | (simp only [Int.reduceToNat] at ho24; rw [← Ny181.out] at ho24)); replace HO180 := Aside0.mk (Kd.N_elder' (zX HO180.out) (Kd.N_base ho24) hb); have HO183 := Aside0.mk (Kd.N_lower ho24 (below_size (zL2 HB.out GE164.out GE165.out))); replace BK164 := zBB BK164 hb; replace BK165 := zBB BK165 hb; replace HB := zLB (zL2 HB.out GE164.out GE165.out) hb; clear hb ho24; obtain ⟨Ao25, co25, eo25⟩ := Kd.N_slice HO183.out; subst eo25; have hcz26 := zc5 BK165.out; have hfz26 := zf5 BK165.out))
    refine bodyPost_ret (results_cell_row rfl _ _ gb165 29 #[.int .i64 9, .int .i64 0, .string (⟨#[]⟩ : ByteArray), .string (⟨#[]⟩ : ByteArray), .slice Ao25 y181.length co25] (0, 0) _ rfl (by refine zB ?_; refine zp5 (cs := #[.int .i64 0, .int .i64 0, .string (⟨#[]⟩ : ByteArray), .string (⟨#[]⟩ : ByteArray), .slice none 0 0]) ?_; exact zB BK165.out) Try.underlying29 rfl (by kernel_rfl)) rfl ?_
    exact ⟨_, zW, by (with_reducible repeat (first | apply Kd.N_alloc | apply Kd.N_drewN | apply Kd.N_drew)); exact Kd.N_mono (zNF5 (Kd.N_mono HO183.out (fun k_ hk => (⟨hk, hk.2.2⟩ : _ ∧ k_ ≠ gb165))) gb165 (fun _ hk => hk.2) (.int .i64 9) (.int .i64 0) (.string (⟨#[]⟩ : ByteArray)) (.string (⟨#[]⟩ : ByteArray)) (.slice Ao25 y181.length co25)) (fun _ hk => hk.1.1), zL2 HB.out GE164.out GE165.out⟩

open Go.Proofs.YtfhblnbicnmndaaW.PrintWords renaming blk_drewN → bN, blk_drew → bD, blk_alloc → bA, blk_cell → bC, blk_below → bB, below_set → bS
/-! ### spec_Errors: function 23 -/
def spec_Errors.l0 : Nat → List (S73) → Int → Int → Option (Int)
 | 0, _, _, _ => none
 | k + 1, x0, x3, x4 => if x4 < (x0.length : Int) then (if 0 ≤ x4 then (if (rd_T73 x0 x4).f4 = true then (spec_Errors.l0 k x0 (wrap64 (x3 + 1)) (wrap64 (x4 + 1))) else (spec_Errors.l0 k x0 x3 (wrap64 (x4 + 1)))) else (none)) else (some x3)
def spec_Errors.f (k : Nat) (l0 : List (S73)) : Option (Int) := spec_Errors.l0 k l0 0 0
theorem spec_Errors.mono_l : ∀ k, (∀ y0 y1 y2, LeO (spec_Errors.l0 k y0 y1 y2) (spec_Errors.l0 (k + 1) y0 y1 y2))
 | 0 => fun _ _ _ r h => by simp [spec_Errors.l0] at h
 | k + 1 => by
  have ih0 := spec_Errors.mono_l k
  ·intro y0 y1 y2
   unfold spec_Errors.l0
   repeat' first
   | (with_reducible exact ih0 _ _ _)
   | (with_reducible exact LeO.refl _)
   | (with_reducible exact LeO.none _)
   | (with_reducible refine LeO.ite ?_ ?_)
   | (with_reducible refine LeO.bind ?_ (fun _ => ?_))
   | exact ih0 _ _ _
   | exact LeO.none _
   | refine LeO.ite ?_ ?_
   | refine LeO.bind ?_ (fun _ => ?_)
theorem spec_Errors.mono : ∀ a0 k, LeO (spec_Errors.f k a0) (spec_Errors.f (k + 1) a0) := by
 intro a0 k
 have ih0 := spec_Errors.mono_l k
 unfold spec_Errors.f
 repeat' first
   | (with_reducible exact ih0 _ _ _)
   | (with_reducible exact LeO.refl _)
   | (with_reducible exact LeO.none _)
   | (with_reducible refine LeO.ite ?_ ?_)
   | (with_reducible refine LeO.bind ?_ (fun _ => ?_))
   | exact ih0 _ _ _
   | exact LeO.none _
   | refine LeO.ite ?_ ?_
   | refine LeO.bind ?_ (fun _ => ?_)
set_option maxHeartbeats 8000000 in
set_option maxRecDepth 100000 in
theorem spec_Errors.calls (k : Nat) (A0 : Option Addr) (c0 : Nat) (l0 : List (S73)) (r : Int) (w : World) (hr0 : Kd.C k73 w A0 l0.length l0) (hc0 : l0.length ≤ c0) (h : spec_Errors.f k l0 = some r) :
  Calls Try.prog 23 #[.slice A0 l0.length c0] w fun e w' => e = .returned (.int .i64 r) ∧ Drawn0 w w' := by
 have HR0 := Aside0.mk hr0
 have HC0 := Aside0.mk hc0
 clear hr0 hc0
 unfold spec_Errors.f at h; have H := h
 clear h
 have H' := Aside0.mk H
 clear H
 go_enter Try.func23, Try.ntmps23
 go_wp2
 go_loopg [3, 4] k (fun kq v3 v4 w' => ∃ (x3_1 : Int) (x4_1 : Int), v3 = .int .i64 x3_1 ∧ v4 = .int .i64 x4_1 ∧ Aside0 (spec_Errors.l0 kq l0 x3_1 x4_1 = some r) ∧ Aside0 (kq ≤ k) ∧ Drawn0 w w')
 case atStart => exact ⟨(0), (0), zV, zV, H', ⟨Nat.le_refl _⟩, zU⟩
 case round =>
  clear H'
  obtain ⟨x3_1, x4_1, rfl, rfl, HA, HK1, ⟨m1, rfl⟩⟩ := hrel
  cases gk with
  | zero => exact absurd HA.out (by simp [spec_Errors.l0])
  | succ k1 =>
   have H := HA.out
   clear HA
   simp only [spec_Errors.l0] at H
   by_cases c2 : x4_1 < (l0.length : Int)
   ·rw [if_pos c2] at H
    have c2b0 := decide_eq_true c2
    clear c2
    by_cases c3 : 0 ≤ x4_1
    ·rw [if_pos c3] at H
     have c3b0 := decide_eq_true c3
     clear c3
     obtain ⟨bq4, hbq4⟩ : ∃ b_ : Bool, b_ = ((rd_T73 l0 x4_1).f4) := ⟨_, rfl⟩
     replace H : (if bq4 = true then (spec_Errors.l0 k1 l0 (wrap64 (x3_1 + 1)) (wrap64 (x4_1 + 1))) else (spec_Errors.l0 k1 l0 x3_1 (wrap64 (x4_1 + 1)))) = some r := by rw [← hbq4] at H; exact H
     have Nbq4 := Aside0.mk hbq4
     clear hbq4
     by_cases c5 : bq4 = true
     ·subst c5
      rw [if_pos rfl] at H
      have H' := Aside0.mk H
      clear H
      have p184 : 0 ≤ (x4_1 : Int) := zD
      have q184 : x4_1 < (l0.length : Int) := zD
      obtain ⟨ad184, A184_5, c184_5, e184, hx184_0, hx184_1, hx184_2, hx184_3, hx184_4, hx184_5, hl184_5, hi184_5⟩ := at_T73 HR0.out x4_1 p184 q184
      (try rw [← Nbq4.out] at hx184_4)
      cases e184
      have HR184_5 := Aside0.mk hi184_5
      have HC184_5 := Aside0.mk hl184_5
      clear hi184_5 hl184_5
      replace p184 := eq_true p184
      replace q184 := eq_true q184
      go_wp2
      go_roundg k1
      case measure => have := HK1.out; omega
      case rel => exact ⟨(wrap64 (x3_1 + 1)), (wrap64 (x4_1 + 1)), zV, zV, H', ⟨by have := HK1.out; omega⟩, zU⟩
     ·obtain rfl := Bool.eq_false_iff.mpr c5
      rw [if_neg zn] at H
      have H' := Aside0.mk H
      clear H
      have p184 : 0 ≤ (x4_1 : Int) := zD
      have q184 : x4_1 < (l0.length : Int) := zD
      obtain ⟨ad184, A184_5, c184_5, e184, hx184_0, hx184_1, hx184_2, hx184_3, hx184_4, hx184_5, hl184_5, hi184_5⟩ := at_T73 HR0.out x4_1 p184 q184
      (try rw [← Nbq4.out] at hx184_4)
      cases e184
      have HR184_5 := Aside0.mk hi184_5
      have HC184_5 := Aside0.mk hl184_5
      clear hi184_5 hl184_5
      replace p184 := eq_true p184
      replace q184 := eq_true q184
      go_wp2
      go_roundg k1
      case measure => have := HK1.out; omega
      case rel => exact ⟨(x3_1), (wrap64 (x4_1 + 1)), zV, zV, H', ⟨by have := HK1.out; omega⟩, zU⟩
    ·rw [if_neg c3] at H
     exact absurd H (by simp)
   ·rw [if_neg c2] at H
    have c2b0 := decide_eq_false c2
    clear c2
    obtain rfl := Option.some.inj H
    go_wp2
    go_ret
    exact ⟨zV, zU⟩

open Go.Proofs.YtfhblnbicnmndaaW.PrintWords renaming blk_drewN → bN, blk_drew → bD, blk_alloc → bA, blk_cell → bC, blk_below → bB, below_set → bS
/-! ### spec_Cap: function 70 -/
def spec_Cap.f (a0 : Int) : Option (Int) := if a0 < 0 then (some 0) else (if a0 > 2147483647 then (some 2147483647) else (some a0))
set_option maxHeartbeats 8000000 in
set_option maxRecDepth 100000 in
theorem spec_Cap.calls (a0 : Int) (r : Int) (w : World) (h : spec_Cap.f a0 = some r) :
  Calls Try.prog 70 #[.int .i64 a0] w fun e w' => e = .returned (.int .i64 r) ∧ Drawn0 w w' := by
 unfold spec_Cap.f at h; have H := h
 clear h
 by_cases c2 : a0 < 0
 ·rw [if_pos c2] at H
  have c2b0 := decide_eq_true c2
  clear c2
  obtain rfl := Option.some.inj H
  go_enter Try.func70, Try.ntmps70
  go_wp2
  go_ret
  exact ⟨zV, zU⟩
 ·rw [if_neg c2] at H
  have c2b0 := decide_eq_false c2
  clear c2
  by_cases c3 : a0 > 2147483647
  ·rw [if_pos c3] at H
   have c3b0 := decide_eq_true c3
   clear c3
   obtain rfl := Option.some.inj H
   go_enter Try.func70, Try.ntmps70
   go_wp2
   go_ret
   exact ⟨zV, zU⟩
  ·rw [if_neg c3] at H
   have c3b0 := decide_eq_false c3
   clear c3
   obtain rfl := Option.some.inj H
   go_enter Try.func70, Try.ntmps70
   go_wp2
   go_ret
   exact ⟨zV, zU⟩

open Go.Proofs.YtfhblnbicnmndaaW.PrintWords renaming blk_drewN → bN, blk_drew → bD, blk_alloc → bA, blk_cell → bC, blk_below → bB, below_set → bS
/-! ### spec_Sub: function 106 -/
def spec_Sub.f (a0 : Int) (a1 : Int) : Option (Int) := (spec_Cap.f a0).bind fun t185 => ((spec_Cap.f a1).bind fun t186 => ((spec_Cap.f (wrap64 (t185 - t186))).bind fun t187 => (some t187)))
set_option maxHeartbeats 8000000 in
set_option maxRecDepth 100000 in
theorem spec_Sub.calls (a0 : Int) (a1 : Int) (r : Int) (w : World) (h : spec_Sub.f a0 a1 = some r) :
  Calls Try.prog 106 #[.int .i64 a0, .int .i64 a1] w fun e w' => e = .returned (.int .i64 r) ∧ Drawn0 w w' := by
 unfold spec_Sub.f at h; have H := h
 clear h
 obtain ⟨t185, A3, H⟩ := zO H; try dsimp only at H
 obtain ⟨t186, A4, H⟩ := zO H; try dsimp only at H
 obtain ⟨t187, A5, H⟩ := zO H; try dsimp only at H
 obtain rfl := Option.some.inj H
 go_enter Try.func106, Try.ntmps106
 go_wp2_with (first | ((with_reducible refine gC 70 rfl ?_); refine gL 6 Try.func70 #[.int .i64 a0] ?_; (with_reducible refine (spec_Cap.calls a0 t185 _ A3.out).mono ?_); rintro e w' ⟨rfl, ⟨nd, rfl⟩⟩; refine ⟨_, rfl, ?_⟩) | ((with_reducible refine gC 70 rfl ?_); refine gL 8 Try.func70 #[.int .i64 a1] ?_; (with_reducible refine (spec_Cap.calls a1 t186 _ A4.out).mono ?_); rintro e w' ⟨rfl, ⟨nd, rfl⟩⟩; refine ⟨_, rfl, ?_⟩) | ((with_reducible refine gC 70 rfl ?_); refine gL 10 Try.func70 #[.int .i64 (wrap64 (t185 - t186))] ?_; (with_reducible refine (spec_Cap.calls (wrap64 (t185 - t186)) t187 _ A5.out).mono ?_); rintro e w' ⟨rfl, ⟨nd, rfl⟩⟩; refine ⟨_, rfl, ?_⟩))
 go_ret
 exact ⟨zV, zU⟩

open Go.Proofs.YtfhblnbicnmndaaW.PrintWords renaming blk_drewN → bN, blk_drew → bD, blk_alloc → bA, blk_cell → bC, blk_below → bB, below_set → bS
/-! ### spec_LengthOf: function 85 -/
def spec_LengthOf.f (a0_0 : Int) (a0_1 : Int) (a0_2 : Int) (a0_3 : Int) (a0_4 : Bool) (l0_5 : List (S83)) : Option (Int) := (spec_Sub.f a0_3 a0_2).bind fun t189 => (some t189)
set_option maxHeartbeats 8000000 in
set_option maxRecDepth 100000 in
theorem spec_LengthOf.calls (a0_0 : Int) (a0_1 : Int) (a0_2 : Int) (a0_3 : Int) (a0_4 : Bool) (A0_5 : Option Addr) (c0_5 : Nat) (l0_5 : List (S83)) (r : Int) (w : World) (hr0_5 : Kd.C k83 w A0_5 l0_5.length l0_5) (hc0_5 : l0_5.length ≤ c0_5) (h : spec_LengthOf.f a0_0 a0_1 a0_2 a0_3 a0_4 l0_5 = some r) :
  Calls Try.prog 85 #[.agg #[.int .i64 a0_0, .int .i64 a0_1, .int .i64 a0_2, .int .i64 a0_3, .bool a0_4, .slice A0_5 l0_5.length c0_5]] w fun e w' => e = .returned (.int .i64 r) ∧ Below w.heap.size w w' := by
 have hu73 := Try.underlying73
 have HR0_5 := Aside0.mk hr0_5
 have HC0_5 := Aside0.mk hc0_5
 clear hr0_5 hc0_5
 have HB := Aside0.mk (Below.refl w.heap.size w)
 unfold spec_LengthOf.f at h; have H := h
 clear h
 obtain ⟨t189, A2, H⟩ := zO H; try dsimp only at H
 obtain rfl := Option.some.inj H
 go_enter Try.func85, Try.ntmps85
 go_wp2_with (first | ((with_reducible refine gD 1 rfl ?_); refine bE 1 #[.int .i64 a0_0, .int .i64 a0_1, .int .i64 a0_2, .int .i64 a0_3, .bool a0_4, .slice A0_5 l0_5.length c0_5] 73 ?_; intro gb188 hg w3 hbox hb; have BK188 := Aside0.mk hbox; have GW188 := Aside0.mk (zg (zL HB.out) hg : w.heap.size ≤ gb188); have GE188 := GW188; replace HB := zLB (zL HB.out) hb; clear hb hbox hg; have hcz4 := zc6 BK188.out; have hfz4 := zf6 BK188.out) | ((with_reducible refine gC 106 rfl ?_); refine gL 7 Try.func106 #[.int .i64 a0_3, .int .i64 a0_2] ?_; (with_reducible refine (spec_Sub.calls a0_3 a0_2 t189 _ A2.out).mono ?_); rintro e w' ⟨rfl, ⟨nd, rfl⟩⟩; refine ⟨_, rfl, ?_⟩))
 go_ret
 exact ⟨zW, zL1 HB.out GE188.out⟩

open Go.Proofs.YtfhblnbicnmndaaW.PrintWords renaming blk_drewN → bN, blk_drew → bD, blk_alloc → bA, blk_cell → bC, blk_below → bB, below_set → bS
/-! ### spec_Longest: function 60 -/
def spec_Longest.l0 : Nat → List (S73) → Int → Int → Option (Int)
 | 0, _, _, _ => none
 | k + 1, x0, x3, x4 => if x4 < (x0.length : Int) then (if 0 ≤ x4 then ((spec_LengthOf.f ((rd_T73 x0 x4).f0) ((rd_T73 x0 x4).f1) ((rd_T73 x0 x4).f2) ((rd_T73 x0 x4).f3) ((rd_T73 x0 x4).f4) ((rd_T73 x0 x4).f5)).bind fun t191 => (if t191 > x3 then ((spec_LengthOf.f ((rd_T73 x0 x4).f0) ((rd_T73 x0 x4).f1) ((rd_T73 x0 x4).f2) ((rd_T73 x0 x4).f3) ((rd_T73 x0 x4).f4) ((rd_T73 x0 x4).f5)).bind fun t193 => (spec_Longest.l0 k x0 t193 (wrap64 (x4 + 1)))) else (spec_Longest.l0 k x0 x3 (wrap64 (x4 + 1))))) else (none)) else (some x3)
def spec_Longest.f (k : Nat) (l0 : List (S73)) : Option (Int) := spec_Longest.l0 k l0 0 0
theorem spec_Longest.mono_l : ∀ k, (∀ y0 y1 y2, LeO (spec_Longest.l0 k y0 y1 y2) (spec_Longest.l0 (k + 1) y0 y1 y2))
 | 0 => fun _ _ _ r h => by simp [spec_Longest.l0] at h
 | k + 1 => by
  have ih0 := spec_Longest.mono_l k
  ·intro y0 y1 y2
   unfold spec_Longest.l0
   repeat' first
   | (with_reducible exact ih0 _ _ _)
   | (with_reducible exact LeO.refl _)
   | (with_reducible exact LeO.none _)
   | (with_reducible refine LeO.ite ?_ ?_)
   | (with_reducible refine LeO.bind ?_ (fun _ => ?_))
   | exact ih0 _ _ _
   | exact LeO.none _
   | refine LeO.ite ?_ ?_
   | refine LeO.bind ?_ (fun _ => ?_)
theorem spec_Longest.mono : ∀ a0 k, LeO (spec_Longest.f k a0) (spec_Longest.f (k + 1) a0) := by
 intro a0 k
 have ih0 := spec_Longest.mono_l k
 unfold spec_Longest.f
 repeat' first
   | (with_reducible exact ih0 _ _ _)
   | (with_reducible exact LeO.refl _)
   | (with_reducible exact LeO.none _)
   | (with_reducible refine LeO.ite ?_ ?_)
   | (with_reducible refine LeO.bind ?_ (fun _ => ?_))
   | exact ih0 _ _ _
   | exact LeO.none _
   | refine LeO.ite ?_ ?_
   | refine LeO.bind ?_ (fun _ => ?_)
set_option maxHeartbeats 8000000 in
set_option maxRecDepth 100000 in
theorem spec_Longest.calls (k : Nat) (A0 : Option Addr) (c0 : Nat) (l0 : List (S73)) (r : Int) (w : World) (hr0 : Kd.C k73 w A0 l0.length l0) (hc0 : l0.length ≤ c0) (h : spec_Longest.f k l0 = some r) :
  Calls Try.prog 60 #[.slice A0 l0.length c0] w fun e w' => e = .returned (.int .i64 r) ∧ Below w.heap.size w w' := by
 have hu73 := Try.underlying73
 have HR0 := Aside0.mk hr0
 have HC0 := Aside0.mk hc0
 clear hr0 hc0
 have HB := Aside0.mk (Below.refl w.heap.size w)
 unfold spec_Longest.f at h; have H := h
 clear h
 have H' := Aside0.mk H
 clear H
 go_enter Try.func60, Try.ntmps60
 go_wp2
 go_loopg [3, 4] k (fun kq v3 v4 w' => ∃ (x3_1 : Int) (x4_1 : Int), v3 = .int .i64 x3_1 ∧ v4 = .int .i64 x4_1 ∧ Aside0 (spec_Longest.l0 kq l0 x3_1 x4_1 = some r) ∧ Aside0 (kq ≤ k) ∧ Aside0 (Below w.heap.size w w'))
 case atStart => exact ⟨(0), (0), zV, zV, H', ⟨Nat.le_refl _⟩, ⟨zL HB.out⟩⟩
 case round =>
  clear H'
  obtain ⟨x3_1, x4_1, rfl, rfl, HA, HK1, HB⟩ := hrel
  cases gk with
  | zero => exact absurd HA.out (by simp [spec_Longest.l0])
  | succ k1 =>
   have H := HA.out
   clear HA
   simp only [spec_Longest.l0] at H
   by_cases c2 : x4_1 < (l0.length : Int)
   ·rw [if_pos c2] at H
    have c2b0 := decide_eq_true c2
    clear c2
    by_cases c3 : 0 ≤ x4_1
    ·rw [if_pos c3] at H
     have c3b0 := decide_eq_true c3
     clear c3
     obtain ⟨t191, A4, H⟩ := zO H; try dsimp only at H
     by_cases c5 : t191 > x3_1
     ·rw [if_pos c5] at H
      have c5b0 := decide_eq_true c5
      clear c5
      obtain ⟨t193, A6, H⟩ := zO H; try dsimp only at H
      have H' := Aside0.mk H
      clear H
      have p190 : 0 ≤ (x4_1 : Int) := zD
      have q190 : x4_1 < (l0.length : Int) := zD
      obtain ⟨ad190, A190_5, c190_5, e190, hx190_0, hx190_1, hx190_2, hx190_3, hx190_4, hx190_5, hl190_5, hi190_5⟩ := at_T73 HR0.out x4_1 p190 q190
      cases e190
      replace hx190_0 := zh HB.out hx190_0
      replace hx190_1 := zh HB.out hx190_1
      replace hx190_2 := zh HB.out hx190_2
      replace hx190_3 := zh HB.out hx190_3
      replace hx190_4 := zh HB.out hx190_4
      replace hx190_5 := zh HB.out hx190_5
      have HR190_5 := Aside0.mk hi190_5
      have HC190_5 := Aside0.mk hl190_5
      clear hi190_5 hl190_5
      replace p190 := eq_true p190
      replace q190 := eq_true q190
      go_wp2_with (first | ((with_reducible refine gC 85 rfl ?_); refine gL 15 Try.func85 #[.agg #[.int .i64 ((rd_T73 l0 x4_1).f0), .int .i64 ((rd_T73 l0 x4_1).f1), .int .i64 ((rd_T73 l0 x4_1).f2), .int .i64 ((rd_T73 l0 x4_1).f3), .bool ((rd_T73 l0 x4_1).f4), .slice A190_5 ((rd_T73 l0 x4_1).f5).length c190_5]] ?_; (with_reducible refine (spec_LengthOf.calls ((rd_T73 l0 x4_1).f0) ((rd_T73 l0 x4_1).f1) ((rd_T73 l0 x4_1).f2) ((rd_T73 l0 x4_1).f3) ((rd_T73 l0 x4_1).f4) _ _ ((rd_T73 l0 x4_1).f5) t191 _ ?side1 ?side2 A4.out).mono ?_); (case side1 => exact zC (Kd.C_below HR190_5.out HB.out)); (case side2 => exact HC190_5.out); rintro e w7 ⟨rfl, hb⟩; refine ⟨_, rfl, ?_⟩; replace HB := zLB (zL HB.out) hb; clear hb; have p192 : 0 ≤ (x4_1 : Int) := zD; have q192 : x4_1 < (l0.length : Int) := zD; obtain ⟨ad192, A192_5, c192_5, e192, hx192_0, hx192_1, hx192_2, hx192_3, hx192_4, hx192_5, hl192_5, hi192_5⟩ := at_T73 HR0.out x4_1 p192 q192; obtain rfl : ad190 = ad192 := (by injection e192); replace hx192_0 := zh HB.out hx192_0; replace hx192_1 := zh HB.out hx192_1; replace hx192_2 := zh HB.out hx192_2; replace hx192_3 := zh HB.out hx192_3; replace hx192_4 := zh HB.out hx192_4; replace hx192_5 := zh HB.out hx192_5; have HR192_5 := Aside0.mk hi192_5; have HC192_5 := Aside0.mk hl192_5; clear hi192_5 hl192_5; replace p192 := eq_true p192; replace q192 := eq_true q192) | ((with_reducible refine gC 85 rfl ?_); refine gL 22 Try.func85 #[.agg #[.int .i64 ((rd_T73 l0 x4_1).f0), .int .i64 ((rd_T73 l0 x4_1).f1), .int .i64 ((rd_T73 l0 x4_1).f2), .int .i64 ((rd_T73 l0 x4_1).f3), .bool ((rd_T73 l0 x4_1).f4), .slice A192_5 ((rd_T73 l0 x4_1).f5).length c192_5]] ?_; (with_reducible refine (spec_LengthOf.calls ((rd_T73 l0 x4_1).f0) ((rd_T73 l0 x4_1).f1) ((rd_T73 l0 x4_1).f2) ((rd_T73 l0 x4_1).f3) ((rd_T73 l0 x4_1).f4) _ _ ((rd_T73 l0 x4_1).f5) t193 _ ?side1 ?side2 A6.out).mono ?_); (case side1 => exact zC (Kd.C_below HR192_5.out HB.out)); (case side2 => exact HC192_5.out); rintro e w8 ⟨rfl, hb⟩; refine ⟨_, rfl, ?_⟩; replace HB := zLB (zL HB.out) hb; clear hb))
      go_roundg k1
      case measure => have := HK1.out; omega
      case rel => exact ⟨(t193), (wrap64 (x4_1 + 1)), zV, zV, H', ⟨by have := HK1.out; omega⟩, ⟨zL HB.out⟩⟩
     ·rw [if_neg c5] at H
      have c5b0 := decide_eq_false c5
      clear c5
      have H' := Aside0.mk H
      clear H
      have p190 : 0 ≤ (x4_1 : Int) := zD
      have q190 : x4_1 < (l0.length : Int) := zD
      obtain ⟨ad190, A190_5, c190_5, e190, hx190_0, hx190_1, hx190_2, hx190_3, hx190_4, hx190_5, hl190_5, hi190_5⟩ := at_T73 HR0.out x4_1 p190 q190
      cases e190
      replace hx190_0 := zh HB.out hx190_0
      replace hx190_1 := zh HB.out hx190_1
      replace hx190_2 := zh HB.out hx190_2
      replace hx190_3 := zh HB.out hx190_3
      replace hx190_4 := zh HB.out hx190_4
      replace hx190_5 := zh HB.out hx190_5
      have HR190_5 := Aside0.mk hi190_5
      have HC190_5 := Aside0.mk hl190_5
      clear hi190_5 hl190_5
      replace p190 := eq_true p190
      replace q190 := eq_true q190
      go_wp2_with (first | ((with_reducible refine gC 85 rfl ?_); refine gL 15 Try.func85 #[.agg #[.int .i64 ((rd_T73 l0 x4_1).f0), .int .i64 ((rd_T73 l0 x4_1).f1), .int .i64 ((rd_T73 l0 x4_1).f2), .int .i64 ((rd_T73 l0 x4_1).f3), .bool ((rd_T73 l0 x4_1).f4), .slice A190_5 ((rd_T73 l0 x4_1).f5).length c190_5]] ?_; (with_reducible refine (spec_LengthOf.calls ((rd_T73 l0 x4_1).f0) ((rd_T73 l0 x4_1).f1) ((rd_T73 l0 x4_1).f2) ((rd_T73 l0 x4_1).f3) ((rd_T73 l0 x4_1).f4) _ _ ((rd_T73 l0 x4_1).f5) t191 _ ?side1 ?side2 A4.out).mono ?_); (case side1 => exact zC (Kd.C_below HR190_5.out HB.out)); (case side2 => exact HC190_5.out); rintro e w9 ⟨rfl, hb⟩; refine ⟨_, rfl, ?_⟩; replace HB := zLB (zL HB.out) hb; clear hb))
      go_roundg k1
      case measure => have := HK1.out; omega
      case rel => exact ⟨(x3_1), (wrap64 (x4_1 + 1)), zV, zV, H', ⟨by have := HK1.out; omega⟩, ⟨zL HB.out⟩⟩
    ·rw [if_neg c3] at H
     exact absurd H (by simp)
   ·rw [if_neg c2] at H
    have c2b0 := decide_eq_false c2
    clear c2
    obtain rfl := Option.some.inj H
    go_wp2
    go_ret
    exact ⟨zW, zL HB.out⟩

open Go.Proofs.YtfhblnbicnmndaaW.PrintWords renaming blk_drewN → bN, blk_drew → bD, blk_alloc → bA, blk_cell → bC, blk_below → bB, below_set → bS
/-! ### spec_FindAttr: function 86 -/
def spec_FindAttr.l0 : Nat → List (S83) → ByteArray → Int → Option (ByteArray × Bool × Int × ByteArray × Bool)
 | 0, _, _, _ => none
 | k + 1, x0, x1, x6 => if x6 < (x0.length : Int) then (if 0 ≤ x6 then (if ((rd_T83 x0 x6).f0).toList = x1.toList then (some ((rd_T83 x0 x6).f0, (rd_T83 x0 x6).f1, (rd_T83 x0 x6).f2, (rd_T83 x0 x6).f3, true)) else (spec_FindAttr.l0 k x0 x1 (wrap64 (x6 + 1)))) else (none)) else (some ((⟨#[]⟩ : ByteArray), false, 0, (⟨#[]⟩ : ByteArray), false))
def spec_FindAttr.f (k : Nat) (l0 : List (S83)) (a1 : ByteArray) : Option (ByteArray × Bool × Int × ByteArray × Bool) := spec_FindAttr.l0 k l0 a1 0
theorem spec_FindAttr.mono_l : ∀ k, (∀ y0 y1 y2, LeO (spec_FindAttr.l0 k y0 y1 y2) (spec_FindAttr.l0 (k + 1) y0 y1 y2))
 | 0 => fun _ _ _ r h => by simp [spec_FindAttr.l0] at h
 | k + 1 => by
  have ih0 := spec_FindAttr.mono_l k
  ·intro y0 y1 y2
   unfold spec_FindAttr.l0
   repeat' first
   | (with_reducible exact ih0 _ _ _)
   | (with_reducible exact LeO.refl _)
   | (with_reducible exact LeO.none _)
   | (with_reducible refine LeO.ite ?_ ?_)
   | (with_reducible refine LeO.bind ?_ (fun _ => ?_))
   | exact ih0 _ _ _
   | exact LeO.none _
   | refine LeO.ite ?_ ?_
   | refine LeO.bind ?_ (fun _ => ?_)
theorem spec_FindAttr.mono : ∀ a0 a1 k, LeO (spec_FindAttr.f k a0 a1) (spec_FindAttr.f (k + 1) a0 a1) := by
 intro a0 a1 k
 have ih0 := spec_FindAttr.mono_l k
 unfold spec_FindAttr.f
 repeat' first
   | (with_reducible exact ih0 _ _ _)
   | (with_reducible exact LeO.refl _)
   | (with_reducible exact LeO.none _)
   | (with_reducible refine LeO.ite ?_ ?_)
   | (with_reducible refine LeO.bind ?_ (fun _ => ?_))
   | exact ih0 _ _ _
   | exact LeO.none _
   | refine LeO.ite ?_ ?_
   | refine LeO.bind ?_ (fun _ => ?_)
set_option maxHeartbeats 8000000 in
set_option maxRecDepth 100000 in
theorem spec_FindAttr.calls (k : Nat) (A0 : Option Addr) (c0 : Nat) (l0 : List (S83)) (a1 : ByteArray) (r1 : ByteArray) (r2 : Bool) (r3 : Int) (r4 : ByteArray) (r5 : Bool) (w : World) (hr0 : Kd.C k83 w A0 l0.length l0) (hc0 : l0.length ≤ c0) (h : spec_FindAttr.f k l0 a1 = some (r1, r2, r3, r4, r5)) :
  Calls Try.prog 86 #[.slice A0 l0.length c0, .string a1] w fun e w' => e = .returned (.tuple #[.agg #[.string r1, .bool r2, .int .i64 r3, .string r4], .bool r5]) ∧ Below w.heap.size w w' := by
 have hu83 := Try.underlying83
 have HR0 := Aside0.mk hr0
 have HC0 := Aside0.mk hc0
 clear hr0 hc0
 have HB := Aside0.mk (Below.refl w.heap.size w)
 unfold spec_FindAttr.f at h; have H := h
 clear h
 have H' := Aside0.mk H
 clear H
 go_enter Try.func86, Try.ntmps86
 go_wp2_with (first | ((with_reducible refine gD 4 rfl ?_); refine bE 4 #[.string (⟨#[]⟩ : ByteArray), .bool false, .int .i64 0, .string (⟨#[]⟩ : ByteArray)] 83 ?_; intro gb194 hg w3 hbox hb; have BK194 := Aside0.mk hbox; have GW194 := Aside0.mk (zg (zL HB.out) hg : w.heap.size ≤ gb194); have GE194 := GW194; replace HB := zLB (zL HB.out) hb; clear hb hbox hg))
 go_loopg [6] k (fun kq v6 w' => ∃ (x6_1 : Int) (x195000_1 : ByteArray) (x195001_1 : Bool) (x195002_1 : Int) (x195003_1 : ByteArray), v6 = .int .i64 x6_1 ∧ Aside0 (spec_FindAttr.l0 kq l0 a1 x6_1 = some (r1, r2, r3, r4, r5)) ∧ Aside0 (kq ≤ k) ∧ Aside0 (w'.heap[gb194]? = some (.cells #[.string x195000_1, .bool x195001_1, .int .i64 x195002_1, .string x195003_1] 83 (0, 0))) ∧ Aside0 (Below w.heap.size w w'))
 case atStart => exact ⟨(0), ((⟨#[]⟩ : ByteArray)), (false), (0), ((⟨#[]⟩ : ByteArray)), zV, H', ⟨Nat.le_refl _⟩, ⟨zB BK194.out⟩, ⟨zL1 HB.out GE194.out⟩⟩
 case round =>
  clear H'
  try clear p2
  try clear BK194
  obtain ⟨x6_1, x195000_1, x195001_1, x195002_1, x195003_1, rfl, HA, HK1, BK194, HB⟩ := hrel
  cases gk with
  | zero => exact absurd HA.out (by simp [spec_FindAttr.l0])
  | succ k1 =>
   have H := HA.out
   clear HA
   simp only [spec_FindAttr.l0] at H
   by_cases c4 : x6_1 < (l0.length : Int)
   ·rw [if_pos c4] at H
    have c4b0 := decide_eq_true c4
    clear c4
    by_cases c5 : 0 ≤ x6_1
    ·rw [if_pos c5] at H
     have c5b0 := decide_eq_true c5
     clear c5
     by_cases c6 : ((rd_T83 l0 x6_1).f0).toList = a1.toList
     ·rw [if_pos c6] at H
      obtain ⟨c6b0, c6b1⟩ := zt c6
      clear c6
      simp only [Option.some.injEq, Prod.mk.injEq] at H
      obtain ⟨rfl, rfl, rfl, rfl, rfl⟩ := H
      have p195 : 0 ≤ (x6_1 : Int) := zD
      have q195 : x6_1 < (l0.length : Int) := zD
      obtain ⟨ad195, e195, hx195_0, hx195_1, hx195_2, hx195_3⟩ := at_T83 HR0.out x6_1 p195 q195
      cases e195
      replace hx195_0 := zh HB.out hx195_0
      replace hx195_1 := zh HB.out hx195_1
      replace hx195_2 := zh HB.out hx195_2
      replace hx195_3 := zh HB.out hx195_3
      replace p195 := eq_true p195
      replace q195 := eq_true q195
      have p196 : 0 ≤ (x6_1 : Int) := zD
      have q196 : x6_1 < (l0.length : Int) := zD
      obtain ⟨ad196, e196, hx196_0, hx196_1, hx196_2, hx196_3⟩ := at_T83 HR0.out x6_1 p196 q196
      obtain rfl : ad195 = ad196 := (by injection e196)
      replace hx196_0 := zh HB.out hx196_0
      replace hx196_1 := zh HB.out hx196_1
      replace hx196_2 := zh HB.out hx196_2
      replace hx196_3 := zh HB.out hx196_3
      replace p196 := eq_true p196
      replace q196 := eq_true q196
      have hcz7 := zc4 BK194.out
      have hfz7 := zf4 BK194.out
      go_wp2
      refine bodyPost_ret (results_ct rfl _ _ gb194 83 #[.string ((rd_T83 l0 x6_1).f0), .bool ((rd_T83 l0 x6_1).f1), .int .i64 ((rd_T83 l0 x6_1).f2), .string ((rd_T83 l0 x6_1).f3)] (0, 0) _ rfl (by refine zB ?_; refine zp4 (cs := #[.string x195000_1, .bool x195001_1, .int .i64 x195002_1, .string x195003_1]) ?_; exact zB BK194.out) Try.underlying83 rfl (by kernel_rfl)) rfl ?_
      exact ⟨zW, zL1 HB.out GE194.out⟩
     ·rw [if_neg c6] at H
      obtain ⟨c6b0, c6b1⟩ := zf c6
      have H' := Aside0.mk H
      clear H
      have p195 : 0 ≤ (x6_1 : Int) := zD
      have q195 : x6_1 < (l0.length : Int) := zD
      obtain ⟨ad195, e195, hx195_0, hx195_1, hx195_2, hx195_3⟩ := at_T83 HR0.out x6_1 p195 q195
      cases e195
      replace hx195_0 := zh HB.out hx195_0
      replace hx195_1 := zh HB.out hx195_1
      replace hx195_2 := zh HB.out hx195_2
      replace hx195_3 := zh HB.out hx195_3
      replace p195 := eq_true p195
      replace q195 := eq_true q195
      go_wp2
      go_roundg k1
      case measure => have := HK1.out; omega
      case rel => exact ⟨(wrap64 (x6_1 + 1)), (x195000_1), (x195001_1), (x195002_1), (x195003_1), zV, H', ⟨by have := HK1.out; omega⟩, ⟨zB BK194.out⟩, ⟨zL1 HB.out GE194.out⟩⟩
    ·rw [if_neg c5] at H
     exact absurd H (by simp)
   ·rw [if_neg c4] at H
    have c4b0 := decide_eq_false c4
    clear c4
    simp only [Option.some.injEq, Prod.mk.injEq] at H
    obtain ⟨rfl, rfl, rfl, rfl, rfl⟩ := H
    have hcz8 := zc4 BK194.out
    have hfz8 := zf4 BK194.out
    go_wp2
    refine bodyPost_ret (results_ct rfl _ _ gb194 83 #[.string (⟨#[]⟩ : ByteArray), .bool false, .int .i64 0, .string (⟨#[]⟩ : ByteArray)] (0, 0) _ rfl (by refine zB ?_; refine zp4 (cs := #[.string x195000_1, .bool x195001_1, .int .i64 x195002_1, .string x195003_1]) ?_; exact zB BK194.out) Try.underlying83 rfl (by kernel_rfl)) rfl ?_
    exact ⟨zW, zL1 HB.out GE194.out⟩

end Go.Proofs.Ytfhblnbicnmndaa.QFnJudges
