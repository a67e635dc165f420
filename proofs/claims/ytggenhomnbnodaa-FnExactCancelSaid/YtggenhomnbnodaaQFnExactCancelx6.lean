/- What the Go functions that the law FnExactCancel reaches answer: each as a Lean function, with its walk. Written by a program of this session. Conditions: those that each theorem names. -/
import Derived.Test.YtggenhomnbnodaaQFnExactCancelx0
import Derived.Test.YtggenhomnbnodaaQFnExactCancelx3
import Derived.Test.YtggenhomnbnodaaQFnExactCancelx4
import Derived.Test.YtggenhomnbnodaaQFnExactCancelx5
namespace Go.Proofs.Ytggenhomnbnodaa.QFnExactCancel
open Go.RowKit Go.Proofs.YtggenhomnbnodaaW.PrintWords Go.Proofs.YtggenhomnbnodaaW.PrintLast Go.Proofs.YtggenhomnbnodaaW.PrintMore
attribute [local go_sem] max2_int min2_int max_two min_two max_three min_three max_four min_four   -- for this text's walks alone
set_option linter.unusedVariables false
set_option linter.unusedSimpArgs false

open Go.Proofs.YtggenhomnbnodaaW.PrintWords renaming blk_drewN → bN, blk_drew → bD, blk_alloc → bA, blk_cell → bC, blk_below → bB, below_set → bS
/-! ### spec_Cancel: function 34 -/
def spec_Cancel.l0 : Nat → Int → Int → Int → List (List (S46)) → List (List (S46)) → List (S46) → Int → List (List (S46)) → List (List (S46)) → List (S46) → Option (Int × (List (List (S46))) × (List (List (S46))) × (List (S46)) × Bool)
 | 0, _, _, _, _, _, _, _, _, _, _ => none
 | k + 1, x1, x7, x219000, x219001, x219002, x219003, x231000, x231001, x231002, x231003 => if x7 < 8 then (if 0 ≤ x7 then (if x7 < (x219001.length : Int) then ((spec_l8Without.f k (rd_L2 x219001 x7) x1).bind fun t233 => (if x7 < (x231001.length : Int) then (if x7 < (x219002.length : Int) then ((spec_l8Without.f k (rd_L2 x219002 x7) x1).bind fun t238 => (if x7 < (x231002.length : Int) then (spec_Cancel.l0 k x1 (wrap64 (x7 + 1)) x219000 x219001 x219002 x219003 x231000 (x231001.set (x7 : Int).toNat t233) (x231002.set (x7 : Int).toNat t238) x231003) else (none))) else (none)) else (none))) else (none)) else (none)) else ((spec_l8Without.f k x219003 x1).bind fun t242 => ((spec_Timers.f k x231000 x231001 x231002 t242).bind fun t245 => ((spec_Timers.f k x219000 x219001 x219002 x219003).bind fun t248 => (some (x231000, x231001, x231002, t242, decide ((t245.length : Int) < (t248.length : Int)))))))
def spec_Cancel.f (k : Nat) (a0_0 : Int) (l0_1 : List (List (S46))) (l0_2 : List (List (S46))) (l0_3 : List (S46)) (a1 : Int) : Option (Int × (List (List (S46))) × (List (List (S46))) × (List (S46)) × Bool) := (spec_l8Copy.f k a0_0 l0_1 l0_2 l0_3).bind fun bt220 => ((spec_WheelOk.f k a0_0 l0_1 l0_2 l0_3).bind fun t231 => (if t231 = true then (spec_Cancel.l0 k a1 0 a0_0 l0_1 l0_2 l0_3 bt220.1 bt220.2.1 bt220.2.2.1 bt220.2.2.2) else (some (bt220.1, bt220.2.1, bt220.2.2.1, bt220.2.2.2, false))))
def spec_Cancel.T7 : Bool × List (List Nat × List Nat) := (true, [([], []), ([0], [0]), ([], []), ([], []), ([3], [3]), ([], []), ([4, 5], [4, 5]), ([6], [6]), ([], []), ([7, 8], [7, 8]), ([1, 2, 0, 1, 2, 3, 4, 5, 6, 7, 8, 9], [1, 2]), ([10, 9, 9, 0, 1, 2, 3, 4, 5, 6, 7, 8, 9], [9, 10])])
def spec_Cancel.B7 : List Nat := [0, 1, 0, 0, 8, 0, 56, 120, 0, 504, 1023, 2047]
theorem spec_Cancel.tab7 : rtab .any (opsOf Try.f34 7) = spec_Cancel.T7 := by kernel_rfl
theorem spec_Cancel.bits7 : waitsOk spec_Cancel.T7.2 spec_Cancel.B7 = true := by kernel_rfl
def spec_Cancel.T8 : Bool × List (List Nat × List Nat) := (true, [([], []), ([0], [0]), ([], []), ([], []), ([3], [3]), ([], []), ([4, 5], [4, 5]), ([6], [6]), ([], []), ([7, 8], [7, 8]), ([1, 2, 0, 1, 2, 3, 4, 5, 6, 7, 8, 9], [1, 2]), ([10, 9, 9, 0, 1, 2, 3, 4, 5, 6, 7, 8, 9], [9, 10])])
def spec_Cancel.B8 : List Nat := [0, 1, 0, 0, 8, 0, 56, 120, 0, 504, 1023, 2047]
theorem spec_Cancel.tab8 : rtab .any (opsOf Try.f34 8) = spec_Cancel.T8 := by kernel_rfl
theorem spec_Cancel.bits8 : waitsOk spec_Cancel.T8.2 spec_Cancel.B8 = true := by kernel_rfl
def spec_Cancel.T10 : Bool × List (List Nat × List Nat) := (true, [([], []), ([], []), ([1], [1]), ([2], [2]), ([], []), ([4, 2], [4]), ([5], [5]), ([3, 6], [3, 6]), ([0, 5, 0], [0]), ([7, 8, 0, 1, 2, 3, 4, 5, 6, 7, 8], [7])])
def spec_Cancel.B10 : List Nat := [0, 0, 2, 6, 0, 22, 54, 126, 55, 511]
theorem spec_Cancel.tab10 : rtab .any (opsOf Try.f34 10) = spec_Cancel.T10 := by kernel_rfl
theorem spec_Cancel.bits10 : waitsOk spec_Cancel.T10.2 spec_Cancel.B10 = true := by kernel_rfl
theorem fk_of {w : World} {base : Nat} {ok : Nat → Prop} {v : Value} {l : List S46} (h : Kd.R k46 46 w base ok v l) : (Kd.slice 46 k46).FK w ok l [v] := by
  obtain ⟨A, c, rfl⟩ := Kd.R_slice h
  exact Kd.FK_slice_mk (Kd.R_reads' h).2.1 (Kd.R_F h)
set_option maxHeartbeats 8000000 in
set_option maxRecDepth 100000 in
theorem spec_Cancel.calls (k : Nat) (a0_0 : Int) (A0_1 : Option Addr) (c0_1 : Nat) (l0_1 : List (List (S46))) (A0_2 : Option Addr) (c0_2 : Nat) (l0_2 : List (List (S46))) (A0_3 : Option Addr) (c0_3 : Nat) (l0_3 : List (S46)) (a1 : Int) (r1 : Int) (r2 : List (List (S46))) (r3 : List (List (S46))) (r4 : List (S46)) (r5 : Bool) (w : World) (hr0_1 : Kd.C (Kd.slice 46 k46) w A0_1 l0_1.length l0_1) (hc0_1 : l0_1.length ≤ c0_1) (hr0_2 : Kd.C (Kd.slice 46 k46) w A0_2 l0_2.length l0_2) (hc0_2 : l0_2.length ≤ c0_2) (hr0_3 : Kd.C k46 w A0_3 l0_3.length l0_3) (hc0_3 : l0_3.length ≤ c0_3) (h : spec_Cancel.f k a0_0 l0_1 l0_2 l0_3 a1 = some (r1, r2, r3, r4, r5)) :
  Calls Try.prog 34 #[.agg #[.int .i64 a0_0, .slice A0_1 l0_1.length c0_1, .slice A0_2 l0_2.length c0_2, .slice A0_3 l0_3.length c0_3], .int .i64 a1] w fun e w' => ∃ v1_ v2_ v3_ : Value, e = .returned (.tuple #[.agg #[.int .i64 r1, v1_, v2_, v3_], .bool r5]) ∧ Kd.N (Kd.slice 46 k46) 23 w' w.heap.size (fun k_ => (w.heap.size ≤ k_) ∧ some k_ ≠ (v2_ : Value).ownBlock ∧ some k_ ≠ (v3_ : Value).ownBlock) v1_ r2 ∧ Kd.N (Kd.slice 46 k46) 23 w' w.heap.size (fun k_ => (w.heap.size ≤ k_) ∧ some k_ ≠ (v1_ : Value).ownBlock ∧ some k_ ≠ (v3_ : Value).ownBlock) v2_ r3 ∧ Kd.R k46 46 w' w.heap.size (fun k_ => (w.heap.size ≤ k_)) v3_ r4 ∧ Below w.heap.size w w' := by
 have hu25 := Try.underlying25
 have HR0_1 := Aside0.mk hr0_1
 have HC0_1 := Aside0.mk hc0_1
 clear hr0_1 hc0_1
 have HR0_2 := Aside0.mk hr0_2
 have HC0_2 := Aside0.mk hc0_2
 clear hr0_2 hc0_2
 have HR0_3 := Aside0.mk hr0_3
 have HC0_3 := Aside0.mk hc0_3
 clear hr0_3 hc0_3
 have HB := Aside0.mk (Below.refl w.heap.size w)
 unfold spec_Cancel.f at h; have H := h
 clear h
 obtain ⟨⟨t220, t221, t224, t227⟩, A3, H⟩ := zO H; try dsimp only at H
 obtain ⟨t231, A4, H⟩ := zO H; try dsimp only at H
 by_cases c5 : t231 = true
 ·subst c5
  rw [if_pos rfl] at H
  have H' := Aside0.mk H
  clear H
  go_enter Try.func34, Try.ntmps34
  go_wp2_with (first | ((with_reducible refine gD 2 rfl ?_); refine bE 2 #[.int .i64 a0_0, .slice A0_1 l0_1.length c0_1, .slice A0_2 l0_2.length c0_2, .slice A0_3 l0_3.length c0_3] 25 ?_; intro gb218 hg w6 hbox hb; have BK218 := Aside0.mk hbox; have GW218 := Aside0.mk (zg (zL HB.out) hg : w.heap.size ≤ gb218); have GE218 := GW218; replace HB := zLB (zL HB.out) hb; clear hb hbox hg) | ((with_reducible refine gD 4 rfl ?_); refine bE 4 #[.int .i64 0, .slice none 0 0, .slice none 0 0, .slice none 0 0] 25 ?_; intro gb219 hg w7 hbox hb; have BK219 := Aside0.mk hbox; have GW219 := Aside0.mk (zg (zL1 HB.out GE218.out) hg : w.heap.size ≤ gb219); have GE219 := GW219; replace HB := zLB (zL1 HB.out GE218.out) hb; have NB218_219 := Aside0.mk (zN BK218.out hg : gb218 ≠ gb219); have NB219_218 := Aside0.mk (zM BK218.out hg : gb219 ≠ gb218); replace BK218 := zBB BK218 hb; clear hb hbox hg; have hnb8 := NB218_219.out; have hnc8 := NB219_218.out; have hcz9 := zc4 BK218.out; have hfz9 := zf4 BK218.out) | ((with_reducible refine gC 72 rfl ?_); refine gL 9 Try.func72 #[.agg #[.int .i64 a0_0, .slice A0_1 l0_1.length c0_1, .slice A0_2 l0_2.length c0_2, .slice A0_3 l0_3.length c0_3]] ?_; (with_reducible refine (spec_l8Copy.calls k a0_0 _ _ l0_1 _ _ l0_2 _ _ l0_3 t220 t221 t224 t227 _ ?side1 ?side2 ?side3 ?side4 ?side5 ?side6 A3.out).mono ?_); (case side1 => exact zC (Kd.C_below HR0_1.out HB.out)); (case side2 => exact HC0_1.out); (case side3 => exact zC (Kd.C_below HR0_2.out HB.out)); (case side4 => exact HC0_2.out); (case side5 => exact zC (Kd.C_below HR0_3.out HB.out)); (case side6 => exact HC0_3.out); rintro e w10 ⟨v222, v225, v228, rfl, ho0, ho1, ho2, hb⟩; refine ⟨_, rfl, ?_⟩; have HO223 := Aside0.mk (Kd.N_lower (Kd.N_mono (ok' := fun k_ => (w.heap.size ≤ k_) ∧ some k_ ≠ (v225 : Value).ownBlock ∧ some k_ ≠ (v228 : Value).ownBlock ∧ k_ ≠ gb218 ∧ k_ ≠ gb219) (Kd.S_N (Kd.S_bound ho0)) (fun k_ hk_ => ⟨(Nat.le_trans (below_size (zL2 HB.out GE218.out GE219.out)) hk_.2.1), hk_.1.1, hk_.1.2, (Kd.freshB (g := gb218) (o := .cells #[.int .i64 a0_0, .slice A0_1 l0_1.length c0_1, .slice A0_2 l0_2.length c0_2, .slice A0_3 l0_3.length c0_3] 25 (0, 0)) (zB BK218.out) k_ hk_.2.1), (Kd.freshB (g := gb219) (o := .cells #[.int .i64 0, .slice none 0 0, .slice none 0 0, .slice none 0 0] 25 (0, 0)) (zB BK219.out) k_ hk_.2.1)⟩)) (below_size (zL2 HB.out GE218.out GE219.out))); have HO226 := Aside0.mk (Kd.N_lower (Kd.N_mono (ok' := fun k_ => (w.heap.size ≤ k_) ∧ some k_ ≠ (v222 : Value).ownBlock ∧ some k_ ≠ (v228 : Value).ownBlock ∧ k_ ≠ gb218 ∧ k_ ≠ gb219) (Kd.S_N (Kd.S_bound ho1)) (fun k_ hk_ => ⟨(Nat.le_trans (below_size (zL2 HB.out GE218.out GE219.out)) hk_.2.1), hk_.1.1, hk_.1.2, (Kd.freshB (g := gb218) (o := .cells #[.int .i64 a0_0, .slice A0_1 l0_1.length c0_1, .slice A0_2 l0_2.length c0_2, .slice A0_3 l0_3.length c0_3] 25 (0, 0)) (zB BK218.out) k_ hk_.2.1), (Kd.freshB (g := gb219) (o := .cells #[.int .i64 0, .slice none 0 0, .slice none 0 0, .slice none 0 0] 25 (0, 0)) (zB BK219.out) k_ hk_.2.1)⟩)) (below_size (zL2 HB.out GE218.out GE219.out))); have HO229 := Aside0.mk (Kd.R_lower (Kd.R_newM (M := fun k_ => (w.heap.size ≤ k_)) ho2 (below_size (zL2 HB.out GE218.out GE219.out)) (fun k_ h_ => h_)) (below_size (zL2 HB.out GE218.out GE219.out))); replace BK218 := zBB BK218 hb; replace BK219 := zBB BK219 hb; replace HB := zLB (zL2 HB.out GE218.out GE219.out) hb; clear ho0 hb; (try clear ho1); (try clear ho2)) | ((with_reducible refine gD 6 rfl ?_); refine bE 6 #[.int .i64 0, .slice none 0 0, .slice none 0 0, .slice none 0 0] 25 ?_; intro gb230 hg w11 hbox hb; replace HO223 := Aside0.mk (Kd.N_below (Kd.N_elderB (zX HO223.out) gb230 (Nat.le_of_eq hg.symm)) hb); replace HO226 := Aside0.mk (Kd.N_below (Kd.N_elderB (zX HO226.out) gb230 (Nat.le_of_eq hg.symm)) hb); replace HO229 := zRB HO229 hb; have BK230 := Aside0.mk hbox; have GW230 := Aside0.mk (zg (zL2 HB.out GE218.out GE219.out) hg : w.heap.size ≤ gb230); have GE230 := GW230; replace HB := zLB (zL2 HB.out GE218.out GE219.out) hb; have NB218_230 := Aside0.mk (zN BK218.out hg : gb218 ≠ gb230); have NB230_218 := Aside0.mk (zM BK218.out hg : gb230 ≠ gb218); replace BK218 := zBB BK218 hb; have NB219_230 := Aside0.mk (zN BK219.out hg : gb219 ≠ gb230); have NB230_219 := Aside0.mk (zM BK219.out hg : gb230 ≠ gb219); replace BK219 := zBB BK219 hb; clear hb hbox hg; have hnb12 := NB230_218.out; have hnc12 := NB218_230.out; have hnb13 := NB230_219.out; have hnc13 := NB219_230.out; have hcz14 := zc4 BK230.out; have hfz14 := zf4 BK230.out; obtain ⟨Ao15, co15, eo15⟩ := Kd.N_slice HO223.out; subst eo15; obtain ⟨Ao16, co16, eo16⟩ := Kd.N_slice HO226.out; subst eo16; obtain ⟨Ao17, co17, eo17⟩ := Kd.R_slice HO229.out; subst eo17; have hcz18 := zc4 BK218.out; have hfz18 := zf4 BK218.out) | ((with_reducible refine gC 29 rfl ?_); refine gL 11 Try.func29 #[.agg #[.int .i64 a0_0, .slice A0_1 l0_1.length c0_1, .slice A0_2 l0_2.length c0_2, .slice A0_3 l0_3.length c0_3]] ?_; (with_reducible refine (spec_WheelOk.calls k a0_0 _ _ l0_1 _ _ l0_2 _ _ l0_3 true _ ?side1 ?side2 ?side3 ?side4 ?side5 ?side6 A4.out).mono ?_); (case side1 => exact Kd.C_below HR0_1.out (zL3 HB.out GE218.out GE219.out GE230.out)); (case side2 => exact HC0_1.out); (case side3 => exact Kd.C_below HR0_2.out (zL3 HB.out GE218.out GE219.out GE230.out)); (case side4 => exact HC0_2.out); (case side5 => exact Kd.C_below HR0_3.out (zL3 HB.out GE218.out GE219.out GE230.out)); (case side6 => exact HC0_3.out); rintro e w19 ⟨rfl, hb⟩; refine ⟨_, rfl, ?_⟩; replace HO223 := Aside0.mk (Kd.N_below (by (with_reducible repeat (first | apply Kd.N_alloc | apply Kd.N_drewN | apply Kd.N_drew)); exact (Kd.N_mono (zNF4 (Kd.N_mono HO223.out (fun k_ hk => (⟨hk, hk.2⟩ : _ ∧ k_ ≠ gb230))) gb230 (fun _ hk => hk.2) (.int .i64 t220) (.slice Ao15 t221.length co15) (.slice Ao16 t224.length co16) (.slice Ao17 t227.length co17)) (fun _ h_ => h_.1))) hb); replace HO226 := Aside0.mk (Kd.N_below (by (with_reducible repeat (first | apply Kd.N_alloc | apply Kd.N_drewN | apply Kd.N_drew)); exact (Kd.N_mono (zNF4 (Kd.N_mono HO226.out (fun k_ hk => (⟨hk, hk.2⟩ : _ ∧ k_ ≠ gb230))) gb230 (fun _ hk => hk.2) (.int .i64 t220) (.slice Ao15 t221.length co15) (.slice Ao16 t224.length co16) (.slice Ao17 t227.length co17)) (fun _ h_ => h_.1))) hb); replace HO229 := Aside0.mk (Kd.R_below (by (with_reducible repeat (first | apply Kd.R_alloc | apply Kd.R_drewN | apply Kd.R_drew)); exact (Kd.R_mono (zRF4 (Kd.R_types HO229.out BK230.out (by decide)) gb230 (fun _ hk => hk.2) (.int .i64 t220) (.slice Ao15 t221.length co15) (.slice Ao16 t224.length co16) (.slice Ao17 t227.length co17)) (fun _ h_ => h_.1))) hb); replace BK218 := Aside0.mk (bB (g := gb218) (o := .cells #[.int .i64 a0_0, .slice A0_1 l0_1.length c0_1, .slice A0_2 l0_2.length c0_2, .slice A0_3 l0_3.length c0_3] 25 (0, 0)) (by refine zB ?_; refine zr4 ?_ NB218_230.out; exact zB BK218.out) hb); replace BK219 := Aside0.mk (bB (g := gb219) (o := .cells #[.int .i64 0, .slice none 0 0, .slice none 0 0, .slice none 0 0] 25 (0, 0)) (by refine zB ?_; refine zr4 ?_ NB219_230.out; exact zB BK219.out) hb); replace BK230 := Aside0.mk (bB (g := gb230) (o := .cells #[.int .i64 t220, .slice Ao15 t221.length co15, .slice Ao16 t224.length co16, .slice Ao17 t227.length co17] 25 (0, 0)) (by refine zB ?_; refine zp4 (cs := #[.int .i64 0, .slice none 0 0, .slice none 0 0, .slice none 0 0]) ?_; exact zB BK230.out) hb); replace HB := zLB (zL3 HB.out GE218.out GE219.out GE230.out) hb; clear hb))
  go_loopg [7] k (fun kq v7 w' => ∃ (x7_1 : Int) (x231001_1 : List (List (S46))) (x231002_1 : List (List (S46))) (u231001 : Value) (u231002 : Value), v7 = .int .i64 x7_1 ∧ Aside0 (spec_Cancel.l0 kq a1 x7_1 a0_0 l0_1 l0_2 l0_3 t220 x231001_1 x231002_1 t227 = some (r1, r2, r3, r4, r5)) ∧ Aside0 (kq ≤ k) ∧ Aside0 (Kd.N (Kd.slice 46 k46) 23 w' w.heap.size (fun k_ => (w.heap.size ≤ k_) ∧ some k_ ≠ (u231002 : Value).ownBlock ∧ some k_ ≠ ((.slice Ao17 t227.length co17) : Value).ownBlock ∧ k_ ≠ gb218 ∧ k_ ≠ gb219 ∧ k_ ≠ gb230) u231001 x231001_1) ∧ Aside0 (Kd.N (Kd.slice 46 k46) 23 w' w.heap.size (fun k_ => (w.heap.size ≤ k_) ∧ some k_ ≠ (u231001 : Value).ownBlock ∧ some k_ ≠ ((.slice Ao17 t227.length co17) : Value).ownBlock ∧ k_ ≠ gb218 ∧ k_ ≠ gb219 ∧ k_ ≠ gb230) u231002 x231002_1) ∧ Aside0 (Kd.R k46 46 w' w.heap.size (fun k_ => (w.heap.size ≤ k_)) (.slice Ao17 t227.length co17) t227) ∧ Aside0 (w'.heap[gb218]? = some (.cells #[.int .i64 a0_0, (.slice A0_1 l0_1.length c0_1), (.slice A0_2 l0_2.length c0_2), (.slice A0_3 l0_3.length c0_3)] 25 (0, 0))) ∧ Aside0 (w'.heap[gb219]? = some (.cells #[.int .i64 0, (.slice none 0 0), (.slice none 0 0), (.slice none 0 0)] 25 (0, 0))) ∧ Aside0 (w'.heap[gb230]? = some (.cells #[.int .i64 t220, u231001, u231002, (.slice Ao17 t227.length co17)] 25 (0, 0))) ∧ Aside0 (Below w.heap.size w w'))
  case atStart => exact ⟨(0), (t221), (t224), (.slice Ao15 t221.length co15), (.slice Ao16 t224.length co16), zV, H', ⟨Nat.le_refl _⟩, ⟨zXm HO223.out (fun _ hk => ⟨hk.1.1, ⟨hk.1.2.1, ⟨hk.1.2.2.1, ⟨hk.1.2.2.2.1, ⟨hk.1.2.2.2.2, hk.2⟩⟩⟩⟩⟩)⟩, ⟨zXm HO226.out (fun _ hk => ⟨hk.1.1, ⟨hk.1.2.1, ⟨hk.1.2.2.1, ⟨hk.1.2.2.2.1, ⟨hk.1.2.2.2.2, hk.2⟩⟩⟩⟩⟩)⟩, ⟨zRm HO229.out (fun _ hk => hk.1)⟩, ⟨zB BK218.out⟩, ⟨zB BK219.out⟩, ⟨zB BK230.out⟩, ⟨zL3 HB.out GE218.out GE219.out GE230.out⟩⟩
  case round =>
   clear H'
   try clear c1
   try clear c2
   try clear p2
   try clear c3
   try clear c5
   try clear c7
   try clear c8
   try clear c12
   try clear c13
   try clear hcz14; try clear hcz18; try clear hcz9; try clear hfz14; try clear hfz18; try clear hfz9
   try clear BK218; try clear BK219; try clear BK230
   obtain ⟨x7_1, x231001_1, x231002_1, u231001, u231002, rfl, HA, HK1, HO_231001, HO_231002, HO_231003, BK218, BK219, BK230, HB⟩ := hrel
   cases gk with
   | zero => exact absurd HA.out (by simp [spec_Cancel.l0])
   | succ k1 =>
    have H := HA.out
    clear HA
    simp only [spec_Cancel.l0] at H
    by_cases c20 : x7_1 < 8
    ·rw [if_pos c20] at H
     have c20b0 := decide_eq_true c20
     clear c20
     by_cases c21 : 0 ≤ x7_1
     ·rw [if_pos c21] at H
      have c21b0 := decide_eq_true c21
      clear c21
      by_cases c22 : x7_1 < (l0_1.length : Int)
      ·rw [if_pos c22] at H
       have c22b0 := decide_eq_true c22
       clear c22
       obtain ⟨t233, A23, H⟩ := zO H; try dsimp only at H
       by_cases c24 : x7_1 < (x231001_1.length : Int)
       ·rw [if_pos c24] at H
        have c24b0 := decide_eq_true c24
        clear c24
        generalize hy236 : (x231001_1.set (x7_1 : Int).toNat t233) = y236 at H; (try rw [Option.bind_some] at H); have Ny236 := Aside0.mk hy236.symm; clear hy236
        by_cases c26 : x7_1 < (l0_2.length : Int)
        ·rw [if_pos c26] at H
         have c26b0 := decide_eq_true c26
         clear c26
         obtain ⟨t238, A27, H⟩ := zO H; try dsimp only at H
         by_cases c28 : x7_1 < (x231002_1.length : Int)
         ·rw [if_pos c28] at H
          have c28b0 := decide_eq_true c28
          clear c28
          generalize hy241 : (x231002_1.set (x7_1 : Int).toNat t238) = y241 at H; (try rw [Option.bind_some] at H); have Ny241 := Aside0.mk hy241.symm; clear hy241
          have H' := Aside0.mk H
          clear H
          try go_wp2
          replace HO_231001 := zXD HO_231001; replace HO_231002 := zXD HO_231002; replace HO_231003 := zRD HO_231003; replace BK218 := zBD BK218; replace BK219 := zBD BK219; replace BK230 := zBD BK230; replace HB := zLD HB
          have p232 : 0 ≤ (x7_1 : Int) := zD
          have q232 : x7_1 < (l0_1.length : Int) := zD
          obtain ⟨ad232, A232_0, c232_0, e232, hx232_0, hl232_0, hi232_0⟩ := at_L2 HR0_1.out x7_1 p232 q232
          have hw232_0 := hx232_0
          cases e232
          replace hx232_0 := zh HB.out hx232_0
          have HR232_0 := Aside0.mk hi232_0
          have HC232_0 := Aside0.mk hl232_0
          clear hi232_0 hl232_0
          replace p232 := eq_true p232
          replace q232 := eq_true q232
          refine start_ (n := 12) (S := fun w' => w'.cell? ⟨gb230, 0, none⟩ = some (.int .i64 t220) ∧ w'.cell? ⟨gb230, 1, none⟩ = some (u231001) ∧ w'.cell? ⟨gb230, 2, none⟩ = some (u231002) ∧ w'.cell? ⟨gb230, 3, none⟩ = some (.slice Ao17 t227.length co17) ∧ w'.cell? ⟨gb218, 0, none⟩ = some (.int .i64 a0_0) ∧ w'.cell? ⟨gb218, 1, none⟩ = some (.slice (some ad232) l0_1.length c0_1) ∧ w'.cell? ⟨gb218, 2, none⟩ = some (.slice A0_2 l0_2.length c0_2) ∧ w'.cell? ⟨gb218, 3, none⟩ = some (.slice A0_3 l0_3.length c0_3) ∧ w'.cell? (ad232.add (x7_1).toNat) = some (.slice A232_0 (rd_L2 l0_1 x7_1).length c232_0)) (ds := [11]) (fB 12 0) (by kernel_rfl) rfl rfl ⟨(bC BK230.out 0).trans rfl, (bC BK230.out 1).trans rfl, (bC BK230.out 2).trans rfl, (bC BK230.out 3).trans rfl, (bC BK218.out 0).trans rfl, (bC BK218.out 1).trans rfl, (bC BK218.out 2).trans rfl, (bC BK218.out 3).trans rfl, (zh HB.out hw232_0)⟩ (fun hHeld => ?_); refine with_tabW spec_Cancel.tab7 spec_Cancel.bits7 (fun HT_ HW_ => ?_)
          generalize wr.drew = w30 at HO_231001 HO_231002 HO_231003 BK218 BK219 BK230 HB HR232_0 hx232_0 hHeld ⊢
          refine pY 0 18 (fB 12 1) HT_.out ?_
          refine pY 2 20 (fB 12 5) HT_.out ?_
          refine pY 3 21 (fB 12 13) HT_.out ?_
          refine pY 5 23 (fB 12 45) HT_.out ?_
          refine pY 8 26 (fB 12 301) HT_.out ?_
          refine tY 1 19 (fB 12 303) HT_.out HW_.out hHeld ?_
          refine tY 4 22 (fB 12 319) HT_.out HW_.out hHeld ?_
          refine pY 6 24 (fB 12 383) HT_.out ?_
          refine tY 7 25 (fB 12 511) HT_.out HW_.out hHeld ?_
          refine oN 9 27 (fB 12 1023) HT_.out fun K hK => ?_
          refine gS Try.func76 #[.slice A232_0 (rd_L2 l0_1 x7_1).length c232_0, .int .i64 a1] ?_
          with_reducible refine (spec_l8Without.calls k1 _ _ (rd_L2 l0_1 x7_1) a1 t233 _ ?side1 ?side2 A23.out).mono ?_
          (case side1 => exact zC (Kd.C_below HR232_0.out HB.out))
          (case side2 => exact HC232_0.out)
          rintro e w31 ⟨v234, rfl, ho0, hb⟩
          refine ⟨_, rfl, ?_⟩
          replace HO_231001 := Aside0.mk (Kd.N_elder' (zX HO_231001.out) (Kd.R_base ho0) hb); replace HO_231002 := Aside0.mk (Kd.N_elder' (zX HO_231002.out) (Kd.R_base ho0) hb); have HO235 := Aside0.mk (Kd.R_lower (Kd.R_new' (Kd.R_newM (M := fun k_ => (w.heap.size ≤ k_)) ho0 (below_size (zL3 HB.out GE218.out GE219.out GE230.out)) (fun k_ h_ => h_)) (Kd.R_lt (zR HO_231003.out))) (below_size (zL3 HB.out GE218.out GE219.out GE230.out))); replace HO_231003 := Aside0.mk (Kd.R_elder' (zR HO_231003.out) (Kd.R_base ho0) hb); replace BK218 := zBB BK218 hb; replace BK219 := zBB BK219 hb; replace BK230 := zBB BK230 hb; replace HB := zLB (zL3 HB.out GE218.out GE219.out GE230.out) hb
          clear ho0 hb
          (try clear ho0)
          have p25 : 0 ≤ (x7_1 : Int) := zD
          have q25 : (x7_1 : Int) < ((x231001_1.length : Int) : Int) := zD
          obtain ⟨go25, co25, eo25, gb25, gl25, cl25, HG25⟩ := Kd.N_form HO_231001.out (by omega)
          (first | cases eo25 | (injection eo25 with ea_ en_ ec_; (first | subst ea_ | (injection ea_ with ea_; subst ea_)); subst ec_; clear en_))
          have GB25 := Aside0.mk gb25
          have GG25 := Aside0.mk HG25
          clear gb25 gl25 HG25
          obtain ⟨ce25, hcl25, hM25, hcc25, hfr25⟩ := Kd.N_elem HO_231001.out [] (x7_1 : Int) p25 q25
          obtain ⟨ua25_0, uc25_0, rfl, ul25_0, ge25_0⟩ := Kd.FK_slice_open hM25
          have hx25_0 := hcc25 0 _ rfl
          have hf25_0 := hfr25 0
          (try simp only [show ((Kd.slice 46 k46)).sz = 1 from rfl, Nat.mul_one, Nat.add_zero] at hx25_0)
          (try simp only [show ((Kd.slice 46 k46)).sz = 1 from rfl, Nat.mul_one, Nat.add_zero] at hf25_0)
          clear hcl25 hcc25 hfr25; (try clear hM25)
          replace p25 := eq_true p25
          replace q25 := eq_true q25
          have HX32 := Aside0.mk (show Kd.N (Kd.slice 46 k46) 23 _ w.heap.size (fun k_ => (w.heap.size ≤ k_) ∧ some k_ ≠ (u231002 : Value).ownBlock ∧ some k_ ≠ (.slice Ao17 t227.length co17 : Value).ownBlock ∧ some k_ ≠ (v234 : Value).ownBlock ∧ k_ ≠ gb218 ∧ k_ ≠ gb219 ∧ k_ ≠ gb230) (.slice (some ⟨go25, 0, none⟩) x231001_1.length co25) x231001_1 from (Kd.N_mono (HO_231001.out) (fun k_ hk => ⟨hk.1.1, ⟨hk.1.2.1, ⟨hk.1.2.2.1, ⟨hk.2, ⟨hk.1.2.2.2.1, ⟨hk.1.2.2.2.2.1, hk.1.2.2.2.2.2⟩⟩⟩⟩⟩⟩)))
          replace HX32 := Aside0.mk (show Kd.N (Kd.slice 46 k46) 23 _ w.heap.size (fun k_ => (w.heap.size ≤ k_) ∧ some k_ ≠ (u231002 : Value).ownBlock ∧ some k_ ≠ (.slice Ao17 t227.length co17 : Value).ownBlock ∧ k_ ≠ gb218 ∧ k_ ≠ gb219 ∧ k_ ≠ gb230) (.slice (some ⟨go25, 0, none⟩) x231001_1.length co25) x231001_1 from Kd.N_mono HX32.out (fun k_ hk => ⟨hk.1, ⟨hk.2.1, ⟨hk.2.2.1, ⟨hk.2.2.2.2.1, ⟨hk.2.2.2.2.2.1, hk.2.2.2.2.2.2⟩⟩⟩⟩⟩))
          obtain ⟨ce32, hcl32, hM32, hcc32, hfr32⟩ := Kd.N_elem HX32.out [] (x7_1 : Int) (zD) (by have h_ : (x7_1 : Int) < ((x231001_1.length : Int) : Int) := zD; first | exact h_ | (have e_ := (Kd.N_reads' HO_231001.out).1; omega) | simpa using h_)
          obtain ⟨ua32_0, uc32_0, rfl, ul32_0, ge32_0⟩ := Kd.FK_slice_open hM32
          obtain ⟨Av234, cv234, ev_⟩ := Kd.R_slice HO235.out
          subst ev_
          have HEHP32_ := (Kd.R_types (Kd.R_types (Kd.R_types (Kd.R_apart' (Kd.R_apart' (HO235.out) (Kd.N_typed HO_231002.out) (by decide)) (Kd.N_typed HO_231001.out) (by decide)) BK218.out (by decide)) BK219.out (by decide)) BK230.out (by decide))
          have HRHP32_ := Kd.R_mono (ok' := (fun k_ => ((fun k_ => (w.heap.size ≤ k_) ∧ some k_ ≠ (u231002 : Value).ownBlock ∧ some k_ ≠ (.slice Ao17 t227.length co17 : Value).ownBlock ∧ k_ ≠ gb218 ∧ k_ ≠ gb219 ∧ k_ ≠ gb230)) k_ ∧ k_ ≠ go25)) HEHP32_ (fun k_ hk => ⟨⟨hk.1.1.1.1.1.1.1, ⟨hk.1.1.1.1.2, ⟨hk.1.1.1.1.1.2, ⟨hk.1.1.2, ⟨hk.1.2, hk.2⟩⟩⟩⟩⟩, fun e_ => (hk.1.1.1.2) (by rw [e_]; rfl)⟩)
          have HP32 := (Kd.N_seg HX32.out (x7_1 : Int) (zD) (by have h_ : (x7_1 : Int) < ((x231001_1.length : Int) : Int) := zD; first | exact h_ | (have e_ := (Kd.N_reads' HO_231001.out).1; omega) | simpa using h_) (seg := [(.slice Av234 t233.length cv234)]) (j := 0) hcl32 hcc32 (show 1 ≤ 1 from by decide) (x' := t233) (fk_of HRHP32_) (fun _ hk => hk)).1
          (try simp only [show ((Kd.slice 46 k46)).sz = 1 from rfl, Nat.mul_one, Nat.add_zero] at HP32)
          rw [← Ny236.out] at HP32
          have HQ32 := Aside0.mk HP32
          clear hcl32 hcc32 hfr32 HP32; (try clear hM32)
          refine hK.out _ _ ⟨(bC BK230.out 0).trans rfl, (bC BK230.out 1).trans rfl, (bC BK230.out 2).trans rfl, (bC BK230.out 3).trans rfl, (bC BK218.out 0).trans rfl, (bC BK218.out 1).trans rfl, (bC BK218.out 2).trans rfl, (bC BK218.out 3).trans rfl, (zh HB.out hw232_0)⟩ fun hHeld => ?_; clear hK K
          refine nZ 27 ?_
          refine pY 10 28 (fB 12 2047) HT_.out ?_
          refine last_ (i := 11) (N := none) #[true, true, true, true, true, true, true, true, true, true, true, true] rfl rfl (one_of HT_.out (by kernel_rfl)) (by decide) (fun K hK => ?_)
          refine skip_ (w1 := ?_) (by rfl) rfl ?_ ?_
          rotate_left
          ·go_simp
           rfl
          refine hK.out _ _ ?_
          clear hK K
          refine done_ (done_of HT_.out (by kernel_rfl)) ?_
          try go_wp2
          have n0_ : Aside0 (Kd.N (Kd.slice 46 k46) 23 (w31.setCell ⟨go25, (x7_1 : Int).toNat, none⟩ ((.slice Av234 t233.length cv234))) w.heap.size (fun k_ => (w.heap.size ≤ k_) ∧ some k_ ≠ (u231002 : Value).ownBlock ∧ some k_ ≠ (.slice Ao17 t227.length co17 : Value).ownBlock ∧ k_ ≠ gb218 ∧ k_ ≠ gb219 ∧ k_ ≠ gb230) (.slice (some ⟨go25, 0, none⟩) x231001_1.length co25) y236) := ⟨by (with_reducible repeat (first | apply Kd.N_alloc | apply Kd.N_drewN | apply Kd.N_drew)); exact HQ32.out⟩
          have n1_ : Aside0 (Kd.N (Kd.slice 46 k46) 23 (w31.setCell ⟨go25, (x7_1 : Int).toNat, none⟩ ((.slice Av234 t233.length cv234))) w.heap.size (fun k_ => (w.heap.size ≤ k_) ∧ some k_ ≠ (.slice (some ⟨go25, 0, none⟩) x231001_1.length co25 : Value).ownBlock ∧ some k_ ≠ (.slice Ao17 t227.length co17 : Value).ownBlock ∧ k_ ≠ gb218 ∧ k_ ≠ gb219 ∧ k_ ≠ gb230) u231002 x231002_1) := ⟨by (with_reducible repeat (first | apply Kd.N_alloc | apply Kd.N_drewN | apply Kd.N_drew)); exact Kd.N_mono (Kd.N_far (p := ⟨go25, (x7_1 : Int).toNat, none⟩) (Kd.N_mono HO_231002.out (fun k_ hk => (⟨hk, fun e_ => hk.1.2.1 (by rw [e_]; rfl)⟩ : _ ∧ k_ ≠ go25))) (fun _ hk => hk.2) ((.slice Av234 t233.length cv234))) (fun _ hk => ⟨hk.1.1.1, ⟨hk.1.1.2.1, ⟨hk.1.1.2.2.1, ⟨hk.1.1.2.2.2.1, ⟨hk.1.1.2.2.2.2.1, hk.1.1.2.2.2.2.2⟩⟩⟩⟩⟩)⟩
          have n2_ : Aside0 (Kd.R k46 46 (w31.setCell ⟨go25, (x7_1 : Int).toNat, none⟩ ((.slice Av234 t233.length cv234))) w.heap.size (fun k_ => (w.heap.size ≤ k_)) (.slice Ao17 t227.length co17) t227) := ⟨by (with_reducible repeat (first | apply Kd.R_alloc | apply Kd.R_drewN | apply Kd.R_drew)); exact Kd.R_mono (Kd.R_far (p := ⟨go25, (x7_1 : Int).toNat, none⟩) (Kd.R_types HO_231003.out GG25.out (by decide)) (fun _ hk => hk.2) ((.slice Av234 t233.length cv234))) (fun _ hk => hk.1.1)⟩
          have n3_ : Aside0 ((w31.setCell ⟨go25, (x7_1 : Int).toNat, none⟩ ((.slice Av234 t233.length cv234))).heap[gb218]? = some (.cells #[.int .i64 a0_0, .slice (some ad232) l0_1.length c0_1, .slice A0_2 l0_2.length c0_2, .slice A0_3 l0_3.length c0_3] 25 (0, 0))) := ⟨by (with_reducible repeat (first | refine bN ?_ _ | refine bD ?_ | refine bA ?_ _)); refine blk_far ?_ (by have h_ := Kd.N_away HO_231001.out (fun _ hk => by first | exact hk.2.2.2.1 | exact hk.1.2.2.2.1); intro e_; exact h_ (by rw [e_]; rfl)) _; exact zB BK218.out⟩
          have n4_ : Aside0 ((w31.setCell ⟨go25, (x7_1 : Int).toNat, none⟩ ((.slice Av234 t233.length cv234))).heap[gb219]? = some (.cells #[.int .i64 0, .slice none 0 0, .slice none 0 0, .slice none 0 0] 25 (0, 0))) := ⟨by (with_reducible repeat (first | refine bN ?_ _ | refine bD ?_ | refine bA ?_ _)); refine blk_far ?_ (by have h_ := Kd.N_away HO_231001.out (fun _ hk => by first | exact hk.2.2.2.2.1 | exact hk.1.2.2.2.2.1); intro e_; exact h_ (by rw [e_]; rfl)) _; exact zB BK219.out⟩
          have n5_ : Aside0 ((w31.setCell ⟨go25, (x7_1 : Int).toNat, none⟩ ((.slice Av234 t233.length cv234))).heap[gb230]? = some (.cells #[.int .i64 t220, .slice (some ⟨go25, 0, none⟩) x231001_1.length co25, u231002, .slice Ao17 t227.length co17] 25 (0, 0))) := ⟨by (with_reducible repeat (first | refine bN ?_ _ | refine bD ?_ | refine bA ?_ _)); refine blk_far ?_ (by have h_ := Kd.N_away HO_231001.out (fun _ hk => by first | exact hk.2.2.2.2.2 | exact hk.1.2.2.2.2.2); intro e_; exact h_ (by rw [e_]; rfl)) _; exact zB BK230.out⟩
          have n6_ : Aside0 (Below w.heap.size w (w31.setCell ⟨go25, (x7_1 : Int).toNat, none⟩ ((.slice Av234 t233.length cv234)))) := ⟨by repeat (first | (with_reducible first | exact HB.out | apply below_alloc | apply pw_below_drewN | apply below_drew1 | refine bS ?_ GB25.out | refine bS ?_ GE218.out | refine bS ?_ GE219.out | refine bS ?_ GE230.out) | exact HB.out)⟩
          (try clear HO_231001)
          (try clear HO_231002)
          (try clear HO_231003)
          (try clear BK218)
          (try clear BK219)
          (try clear BK230)
          (try clear HB)
          generalize (w31.setCell ⟨go25, (x7_1 : Int).toNat, none⟩ ((.slice Av234 t233.length cv234))) = w33 at n0_ n1_ n2_ n3_ n4_ n5_ n6_ ⊢
          have HO_231001 := n0_
          have HO_231002 := n1_
          have HO_231003 := n2_
          have BK218 := n3_
          have BK219 := n4_
          have BK230 := n5_
          have HB := n6_
          clear n0_ n1_ n2_ n3_ n4_ n5_ n6_
          replace HO_231001 := zXD HO_231001; replace HO_231002 := zXD HO_231002; replace HO_231003 := zRD HO_231003; replace BK218 := zBD BK218; replace BK219 := zBD BK219; replace BK230 := zBD BK230; replace HB := zLD HB
          have p237 : 0 ≤ (x7_1 : Int) := zD
          have q237 : x7_1 < (l0_2.length : Int) := zD
          obtain ⟨ad237, A237_0, c237_0, e237, hx237_0, hl237_0, hi237_0⟩ := at_L2 HR0_2.out x7_1 p237 q237
          have hw237_0 := hx237_0
          cases e237
          replace hx237_0 := zh HB.out hx237_0
          have HR237_0 := Aside0.mk hi237_0
          have HC237_0 := Aside0.mk hl237_0
          clear hi237_0 hl237_0
          replace p237 := eq_true p237
          replace q237 := eq_true q237
          refine start_ (n := 12) (S := fun w' => w'.cell? ⟨gb230, 0, none⟩ = some (.int .i64 t220) ∧ w'.cell? ⟨gb230, 1, none⟩ = some (.slice (some ⟨go25, 0, none⟩) x231001_1.length co25) ∧ w'.cell? ⟨gb230, 2, none⟩ = some (u231002) ∧ w'.cell? ⟨gb230, 3, none⟩ = some (.slice Ao17 t227.length co17) ∧ w'.cell? ⟨gb218, 0, none⟩ = some (.int .i64 a0_0) ∧ w'.cell? ⟨gb218, 1, none⟩ = some (.slice (some ad232) l0_1.length c0_1) ∧ w'.cell? ⟨gb218, 2, none⟩ = some (.slice (some ad237) l0_2.length c0_2) ∧ w'.cell? ⟨gb218, 3, none⟩ = some (.slice A0_3 l0_3.length c0_3) ∧ w'.cell? (ad237.add (x7_1).toNat) = some (.slice A237_0 (rd_L2 l0_2 x7_1).length c237_0)) (ds := [11]) (fB 12 0) (by kernel_rfl) rfl rfl ⟨(bC BK230.out 0).trans rfl, (bC BK230.out 1).trans rfl, (bC BK230.out 2).trans rfl, (bC BK230.out 3).trans rfl, (bC BK218.out 0).trans rfl, (bC BK218.out 1).trans rfl, (bC BK218.out 2).trans rfl, (bC BK218.out 3).trans rfl, (zh HB.out hw237_0)⟩ (fun hHeld => ?_); refine with_tabW spec_Cancel.tab8 spec_Cancel.bits8 (fun HT_ HW_ => ?_)
          generalize w33.drew = w34 at HO_231001 HO_231002 HO_231003 BK218 BK219 BK230 HB HQ32 HR237_0 hx237_0 hHeld ⊢
          refine pY 0 29 (fB 12 1) HT_.out ?_
          refine pY 2 31 (fB 12 5) HT_.out ?_
          refine pY 3 32 (fB 12 13) HT_.out ?_
          refine pY 5 34 (fB 12 45) HT_.out ?_
          refine pY 8 37 (fB 12 301) HT_.out ?_
          refine tY 1 30 (fB 12 303) HT_.out HW_.out hHeld ?_
          refine tY 4 33 (fB 12 319) HT_.out HW_.out hHeld ?_
          refine pY 6 35 (fB 12 383) HT_.out ?_
          refine tY 7 36 (fB 12 511) HT_.out HW_.out hHeld ?_
          refine oN 9 38 (fB 12 1023) HT_.out fun K hK => ?_
          refine gS Try.func76 #[.slice A237_0 (rd_L2 l0_2 x7_1).length c237_0, .int .i64 a1] ?_
          with_reducible refine (spec_l8Without.calls k1 _ _ (rd_L2 l0_2 x7_1) a1 t238 _ ?side1 ?side2 A27.out).mono ?_
          (case side1 => exact zC (Kd.C_below HR237_0.out HB.out))
          (case side2 => exact HC237_0.out)
          rintro e w35 ⟨v239, rfl, ho0, hb⟩
          refine ⟨_, rfl, ?_⟩
          replace HO_231001 := Aside0.mk (Kd.N_elder' (zX HO_231001.out) (Kd.R_base ho0) hb); replace HO_231002 := Aside0.mk (Kd.N_elder' (zX HO_231002.out) (Kd.R_base ho0) hb); have HO240 := Aside0.mk (Kd.R_lower (Kd.R_new' (Kd.R_newM (M := fun k_ => (w.heap.size ≤ k_)) ho0 (below_size (zL3 HB.out GE218.out GE219.out GE230.out)) (fun k_ h_ => h_)) (Kd.R_lt (zR HO_231003.out))) (below_size (zL3 HB.out GE218.out GE219.out GE230.out))); replace HO_231003 := Aside0.mk (Kd.R_elder' (zR HO_231003.out) (Kd.R_base ho0) hb); replace BK218 := zBB BK218 hb; replace BK219 := zBB BK219 hb; replace BK230 := zBB BK230 hb; replace HB := zLB (zL3 HB.out GE218.out GE219.out GE230.out) hb
          clear ho0 hb
          (try clear ho0)
          have p29 : 0 ≤ (x7_1 : Int) := zD
          have q29 : (x7_1 : Int) < ((x231002_1.length : Int) : Int) := zD
          obtain ⟨go29, co29, eo29, gb29, gl29, cl29, HG29⟩ := Kd.N_form HO_231002.out (by omega)
          (first | cases eo29 | (injection eo29 with ea_ en_ ec_; (first | subst ea_ | (injection ea_ with ea_; subst ea_)); subst ec_; clear en_))
          have GB29 := Aside0.mk gb29
          have GG29 := Aside0.mk HG29
          clear gb29 gl29 HG29
          obtain ⟨ce29, hcl29, hM29, hcc29, hfr29⟩ := Kd.N_elem HO_231002.out [] (x7_1 : Int) p29 q29
          obtain ⟨ua29_0, uc29_0, rfl, ul29_0, ge29_0⟩ := Kd.FK_slice_open hM29
          have hx29_0 := hcc29 0 _ rfl
          have hf29_0 := hfr29 0
          (try simp only [show ((Kd.slice 46 k46)).sz = 1 from rfl, Nat.mul_one, Nat.add_zero] at hx29_0)
          (try simp only [show ((Kd.slice 46 k46)).sz = 1 from rfl, Nat.mul_one, Nat.add_zero] at hf29_0)
          clear hcl29 hcc29 hfr29; (try clear hM29)
          replace p29 := eq_true p29
          replace q29 := eq_true q29
          have HX36 := Aside0.mk (show Kd.N (Kd.slice 46 k46) 23 _ w.heap.size (fun k_ => (w.heap.size ≤ k_) ∧ some k_ ≠ (.slice (some ⟨go25, 0, none⟩) x231001_1.length co25 : Value).ownBlock ∧ some k_ ≠ (.slice Ao17 t227.length co17 : Value).ownBlock ∧ some k_ ≠ (v239 : Value).ownBlock ∧ k_ ≠ gb218 ∧ k_ ≠ gb219 ∧ k_ ≠ gb230) (.slice (some ⟨go29, 0, none⟩) x231002_1.length co29) x231002_1 from (Kd.N_mono (HO_231002.out) (fun k_ hk => ⟨hk.1.1, ⟨hk.1.2.1, ⟨hk.1.2.2.1, ⟨hk.2, ⟨hk.1.2.2.2.1, ⟨hk.1.2.2.2.2.1, hk.1.2.2.2.2.2⟩⟩⟩⟩⟩⟩)))
          replace HX36 := Aside0.mk (show Kd.N (Kd.slice 46 k46) 23 _ w.heap.size (fun k_ => (w.heap.size ≤ k_) ∧ some k_ ≠ (.slice (some ⟨go25, 0, none⟩) x231001_1.length co25 : Value).ownBlock ∧ some k_ ≠ (.slice Ao17 t227.length co17 : Value).ownBlock ∧ k_ ≠ gb218 ∧ k_ ≠ gb219 ∧ k_ ≠ gb230) (.slice (some ⟨go29, 0, none⟩) x231002_1.length co29) x231002_1 from Kd.N_mono HX36.out (fun k_ hk => ⟨hk.1, ⟨hk.2.1, ⟨hk.2.2.1, ⟨hk.2.2.2.2.1, ⟨hk.2.2.2.2.2.1, hk.2.2.2.2.2.2⟩⟩⟩⟩⟩))
          obtain ⟨ce36, hcl36, hM36, hcc36, hfr36⟩ := Kd.N_elem HX36.out [] (x7_1 : Int) (zD) (by have h_ : (x7_1 : Int) < ((x231002_1.length : Int) : Int) := zD; first | exact h_ | (have e_ := (Kd.N_reads' HO_231002.out).1; omega) | simpa using h_)
          obtain ⟨ua36_0, uc36_0, rfl, ul36_0, ge36_0⟩ := Kd.FK_slice_open hM36
          obtain ⟨Av239, cv239, ev_⟩ := Kd.R_slice HO240.out
          subst ev_
          have HEHP36_ := (Kd.R_types (Kd.R_types (Kd.R_types (Kd.R_apart' (Kd.R_apart' (HO240.out) (Kd.N_typed HO_231001.out) (by decide)) (Kd.N_typed HO_231002.out) (by decide)) BK218.out (by decide)) BK219.out (by decide)) BK230.out (by decide))
          have HRHP36_ := Kd.R_mono (ok' := (fun k_ => ((fun k_ => (w.heap.size ≤ k_) ∧ some k_ ≠ (.slice (some ⟨go25, 0, none⟩) x231001_1.length co25 : Value).ownBlock ∧ some k_ ≠ (.slice Ao17 t227.length co17 : Value).ownBlock ∧ k_ ≠ gb218 ∧ k_ ≠ gb219 ∧ k_ ≠ gb230)) k_ ∧ k_ ≠ go29)) HEHP36_ (fun k_ hk => ⟨⟨hk.1.1.1.1.1.1.1, ⟨hk.1.1.1.1.2, ⟨hk.1.1.1.1.1.2, ⟨hk.1.1.2, ⟨hk.1.2, hk.2⟩⟩⟩⟩⟩, fun e_ => (hk.1.1.1.2) (by rw [e_]; rfl)⟩)
          have HP36 := (Kd.N_seg HX36.out (x7_1 : Int) (zD) (by have h_ : (x7_1 : Int) < ((x231002_1.length : Int) : Int) := zD; first | exact h_ | (have e_ := (Kd.N_reads' HO_231002.out).1; omega) | simpa using h_) (seg := [(.slice Av239 t238.length cv239)]) (j := 0) hcl36 hcc36 (show 1 ≤ 1 from by decide) (x' := t238) (fk_of HRHP36_) (fun _ hk => hk)).1
          (try simp only [show ((Kd.slice 46 k46)).sz = 1 from rfl, Nat.mul_one, Nat.add_zero] at HP36)
          rw [← Ny241.out] at HP36
          have HQ36 := Aside0.mk HP36
          clear hcl36 hcc36 hfr36 HP36; (try clear hM36)
          refine hK.out _ _ ⟨(bC BK230.out 0).trans rfl, (bC BK230.out 1).trans rfl, (bC BK230.out 2).trans rfl, (bC BK230.out 3).trans rfl, (bC BK218.out 0).trans rfl, (bC BK218.out 1).trans rfl, (bC BK218.out 2).trans rfl, (bC BK218.out 3).trans rfl, (zh HB.out hw237_0)⟩ fun hHeld => ?_; clear hK K
          refine nZ 38 ?_
          refine pY 10 39 (fB 12 2047) HT_.out ?_
          refine last_ (i := 11) (N := none) #[true, true, true, true, true, true, true, true, true, true, true, true] rfl rfl (one_of HT_.out (by kernel_rfl)) (by decide) (fun K hK => ?_)
          refine skip_ (w1 := ?_) (by rfl) rfl ?_ ?_
          rotate_left
          ·go_simp
           rfl
          refine hK.out _ _ ?_
          clear hK K
          refine done_ (done_of HT_.out (by kernel_rfl)) ?_
          try go_wp2
          go_roundg k1
          case measure => have := HK1.out; omega
          case rel => exact ⟨(wrap64 (x7_1 + 1)), (y236), (y241), (.slice (some ⟨go25, 0, none⟩) x231001_1.length co25), (.slice (some ⟨go29, 0, none⟩) x231002_1.length co29), zV, H', ⟨by have := HK1.out; omega⟩, ⟨by (with_reducible repeat (first | apply Kd.N_alloc | apply Kd.N_drewN | apply Kd.N_drew)); exact Kd.N_mono (Kd.N_far (p := ⟨go29, (x7_1 : Int).toNat, none⟩) (Kd.N_mono HO_231001.out (fun k_ hk => (⟨hk, fun e_ => hk.1.2.1 (by rw [e_]; rfl)⟩ : _ ∧ k_ ≠ go29))) (fun _ hk => hk.2) ((.slice Av239 t238.length cv239))) (fun _ hk => ⟨hk.1.1.1, ⟨hk.1.1.2.1, ⟨hk.1.1.2.2.1, ⟨hk.1.1.2.2.2.1, ⟨hk.1.1.2.2.2.2.1, hk.1.1.2.2.2.2.2⟩⟩⟩⟩⟩)⟩, ⟨by (with_reducible repeat (first | apply Kd.N_alloc | apply Kd.N_drewN | apply Kd.N_drew)); exact HQ36.out⟩, ⟨by (with_reducible repeat (first | apply Kd.R_alloc | apply Kd.R_drewN | apply Kd.R_drew)); exact Kd.R_mono (Kd.R_far (p := ⟨go29, (x7_1 : Int).toNat, none⟩) (Kd.R_types HO_231003.out GG29.out (by decide)) (fun _ hk => hk.2) ((.slice Av239 t238.length cv239))) (fun _ hk => hk.1.1)⟩, ⟨by (with_reducible repeat (first | refine bN ?_ _ | refine bD ?_ | refine bA ?_ _)); refine blk_far ?_ (by have h_ := Kd.N_away HO_231002.out (fun _ hk => by first | exact hk.2.2.2.1 | exact hk.1.2.2.2.1); intro e_; exact h_ (by rw [e_]; rfl)) _; exact zB BK218.out⟩, ⟨by (with_reducible repeat (first | refine bN ?_ _ | refine bD ?_ | refine bA ?_ _)); refine blk_far ?_ (by have h_ := Kd.N_away HO_231002.out (fun _ hk => by first | exact hk.2.2.2.2.1 | exact hk.1.2.2.2.2.1); intro e_; exact h_ (by rw [e_]; rfl)) _; exact zB BK219.out⟩, ⟨by (with_reducible repeat (first | refine bN ?_ _ | refine bD ?_ | refine bA ?_ _)); refine blk_far ?_ (by have h_ := Kd.N_away HO_231002.out (fun _ hk => by first | exact hk.2.2.2.2.2 | exact hk.1.2.2.2.2.2); intro e_; exact h_ (by rw [e_]; rfl)) _; exact zB BK230.out⟩, ⟨by repeat (first | (with_reducible first | exact HB.out | apply below_alloc | apply pw_below_drewN | apply below_drew1 | refine bS ?_ GB29.out | refine bS ?_ GE218.out | refine bS ?_ GE219.out | refine bS ?_ GE230.out) | exact HB.out)⟩⟩
         ·rw [if_neg c28] at H
          exact absurd H (by simp)
        ·rw [if_neg c26] at H
         exact absurd H (by simp)
       ·rw [if_neg c24] at H
        exact absurd H (by simp)
      ·rw [if_neg c22] at H
       exact absurd H (by simp)
     ·rw [if_neg c21] at H
      exact absurd H (by simp)
    ·rw [if_neg c20] at H
     have c20b0 := decide_eq_false c20
     clear c20
     obtain ⟨t242, A37, H⟩ := zO H; try dsimp only at H
     obtain ⟨t245, A38, H⟩ := zO H; try dsimp only at H
     obtain ⟨t248, A39, H⟩ := zO H; try dsimp only at H
     simp only [Option.some.injEq, Prod.mk.injEq] at H
     obtain ⟨rfl, rfl, rfl, rfl, rfl⟩ := H
     have hnb40 := NB218_219.out
     have hnc40 := NB219_218.out
     have hnb41 := NB218_230.out
     have hnc41 := NB230_218.out
     have hcz42 := zc4 BK218.out
     have hfz42 := zf4 BK218.out
     try go_wp2_with (first | ((with_reducible refine gC 76 rfl ?_); refine gL 43 Try.func76 #[.slice A0_3 l0_3.length c0_3, .int .i64 a1] ?_; (with_reducible refine (spec_l8Without.calls k1 _ _ l0_3 a1 t242 _ ?side1 ?side2 A37.out).mono ?_); (case side1 => exact zC (Kd.C_below HR0_3.out HB.out)); (case side2 => exact HC0_3.out); rintro e w43 ⟨v243, rfl, ho0, hb⟩; refine ⟨_, rfl, ?_⟩; replace HO_231001 := Aside0.mk (Kd.N_elder' (zX HO_231001.out) (Kd.R_base ho0) hb); replace HO_231002 := Aside0.mk (Kd.N_elder' (zX HO_231002.out) (Kd.R_base ho0) hb); have HO244 := Aside0.mk (Kd.R_lower (Kd.R_new' (Kd.R_newM (M := fun k_ => (w.heap.size ≤ k_)) ho0 (below_size (zL3 HB.out GE218.out GE219.out GE230.out)) (fun k_ h_ => h_)) (Kd.R_lt (zR HO_231003.out))) (below_size (zL3 HB.out GE218.out GE219.out GE230.out))); replace HO_231003 := Aside0.mk (Kd.R_elder' (zR HO_231003.out) (Kd.R_base ho0) hb); replace BK218 := zBB BK218 hb; replace BK219 := zBB BK219 hb; replace BK230 := zBB BK230 hb; replace HB := zLB (zL3 HB.out GE218.out GE219.out GE230.out) hb; clear ho0 hb; obtain ⟨Ao44, co44, eo44⟩ := Kd.R_slice HO244.out; subst eo44; have hnb45 := NB230_219.out; have hnc45 := NB219_230.out; have hcz46 := zc4 BK230.out; have hfz46 := zf4 BK230.out))
     have n0_ : Aside0 (Kd.N (Kd.slice 46 k46) 23 (w43.setCell ⟨gb230, 3, none⟩ (.slice Ao44 t242.length co44)) w.heap.size (fun k_ => (w.heap.size ≤ k_) ∧ some k_ ≠ (u231002 : Value).ownBlock ∧ some k_ ≠ (.slice Ao17 t227.length co17 : Value).ownBlock ∧ some k_ ≠ (.slice Ao44 t242.length co44 : Value).ownBlock ∧ k_ ≠ gb218 ∧ k_ ≠ gb219 ∧ k_ ≠ gb230) u231001 x231001_1) := ⟨by (with_reducible repeat (first | apply Kd.N_alloc | apply Kd.N_drewN | apply Kd.N_drew)); exact Kd.N_mono (Kd.N_far (p := ⟨gb230, 3, none⟩) (Kd.N_mono HO_231001.out (fun k_ hk => (⟨hk, hk.1.2.2.2.2.2⟩ : _ ∧ k_ ≠ gb230))) (fun _ hk => hk.2) (.slice Ao44 t242.length co44)) (fun _ hk => ⟨hk.1.1.1, ⟨hk.1.1.2.1, ⟨hk.1.1.2.2.1, ⟨hk.1.2, ⟨hk.1.1.2.2.2.1, ⟨hk.1.1.2.2.2.2.1, hk.1.1.2.2.2.2.2⟩⟩⟩⟩⟩⟩)⟩
     have n1_ : Aside0 (Kd.N (Kd.slice 46 k46) 23 (w43.setCell ⟨gb230, 3, none⟩ (.slice Ao44 t242.length co44)) w.heap.size (fun k_ => (w.heap.size ≤ k_) ∧ some k_ ≠ (u231001 : Value).ownBlock ∧ some k_ ≠ (.slice Ao17 t227.length co17 : Value).ownBlock ∧ some k_ ≠ (.slice Ao44 t242.length co44 : Value).ownBlock ∧ k_ ≠ gb218 ∧ k_ ≠ gb219 ∧ k_ ≠ gb230) u231002 x231002_1) := ⟨by (with_reducible repeat (first | apply Kd.N_alloc | apply Kd.N_drewN | apply Kd.N_drew)); exact Kd.N_mono (Kd.N_far (p := ⟨gb230, 3, none⟩) (Kd.N_mono HO_231002.out (fun k_ hk => (⟨hk, hk.1.2.2.2.2.2⟩ : _ ∧ k_ ≠ gb230))) (fun _ hk => hk.2) (.slice Ao44 t242.length co44)) (fun _ hk => ⟨hk.1.1.1, ⟨hk.1.1.2.1, ⟨hk.1.1.2.2.1, ⟨hk.1.2, ⟨hk.1.1.2.2.2.1, ⟨hk.1.1.2.2.2.2.1, hk.1.1.2.2.2.2.2⟩⟩⟩⟩⟩⟩)⟩
     have n2_ : Aside0 (Kd.R k46 46 (w43.setCell ⟨gb230, 3, none⟩ (.slice Ao44 t242.length co44)) w.heap.size (fun k_ => (w.heap.size ≤ k_) ∧ some k_ ≠ (.slice Ao44 t242.length co44 : Value).ownBlock) (.slice Ao17 t227.length co17) t227) := ⟨by (with_reducible repeat (first | apply Kd.R_alloc | apply Kd.R_drewN | apply Kd.R_drew)); exact Kd.R_mono (Kd.R_far (p := ⟨gb230, 3, none⟩) (Kd.R_types HO_231003.out BK230.out (by decide)) (fun _ hk => hk.2) (.slice Ao44 t242.length co44)) (fun _ hk => ⟨hk.1.1, hk.1.2⟩)⟩
     have n3_ : Aside0 (Kd.R k46 46 (w43.setCell ⟨gb230, 3, none⟩ (.slice Ao44 t242.length co44)) w.heap.size (fun k_ => (w.heap.size ≤ k_) ∧ some k_ ≠ (.slice Ao17 t227.length co17 : Value).ownBlock) (.slice Ao44 t242.length co44) t242) := ⟨by (with_reducible repeat (first | apply Kd.R_alloc | apply Kd.R_drewN | apply Kd.R_drew)); exact Kd.R_mono (Kd.R_far (p := ⟨gb230, 3, none⟩) (Kd.R_types HO244.out BK230.out (by decide)) (fun _ hk => hk.2) (.slice Ao44 t242.length co44)) (fun _ hk => ⟨hk.1.1.1, hk.1.2⟩)⟩
     have n4_ : Aside0 ((w43.setCell ⟨gb230, 3, none⟩ (.slice Ao44 t242.length co44)).heap[gb218]? = some (.cells #[.int .i64 a0_0, .slice A0_1 l0_1.length c0_1, .slice A0_2 l0_2.length c0_2, .slice A0_3 l0_3.length c0_3] 25 (0, 0))) := ⟨by (with_reducible repeat (first | refine bN ?_ _ | refine bD ?_ | refine bA ?_ _)); refine blk_far ?_ NB218_230.out _; exact zB BK218.out⟩
     have n5_ : Aside0 ((w43.setCell ⟨gb230, 3, none⟩ (.slice Ao44 t242.length co44)).heap[gb219]? = some (.cells #[.int .i64 0, .slice none 0 0, .slice none 0 0, .slice none 0 0] 25 (0, 0))) := ⟨by (with_reducible repeat (first | refine bN ?_ _ | refine bD ?_ | refine bA ?_ _)); refine blk_far ?_ NB219_230.out _; exact zB BK219.out⟩
     have n6_ : Aside0 ((w43.setCell ⟨gb230, 3, none⟩ (.slice Ao44 t242.length co44)).heap[gb230]? = some (.cells #[.int .i64 t220, u231001, u231002, .slice Ao44 t242.length co44] 25 (0, 0))) := ⟨by (with_reducible repeat (first | refine bN ?_ _ | refine bD ?_ | refine bA ?_ _)); refine blk_put (cs := #[.int .i64 t220, u231001, u231002, .slice Ao17 t227.length co17]) ?_ 3 _ rfl; exact zB BK230.out⟩
     have n7_ : Aside0 (Below w.heap.size w (w43.setCell ⟨gb230, 3, none⟩ (.slice Ao44 t242.length co44))) := ⟨zL3 HB.out GE218.out GE219.out GE230.out⟩
     (try clear HO_231001)
     (try clear HO_231002)
     (try clear HO_231003)
     (try clear HO244)
     (try clear BK218)
     (try clear BK219)
     (try clear BK230)
     (try clear HB)
     generalize (w43.setCell ⟨gb230, 3, none⟩ (.slice Ao44 t242.length co44)) = w47 at n0_ n1_ n2_ n3_ n4_ n5_ n6_ n7_ ⊢
     have HO_231001 := n0_
     have HO_231002 := n1_
     have HO_231003 := n2_
     have HO244 := n3_
     have BK218 := n4_
     have BK219 := n5_
     have BK230 := n6_
     have HB := n7_
     clear n0_ n1_ n2_ n3_ n4_ n5_ n6_ n7_
     replace HO_231001 := zXD HO_231001; replace HO_231002 := zXD HO_231002; replace HO_231003 := zRD HO_231003; replace HO244 := zRD HO244; replace BK218 := zBD BK218; replace BK219 := zBD BK219; replace BK230 := zBD BK230; replace HB := zLD HB
     obtain ⟨Ao49, co49, eo49⟩ := Kd.N_slice HO_231001.out
     (first | subst eo49 | (injection eo49 with f1_ f2_ f3_; have f4_ := f1_.symm; have f5_ := f3_.symm; clear f1_ f2_ f3_; subst f4_; subst f5_))
     obtain ⟨Ao50, co50, eo50⟩ := Kd.N_slice HO_231002.out
     (first | subst eo50 | (injection eo50 with f1_ f2_ f3_; have f4_ := f1_.symm; have f5_ := f3_.symm; clear f1_ f2_ f3_; subst f4_; subst f5_))
     refine start_ (n := 10) (S := fun w' => zt4 w' gb230 (.int .i64 t220) (.slice Ao49 x231001_1.length co49) (.slice Ao50 x231002_1.length co50) (.slice Ao44 t242.length co44) (zs4 w' gb218 (.int .i64 a0_0) (.slice A0_1 l0_1.length c0_1) (.slice A0_2 l0_2.length c0_2) (.slice A0_3 l0_3.length c0_3))) (ds := []) (fB 10 0) (by kernel_rfl) rfl rfl (zk4 BK230.out (zc4 BK218.out)) (fun hHeld => ?_); refine with_tabW spec_Cancel.tab10 spec_Cancel.bits10 (fun HT_ HW_ => ?_)
     generalize w47.drew = w48 at HO_231001 HO_231002 HO_231003 HO244 BK218 BK219 BK230 HB hHeld ⊢
     refine tY 0 45 (fB 10 1) HT_.out HW_.out hHeld ?_
     refine tY 1 46 (fB 10 3) HT_.out HW_.out hHeld ?_
     refine tY 4 49 (fB 10 19) HT_.out HW_.out hHeld ?_
     refine oN 2 47 (fB 10 23) HT_.out fun K hK => ?_
     refine gS Try.func24 #[.agg #[.int .i64 t220, .slice Ao49 x231001_1.length co49, .slice Ao50 x231002_1.length co50, .slice Ao44 t242.length co44]] ?_
     with_reducible refine (spec_Timers.calls k1 t220 _ _ x231001_1 _ _ x231002_1 _ _ t242 t245 _ ?side1 ?side2 ?side3 ?side4 ?side5 ?side6 A38.out).mono ?_
     (case side1 => exact zC (Kd.N_reads' HO_231001.out).2.2)
     (case side2 => exact (Kd.N_reads' HO_231001.out).2.1)
     (case side3 => exact zC (Kd.N_reads' HO_231002.out).2.2)
     (case side4 => exact (Kd.N_reads' HO_231002.out).2.1)
     (case side5 => exact zC (Kd.R_reads' HO244.out).2.2)
     (case side6 => exact (Kd.R_reads' HO244.out).2.1)
     rintro e w51 ⟨v246, rfl, ho0, hb⟩
     refine ⟨_, rfl, ?_⟩
     replace HO_231001 := Aside0.mk (Kd.N_elder' (zX HO_231001.out) (Kd.R_base ho0) hb); replace HO_231002 := Aside0.mk (Kd.N_elder' (zX HO_231002.out) (Kd.R_base ho0) hb); have HO247 := Aside0.mk (Kd.R_lower (Kd.R_new' (Kd.R_new' (Kd.R_newM (M := fun k_ => (w.heap.size ≤ k_)) ho0 (below_size (zL3 HB.out GE218.out GE219.out GE230.out)) (fun k_ h_ => h_)) (Kd.R_lt (zR HO_231003.out))) (Kd.R_lt (zR HO244.out))) (below_size (zL3 HB.out GE218.out GE219.out GE230.out))); replace HO_231003 := Aside0.mk (Kd.R_elder' (zR HO_231003.out) (Kd.R_base ho0) hb); replace HO244 := Aside0.mk (Kd.R_elder' (zR HO244.out) (Kd.R_base ho0) hb); replace BK218 := zBB BK218 hb; replace BK219 := zBB BK219 hb; replace BK230 := zBB BK230 hb; replace HB := zLB (zL3 HB.out GE218.out GE219.out GE230.out) hb
     clear ho0 hb
     (try clear ho0)
     obtain ⟨Ao52, co52, eo52⟩ := Kd.R_slice HO247.out
     (first | subst eo52 | (injection eo52 with f1_ f2_ f3_; have f4_ := f1_.symm; have f5_ := f3_.symm; clear f1_ f2_ f3_; subst f4_; subst f5_))
     refine hK.out _ _ (zk4 BK230.out (zc4 BK218.out)) fun hHeld => ?_; clear hK K
     refine nZ 47 ?_
     refine pY 3 48 (fB 10 31) HT_.out ?_
     refine oN 5 50 (fB 10 63) HT_.out fun K hK => ?_
     refine gS Try.func24 #[.agg #[.int .i64 a0_0, .slice A0_1 l0_1.length c0_1, .slice A0_2 l0_2.length c0_2, .slice A0_3 l0_3.length c0_3]] ?_
     with_reducible refine (spec_Timers.calls k1 a0_0 _ _ l0_1 _ _ l0_2 _ _ l0_3 t248 _ ?side1 ?side2 ?side3 ?side4 ?side5 ?side6 A39.out).mono ?_
     (case side1 => exact zC (Kd.C_below HR0_1.out HB.out))
     (case side2 => exact HC0_1.out)
     (case side3 => exact zC (Kd.C_below HR0_2.out HB.out))
     (case side4 => exact HC0_2.out)
     (case side5 => exact zC (Kd.C_below HR0_3.out HB.out))
     (case side6 => exact HC0_3.out)
     rintro e w53 ⟨v249, rfl, ho0, hb⟩
     refine ⟨_, rfl, ?_⟩
     replace HO_231001 := Aside0.mk (Kd.N_elder' (zX HO_231001.out) (Kd.R_base ho0) hb); replace HO_231002 := Aside0.mk (Kd.N_elder' (zX HO_231002.out) (Kd.R_base ho0) hb); have HO250 := Aside0.mk (Kd.R_lower (Kd.R_new' (Kd.R_new' (Kd.R_new' (Kd.R_newM (M := fun k_ => (w.heap.size ≤ k_)) ho0 (below_size (zL3 HB.out GE218.out GE219.out GE230.out)) (fun k_ h_ => h_)) (Kd.R_lt (zR HO_231003.out))) (Kd.R_lt (zR HO244.out))) (Kd.R_lt (zR HO247.out))) (below_size (zL3 HB.out GE218.out GE219.out GE230.out))); replace HO_231003 := Aside0.mk (Kd.R_elder' (zR HO_231003.out) (Kd.R_base ho0) hb); replace HO244 := Aside0.mk (Kd.R_elder' (zR HO244.out) (Kd.R_base ho0) hb); replace HO247 := Aside0.mk (Kd.R_elder' (zR HO247.out) (Kd.R_base ho0) hb); replace BK218 := zBB BK218 hb; replace BK219 := zBB BK219 hb; replace BK230 := zBB BK230 hb; replace HB := zLB (zL3 HB.out GE218.out GE219.out GE230.out) hb
     clear ho0 hb
     (try clear ho0)
     obtain ⟨Ao54, co54, eo54⟩ := Kd.R_slice HO250.out
     (first | subst eo54 | (injection eo54 with f1_ f2_ f3_; have f4_ := f1_.symm; have f5_ := f3_.symm; clear f1_ f2_ f3_; subst f4_; subst f5_))
     refine hK.out _ _ (zk4 BK230.out (zc4 BK218.out)) fun hHeld => ?_; clear hK K
     refine nZ 50 ?_
     refine pY 6 51 (fB 10 127) HT_.out ?_
     refine pY 7 52 (fB 10 255) HT_.out ?_
     refine one_ (i := 8) (N := none) (fB 10 511) rfl rfl (one_of HT_.out (by kernel_rfl)) (by decide) (fun K hK => ?_)
     have hs55 : w53.cell? ⟨gb219, 0, none⟩ = some (.int .i64 0) := (bC BK219.out 0).trans rfl
     have hfs55 := blk_frozen BK219.out 0
     have hns55_0 := NB218_219.out
     have hns55_2 := NB230_219.out
     have hms55_0 := NB219_218.out
     have hms55_2 := NB219_230.out
     have hs56 : w53.cell? ⟨gb219, 1, none⟩ = some (.slice none 0 0) := (bC BK219.out 1).trans rfl
     have hfs56 := blk_frozen BK219.out 1
     have hns56_0 := NB218_219.out
     have hns56_2 := NB230_219.out
     have hms56_0 := NB219_218.out
     have hms56_2 := NB219_230.out
     have hs57 : w53.cell? ⟨gb219, 2, none⟩ = some (.slice none 0 0) := (bC BK219.out 2).trans rfl
     have hfs57 := blk_frozen BK219.out 2
     have hns57_0 := NB218_219.out
     have hns57_2 := NB230_219.out
     have hms57_0 := NB219_218.out
     have hms57_2 := NB219_230.out
     have hs58 : w53.cell? ⟨gb219, 3, none⟩ = some (.slice none 0 0) := (bC BK219.out 3).trans rfl
     have hfs58 := blk_frozen BK219.out 3
     have hns58_0 := NB218_219.out
     have hns58_2 := NB230_219.out
     have hms58_0 := NB219_218.out
     have hms58_2 := NB219_230.out
     refine skip_ (w1 := ?_) (by rfl) rfl ?_ ?_
     rotate_left
     ·go_simp
      rfl
     refine hK.out _ _ ⟨zcf4 NB230_219.out hHeld.1, zcf4 NB230_219.out hHeld.2.1, zcf4 NB230_219.out hHeld.2.2.1, zcf4 NB230_219.out hHeld.2.2.2.1, zcf4 NB218_219.out hHeld.2.2.2.2.1, zcf4 NB218_219.out hHeld.2.2.2.2.2.1, zcf4 NB218_219.out hHeld.2.2.2.2.2.2.1, zcf4 NB218_219.out hHeld.2.2.2.2.2.2.2⟩ fun hHeld => ?_; clear hK K
     refine pY 9 5 (fB 10 1023) HT_.out ?_
     refine done_ (done_of HT_.out (by kernel_rfl)) ?_
     try go_wp2
     refine bodyPost_ret (results_ct rfl _ _ gb219 25 #[.int .i64 t220, .slice Ao49 x231001_1.length co49, .slice Ao50 x231002_1.length co50, .slice Ao44 t242.length co44] (0, 0) _ rfl (by refine zB ?_; refine zp4 (cs := #[.int .i64 0, .slice none 0 0, .slice none 0 0, .slice none 0 0]) ?_; exact zB BK219.out) Try.underlying25 rfl (by kernel_rfl)) rfl ?_
     exact ⟨.slice Ao49 x231001_1.length co49, .slice Ao50 x231002_1.length co50, .slice Ao44 t242.length co44, (by first | rfl | (simp; done) | (go_simp; done)), by (with_reducible repeat (first | apply Kd.N_alloc | apply Kd.N_drewN | apply Kd.N_drew)); exact Kd.N_mono (zNF4 (Kd.N_mono HO_231001.out (fun k_ hk => (⟨hk, hk.1.1.2.2.2.2.2.1⟩ : _ ∧ k_ ≠ gb219))) gb219 (fun _ hk => hk.2) (.int .i64 t220) (.slice Ao49 x231001_1.length co49) (.slice Ao50 x231002_1.length co50) (.slice Ao44 t242.length co44)) (fun _ hk => ⟨hk.1.1.1.1, ⟨hk.1.1.1.2.1, hk.1.1.1.2.2.2.1⟩⟩), by (with_reducible repeat (first | apply Kd.N_alloc | apply Kd.N_drewN | apply Kd.N_drew)); exact Kd.N_mono (zNF4 (Kd.N_mono HO_231002.out (fun k_ hk => (⟨hk, hk.1.1.2.2.2.2.2.1⟩ : _ ∧ k_ ≠ gb219))) gb219 (fun _ hk => hk.2) (.int .i64 t220) (.slice Ao49 x231001_1.length co49) (.slice Ao50 x231002_1.length co50) (.slice Ao44 t242.length co44)) (fun _ hk => ⟨hk.1.1.1.1, ⟨hk.1.1.1.2.1, hk.1.1.1.2.2.2.1⟩⟩), by (with_reducible repeat (first | apply Kd.R_alloc | apply Kd.R_drewN | apply Kd.R_drew)); exact Kd.R_mono (zRF4 (Kd.R_types HO244.out BK219.out (by decide)) gb219 (fun _ hk => hk.2) (.int .i64 t220) (.slice Ao49 x231001_1.length co49) (.slice Ao50 x231002_1.length co50) (.slice Ao44 t242.length co44)) (fun _ hk => hk.1.1.1.1), zL3 HB.out GE218.out GE219.out GE230.out⟩
 ·obtain rfl := Bool.eq_false_iff.mpr c5
  rw [if_neg zn] at H
  simp only [Option.some.injEq, Prod.mk.injEq] at H
  obtain ⟨rfl, rfl, rfl, rfl, rfl⟩ := H
  go_enter Try.func34, Try.ntmps34
  go_wp2_with (first | ((with_reducible refine gD 2 rfl ?_); refine bE 2 #[.int .i64 a0_0, .slice A0_1 l0_1.length c0_1, .slice A0_2 l0_2.length c0_2, .slice A0_3 l0_3.length c0_3] 25 ?_; intro gb218 hg w59 hbox hb; have BK218 := Aside0.mk hbox; have GW218 := Aside0.mk (zg (zL HB.out) hg : w.heap.size ≤ gb218); have GE218 := GW218; replace HB := zLB (zL HB.out) hb; clear hb hbox hg) | ((with_reducible refine gD 4 rfl ?_); refine bE 4 #[.int .i64 0, .slice none 0 0, .slice none 0 0, .slice none 0 0] 25 ?_; intro gb219 hg w60 hbox hb; have BK219 := Aside0.mk hbox; have GW219 := Aside0.mk (zg (zL1 HB.out GE218.out) hg : w.heap.size ≤ gb219); have GE219 := GW219; replace HB := zLB (zL1 HB.out GE218.out) hb; have NB218_219 := Aside0.mk (zN BK218.out hg : gb218 ≠ gb219); have NB219_218 := Aside0.mk (zM BK218.out hg : gb219 ≠ gb218); replace BK218 := zBB BK218 hb; clear hb hbox hg; have hnb61 := NB218_219.out; have hnc61 := NB219_218.out; have hcz62 := zc4 BK218.out; have hfz62 := zf4 BK218.out) | ((with_reducible refine gC 72 rfl ?_); refine gL 9 Try.func72 #[.agg #[.int .i64 a0_0, .slice A0_1 l0_1.length c0_1, .slice A0_2 l0_2.length c0_2, .slice A0_3 l0_3.length c0_3]] ?_; (with_reducible refine (spec_l8Copy.calls k a0_0 _ _ l0_1 _ _ l0_2 _ _ l0_3 t220 t221 t224 t227 _ ?side1 ?side2 ?side3 ?side4 ?side5 ?side6 A3.out).mono ?_); (case side1 => exact zC (Kd.C_below HR0_1.out HB.out)); (case side2 => exact HC0_1.out); (case side3 => exact zC (Kd.C_below HR0_2.out HB.out)); (case side4 => exact HC0_2.out); (case side5 => exact zC (Kd.C_below HR0_3.out HB.out)); (case side6 => exact HC0_3.out); rintro e w63 ⟨v222, v225, v228, rfl, ho0, ho1, ho2, hb⟩; refine ⟨_, rfl, ?_⟩; have HO223 := Aside0.mk (Kd.N_lower (Kd.N_mono (ok' := fun k_ => (w.heap.size ≤ k_) ∧ some k_ ≠ (v225 : Value).ownBlock ∧ some k_ ≠ (v228 : Value).ownBlock ∧ k_ ≠ gb218 ∧ k_ ≠ gb219) (Kd.S_N (Kd.S_bound ho0)) (fun k_ hk_ => ⟨(Nat.le_trans (below_size (zL2 HB.out GE218.out GE219.out)) hk_.2.1), hk_.1.1, hk_.1.2, (Kd.freshB (g := gb218) (o := .cells #[.int .i64 a0_0, .slice A0_1 l0_1.length c0_1, .slice A0_2 l0_2.length c0_2, .slice A0_3 l0_3.length c0_3] 25 (0, 0)) (zB BK218.out) k_ hk_.2.1), (Kd.freshB (g := gb219) (o := .cells #[.int .i64 0, .slice none 0 0, .slice none 0 0, .slice none 0 0] 25 (0, 0)) (zB BK219.out) k_ hk_.2.1)⟩)) (below_size (zL2 HB.out GE218.out GE219.out))); have HO226 := Aside0.mk (Kd.N_lower (Kd.N_mono (ok' := fun k_ => (w.heap.size ≤ k_) ∧ some k_ ≠ (v222 : Value).ownBlock ∧ some k_ ≠ (v228 : Value).ownBlock ∧ k_ ≠ gb218 ∧ k_ ≠ gb219) (Kd.S_N (Kd.S_bound ho1)) (fun k_ hk_ => ⟨(Nat.le_trans (below_size (zL2 HB.out GE218.out GE219.out)) hk_.2.1), hk_.1.1, hk_.1.2, (Kd.freshB (g := gb218) (o := .cells #[.int .i64 a0_0, .slice A0_1 l0_1.length c0_1, .slice A0_2 l0_2.length c0_2, .slice A0_3 l0_3.length c0_3] 25 (0, 0)) (zB BK218.out) k_ hk_.2.1), (Kd.freshB (g := gb219) (o := .cells #[.int .i64 0, .slice none 0 0, .slice none 0 0, .slice none 0 0] 25 (0, 0)) (zB BK219.out) k_ hk_.2.1)⟩)) (below_size (zL2 HB.out GE218.out GE219.out))); have HO229 := Aside0.mk (Kd.R_lower (Kd.R_newM (M := fun k_ => (w.heap.size ≤ k_)) ho2 (below_size (zL2 HB.out GE218.out GE219.out)) (fun k_ h_ => h_)) (below_size (zL2 HB.out GE218.out GE219.out))); replace BK218 := zBB BK218 hb; replace BK219 := zBB BK219 hb; replace HB := zLB (zL2 HB.out GE218.out GE219.out) hb; clear ho0 hb; (try clear ho1); (try clear ho2)) | ((with_reducible refine gD 6 rfl ?_); refine bE 6 #[.int .i64 0, .slice none 0 0, .slice none 0 0, .slice none 0 0] 25 ?_; intro gb230 hg w64 hbox hb; replace HO223 := Aside0.mk (Kd.N_below (Kd.N_elderB (zX HO223.out) gb230 (Nat.le_of_eq hg.symm)) hb); replace HO226 := Aside0.mk (Kd.N_below (Kd.N_elderB (zX HO226.out) gb230 (Nat.le_of_eq hg.symm)) hb); replace HO229 := zRB HO229 hb; have BK230 := Aside0.mk hbox; have GW230 := Aside0.mk (zg (zL2 HB.out GE218.out GE219.out) hg : w.heap.size ≤ gb230); have GE230 := GW230; replace HB := zLB (zL2 HB.out GE218.out GE219.out) hb; have NB218_230 := Aside0.mk (zN BK218.out hg : gb218 ≠ gb230); have NB230_218 := Aside0.mk (zM BK218.out hg : gb230 ≠ gb218); replace BK218 := zBB BK218 hb; have NB219_230 := Aside0.mk (zN BK219.out hg : gb219 ≠ gb230); have NB230_219 := Aside0.mk (zM BK219.out hg : gb230 ≠ gb219); replace BK219 := zBB BK219 hb; clear hb hbox hg; have hnb65 := NB230_218.out; have hnc65 := NB218_230.out; have hnb66 := NB230_219.out; have hnc66 := NB219_230.out; have hcz67 := zc4 BK230.out; have hfz67 := zf4 BK230.out; obtain ⟨Ao68, co68, eo68⟩ := Kd.N_slice HO223.out; subst eo68; obtain ⟨Ao69, co69, eo69⟩ := Kd.N_slice HO226.out; subst eo69; obtain ⟨Ao70, co70, eo70⟩ := Kd.R_slice HO229.out; subst eo70; have hcz71 := zc4 BK218.out; have hfz71 := zf4 BK218.out) | ((with_reducible refine gC 29 rfl ?_); refine gL 11 Try.func29 #[.agg #[.int .i64 a0_0, .slice A0_1 l0_1.length c0_1, .slice A0_2 l0_2.length c0_2, .slice A0_3 l0_3.length c0_3]] ?_; (with_reducible refine (spec_WheelOk.calls k a0_0 _ _ l0_1 _ _ l0_2 _ _ l0_3 false _ ?side1 ?side2 ?side3 ?side4 ?side5 ?side6 A4.out).mono ?_); (case side1 => exact Kd.C_below HR0_1.out (zL3 HB.out GE218.out GE219.out GE230.out)); (case side2 => exact HC0_1.out); (case side3 => exact Kd.C_below HR0_2.out (zL3 HB.out GE218.out GE219.out GE230.out)); (case side4 => exact HC0_2.out); (case side5 => exact Kd.C_below HR0_3.out (zL3 HB.out GE218.out GE219.out GE230.out)); (case side6 => exact HC0_3.out); rintro e w72 ⟨rfl, hb⟩; refine ⟨_, rfl, ?_⟩; replace HO223 := Aside0.mk (Kd.N_below (by (with_reducible repeat (first | apply Kd.N_alloc | apply Kd.N_drewN | apply Kd.N_drew)); exact (Kd.N_mono (zNF4 (Kd.N_mono HO223.out (fun k_ hk => (⟨hk, hk.2⟩ : _ ∧ k_ ≠ gb230))) gb230 (fun _ hk => hk.2) (.int .i64 t220) (.slice Ao68 t221.length co68) (.slice Ao69 t224.length co69) (.slice Ao70 t227.length co70)) (fun _ h_ => h_.1))) hb); replace HO226 := Aside0.mk (Kd.N_below (by (with_reducible repeat (first | apply Kd.N_alloc | apply Kd.N_drewN | apply Kd.N_drew)); exact (Kd.N_mono (zNF4 (Kd.N_mono HO226.out (fun k_ hk => (⟨hk, hk.2⟩ : _ ∧ k_ ≠ gb230))) gb230 (fun _ hk => hk.2) (.int .i64 t220) (.slice Ao68 t221.length co68) (.slice Ao69 t224.length co69) (.slice Ao70 t227.length co70)) (fun _ h_ => h_.1))) hb); replace HO229 := Aside0.mk (Kd.R_below (by (with_reducible repeat (first | apply Kd.R_alloc | apply Kd.R_drewN | apply Kd.R_drew)); exact (Kd.R_mono (zRF4 (Kd.R_types HO229.out BK230.out (by decide)) gb230 (fun _ hk => hk.2) (.int .i64 t220) (.slice Ao68 t221.length co68) (.slice Ao69 t224.length co69) (.slice Ao70 t227.length co70)) (fun _ h_ => h_.1))) hb); replace BK218 := Aside0.mk (bB (g := gb218) (o := .cells #[.int .i64 a0_0, .slice A0_1 l0_1.length c0_1, .slice A0_2 l0_2.length c0_2, .slice A0_3 l0_3.length c0_3] 25 (0, 0)) (by refine zB ?_; refine zr4 ?_ NB218_230.out; exact zB BK218.out) hb); replace BK219 := Aside0.mk (bB (g := gb219) (o := .cells #[.int .i64 0, .slice none 0 0, .slice none 0 0, .slice none 0 0] 25 (0, 0)) (by refine zB ?_; refine zr4 ?_ NB219_230.out; exact zB BK219.out) hb); replace BK230 := Aside0.mk (bB (g := gb230) (o := .cells #[.int .i64 t220, .slice Ao68 t221.length co68, .slice Ao69 t224.length co69, .slice Ao70 t227.length co70] 25 (0, 0)) (by refine zB ?_; refine zp4 (cs := #[.int .i64 0, .slice none 0 0, .slice none 0 0, .slice none 0 0]) ?_; exact zB BK230.out) hb); replace HB := zLB (zL3 HB.out GE218.out GE219.out GE230.out) hb; clear hb; have hcz73 := zc4 BK230.out; have hfz73 := zf4 BK230.out; have hcz74 := zc4 BK219.out; have hfz74 := zf4 BK219.out))
  refine bodyPost_ret (results_ct rfl _ _ gb219 25 #[.int .i64 t220, .slice Ao68 t221.length co68, .slice Ao69 t224.length co69, .slice Ao70 t227.length co70] (0, 0) _ rfl (by refine zB ?_; refine zp4 (cs := #[.int .i64 0, .slice none 0 0, .slice none 0 0, .slice none 0 0]) ?_; exact zB BK219.out) Try.underlying25 rfl (by kernel_rfl)) rfl ?_
  exact ⟨.slice Ao68 t221.length co68, .slice Ao69 t224.length co69, .slice Ao70 t227.length co70, (by first | rfl | (simp; done) | (go_simp; done)), by (with_reducible repeat (first | apply Kd.N_alloc | apply Kd.N_drewN | apply Kd.N_drew)); exact Kd.N_mono (zNF4 (Kd.N_mono HO223.out (fun k_ hk => (⟨hk, hk.1.2.2.2.2⟩ : _ ∧ k_ ≠ gb219))) gb219 (fun _ hk => hk.2) (.int .i64 t220) (.slice Ao68 t221.length co68) (.slice Ao69 t224.length co69) (.slice Ao70 t227.length co70)) (fun _ hk => ⟨hk.1.1.1, ⟨hk.1.1.2.1, hk.1.1.2.2.1⟩⟩), by (with_reducible repeat (first | apply Kd.N_alloc | apply Kd.N_drewN | apply Kd.N_drew)); exact Kd.N_mono (zNF4 (Kd.N_mono HO226.out (fun k_ hk => (⟨hk, hk.1.2.2.2.2⟩ : _ ∧ k_ ≠ gb219))) gb219 (fun _ hk => hk.2) (.int .i64 t220) (.slice Ao68 t221.length co68) (.slice Ao69 t224.length co69) (.slice Ao70 t227.length co70)) (fun _ hk => ⟨hk.1.1.1, ⟨hk.1.1.2.1, hk.1.1.2.2.1⟩⟩), by (with_reducible repeat (first | apply Kd.R_alloc | apply Kd.R_drewN | apply Kd.R_drew)); exact Kd.R_mono (zRF4 (Kd.R_types HO229.out BK219.out (by decide)) gb219 (fun _ hk => hk.2) (.int .i64 t220) (.slice Ao68 t221.length co68) (.slice Ao69 t224.length co69) (.slice Ao70 t227.length co70)) (fun _ hk => hk.1.1), zL3 HB.out GE218.out GE219.out GE230.out⟩

open Go.Proofs.YtggenhomnbnodaaW.PrintWords renaming blk_drewN → bN, blk_drew → bD, blk_alloc → bA, blk_cell → bC, blk_below → bB, below_set → bS
/-! ### impl_Timers: function 25 -/
mutual
def impl_Timers.l0 : Nat → List (S46) → List (List (S46)) → Int → Int → Int → List (List (S46)) → List (List (S46)) → List (S46) → Option ((List (S46)))
 | 0, _, _, _, _, _, _, _, _ => none
 | k + 1, x3, x9, x10, x11, x252000, x252001, x252002, x252003 => if x11 < x10 then (if 0 ≤ x11 then (if x11 < (x9.length : Int) then (if x3.length + (rd_L2 x9 x11).length < 5864062014805 then (impl_Timers.l0 k (x3 ++ (rd_L2 x9 x11)) x9 x10 (wrap64 (x11 + 1)) x252000 x252001 x252002 x252003) else (none)) else (none)) else (none)) else (impl_Timers.l1 k x3 x252002 (x252002.length : Int) 0 x252000 x252001 x252002 x252003)
def impl_Timers.l1 : Nat → List (S46) → List (List (S46)) → Int → Int → Int → List (List (S46)) → List (List (S46)) → List (S46) → Option ((List (S46)))
 | 0, _, _, _, _, _, _, _, _ => none
 | k + 1, x3, x20, x21, x22, x252000, x252001, x252002, x252003 => if x22 < x21 then (if 0 ≤ x22 then (if x22 < (x20.length : Int) then (if x3.length + (rd_L2 x20 x22).length < 5864062014805 then (impl_Timers.l1 k (x3 ++ (rd_L2 x20 x22)) x20 x21 (wrap64 (x22 + 1)) x252000 x252001 x252002 x252003) else (none)) else (none)) else (none)) else (if x3.length + x252003.length < 5864062014805 then (some (x3 ++ x252003)) else (none))
end
def impl_Timers.f (k : Nat) (a0_0 : Int) (l0_1 : List (List (S46))) (l0_2 : List (List (S46))) (l0_3 : List (S46)) : Option ((List (S46))) := impl_Timers.l0 k ([] : List (S46)) l0_1 (l0_1.length : Int) 0 a0_0 l0_1 l0_2 l0_3
theorem impl_Timers.mono_l : ∀ k, (∀ y0 y1 y2 y3 y4 y5 y6 y7, LeO (impl_Timers.l0 k y0 y1 y2 y3 y4 y5 y6 y7) (impl_Timers.l0 (k + 1) y0 y1 y2 y3 y4 y5 y6 y7)) ∧ (∀ y0 y1 y2 y3 y4 y5 y6 y7, LeO (impl_Timers.l1 k y0 y1 y2 y3 y4 y5 y6 y7) (impl_Timers.l1 (k + 1) y0 y1 y2 y3 y4 y5 y6 y7))
 | 0 => ⟨fun _ _ _ _ _ _ _ _ r h => by simp [impl_Timers.l0] at h, fun _ _ _ _ _ _ _ _ r h => by simp [impl_Timers.l1] at h⟩
 | k + 1 => by
  obtain ⟨ih0, ih1⟩ := impl_Timers.mono_l k
  refine ⟨?_, ?_⟩
  ·intro y0 y1 y2 y3 y4 y5 y6 y7
   unfold impl_Timers.l0
   repeat' first
   | (with_reducible exact ih0 _ _ _ _ _ _ _ _)
   | (with_reducible exact ih1 _ _ _ _ _ _ _ _)
   | (with_reducible exact LeO.refl _)
   | (with_reducible exact LeO.none _)
   | (with_reducible refine LeO.ite ?_ ?_)
   | (with_reducible refine LeO.bind ?_ (fun _ => ?_))
   | exact ih0 _ _ _ _ _ _ _ _
   | exact ih1 _ _ _ _ _ _ _ _
   | exact LeO.none _
   | refine LeO.ite ?_ ?_
   | refine LeO.bind ?_ (fun _ => ?_)
  ·intro y0 y1 y2 y3 y4 y5 y6 y7
   unfold impl_Timers.l1
   repeat' first
   | (with_reducible exact ih0 _ _ _ _ _ _ _ _)
   | (with_reducible exact ih1 _ _ _ _ _ _ _ _)
   | (with_reducible exact LeO.refl _)
   | (with_reducible exact LeO.none _)
   | (with_reducible refine LeO.ite ?_ ?_)
   | (with_reducible refine LeO.bind ?_ (fun _ => ?_))
   | exact ih0 _ _ _ _ _ _ _ _
   | exact ih1 _ _ _ _ _ _ _ _
   | exact LeO.none _
   | refine LeO.ite ?_ ?_
   | refine LeO.bind ?_ (fun _ => ?_)
theorem impl_Timers.mono : ∀ a0 a1 a2 a3 k, LeO (impl_Timers.f k a0 a1 a2 a3) (impl_Timers.f (k + 1) a0 a1 a2 a3) := by
 intro a0 a1 a2 a3 k
 obtain ⟨ih0, ih1⟩ := impl_Timers.mono_l k
 unfold impl_Timers.f
 repeat' first
   | (with_reducible exact ih0 _ _ _ _ _ _ _ _)
   | (with_reducible exact ih1 _ _ _ _ _ _ _ _)
   | (with_reducible exact LeO.refl _)
   | (with_reducible exact LeO.none _)
   | (with_reducible refine LeO.ite ?_ ?_)
   | (with_reducible refine LeO.bind ?_ (fun _ => ?_))
   | exact ih0 _ _ _ _ _ _ _ _
   | exact ih1 _ _ _ _ _ _ _ _
   | exact LeO.none _
   | refine LeO.ite ?_ ?_
   | refine LeO.bind ?_ (fun _ => ?_)
set_option maxHeartbeats 8000000 in
set_option maxRecDepth 100000 in
theorem impl_Timers.calls (k : Nat) (a0_0 : Int) (A0_1 : Option Addr) (c0_1 : Nat) (l0_1 : List (List (S46))) (A0_2 : Option Addr) (c0_2 : Nat) (l0_2 : List (List (S46))) (A0_3 : Option Addr) (c0_3 : Nat) (l0_3 : List (S46)) (r : List (S46)) (w : World) (hr0_1 : Kd.C (Kd.slice 46 k46) w A0_1 l0_1.length l0_1) (hc0_1 : l0_1.length ≤ c0_1) (hr0_2 : Kd.C (Kd.slice 46 k46) w A0_2 l0_2.length l0_2) (hc0_2 : l0_2.length ≤ c0_2) (hr0_3 : Kd.C k46 w A0_3 l0_3.length l0_3) (hc0_3 : l0_3.length ≤ c0_3) (h : impl_Timers.f k a0_0 l0_1 l0_2 l0_3 = some r) :
  Calls Try.prog 25 #[.agg #[.int .i64 a0_0, .slice A0_1 l0_1.length c0_1, .slice A0_2 l0_2.length c0_2, .slice A0_3 l0_3.length c0_3]] w fun e w' => ∃ v0_ : Value, e = .returned (v0_) ∧ Kd.R k46 46 w' w.heap.size (fun _ => True) v0_ r ∧ Below w.heap.size w w' := by
 have hu25 := Try.underlying25
 have HR0_1 := Aside0.mk hr0_1
 have HC0_1 := Aside0.mk hc0_1
 clear hr0_1 hc0_1
 have HR0_2 := Aside0.mk hr0_2
 have HC0_2 := Aside0.mk hc0_2
 clear hr0_2 hc0_2
 have HR0_3 := Aside0.mk hr0_3
 have HC0_3 := Aside0.mk hc0_3
 clear hr0_3 hc0_3
 have HB := Aside0.mk (Below.refl w.heap.size w)
 unfold impl_Timers.f at h; have H := h
 clear h
 have H' := Aside0.mk H
 clear H
 go_enter Try.func25, Try.ntmps25
 go_wp2_with (first | ((with_reducible refine gD 1 rfl ?_); refine bE 1 #[.int .i64 a0_0, .slice A0_1 l0_1.length c0_1, .slice A0_2 l0_2.length c0_2, .slice A0_3 l0_3.length c0_3] 25 ?_; intro gb251 hg w2 hbox hb; have BK251 := Aside0.mk hbox; have GW251 := Aside0.mk (zg (zL HB.out) hg : w.heap.size ≤ gb251); have GE251 := GW251; replace HB := zLB (zL HB.out) hb; clear hb hbox hg; have hcz3 := zc4 BK251.out; have hfz3 := zf4 BK251.out))
 go_loopg [3, 11] k (fun kq v3 v11 w' => ∃ (x3_1 : List (S46)) (x11_1 : Int), v11 = .int .i64 x11_1 ∧ Aside0 (impl_Timers.l0 kq x3_1 l0_1 (l0_1.length : Int) x11_1 a0_0 l0_1 l0_2 l0_3 = some r) ∧ Aside0 (kq ≤ k) ∧ Aside0 (Kd.R k46 46 w' w.heap.size (fun _ => True) v3 x3_1) ∧ Aside0 (w'.heap[gb251]? = some (.cells #[.int .i64 a0_0, (.slice A0_1 l0_1.length c0_1), (.slice A0_2 l0_2.length c0_2), (.slice A0_3 l0_3.length c0_3)] 25 (0, 0))) ∧ Aside0 (Below w.heap.size w w'))
 case atStart => exact ⟨(([] : List (S46))), (0), zV, H', ⟨Nat.le_refl _⟩, ⟨by first | exact Kd.R_nil _ _ _ _ _ | exact Kd.N_nil _ _ _ _ _ | exact Kd.V_nil _ _ _ _ _ | exact Kd.Q_nil _ _ _ _ _ | exact Kd.S_nil _ _ _ _ _⟩, ⟨zB BK251.out⟩, ⟨zL1 HB.out GE251.out⟩⟩
 case round =>
  clear H'
  try clear c2
  try clear p2
  try clear hcz3; try clear hfz3
  try clear BK251
  obtain ⟨x3_1, x11_1, rfl, HA, HK1, HO_3, BK251, HB⟩ := hrel
  cases gk with
  | zero => exact absurd HA.out (by simp [impl_Timers.l0])
  | succ k1 =>
   have H := HA.out
   clear HA
   simp only [impl_Timers.l0] at H
   by_cases c4 : x11_1 < (l0_1.length : Int)
   ·rw [if_pos c4] at H
    have c4b0 := decide_eq_true c4
    clear c4
    by_cases c5 : 0 ≤ x11_1
    ·rw [if_pos c5] at H
     have c5b0 := decide_eq_true c5
     clear c5
     by_cases c6 : x11_1 < (l0_1.length : Int)
     ·rw [if_pos c6] at H
      have c6b0 := decide_eq_true c6
      clear c6
      by_cases c7 : x3_1.length + (rd_L2 l0_1 x11_1).length < 5864062014805
      ·rw [if_pos c7] at H
       have LMc7 := Aside0.mk c7
       clear c7
       generalize hy253 : (x3_1 ++ (rd_L2 l0_1 x11_1)) = y253 at H; (try rw [Option.bind_some] at H); have Ny253 := Aside0.mk hy253.symm; clear hy253
       have H' := Aside0.mk H
       clear H
       have p252 : 0 ≤ (x11_1 : Int) := zD
       have q252 : x11_1 < (l0_1.length : Int) := zD
       obtain ⟨ad252, A252_0, c252_0, e252, hx252_0, hl252_0, hi252_0⟩ := at_L2 HR0_1.out x11_1 p252 q252
       cases e252
       replace hx252_0 := zh HB.out hx252_0
       have HR252_0 := Aside0.mk hi252_0
       have HC252_0 := Aside0.mk hl252_0
       clear hi252_0 hl252_0
       replace p252 := eq_true p252
       replace q252 := eq_true q252
       go_wp2_with (first | ((with_reducible refine gate_builtin (b := .append) (xs := #[.tmp 15, .tmp 16]) rfl ?_); at_builtin; refine Kd.R_append_rows k46 (w0 := w) w.heap.size rfl (.tmp 15) (.tmp 16) 23 46 (.agg #[(.int .i64 0), (.int .i64 0), (.int .i64 0)]) 24 rfl Try.underlying23 info46 rfl (by decide) (by omega) u3 x3_1 (rd_L2 l0_1 x11_1) _ _ _ (fun _ => True) (fun _ => False) rfl rfl ?aO ?aR (fun _ _ h => h) (fun _ h => h.elim) ?aF ?aB ?aS ?aL ?_; (case aR => repeat (first | exact (Kd.C_below HR252_0.out HB.out) | (with_reducible refine Kd.C_alloc ?_ _) | (with_reducible refine Kd.C_drewN ?_ _) | (with_reducible refine Kd.C_drew ?_))); (case aB => exact (zL1 HB.out GE251.out)); (case aF => exact (fun _ _ => trivial)); (case aO => exact (zR HO_3.out)); (case aS => exact (below_size (zL1 HB.out GE251.out))); (case aL => have := LMc7.out; omega); intro v254 w8 ho hb hg hat; rw [← Ny253.out] at ho; replace BK251 := Aside0.mk (blk_grown (g := gb251) (o := .cells #[.int .i64 a0_0, .slice (some ad252) l0_1.length c0_1, .slice A0_2 l0_2.length c0_2, .slice A0_3 l0_3.length c0_3] 25 (0, 0)) (zB BK251.out) hg (Kd.R_ne HO_3.out BK251.out (by decide))); replace HB := Aside0.mk hb; have HO255 := Aside0.mk (ho); clear HO_3; clear ho hb hg hat))
       go_roundg k1
       case measure => have := HK1.out; omega
       case rel => exact ⟨(y253), (wrap64 (x11_1 + 1)), zV, H', ⟨by have := HK1.out; omega⟩, ⟨zR HO255.out⟩, ⟨zB BK251.out⟩, ⟨zL1 HB.out GE251.out⟩⟩
      ·rw [if_neg c7] at H
       exact absurd H (by simp)
     ·rw [if_neg c6] at H
      exact absurd H (by simp)
    ·rw [if_neg c5] at H
     exact absurd H (by simp)
   ·rw [if_neg c4] at H
    have c4b0 := decide_eq_false c4
    clear c4
    have H' := Aside0.mk H
    clear H
    have hcz9 := zc4 BK251.out
    have hfz9 := zf4 BK251.out
    go_wp2
    go_loopg [3, 22] k1 (fun kq v3 v22 w' => ∃ (x3_2 : List (S46)) (x22_2 : Int), v22 = .int .i64 x22_2 ∧ Aside0 (impl_Timers.l1 kq x3_2 l0_2 (l0_2.length : Int) x22_2 a0_0 l0_1 l0_2 l0_3 = some r) ∧ Aside0 (kq ≤ k1) ∧ Aside0 (Kd.R k46 46 w' w.heap.size (fun _ => True) v3 x3_2) ∧ Aside0 (w'.heap[gb251]? = some (.cells #[.int .i64 a0_0, (.slice A0_1 l0_1.length c0_1), (.slice A0_2 l0_2.length c0_2), (.slice A0_3 l0_3.length c0_3)] 25 (0, 0))) ∧ Aside0 (Below w.heap.size w w'))
    case atStart => exact ⟨(x3_1), (0), zV, H', ⟨Nat.le_refl _⟩, ⟨zR HO_3.out⟩, ⟨zB BK251.out⟩, ⟨zL1 HB.out GE251.out⟩⟩
    case round =>
     clear H'
     try clear c2
     try clear p2
     try clear q2
     try clear hx2
     try clear c4
     try clear c4b0
     try clear c5
     try clear c5b0
     try clear c6
     try clear c6b0
     try clear p6
     try clear c7
     try clear hcz3; try clear hcz9; try clear hfz3; try clear hfz9
     try clear hx252_0
     try clear p2
     try clear p252
     try clear q252
     try clear BK251
     obtain ⟨x3_2, x22_2, rfl, HA, HK2, HO_3, BK251, HB⟩ := hrel
     cases gk with
     | zero => exact absurd HA.out (by simp [impl_Timers.l1])
     | succ k2 =>
      have H := HA.out
      clear HA
      simp only [impl_Timers.l1] at H
      by_cases c10 : x22_2 < (l0_2.length : Int)
      ·rw [if_pos c10] at H
       have c10b0 := decide_eq_true c10
       clear c10
       by_cases c11 : 0 ≤ x22_2
       ·rw [if_pos c11] at H
        have c11b0 := decide_eq_true c11
        clear c11
        by_cases c12 : x22_2 < (l0_2.length : Int)
        ·rw [if_pos c12] at H
         have c12b0 := decide_eq_true c12
         clear c12
         by_cases c13 : x3_2.length + (rd_L2 l0_2 x22_2).length < 5864062014805
         ·rw [if_pos c13] at H
          have LMc13 := Aside0.mk c13
          clear c13
          generalize hy257 : (x3_2 ++ (rd_L2 l0_2 x22_2)) = y257 at H; (try rw [Option.bind_some] at H); have Ny257 := Aside0.mk hy257.symm; clear hy257
          have H' := Aside0.mk H
          clear H
          have p256 : 0 ≤ (x22_2 : Int) := zD
          have q256 : x22_2 < (l0_2.length : Int) := zD
          obtain ⟨ad256, A256_0, c256_0, e256, hx256_0, hl256_0, hi256_0⟩ := at_L2 HR0_2.out x22_2 p256 q256
          cases e256
          replace hx256_0 := zh HB.out hx256_0
          have HR256_0 := Aside0.mk hi256_0
          have HC256_0 := Aside0.mk hl256_0
          clear hi256_0 hl256_0
          replace p256 := eq_true p256
          replace q256 := eq_true q256
          go_wp2_with (first | ((with_reducible refine gate_builtin (b := .append) (xs := #[.tmp 26, .tmp 27]) rfl ?_); at_builtin; refine Kd.R_append_rows k46 (w0 := w) w.heap.size rfl (.tmp 26) (.tmp 27) 23 46 (.agg #[(.int .i64 0), (.int .i64 0), (.int .i64 0)]) 24 rfl Try.underlying23 info46 rfl (by decide) (by omega) u3 x3_2 (rd_L2 l0_2 x22_2) _ _ _ (fun _ => True) (fun _ => False) rfl rfl ?aO ?aR (fun _ _ h => h) (fun _ h => h.elim) ?aF ?aB ?aS ?aL ?_; (case aR => repeat (first | exact (Kd.C_below HR256_0.out HB.out) | (with_reducible refine Kd.C_alloc ?_ _) | (with_reducible refine Kd.C_drewN ?_ _) | (with_reducible refine Kd.C_drew ?_))); (case aB => exact (zL1 HB.out GE251.out)); (case aF => exact (fun _ _ => trivial)); (case aO => exact (zR HO_3.out)); (case aS => exact (below_size (zL1 HB.out GE251.out))); (case aL => have := LMc13.out; omega); intro v258 w14 ho hb hg hat; rw [← Ny257.out] at ho; replace BK251 := Aside0.mk (blk_grown (g := gb251) (o := .cells #[.int .i64 a0_0, .slice A0_1 l0_1.length c0_1, .slice (some ad256) l0_2.length c0_2, .slice A0_3 l0_3.length c0_3] 25 (0, 0)) (zB BK251.out) hg (Kd.R_ne HO_3.out BK251.out (by decide))); replace HB := Aside0.mk hb; have HO259 := Aside0.mk (ho); clear HO_3; clear ho hb hg hat))
          go_roundg k2
          case measure => have := HK1.out; have := HK2.out; omega
          case rel => exact ⟨(y257), (wrap64 (x22_2 + 1)), zV, H', ⟨by have := HK1.out; have := HK2.out; omega⟩, ⟨zR HO259.out⟩, ⟨zB BK251.out⟩, ⟨zL1 HB.out GE251.out⟩⟩
         ·rw [if_neg c13] at H
          exact absurd H (by simp)
        ·rw [if_neg c12] at H
         exact absurd H (by simp)
       ·rw [if_neg c11] at H
        exact absurd H (by simp)
      ·rw [if_neg c10] at H
       have c10b0 := decide_eq_false c10
       clear c10
       by_cases c15 : x3_2.length + l0_3.length < 5864062014805
       ·rw [if_pos c15] at H
        have LMc15 := Aside0.mk c15
        clear c15
        generalize hy260 : (x3_2 ++ l0_3) = y260 at H; (try rw [Option.bind_some] at H); have Ny260 := Aside0.mk hy260.symm; clear hy260
        obtain rfl := Option.some.inj H
        have hcz16 := zc4 BK251.out
        have hfz16 := zf4 BK251.out
        go_wp2_with (first | ((with_reducible refine gate_builtin (b := .append) (xs := #[.tmp 30, .tmp 32]) rfl ?_); at_builtin; refine Kd.R_append_rows k46 (w0 := w) w.heap.size rfl (.tmp 30) (.tmp 32) 23 46 (.agg #[(.int .i64 0), (.int .i64 0), (.int .i64 0)]) 24 rfl Try.underlying23 info46 rfl (by decide) (by omega) u3 x3_2 l0_3 _ _ _ (fun _ => True) (fun _ => False) rfl rfl ?aO ?aR (fun _ _ h => h) (fun _ h => h.elim) ?aF ?aB ?aS ?aL ?_; (case aR => repeat (first | exact (Kd.C_below HR0_3.out HB.out) | (with_reducible refine Kd.C_alloc ?_ _) | (with_reducible refine Kd.C_drewN ?_ _) | (with_reducible refine Kd.C_drew ?_))); (case aB => exact (zL1 HB.out GE251.out)); (case aF => exact (fun _ _ => trivial)); (case aO => exact (zR HO_3.out)); (case aS => exact (below_size (zL1 HB.out GE251.out))); (case aL => have := LMc15.out; omega); intro v261 w17 ho hb hg hat; rw [← Ny260.out] at ho; replace BK251 := Aside0.mk (blk_grown (g := gb251) (o := .cells #[.int .i64 a0_0, .slice A0_1 l0_1.length c0_1, .slice A0_2 l0_2.length c0_2, .slice A0_3 l0_3.length c0_3] 25 (0, 0)) (zB BK251.out) hg (Kd.R_ne HO_3.out BK251.out (by decide))); replace HB := Aside0.mk hb; have HO262 := Aside0.mk (ho); clear HO_3; clear ho hb hg hat))
        go_ret
        exact ⟨_, zW, zR HO262.out, zL1 HB.out GE251.out⟩
       ·rw [if_neg c15] at H
        exact absurd H (by simp)

open Go.Proofs.YtggenhomnbnodaaW.PrintWords renaming blk_drewN → bN, blk_drew → bD, blk_alloc → bA, blk_cell → bC, blk_below → bB, below_set → bS
/-! ### impl_within: function 69 -/
def impl_within.f (a0 : Int) (a1 : Int) (a2 : Int) : Option (Bool) := if a0 ≥ a1 then (some (decide (a0 ≤ a2))) else (some false)
set_option maxHeartbeats 8000000 in
set_option maxRecDepth 100000 in
theorem impl_within.calls (a0 : Int) (a1 : Int) (a2 : Int) (r : Bool) (w : World) (h : impl_within.f a0 a1 a2 = some r) :
  Calls Try.prog 69 #[.int .i64 a0, .int .i64 a1, .int .i64 a2] w fun e w' => e = .returned (.bool r) ∧ Drawn0 w w' := by
 unfold impl_within.f at h; have H := h
 clear h
 by_cases c4 : a0 ≥ a1
 ·rw [if_pos c4] at H
  have c4b0 := decide_eq_true c4
  clear c4
  obtain rfl := Option.some.inj H
  go_enter Try.func69, Try.ntmps69
  go_wp2
  go_ret
  exact ⟨zV, zU⟩
 ·rw [if_neg c4] at H
  have c4b0 := decide_eq_false c4
  clear c4
  obtain rfl := Option.some.inj H
  go_enter Try.func69, Try.ntmps69
  go_wp2
  go_ret
  exact ⟨zV, zU⟩

end Go.Proofs.Ytggenhomnbnodaa.QFnExactCancel
