/- What the Go functions that the law FnExactCancel reaches answer: each as a Lean function, with its walk. Written by a program of this session. Conditions: those that each theorem names. -/
import Derived.Test.YtggenhomnbnodaaQFnExactCancelx0
import Derived.Test.YtggenhomnbnodaaQFnExactCancelx2
namespace Go.Proofs.Ytggenhomnbnodaa.QFnExactCancel
open Go.RowKit Go.Proofs.YtggenhomnbnodaaW.PrintWords Go.Proofs.YtggenhomnbnodaaW.PrintLast Go.Proofs.YtggenhomnbnodaaW.PrintMore
attribute [local go_sem] max2_int min2_int max_two min_two max_three min_three max_four min_four   -- for this text's walks alone
set_option linter.unusedVariables false
set_option linter.unusedSimpArgs false

open Go.Proofs.YtggenhomnbnodaaW.PrintWords renaming blk_drewN → bN, blk_drew → bD, blk_alloc → bA, blk_cell → bC, blk_below → bB, below_set → bS
/-! ### laws_toWheel: function 22 -/
def laws_toWheel.f (k : Nat) (a0_0 : Int) (l0_1 : List (List (S43))) (l0_2 : List (List (S43))) (l0_3 : List (S43)) : Option (Int × (List (List (S46))) × (List (List (S46))) × (List (S46))) := (laws_toTimerSS.f k l0_1).bind fun t154 => ((laws_toTimerSS.f k l0_2).bind fun t157 => ((laws_toTimerS.f k l0_3).bind fun t160 => (some (a0_0, t154, t157, t160))))
theorem laws_toWheel.mono : ∀ a0 a1 a2 a3 k, LeO (laws_toWheel.f k a0 a1 a2 a3) (laws_toWheel.f (k + 1) a0 a1 a2 a3) := by
 intro a0 a1 a2 a3 k
 unfold laws_toWheel.f
 repeat' first
   | (with_reducible apply laws_toTimerS.mono)
   | (with_reducible apply laws_toTimerSS.mono)
   | (with_reducible exact LeO.refl _)
   | (with_reducible exact LeO.none _)
   | (with_reducible refine LeO.ite ?_ ?_)
   | (with_reducible refine LeO.bind ?_ (fun _ => ?_))
   | apply laws_toTimerS.mono
   | apply laws_toTimerSS.mono
   | exact LeO.none _
   | refine LeO.ite ?_ ?_
   | refine LeO.bind ?_ (fun _ => ?_)
set_option maxHeartbeats 8000000 in
set_option maxRecDepth 100000 in
theorem laws_toWheel.calls (k : Nat) (a0_0 : Int) (A0_1 : Option Addr) (c0_1 : Nat) (l0_1 : List (List (S43))) (A0_2 : Option Addr) (c0_2 : Nat) (l0_2 : List (List (S43))) (A0_3 : Option Addr) (c0_3 : Nat) (l0_3 : List (S43)) (r1 : Int) (r2 : List (List (S46))) (r3 : List (List (S46))) (r4 : List (S46)) (w : World) (hr0_1 : Kd.C (Kd.slice 43 k43) w A0_1 l0_1.length l0_1) (hc0_1 : l0_1.length ≤ c0_1) (hr0_2 : Kd.C (Kd.slice 43 k43) w A0_2 l0_2.length l0_2) (hc0_2 : l0_2.length ≤ c0_2) (hr0_3 : Kd.C k43 w A0_3 l0_3.length l0_3) (hc0_3 : l0_3.length ≤ c0_3) (h : laws_toWheel.f k a0_0 l0_1 l0_2 l0_3 = some (r1, r2, r3, r4)) :
  Calls Try.prog 22 #[.agg #[.int .i64 a0_0, .slice A0_1 l0_1.length c0_1, .slice A0_2 l0_2.length c0_2, .slice A0_3 l0_3.length c0_3]] w fun e w' => ∃ (N1_ N2_ : Nat) (v1_ v2_ v3_ : Value), e = .returned (.agg #[.int .i64 r1, v1_, v2_, v3_]) ∧ Kd.S (Kd.slice 46 k46) 23 w' w.heap.size (fun k_ => (some k_ ≠ (v2_ : Value).ownBlock ∧ some k_ ≠ (v3_ : Value).ownBlock) ∧ k_ < N1_) v1_ r2 ∧ Kd.S (Kd.slice 46 k46) 23 w' w.heap.size (fun k_ => (some k_ ≠ (v1_ : Value).ownBlock ∧ some k_ ≠ (v3_ : Value).ownBlock) ∧ (N1_ ≤ k_ ∧ k_ < N2_)) v2_ r3 ∧ Kd.R k46 46 w' w.heap.size (fun k_ => N1_ ≤ k_ ∧ N2_ ≤ k_) v3_ r4 ∧ Below w.heap.size w w' := by
 have hu33 := Try.underlying33
 have hu25 := Try.underlying25
 have HR0_1 := Aside0.mk hr0_1
 have HC0_1 := Aside0.mk hc0_1
 clear hr0_1 hc0_1
 have HR0_2 := Aside0.mk hr0_2
 have HC0_2 := Aside0.mk hc0_2
 clear hr0_2 hc0_2
 have HR0_3 := Aside0.mk hr0_3
 have HC0_3 := Aside0.mk hc0_3
 clear hr0_3 hc0_3
 have HB := Aside0.mk (Below.refl w.heap.size w)
 unfold laws_toWheel.f at h; have H := h
 clear h
 obtain ⟨t154, A2, H⟩ := zO H; try dsimp only at H
 obtain ⟨t157, A3, H⟩ := zO H; try dsimp only at H
 obtain ⟨t160, A4, H⟩ := zO H; try dsimp only at H
 simp only [Option.some.injEq, Prod.mk.injEq] at H
 obtain ⟨rfl, rfl, rfl, rfl⟩ := H
 go_enter Try.func22, Try.ntmps22
 go_wp2_with (first | ((with_reducible refine gD 1 rfl ?_); refine bE 1 #[.int .i64 a0_0, .slice A0_1 l0_1.length c0_1, .slice A0_2 l0_2.length c0_2, .slice A0_3 l0_3.length c0_3] 33 ?_; intro gb151 hg w5 hbox hb; have BK151 := Aside0.mk hbox; have GW151 := Aside0.mk (zg (zL HB.out) hg : w.heap.size ≤ gb151); have GE151 := GW151; replace HB := zLB (zL HB.out) hb; clear hb hbox hg) | ((with_reducible refine gD 2 rfl ?_); refine bE 2 #[.int .i64 0, .slice none 0 0, .slice none 0 0, .slice none 0 0] 25 ?_; intro gb152 hg w6 hbox hb; have BK152 := Aside0.mk hbox; have GW152 := Aside0.mk (zg (zL1 HB.out GE151.out) hg : w.heap.size ≤ gb152); have GE152 := GW152; replace HB := zLB (zL1 HB.out GE151.out) hb; have NB151_152 := Aside0.mk (zN BK151.out hg : gb151 ≠ gb152); have NB152_151 := Aside0.mk (zM BK151.out hg : gb152 ≠ gb151); replace BK151 := zBB BK151 hb; clear hb hbox hg) | ((with_reducible refine gD 3 rfl ?_); refine bE 3 #[.int .i64 0, .slice none 0 0, .slice none 0 0, .slice none 0 0] 25 ?_; intro gb153 hg w7 hbox hb; have BK153 := Aside0.mk hbox; have GW153 := Aside0.mk (zg (zL2 HB.out GE151.out GE152.out) hg : w.heap.size ≤ gb153); have GE153 := GW153; replace HB := zLB (zL2 HB.out GE151.out GE152.out) hb; have NB151_153 := Aside0.mk (zN BK151.out hg : gb151 ≠ gb153); have NB153_151 := Aside0.mk (zM BK151.out hg : gb153 ≠ gb151); replace BK151 := zBB BK151 hb; have NB152_153 := Aside0.mk (zN BK152.out hg : gb152 ≠ gb153); have NB153_152 := Aside0.mk (zM BK152.out hg : gb153 ≠ gb152); replace BK152 := zBB BK152 hb; clear hb hbox hg; have hnb8 := NB151_152.out; have hnc8 := NB152_151.out; have hnb9 := NB151_153.out; have hnc9 := NB153_151.out; have hcz10 := zc4 BK151.out; have hfz10 := zf4 BK151.out; have hnb11 := NB153_152.out; have hnc11 := NB152_153.out; have hcz12 := zc4 BK153.out; have hfz12 := zf4 BK153.out) | ((with_reducible refine gC 64 rfl ?_); refine gL 9 Try.func64 #[.slice A0_1 l0_1.length c0_1] ?_; (with_reducible refine (laws_toTimerSS.calls k _ _ l0_1 t154 _ ?side1 ?side2 A2.out).mono ?_); (case side1 => exact Kd.C_below HR0_1.out (zL3 HB.out GE151.out GE152.out GE153.out)); (case side2 => exact HC0_1.out); rintro e w13 ⟨v155, rfl, ho0, hb⟩; replace ho0 := Kd.S_mono (Kd.S_bound ho0) (ok' := fun k_ => k_ < w13.heap.size) (fun _ hk_ => hk_.2.2.1); refine ⟨_, rfl, ?_⟩; have HO156 := Aside0.mk (Kd.S_lower ho0 (below_size (zL3 HB.out GE151.out GE152.out GE153.out))); replace BK151 := Aside0.mk (bB (g := gb151) (o := .cells #[.int .i64 a0_0, .slice A0_1 l0_1.length c0_1, .slice A0_2 l0_2.length c0_2, .slice A0_3 l0_3.length c0_3] 33 (0, 0)) (by (with_reducible repeat (first | refine bN ?_ _ | refine bD ?_ | refine bA ?_ _)); refine blk_far ?_ NB151_153.out _; exact zB BK151.out) hb); replace BK152 := Aside0.mk (bB (g := gb152) (o := .cells #[.int .i64 0, .slice none 0 0, .slice none 0 0, .slice none 0 0] 25 (0, 0)) (by (with_reducible repeat (first | refine bN ?_ _ | refine bD ?_ | refine bA ?_ _)); refine blk_far ?_ NB152_153.out _; exact zB BK152.out) hb); replace BK153 := Aside0.mk (bB (g := gb153) (o := .cells #[.int .i64 a0_0, .slice none 0 0, .slice none 0 0, .slice none 0 0] 25 (0, 0)) (by (with_reducible repeat (first | refine bN ?_ _ | refine bD ?_ | refine bA ?_ _)); refine blk_put (cs := #[.int .i64 0, .slice none 0 0, .slice none 0 0, .slice none 0 0]) ?_ 0 _ rfl; exact zB BK153.out) hb); replace HB := zLB (zL3 HB.out GE151.out GE152.out GE153.out) hb; clear ho0 hb; obtain ⟨Ao14, co14, eo14⟩ := Kd.S_slice HO156.out; subst eo14; have hcz15 := zc4 BK153.out; have hfz15 := zf4 BK153.out; have hcz16 := zc4 BK151.out; have hfz16 := zf4 BK151.out) | ((with_reducible refine gC 64 rfl ?_); refine gL 13 Try.func64 #[.slice A0_2 l0_2.length c0_2] ?_; (with_reducible refine (laws_toTimerSS.calls k _ _ l0_2 t157 _ ?side1 ?side2 A3.out).mono ?_); (case side1 => exact Kd.C_below HR0_2.out (zL3 HB.out GE151.out GE152.out GE153.out)); (case side2 => exact HC0_2.out); rintro e w17 ⟨v158, rfl, ho0, hb⟩; have HZ_ := Aside0.mk (Nat.le_trans (by first | exact Nat.le_refl _ | simp [World.setCell, World.drewN, World.drew] : w13.heap.size ≤ _) hb.size : w13.heap.size ≤ w17.heap.size); replace ho0 := Kd.S_mono (Kd.S_bound ho0) (ok' := fun k_ => w13.heap.size ≤ k_ ∧ k_ < w17.heap.size) (fun _ hk_ => ⟨Nat.le_trans (by first | exact Nat.le_refl _ | simp [World.setCell, World.drewN, World.drew] : w13.heap.size ≤ _) hk_.2.1, hk_.2.2.1⟩); refine ⟨_, rfl, ?_⟩; have HO159 := Aside0.mk (Kd.S_lower (Kd.S_new' ho0 (Kd.S_lt (by (with_reducible repeat (first | apply Kd.S_alloc | apply Kd.S_drewN | apply Kd.S_drew)); exact (Kd.S_mono (Kd.S_far (p := ⟨gb153, 1, none⟩) (Kd.S_types HO156.out BK153.out (by decide)) (fun _ hk => hk.2) (.slice Ao14 t154.length co14)) (fun _ h_ => h_.1))))) (below_size (zL3 HB.out GE151.out GE152.out GE153.out))); replace HO156 := Aside0.mk (Kd.S_elder' (by (with_reducible repeat (first | apply Kd.S_alloc | apply Kd.S_drewN | apply Kd.S_drew)); exact (Kd.S_mono (Kd.S_far (p := ⟨gb153, 1, none⟩) (Kd.S_types HO156.out BK153.out (by decide)) (fun _ hk => hk.2) (.slice Ao14 t154.length co14)) (fun _ h_ => h_.1))) (Kd.S_base ho0) hb); replace BK151 := Aside0.mk (bB (g := gb151) (o := .cells #[.int .i64 a0_0, .slice A0_1 l0_1.length c0_1, .slice A0_2 l0_2.length c0_2, .slice A0_3 l0_3.length c0_3] 33 (0, 0)) (by (with_reducible repeat (first | refine bN ?_ _ | refine bD ?_ | refine bA ?_ _)); refine blk_far ?_ NB151_153.out _; exact zB BK151.out) hb); replace BK152 := Aside0.mk (bB (g := gb152) (o := .cells #[.int .i64 0, .slice none 0 0, .slice none 0 0, .slice none 0 0] 25 (0, 0)) (by (with_reducible repeat (first | refine bN ?_ _ | refine bD ?_ | refine bA ?_ _)); refine blk_far ?_ NB152_153.out _; exact zB BK152.out) hb); replace BK153 := Aside0.mk (bB (g := gb153) (o := .cells #[.int .i64 a0_0, .slice Ao14 t154.length co14, .slice none 0 0, .slice none 0 0] 25 (0, 0)) (by (with_reducible repeat (first | refine bN ?_ _ | refine bD ?_ | refine bA ?_ _)); refine blk_put (cs := #[.int .i64 a0_0, .slice none 0 0, .slice none 0 0, .slice none 0 0]) ?_ 1 _ rfl; exact zB BK153.out) hb); replace HB := zLB (zL3 HB.out GE151.out GE152.out GE153.out) hb; clear ho0 hb; obtain ⟨Ao18, co18, eo18⟩ := Kd.S_slice HO159.out; subst eo18; have hcz19 := zc4 BK153.out; have hfz19 := zf4 BK153.out; have hcz20 := zc4 BK151.out; have hfz20 := zf4 BK151.out) | ((with_reducible refine gC 65 rfl ?_); refine gL 17 Try.func65 #[.slice A0_3 l0_3.length c0_3] ?_; (with_reducible refine (laws_toTimerS.calls k _ _ l0_3 t160 _ ?side1 ?side2 A4.out).mono ?_); (case side1 => exact Kd.C_below HR0_3.out (zL3 HB.out GE151.out GE152.out GE153.out)); (case side2 => exact HC0_3.out); rintro e w21 ⟨v161, rfl, ho0, hb⟩; replace ho0 := Kd.R_mono (Kd.R_bound ho0) (ok' := fun k_ => w13.heap.size ≤ k_ ∧ w17.heap.size ≤ k_) (fun _ hk_ => have h_ := Nat.le_trans (by first | exact Nat.le_refl _ | simp [World.setCell, World.drewN, World.drew] : w17.heap.size ≤ _) hk_.2.1; ⟨Nat.le_trans HZ_.out h_, h_⟩); refine ⟨_, rfl, ?_⟩; replace HO156 := Aside0.mk (Kd.S_elder' (by (with_reducible repeat (first | apply Kd.S_alloc | apply Kd.S_drewN | apply Kd.S_drew)); exact (Kd.S_mono (Kd.S_far (p := ⟨gb153, 2, none⟩) (Kd.S_types HO156.out BK153.out (by decide)) (fun _ hk => hk.2) (.slice Ao18 t157.length co18)) (fun _ h_ => h_.1))) (Kd.R_base ho0) hb); replace HO159 := Aside0.mk (Kd.S_elder' (by (with_reducible repeat (first | apply Kd.S_alloc | apply Kd.S_drewN | apply Kd.S_drew)); exact (Kd.S_mono (Kd.S_far (p := ⟨gb153, 2, none⟩) (Kd.S_types HO159.out BK153.out (by decide)) (fun _ hk => hk.2) (.slice Ao18 t157.length co18)) (fun _ h_ => h_.1))) (Kd.R_base ho0) hb); have HO162 := Aside0.mk (Kd.R_lower ho0 (below_size (zL3 HB.out GE151.out GE152.out GE153.out))); replace BK151 := Aside0.mk (bB (g := gb151) (o := .cells #[.int .i64 a0_0, .slice A0_1 l0_1.length c0_1, .slice A0_2 l0_2.length c0_2, .slice A0_3 l0_3.length c0_3] 33 (0, 0)) (by (with_reducible repeat (first | refine bN ?_ _ | refine bD ?_ | refine bA ?_ _)); refine blk_far ?_ NB151_153.out _; exact zB BK151.out) hb); replace BK152 := Aside0.mk (bB (g := gb152) (o := .cells #[.int .i64 0, .slice none 0 0, .slice none 0 0, .slice none 0 0] 25 (0, 0)) (by (with_reducible repeat (first | refine bN ?_ _ | refine bD ?_ | refine bA ?_ _)); refine blk_far ?_ NB152_153.out _; exact zB BK152.out) hb); replace BK153 := Aside0.mk (bB (g := gb153) (o := .cells #[.int .i64 a0_0, .slice Ao14 t154.length co14, .slice Ao18 t157.length co18, .slice none 0 0] 25 (0, 0)) (by (with_reducible repeat (first | refine bN ?_ _ | refine bD ?_ | refine bA ?_ _)); refine blk_put (cs := #[.int .i64 a0_0, .slice Ao14 t154.length co14, .slice none 0 0, .slice none 0 0]) ?_ 2 _ rfl; exact zB BK153.out) hb); replace HB := zLB (zL3 HB.out GE151.out GE152.out GE153.out) hb; clear ho0 hb; obtain ⟨Ao22, co22, eo22⟩ := Kd.R_slice HO162.out; subst eo22; have hcz23 := zc4 BK153.out; have hfz23 := zf4 BK153.out; have hcz24 := zc4 BK152.out; have hfz24 := zf4 BK152.out))
 refine bodyPost_ret (results_cell_row rfl _ _ gb152 25 #[.int .i64 a0_0, .slice Ao14 t154.length co14, .slice Ao18 t157.length co18, .slice Ao22 t160.length co22] (0, 0) _ rfl (by refine zB ?_; refine zp4 (cs := #[.int .i64 0, .slice none 0 0, .slice none 0 0, .slice none 0 0]) ?_; (with_reducible repeat (first | refine bN ?_ _ | refine bD ?_ | refine bA ?_ _)); refine blk_far ?_ NB152_153.out _; exact zB BK152.out) Try.underlying25 rfl (by kernel_rfl)) rfl ?_
 exact ⟨w13.heap.size, w17.heap.size, _, _, _, zW, by (with_reducible repeat (first | apply Kd.S_alloc | apply Kd.S_drewN | apply Kd.S_drew)); exact Kd.S_mono (zSF4 (Kd.S_far (p := ⟨gb153, 3, none⟩) (Kd.S_types (Kd.S_types HO156.out BK153.out (by decide)) BK152.out (by decide)) (fun _ hk => hk.1.2) (.slice Ao22 t160.length co22)) gb152 (fun _ hk => hk.2) (.int .i64 a0_0) (.slice Ao14 t154.length co14) (.slice Ao18 t157.length co18) (.slice Ao22 t160.length co22)) (fun _ hk => ⟨⟨hk.1.1.1.2, hk.1.1.2⟩, hk.1.1.1.1⟩), by (with_reducible repeat (first | apply Kd.S_alloc | apply Kd.S_drewN | apply Kd.S_drew)); exact Kd.S_mono (zSF4 (Kd.S_far (p := ⟨gb153, 3, none⟩) (Kd.S_types (Kd.S_types HO159.out BK153.out (by decide)) BK152.out (by decide)) (fun _ hk => hk.1.2) (.slice Ao22 t160.length co22)) gb152 (fun _ hk => hk.2) (.int .i64 a0_0) (.slice Ao14 t154.length co14) (.slice Ao18 t157.length co18) (.slice Ao22 t160.length co22)) (fun _ hk => ⟨⟨hk.1.1.1.2, hk.1.1.2⟩, hk.1.1.1.1⟩), by (with_reducible repeat (first | apply Kd.R_alloc | apply Kd.R_drewN | apply Kd.R_drew)); exact Kd.R_mono (zRF4 (Kd.R_far (p := ⟨gb153, 3, none⟩) (Kd.R_types (Kd.R_types HO162.out BK153.out (by decide)) BK152.out (by decide)) (fun _ hk => hk.1.2) (.slice Ao22 t160.length co22)) gb152 (fun _ hk => hk.2) (.int .i64 a0_0) (.slice Ao14 t154.length co14) (.slice Ao18 t157.length co18) (.slice Ao22 t160.length co22)) (fun _ hk => hk.1.1), zL3 HB.out GE151.out GE152.out GE153.out⟩

open Go.Proofs.YtggenhomnbnodaaW.PrintWords renaming blk_drewN → bN, blk_drew → bD, blk_alloc → bA, blk_cell → bC, blk_below → bB, below_set → bS
/-! ### spec_Timers: function 24 -/
mutual
def spec_Timers.l0 : Nat → List (S46) → Int → Int → List (List (S46)) → List (List (S46)) → List (S46) → Option ((List (S46)))
 | 0, _, _, _, _, _, _ => none
 | k + 1, x3, x4, x164000, x164001, x164002, x164003 => if x4 < (x164001.length : Int) then (if 0 ≤ x4 then (if x3.length + (rd_L2 x164001 x4).length < 5864062014805 then (spec_Timers.l0 k (x3 ++ (rd_L2 x164001 x4)) (wrap64 (x4 + 1)) x164000 x164001 x164002 x164003) else (none)) else (none)) else (spec_Timers.l1 k x3 0 x164000 x164001 x164002 x164003)
def spec_Timers.l1 : Nat → List (S46) → Int → Int → List (List (S46)) → List (List (S46)) → List (S46) → Option ((List (S46)))
 | 0, _, _, _, _, _, _ => none
 | k + 1, x3, x5, x164000, x164001, x164002, x164003 => if x5 < (x164002.length : Int) then (if 0 ≤ x5 then (if x3.length + (rd_L2 x164002 x5).length < 5864062014805 then (spec_Timers.l1 k (x3 ++ (rd_L2 x164002 x5)) (wrap64 (x5 + 1)) x164000 x164001 x164002 x164003) else (none)) else (none)) else (if x3.length + x164003.length < 5864062014805 then (some (x3 ++ x164003)) else (none))
end
def spec_Timers.f (k : Nat) (a0_0 : Int) (l0_1 : List (List (S46))) (l0_2 : List (List (S46))) (l0_3 : List (S46)) : Option ((List (S46))) := spec_Timers.l0 k (([] : List (S46))) 0 a0_0 l0_1 l0_2 l0_3
theorem spec_Timers.mono_l : ∀ k, (∀ y0 y1 y2 y3 y4 y5, LeO (spec_Timers.l0 k y0 y1 y2 y3 y4 y5) (spec_Timers.l0 (k + 1) y0 y1 y2 y3 y4 y5)) ∧ (∀ y0 y1 y2 y3 y4 y5, LeO (spec_Timers.l1 k y0 y1 y2 y3 y4 y5) (spec_Timers.l1 (k + 1) y0 y1 y2 y3 y4 y5))
 | 0 => ⟨fun _ _ _ _ _ _ r h => by simp [spec_Timers.l0] at h, fun _ _ _ _ _ _ r h => by simp [spec_Timers.l1] at h⟩
 | k + 1 => by
  obtain ⟨ih0, ih1⟩ := spec_Timers.mono_l k
  refine ⟨?_, ?_⟩
  ·intro y0 y1 y2 y3 y4 y5
   unfold spec_Timers.l0
   repeat' first
   | (with_reducible exact ih0 _ _ _ _ _ _)
   | (with_reducible exact ih1 _ _ _ _ _ _)
   | (with_reducible exact LeO.refl _)
   | (with_reducible exact LeO.none _)
   | (with_reducible refine LeO.ite ?_ ?_)
   | (with_reducible refine LeO.bind ?_ (fun _ => ?_))
   | exact ih0 _ _ _ _ _ _
   | exact ih1 _ _ _ _ _ _
   | exact LeO.none _
   | refine LeO.ite ?_ ?_
   | refine LeO.bind ?_ (fun _ => ?_)
  ·intro y0 y1 y2 y3 y4 y5
   unfold spec_Timers.l1
   repeat' first
   | (with_reducible exact ih0 _ _ _ _ _ _)
   | (with_reducible exact ih1 _ _ _ _ _ _)
   | (with_reducible exact LeO.refl _)
   | (with_reducible exact LeO.none _)
   | (with_reducible refine LeO.ite ?_ ?_)
   | (with_reducible refine LeO.bind ?_ (fun _ => ?_))
   | exact ih0 _ _ _ _ _ _
   | exact ih1 _ _ _ _ _ _
   | exact LeO.none _
   | refine LeO.ite ?_ ?_
   | refine LeO.bind ?_ (fun _ => ?_)
theorem spec_Timers.mono : ∀ a0 a1 a2 a3 k, LeO (spec_Timers.f k a0 a1 a2 a3) (spec_Timers.f (k + 1) a0 a1 a2 a3) := by
 intro a0 a1 a2 a3 k
 obtain ⟨ih0, ih1⟩ := spec_Timers.mono_l k
 unfold spec_Timers.f
 repeat' first
   | (with_reducible exact ih0 _ _ _ _ _ _)
   | (with_reducible exact ih1 _ _ _ _ _ _)
   | (with_reducible exact LeO.refl _)
   | (with_reducible exact LeO.none _)
   | (with_reducible refine LeO.ite ?_ ?_)
   | (with_reducible refine LeO.bind ?_ (fun _ => ?_))
   | exact ih0 _ _ _ _ _ _
   | exact ih1 _ _ _ _ _ _
   | exact LeO.none _
   | refine LeO.ite ?_ ?_
   | refine LeO.bind ?_ (fun _ => ?_)
set_option maxHeartbeats 8000000 in
set_option maxRecDepth 100000 in
theorem spec_Timers.calls (k : Nat) (a0_0 : Int) (A0_1 : Option Addr) (c0_1 : Nat) (l0_1 : List (List (S46))) (A0_2 : Option Addr) (c0_2 : Nat) (l0_2 : List (List (S46))) (A0_3 : Option Addr) (c0_3 : Nat) (l0_3 : List (S46)) (r : List (S46)) (w : World) (hr0_1 : Kd.C (Kd.slice 46 k46) w A0_1 l0_1.length l0_1) (hc0_1 : l0_1.length ≤ c0_1) (hr0_2 : Kd.C (Kd.slice 46 k46) w A0_2 l0_2.length l0_2) (hc0_2 : l0_2.length ≤ c0_2) (hr0_3 : Kd.C k46 w A0_3 l0_3.length l0_3) (hc0_3 : l0_3.length ≤ c0_3) (h : spec_Timers.f k a0_0 l0_1 l0_2 l0_3 = some r) :
  Calls Try.prog 24 #[.agg #[.int .i64 a0_0, .slice A0_1 l0_1.length c0_1, .slice A0_2 l0_2.length c0_2, .slice A0_3 l0_3.length c0_3]] w fun e w' => ∃ v0_ : Value, e = .returned (v0_) ∧ Kd.R k46 46 w' w.heap.size (fun _ => True) v0_ r ∧ Below w.heap.size w w' := by
 have hu25 := Try.underlying25
 have HR0_1 := Aside0.mk hr0_1
 have HC0_1 := Aside0.mk hc0_1
 clear hr0_1 hc0_1
 have HR0_2 := Aside0.mk hr0_2
 have HC0_2 := Aside0.mk hc0_2
 clear hr0_2 hc0_2
 have HR0_3 := Aside0.mk hr0_3
 have HC0_3 := Aside0.mk hc0_3
 clear hr0_3 hc0_3
 have HB := Aside0.mk (Below.refl w.heap.size w)
 unfold spec_Timers.f at h; have H := h
 clear h
 generalize hy164 : (([] : List (S46))) = y164 at H; (try rw [Option.bind_some] at H); have Ny164 := Aside0.mk hy164.symm; clear hy164
 have H' := Aside0.mk H
 clear H
 go_enter Try.func24, Try.ntmps24
 go_wp2_with (first | ((with_reducible refine gD 1 rfl ?_); refine bE 1 #[.int .i64 a0_0, .slice A0_1 l0_1.length c0_1, .slice A0_2 l0_2.length c0_2, .slice A0_3 l0_3.length c0_3] 25 ?_; intro gb163 hg w2 hbox hb; have BK163 := Aside0.mk hbox; have GW163 := Aside0.mk (zg (zL HB.out) hg : w.heap.size ≤ gb163); have GE163 := GW163; replace HB := zLB (zL HB.out) hb; clear hb hbox hg) | ((with_reducible refine gD 6 rfl ?_); refine Kd.R_lit k46 _ 46 ?hg (N := 6) ?hd (xs := ([] : List (S46))) (inner := []) (ok := fun _ => True) (okp := fun _ => True) ?hr ?hp (fun _ hk => hk) trivial (Below.refl _ _) (Nat.le_refl _) (by simp) ?_; (case hd => rfl); (case hg => rfl); (case hr => first | (go_simp; done) | (go_simp; rfl)); (case hp => exact (Reps.none _ _)); intro v165 w3 ho4 hb hg_ hnew_; clear hg_ hnew_; (first | rw [← Ny164.out] at ho4 | (simp only [Int.reduceToNat] at ho4; rw [← Ny164.out] at ho4)); have HO166 := Aside0.mk (Kd.R_lower ho4 (below_size (zL1 HB.out GE163.out))); replace BK163 := zBB BK163 hb; replace HB := zLB (zL1 HB.out GE163.out) hb; clear hb ho4))
 go_loopg [3, 4] k (fun kq v3 v4 w' => ∃ (x3_1 : List (S46)) (x4_1 : Int), v4 = .int .i64 x4_1 ∧ Aside0 (spec_Timers.l0 kq x3_1 x4_1 a0_0 l0_1 l0_2 l0_3 = some r) ∧ Aside0 (kq ≤ k) ∧ Aside0 (Kd.R k46 46 w' w.heap.size (fun _ => True) v3 x3_1) ∧ Aside0 (w'.heap[gb163]? = some (.cells #[.int .i64 a0_0, (.slice A0_1 l0_1.length c0_1), (.slice A0_2 l0_2.length c0_2), (.slice A0_3 l0_3.length c0_3)] 25 (0, 0))) ∧ Aside0 (Below w.heap.size w w'))
 case atStart => exact ⟨(y164), (0), zV, H', ⟨Nat.le_refl _⟩, ⟨zR HO166.out⟩, ⟨zB BK163.out⟩, ⟨zL1 HB.out GE163.out⟩⟩
 case round =>
  clear H'
  try clear c2
  try clear p2
  try clear BK163
  obtain ⟨x3_1, x4_1, rfl, HA, HK1, HO_3, BK163, HB⟩ := hrel
  cases gk with
  | zero => exact absurd HA.out (by simp [spec_Timers.l0])
  | succ k1 =>
   have H := HA.out
   clear HA
   simp only [spec_Timers.l0] at H
   by_cases c5 : x4_1 < (l0_1.length : Int)
   ·rw [if_pos c5] at H
    have c5b0 := decide_eq_true c5
    clear c5
    by_cases c6 : 0 ≤ x4_1
    ·rw [if_pos c6] at H
     have c6b0 := decide_eq_true c6
     clear c6
     by_cases c7 : x3_1.length + (rd_L2 l0_1 x4_1).length < 5864062014805
     ·rw [if_pos c7] at H
      have LMc7 := Aside0.mk c7
      clear c7
      generalize hy168 : (x3_1 ++ (rd_L2 l0_1 x4_1)) = y168 at H; (try rw [Option.bind_some] at H); have Ny168 := Aside0.mk hy168.symm; clear hy168
      have H' := Aside0.mk H
      clear H
      have hcz8 := zc4 BK163.out
      have hfz8 := zf4 BK163.out
      have p167 : 0 ≤ (x4_1 : Int) := zD
      have q167 : x4_1 < (l0_1.length : Int) := zD
      obtain ⟨ad167, A167_0, c167_0, e167, hx167_0, hl167_0, hi167_0⟩ := at_L2 HR0_1.out x4_1 p167 q167
      cases e167
      replace hx167_0 := zh HB.out hx167_0
      have HR167_0 := Aside0.mk hi167_0
      have HC167_0 := Aside0.mk hl167_0
      clear hi167_0 hl167_0
      replace p167 := eq_true p167
      replace q167 := eq_true q167
      go_wp2_with (first | ((with_reducible refine gate_builtin (b := .append) (xs := #[.tmp 14, .tmp 19]) rfl ?_); at_builtin; refine Kd.R_append_rows k46 (w0 := w) w.heap.size rfl (.tmp 14) (.tmp 19) 23 46 (.agg #[(.int .i64 0), (.int .i64 0), (.int .i64 0)]) 24 rfl Try.underlying23 info46 rfl (by decide) (by omega) u3 x3_1 (rd_L2 l0_1 x4_1) _ _ _ (fun _ => True) (fun _ => False) rfl rfl ?aO ?aR (fun _ _ h => h) (fun _ h => h.elim) ?aF ?aB ?aS ?aL ?_; (case aR => repeat (first | exact (Kd.C_below HR167_0.out HB.out) | (with_reducible refine Kd.C_alloc ?_ _) | (with_reducible refine Kd.C_drewN ?_ _) | (with_reducible refine Kd.C_drew ?_))); (case aB => exact (zL1 HB.out GE163.out)); (case aF => exact (fun _ _ => trivial)); (case aO => exact (zR HO_3.out)); (case aS => exact (below_size (zL1 HB.out GE163.out))); (case aL => have := LMc7.out; omega); intro v169 w9 ho hb hg hat; rw [← Ny168.out] at ho; replace BK163 := Aside0.mk (blk_grown (g := gb163) (o := .cells #[.int .i64 a0_0, .slice (some ad167) l0_1.length c0_1, .slice A0_2 l0_2.length c0_2, .slice A0_3 l0_3.length c0_3] 25 (0, 0)) (zB BK163.out) hg (Kd.R_ne HO_3.out BK163.out (by decide))); replace HB := Aside0.mk hb; have HO170 := Aside0.mk (ho); clear HO_3; clear ho hb hg hat))
      go_roundg k1
      case measure => have := HK1.out; omega
      case rel => exact ⟨(y168), (wrap64 (x4_1 + 1)), zV, H', ⟨by have := HK1.out; omega⟩, ⟨zR HO170.out⟩, ⟨zB BK163.out⟩, ⟨zL1 HB.out GE163.out⟩⟩
     ·rw [if_neg c7] at H
      exact absurd H (by simp)
    ·rw [if_neg c6] at H
     exact absurd H (by simp)
   ·rw [if_neg c5] at H
    have c5b0 := decide_eq_false c5
    clear c5
    have H' := Aside0.mk H
    clear H
    have hcz10 := zc4 BK163.out
    have hfz10 := zf4 BK163.out
    go_wp2
    go_loopg [3, 5] k1 (fun kq v3 v5 w' => ∃ (x3_2 : List (S46)) (x5_2 : Int), v5 = .int .i64 x5_2 ∧ Aside0 (spec_Timers.l1 kq x3_2 x5_2 a0_0 l0_1 l0_2 l0_3 = some r) ∧ Aside0 (kq ≤ k1) ∧ Aside0 (Kd.R k46 46 w' w.heap.size (fun _ => True) v3 x3_2) ∧ Aside0 (w'.heap[gb163]? = some (.cells #[.int .i64 a0_0, (.slice A0_1 l0_1.length c0_1), (.slice A0_2 l0_2.length c0_2), (.slice A0_3 l0_3.length c0_3)] 25 (0, 0))) ∧ Aside0 (Below w.heap.size w w'))
    case atStart => exact ⟨(x3_1), (0), zV, H', ⟨Nat.le_refl _⟩, ⟨zR HO_3.out⟩, ⟨zB BK163.out⟩, ⟨zL1 HB.out GE163.out⟩⟩
    case round =>
     clear H'
     try clear c1
     try clear p1
     try clear q1
     try clear hx1
     try clear c2
     try clear p2
     try clear c5
     try clear c5b0
     try clear c6
     try clear c6b0
     try clear p6
     try clear c7
     try clear hcz10; try clear hcz8; try clear hfz10; try clear hfz8
     try clear hx167_0
     try clear p167
     try clear p2
     try clear q167
     try clear BK163
     obtain ⟨x3_2, x5_2, rfl, HA, HK2, HO_3, BK163, HB⟩ := hrel
     cases gk with
     | zero => exact absurd HA.out (by simp [spec_Timers.l1])
     | succ k2 =>
      have H := HA.out
      clear HA
      simp only [spec_Timers.l1] at H
      by_cases c11 : x5_2 < (l0_2.length : Int)
      ·rw [if_pos c11] at H
       have c11b0 := decide_eq_true c11
       clear c11
       by_cases c12 : 0 ≤ x5_2
       ·rw [if_pos c12] at H
        have c12b0 := decide_eq_true c12
        clear c12
        by_cases c13 : x3_2.length + (rd_L2 l0_2 x5_2).length < 5864062014805
        ·rw [if_pos c13] at H
         have LMc13 := Aside0.mk c13
         clear c13
         generalize hy172 : (x3_2 ++ (rd_L2 l0_2 x5_2)) = y172 at H; (try rw [Option.bind_some] at H); have Ny172 := Aside0.mk hy172.symm; clear hy172
         have H' := Aside0.mk H
         clear H
         have hcz14 := zc4 BK163.out
         have hfz14 := zf4 BK163.out
         have p171 : 0 ≤ (x5_2 : Int) := zD
         have q171 : x5_2 < (l0_2.length : Int) := zD
         obtain ⟨ad171, A171_0, c171_0, e171, hx171_0, hl171_0, hi171_0⟩ := at_L2 HR0_2.out x5_2 p171 q171
         cases e171
         replace hx171_0 := zh HB.out hx171_0
         have HR171_0 := Aside0.mk hi171_0
         have HC171_0 := Aside0.mk hl171_0
         clear hi171_0 hl171_0
         replace p171 := eq_true p171
         replace q171 := eq_true q171
         go_wp2_with (first | ((with_reducible refine gate_builtin (b := .append) (xs := #[.tmp 28, .tmp 33]) rfl ?_); at_builtin; refine Kd.R_append_rows k46 (w0 := w) w.heap.size rfl (.tmp 28) (.tmp 33) 23 46 (.agg #[(.int .i64 0), (.int .i64 0), (.int .i64 0)]) 24 rfl Try.underlying23 info46 rfl (by decide) (by omega) u3 x3_2 (rd_L2 l0_2 x5_2) _ _ _ (fun _ => True) (fun _ => False) rfl rfl ?aO ?aR (fun _ _ h => h) (fun _ h => h.elim) ?aF ?aB ?aS ?aL ?_; (case aR => repeat (first | exact (Kd.C_below HR171_0.out HB.out) | (with_reducible refine Kd.C_alloc ?_ _) | (with_reducible refine Kd.C_drewN ?_ _) | (with_reducible refine Kd.C_drew ?_))); (case aB => exact (zL1 HB.out GE163.out)); (case aF => exact (fun _ _ => trivial)); (case aO => exact (zR HO_3.out)); (case aS => exact (below_size (zL1 HB.out GE163.out))); (case aL => have := LMc13.out; omega); intro v173 w15 ho hb hg hat; rw [← Ny172.out] at ho; replace BK163 := Aside0.mk (blk_grown (g := gb163) (o := .cells #[.int .i64 a0_0, .slice A0_1 l0_1.length c0_1, .slice (some ad171) l0_2.length c0_2, .slice A0_3 l0_3.length c0_3] 25 (0, 0)) (zB BK163.out) hg (Kd.R_ne HO_3.out BK163.out (by decide))); replace HB := Aside0.mk hb; have HO174 := Aside0.mk (ho); clear HO_3; clear ho hb hg hat))
         go_roundg k2
         case measure => have := HK1.out; have := HK2.out; omega
         case rel => exact ⟨(y172), (wrap64 (x5_2 + 1)), zV, H', ⟨by have := HK1.out; have := HK2.out; omega⟩, ⟨zR HO174.out⟩, ⟨zB BK163.out⟩, ⟨zL1 HB.out GE163.out⟩⟩
        ·rw [if_neg c13] at H
         exact absurd H (by simp)
       ·rw [if_neg c12] at H
        exact absurd H (by simp)
      ·rw [if_neg c11] at H
       have c11b0 := decide_eq_false c11
       clear c11
       by_cases c16 : x3_2.length + l0_3.length < 5864062014805
       ·rw [if_pos c16] at H
        have LMc16 := Aside0.mk c16
        clear c16
        generalize hy175 : (x3_2 ++ l0_3) = y175 at H; (try rw [Option.bind_some] at H); have Ny175 := Aside0.mk hy175.symm; clear hy175
        obtain rfl := Option.some.inj H
        have hcz17 := zc4 BK163.out
        have hfz17 := zf4 BK163.out
        go_wp2_with (first | ((with_reducible refine gate_builtin (b := .append) (xs := #[.tmp 35, .tmp 37]) rfl ?_); at_builtin; refine Kd.R_append_rows k46 (w0 := w) w.heap.size rfl (.tmp 35) (.tmp 37) 23 46 (.agg #[(.int .i64 0), (.int .i64 0), (.int .i64 0)]) 24 rfl Try.underlying23 info46 rfl (by decide) (by omega) u3 x3_2 l0_3 _ _ _ (fun _ => True) (fun _ => False) rfl rfl ?aO ?aR (fun _ _ h => h) (fun _ h => h.elim) ?aF ?aB ?aS ?aL ?_; (case aR => repeat (first | exact (Kd.C_below HR0_3.out HB.out) | (with_reducible refine Kd.C_alloc ?_ _) | (with_reducible refine Kd.C_drewN ?_ _) | (with_reducible refine Kd.C_drew ?_))); (case aB => exact (zL1 HB.out GE163.out)); (case aF => exact (fun _ _ => trivial)); (case aO => exact (zR HO_3.out)); (case aS => exact (below_size (zL1 HB.out GE163.out))); (case aL => have := LMc16.out; omega); intro v176 w18 ho hb hg hat; rw [← Ny175.out] at ho; replace BK163 := Aside0.mk (blk_grown (g := gb163) (o := .cells #[.int .i64 a0_0, .slice A0_1 l0_1.length c0_1, .slice A0_2 l0_2.length c0_2, .slice A0_3 l0_3.length c0_3] 25 (0, 0)) (zB BK163.out) hg (Kd.R_ne HO_3.out BK163.out (by decide))); replace HB := Aside0.mk hb; have HO177 := Aside0.mk (ho); clear HO_3; clear ho hb hg hat))
        go_ret
        exact ⟨_, zW, zR HO177.out, zL1 HB.out GE163.out⟩
       ·rw [if_neg c16] at H
        exact absurd H (by simp)

open Go.Proofs.YtggenhomnbnodaaW.PrintWords renaming blk_drewN → bN, blk_drew → bD, blk_alloc → bA, blk_cell → bC, blk_below → bB, below_set → bS
/-! ### spec_l1In: function 67 -/
def spec_l1In.f (a0 : Int) (a1 : Int) (a2 : Int) : Option (Bool) := if a0 ≥ a1 then (some (decide (a0 ≤ a2))) else (some false)
set_option maxHeartbeats 8000000 in
set_option maxRecDepth 100000 in
theorem spec_l1In.calls (a0 : Int) (a1 : Int) (a2 : Int) (r : Bool) (w : World) (h : spec_l1In.f a0 a1 a2 = some r) :
  Calls Try.prog 67 #[.int .i64 a0, .int .i64 a1, .int .i64 a2] w fun e w' => e = .returned (.bool r) ∧ Drawn0 w w' := by
 unfold spec_l1In.f at h; have H := h
 clear h
 by_cases c4 : a0 ≥ a1
 ·rw [if_pos c4] at H
  have c4b0 := decide_eq_true c4
  clear c4
  obtain rfl := Option.some.inj H
  go_enter Try.func67, Try.ntmps67
  go_wp2
  go_ret
  exact ⟨zV, zU⟩
 ·rw [if_neg c4] at H
  have c4b0 := decide_eq_false c4
  clear c4
  obtain rfl := Option.some.inj H
  go_enter Try.func67, Try.ntmps67
  go_wp2
  go_ret
  exact ⟨zV, zU⟩

open Go.Proofs.YtggenhomnbnodaaW.PrintWords renaming blk_drewN → bN, blk_drew → bD, blk_alloc → bA, blk_cell → bC, blk_below → bB, below_set → bS
/-! ### spec_l8Place: function 88 -/
def spec_l8Place.f (a0 : Int) (a1 : Int) : Option (Int × Int) := if (wrap64 (Int.tdiv a1 8)) = (wrap64 (Int.tdiv a0 8)) then (some (1, Int.tmod a1 8)) else (if (wrap64 ((wrap64 (Int.tdiv a1 8)) - (wrap64 (Int.tdiv a0 8)))) < 8 then (some (2, Int.tmod (wrap64 (Int.tdiv a1 8)) 8)) else (some (3, 0)))
set_option maxHeartbeats 8000000 in
set_option maxRecDepth 100000 in
theorem spec_l8Place.calls (a0 : Int) (a1 : Int) (r1 : Int) (r2 : Int) (w : World) (h : spec_l8Place.f a0 a1 = some (r1, r2)) :
  Calls Try.prog 88 #[.int .i64 a0, .int .i64 a1] w fun e w' => e = .returned (.tuple #[.int .i64 r1, .int .i64 r2]) ∧ Drawn0 w w' := by
 unfold spec_l8Place.f at h; have H := h
 clear h
 by_cases c3 : (wrap64 (Int.tdiv a1 8)) = (wrap64 (Int.tdiv a0 8))
 ·rw [if_pos c3] at H
  obtain ⟨c3b0, c3b1⟩ := zt c3
  clear c3
  simp only [Option.some.injEq, Prod.mk.injEq] at H
  obtain ⟨rfl, rfl⟩ := H
  go_enter Try.func88, Try.ntmps88
  go_wp2
  go_ret2
  exact ⟨zV, zU⟩
 ·rw [if_neg c3] at H
  obtain ⟨c3b0, c3b1⟩ := zf c3
  by_cases c4 : (wrap64 ((wrap64 (Int.tdiv a1 8)) - (wrap64 (Int.tdiv a0 8)))) < 8
  ·rw [if_pos c4] at H
   have c4b0 := decide_eq_true c4
   clear c4
   simp only [Option.some.injEq, Prod.mk.injEq] at H
   obtain ⟨rfl, rfl⟩ := H
   go_enter Try.func88, Try.ntmps88
   go_wp2
   go_ret2
   exact ⟨zV, zU⟩
  ·rw [if_neg c4] at H
   have c4b0 := decide_eq_false c4
   clear c4
   simp only [Option.some.injEq, Prod.mk.injEq] at H
   obtain ⟨rfl, rfl⟩ := H
   go_enter Try.func88, Try.ntmps88
   go_wp2
   go_ret2
   exact ⟨zV, zU⟩

open Go.Proofs.YtggenhomnbnodaaW.PrintWords renaming blk_drewN → bN, blk_drew → bD, blk_alloc → bA, blk_cell → bC, blk_below → bB, below_set → bS
/-! ### spec_l8Slot: function 68 -/
mutual
def spec_l8Slot.l0 : Nat → List (S46) → Int → Int → Int → Int → List (List (S46)) → List (List (S46)) → List (S46) → Option (Bool)
 | 0, _, _, _, _, _, _, _, _ => none
 | k + 1, x1, x2, x3, x9, x179000, x179001, x179002, x179003 => if x9 < (x1.length : Int) then (if 0 ≤ x9 then (if ((rd_T46 x1 x9).f0) < 1 then (spec_l8Slot.j1 k x1 x2 x3 x9 true x179000 x179001 x179002 x179003 ((rd_T46 x1 x9).f0) ((rd_T46 x1 x9).f1) ((rd_T46 x1 x9).f2)) else ((spec_l1In.f ((rd_T46 x1 x9).f1) 1 999).bind fun t181 => (if t181 = true then ((spec_l1In.f ((rd_T46 x1 x9).f2) (wrap64 (x179000 + 1)) 2147483647).bind fun t182 => (spec_l8Slot.j1 k x1 x2 x3 x9 (!t182) x179000 x179001 x179002 x179003 ((rd_T46 x1 x9).f0) ((rd_T46 x1 x9).f1) ((rd_T46 x1 x9).f2))) else (spec_l8Slot.j1 k x1 x2 x3 x9 true x179000 x179001 x179002 x179003 ((rd_T46 x1 x9).f0) ((rd_T46 x1 x9).f1) ((rd_T46 x1 x9).f2))))) else (none)) else (some true)
def spec_l8Slot.j1 : Nat → List (S46) → Int → Int → Int → Bool → Int → List (List (S46)) → List (List (S46)) → List (S46) → Int → Int → Int → Option (Bool)
 | 0, _, _, _, _, _, _, _, _, _, _, _, _ => none
 | k + 1, x1, x2, x3, x9, x40, x179000, x179001, x179002, x179003, x181000, x181001, x181002 => if x40 = true then (some false) else ((spec_l8Place.f x179000 x181002).bind fun bt183 => (if bt183.1 = x2 then (if bt183.2 = x3 then (spec_l8Slot.l0 k x1 x2 x3 (wrap64 (x9 + 1)) x179000 x179001 x179002 x179003) else (some false)) else (some false)))
end
def spec_l8Slot.f (k : Nat) (a0_0 : Int) (l0_1 : List (List (S46))) (l0_2 : List (List (S46))) (l0_3 : List (S46)) (l1 : List (S46)) (a2 : Int) (a3 : Int) : Option (Bool) := spec_l8Slot.l0 k l1 a2 a3 0 a0_0 l0_1 l0_2 l0_3
theorem spec_l8Slot.mono_l : ∀ k, (∀ y0 y1 y2 y3 y4 y5 y6 y7, LeO (spec_l8Slot.l0 k y0 y1 y2 y3 y4 y5 y6 y7) (spec_l8Slot.l0 (k + 1) y0 y1 y2 y3 y4 y5 y6 y7)) ∧ (∀ y0 y1 y2 y3 y4 y5 y6 y7 y8 y9 y10 y11, LeO (spec_l8Slot.j1 k y0 y1 y2 y3 y4 y5 y6 y7 y8 y9 y10 y11) (spec_l8Slot.j1 (k + 1) y0 y1 y2 y3 y4 y5 y6 y7 y8 y9 y10 y11))
 | 0 => ⟨fun _ _ _ _ _ _ _ _ r h => by simp [spec_l8Slot.l0] at h, fun _ _ _ _ _ _ _ _ _ _ _ _ r h => by simp [spec_l8Slot.j1] at h⟩
 | k + 1 => by
  obtain ⟨ih0, ih1⟩ := spec_l8Slot.mono_l k
  refine ⟨?_, ?_⟩
  ·intro y0 y1 y2 y3 y4 y5 y6 y7
   unfold spec_l8Slot.l0
   repeat' first
   | (with_reducible exact ih0 _ _ _ _ _ _ _ _)
   | (with_reducible exact ih1 _ _ _ _ _ _ _ _ _ _ _ _)
   | (with_reducible exact LeO.refl _)
   | (with_reducible exact LeO.none _)
   | (with_reducible refine LeO.ite ?_ ?_)
   | (with_reducible refine LeO.bind ?_ (fun _ => ?_))
   | exact ih0 _ _ _ _ _ _ _ _
   | exact ih1 _ _ _ _ _ _ _ _ _ _ _ _
   | exact LeO.none _
   | refine LeO.ite ?_ ?_
   | refine LeO.bind ?_ (fun _ => ?_)
  ·intro y0 y1 y2 y3 y4 y5 y6 y7 y8 y9 y10 y11
   unfold spec_l8Slot.j1
   repeat' first
   | (with_reducible exact ih0 _ _ _ _ _ _ _ _)
   | (with_reducible exact ih1 _ _ _ _ _ _ _ _ _ _ _ _)
   | (with_reducible exact LeO.refl _)
   | (with_reducible exact LeO.none _)
   | (with_reducible refine LeO.ite ?_ ?_)
   | (with_reducible refine LeO.bind ?_ (fun _ => ?_))
   | exact ih0 _ _ _ _ _ _ _ _
   | exact ih1 _ _ _ _ _ _ _ _ _ _ _ _
   | exact LeO.none _
   | refine LeO.ite ?_ ?_
   | refine LeO.bind ?_ (fun _ => ?_)
theorem spec_l8Slot.mono : ∀ a0 a1 a2 a3 a4 a5 a6 k, LeO (spec_l8Slot.f k a0 a1 a2 a3 a4 a5 a6) (spec_l8Slot.f (k + 1) a0 a1 a2 a3 a4 a5 a6) := by
 intro a0 a1 a2 a3 a4 a5 a6 k
 obtain ⟨ih0, ih1⟩ := spec_l8Slot.mono_l k
 unfold spec_l8Slot.f
 repeat' first
   | (with_reducible exact ih0 _ _ _ _ _ _ _ _)
   | (with_reducible exact ih1 _ _ _ _ _ _ _ _ _ _ _ _)
   | (with_reducible exact LeO.refl _)
   | (with_reducible exact LeO.none _)
   | (with_reducible refine LeO.ite ?_ ?_)
   | (with_reducible refine LeO.bind ?_ (fun _ => ?_))
   | exact ih0 _ _ _ _ _ _ _ _
   | exact ih1 _ _ _ _ _ _ _ _ _ _ _ _
   | exact LeO.none _
   | refine LeO.ite ?_ ?_
   | refine LeO.bind ?_ (fun _ => ?_)
set_option maxHeartbeats 8000000 in
set_option maxRecDepth 100000 in
theorem spec_l8Slot.calls (k : Nat) (a0_0 : Int) (A0_1 : Option Addr) (c0_1 : Nat) (l0_1 : List (List (S46))) (A0_2 : Option Addr) (c0_2 : Nat) (l0_2 : List (List (S46))) (A0_3 : Option Addr) (c0_3 : Nat) (l0_3 : List (S46)) (A1 : Option Addr) (c1 : Nat) (l1 : List (S46)) (a2 : Int) (a3 : Int) (r : Bool) (w : World) (hr0_1 : Kd.C (Kd.slice 46 k46) w A0_1 l0_1.length l0_1) (hc0_1 : l0_1.length ≤ c0_1) (hr0_2 : Kd.C (Kd.slice 46 k46) w A0_2 l0_2.length l0_2) (hc0_2 : l0_2.length ≤ c0_2) (hr0_3 : Kd.C k46 w A0_3 l0_3.length l0_3) (hc0_3 : l0_3.length ≤ c0_3) (hr1 : Kd.C k46 w A1 l1.length l1) (hc1 : l1.length ≤ c1) (h : spec_l8Slot.f k a0_0 l0_1 l0_2 l0_3 l1 a2 a3 = some r) :
  Calls Try.prog 68 #[.agg #[.int .i64 a0_0, .slice A0_1 l0_1.length c0_1, .slice A0_2 l0_2.length c0_2, .slice A0_3 l0_3.length c0_3], .slice A1 l1.length c1, .int .i64 a2, .int .i64 a3] w fun e w' => e = .returned (.bool r) ∧ Below w.heap.size w w' := by
 have hu25 := Try.underlying25
 have hu46 := Try.underlying46
 have HR0_1 := Aside0.mk hr0_1
 have HC0_1 := Aside0.mk hc0_1
 clear hr0_1 hc0_1
 have HR0_2 := Aside0.mk hr0_2
 have HC0_2 := Aside0.mk hc0_2
 clear hr0_2 hc0_2
 have HR0_3 := Aside0.mk hr0_3
 have HC0_3 := Aside0.mk hc0_3
 clear hr0_3 hc0_3
 have HR1 := Aside0.mk hr1
 have HC1 := Aside0.mk hc1
 clear hr1 hc1
 have HB := Aside0.mk (Below.refl w.heap.size w)
 unfold spec_l8Slot.f at h; have H := h
 clear h
 have H' := Aside0.mk H
 clear H
 go_enter Try.func68, Try.ntmps68
 go_wp2_with (first | ((with_reducible refine gD 4 rfl ?_); refine bE 4 #[.int .i64 a0_0, .slice A0_1 l0_1.length c0_1, .slice A0_2 l0_2.length c0_2, .slice A0_3 l0_3.length c0_3] 25 ?_; intro gb178 hg w5 hbox hb; have BK178 := Aside0.mk hbox; have GW178 := Aside0.mk (zg (zL HB.out) hg : w.heap.size ≤ gb178); have GE178 := GW178; replace HB := zLB (zL HB.out) hb; clear hb hbox hg))
 go_loopg [9] k (fun kq v9 w' => ∃ (x9_1 : Int), v9 = .int .i64 x9_1 ∧ Aside0 (spec_l8Slot.l0 kq l1 a2 a3 x9_1 a0_0 l0_1 l0_2 l0_3 = some r) ∧ Aside0 (kq ≤ k) ∧ Aside0 (w'.heap[gb178]? = some (.cells #[.int .i64 a0_0, (.slice A0_1 l0_1.length c0_1), (.slice A0_2 l0_2.length c0_2), (.slice A0_3 l0_3.length c0_3)] 25 (0, 0))) ∧ Aside0 (Below w.heap.size w w'))
 case atStart => exact ⟨(0), zV, H', ⟨Nat.le_refl _⟩, ⟨zB BK178.out⟩, ⟨zL1 HB.out GE178.out⟩⟩
 case round =>
  clear H'
  try clear c1
  try clear p2
  try clear BK178
  obtain ⟨x9_1, rfl, HA, HK1, BK178, HB⟩ := hrel
  cases gk with
  | zero => exact absurd HA.out (by simp [spec_l8Slot.l0])
  | succ k1 =>
   have H := HA.out
   clear HA
   simp only [spec_l8Slot.l0] at H
   by_cases c6 : x9_1 < (l1.length : Int)
   ·rw [if_pos c6] at H
    have c6b0 := decide_eq_true c6
    clear c6
    by_cases c7 : 0 ≤ x9_1
    ·rw [if_pos c7] at H
     have c7b0 := decide_eq_true c7
     clear c7
     have HC8 := Aside0.mk H
     clear H
     have p179 : 0 ≤ (x9_1 : Int) := zD
     have q179 : x9_1 < (l1.length : Int) := zD
     obtain ⟨ad179, e179, hx179_0, hx179_1, hx179_2⟩ := at_T46 HR1.out x9_1 p179 q179
     cases e179
     replace hx179_0 := zh HB.out hx179_0
     replace hx179_1 := zh HB.out hx179_1
     replace hx179_2 := zh HB.out hx179_2
     replace p179 := eq_true p179
     replace q179 := eq_true q179
     go_upto_region 5 with (first | ((with_reducible refine gD 10 rfl ?_); refine bE 10 #[.int .i64 0, .int .i64 0, .int .i64 0] 46 ?_; intro gb180 hg w9 hbox hb; have BK180 := Aside0.mk hbox; have GW180 := Aside0.mk (zg (zL1 HB.out GE178.out) hg : w.heap.size ≤ gb180); have GE180 := GW180; replace HB := zLB (zL1 HB.out GE178.out) hb; have NB178_180 := Aside0.mk (zN BK178.out hg : gb178 ≠ gb180); have NB180_178 := Aside0.mk (zM BK178.out hg : gb180 ≠ gb178); replace BK178 := zBB BK178 hb; clear hb hbox hg; have hnb10 := NB180_178.out; have hnc10 := NB178_180.out; have hcz11_0 : w9.cell? ⟨gb180, 0, none⟩ = some (.int .i64 0) := (bC BK180.out 0).trans rfl; have hcz11_1 : w9.cell? ⟨gb180, 1, none⟩ = some (.int .i64 0) := (bC BK180.out 1).trans rfl; have hcz11_2 : w9.cell? ⟨gb180, 2, none⟩ = some (.int .i64 0) := (bC BK180.out 2).trans rfl; have hfz11_0 := blk_frozen BK180.out 0; have hfz11_1 := blk_frozen BK180.out 1; have hfz11_2 := blk_frozen BK180.out 2))
     (try simp only [Act.put, List.setIfInBounds_toArray, List.set_cons_zero, List.set_cons_succ])
     go_cut [40] (fun v40 wc => ∃ (kq : Nat) (x40_7 : Bool), v40 = .bool x40_7 ∧ Aside0 (spec_l8Slot.j1 kq l1 a2 a3 x9_1 x40_7 a0_0 l0_1 l0_2 l0_3 ((rd_T46 l1 x9_1).f0) ((rd_T46 l1 x9_1).f1) ((rd_T46 l1 x9_1).f2) = some r) ∧ Aside0 (kq ≤ k1) ∧ Aside0 (wc.heap[gb178]? = some (.cells #[.int .i64 a0_0, (.slice A0_1 l0_1.length c0_1), (.slice A0_2 l0_2.length c0_2), (.slice A0_3 l0_3.length c0_3)] 25 (0, 0))) ∧ Aside0 (wc.heap[gb180]? = some (.cells #[.int .i64 ((rd_T46 l1 x9_1).f0), .int .i64 ((rd_T46 l1 x9_1).f1), .int .i64 ((rd_T46 l1 x9_1).f2)] 46 (0, 0))) ∧ Aside0 (Below w.heap.size w wc))
     case first =>
      have H := HC8.out
      clear HC8
      by_cases c12 : ((rd_T46 l1 x9_1).f0) < 1
      ·rw [if_pos c12] at H
       have c12b0 := decide_eq_true c12
       clear c12
       (first | rw [c12b0] | (simp only [i64_w, i32_w]; rw [c12b0]) | skip)
       have H' := Aside0.mk H
       clear H
       have hnb13 := NB180_178.out
       have hnc13 := NB178_180.out
       have hcz14_0 : w9.cell? ⟨gb180, 0, none⟩ = some (.int .i64 0) := (bC BK180.out 0).trans rfl
       have hcz14_1 : w9.cell? ⟨gb180, 1, none⟩ = some (.int .i64 0) := (bC BK180.out 1).trans rfl
       have hcz14_2 : w9.cell? ⟨gb180, 2, none⟩ = some (.int .i64 0) := (bC BK180.out 2).trans rfl
       have hfz14_0 := blk_frozen BK180.out 0
       have hfz14_1 := blk_frozen BK180.out 1
       have hfz14_2 := blk_frozen BK180.out 2
       go_wp2
       go_meet
       case rel => exact ⟨_, (true), zV, H', ⟨by have := HK1.out; first | omega | exact Nat.le_refl _⟩, ⟨by (with_reducible repeat (first | refine bN ?_ _ | refine bD ?_ | refine bA ?_ _)); refine blk_far ?_ NB178_180.out _; (with_reducible repeat (first | refine bN ?_ _ | refine bD ?_ | refine bA ?_ _)); refine blk_far ?_ NB178_180.out _; (with_reducible repeat (first | refine bN ?_ _ | refine bD ?_ | refine bA ?_ _)); refine blk_far ?_ NB178_180.out _; exact zB BK178.out⟩, ⟨by (with_reducible repeat (first | refine bN ?_ _ | refine bD ?_ | refine bA ?_ _)); refine blk_put (cs := #[.int .i64 ((rd_T46 l1 x9_1).f0), .int .i64 ((rd_T46 l1 x9_1).f1), .int .i64 0]) ?_ 2 _ rfl; (with_reducible repeat (first | refine bN ?_ _ | refine bD ?_ | refine bA ?_ _)); refine blk_put (cs := #[.int .i64 ((rd_T46 l1 x9_1).f0), .int .i64 0, .int .i64 0]) ?_ 1 _ rfl; (with_reducible repeat (first | refine bN ?_ _ | refine bD ?_ | refine bA ?_ _)); refine blk_put (cs := #[.int .i64 0, .int .i64 0, .int .i64 0]) ?_ 0 _ rfl; exact zB BK180.out⟩, ⟨zL2 HB.out GE178.out GE180.out⟩⟩
      ·rw [if_neg c12] at H
       have c12b0 := decide_eq_false c12
       clear c12
       (first | rw [c12b0] | (simp only [i64_w, i32_w]; rw [c12b0]) | skip)
       obtain ⟨t181, A15, H⟩ := zO H; try dsimp only at H
       by_cases c16 : t181 = true
       ·subst c16
        rw [if_pos rfl] at H
        obtain ⟨t182, A17, H⟩ := zO H; try dsimp only at H
        have H' := Aside0.mk H
        clear H
        have hnb18 := NB180_178.out
        have hnc18 := NB178_180.out
        have hcz19_0 : w9.cell? ⟨gb180, 0, none⟩ = some (.int .i64 0) := (bC BK180.out 0).trans rfl
        have hcz19_1 : w9.cell? ⟨gb180, 1, none⟩ = some (.int .i64 0) := (bC BK180.out 1).trans rfl
        have hcz19_2 : w9.cell? ⟨gb180, 2, none⟩ = some (.int .i64 0) := (bC BK180.out 2).trans rfl
        have hfz19_0 := blk_frozen BK180.out 0
        have hfz19_1 := blk_frozen BK180.out 1
        have hfz19_2 := blk_frozen BK180.out 2
        go_wp2_with (first | (go_at_call 67; (with_reducible refine (spec_l1In.calls ((rd_T46 l1 x9_1).f1) 1 999 true _ A15.out).mono ?_); rintro e w' ⟨rfl, ⟨nd, rfl⟩⟩; have hcz20 := zc4 BK178.out; have hfz20 := zf4 BK178.out) | (go_at_call 67; (with_reducible refine (spec_l1In.calls ((rd_T46 l1 x9_1).f2) (wrap64 (a0_0 + 1)) 2147483647 t182 _ A17.out).mono ?_); rintro e w' ⟨rfl, ⟨nd, rfl⟩⟩))
        go_meet
        case rel => exact ⟨_, (!t182), zV, H', ⟨by have := HK1.out; first | omega | exact Nat.le_refl _⟩, ⟨by (with_reducible repeat (first | refine bN ?_ _ | refine bD ?_ | refine bA ?_ _)); refine blk_far ?_ NB178_180.out _; (with_reducible repeat (first | refine bN ?_ _ | refine bD ?_ | refine bA ?_ _)); refine blk_far ?_ NB178_180.out _; (with_reducible repeat (first | refine bN ?_ _ | refine bD ?_ | refine bA ?_ _)); refine blk_far ?_ NB178_180.out _; exact zB BK178.out⟩, ⟨by (with_reducible repeat (first | refine bN ?_ _ | refine bD ?_ | refine bA ?_ _)); refine blk_put (cs := #[.int .i64 ((rd_T46 l1 x9_1).f0), .int .i64 ((rd_T46 l1 x9_1).f1), .int .i64 0]) ?_ 2 _ rfl; (with_reducible repeat (first | refine bN ?_ _ | refine bD ?_ | refine bA ?_ _)); refine blk_put (cs := #[.int .i64 ((rd_T46 l1 x9_1).f0), .int .i64 0, .int .i64 0]) ?_ 1 _ rfl; (with_reducible repeat (first | refine bN ?_ _ | refine bD ?_ | refine bA ?_ _)); refine blk_put (cs := #[.int .i64 0, .int .i64 0, .int .i64 0]) ?_ 0 _ rfl; exact zB BK180.out⟩, ⟨zL2 HB.out GE178.out GE180.out⟩⟩
       ·obtain rfl := Bool.eq_false_iff.mpr c16
        rw [if_neg zn] at H
        have H' := Aside0.mk H
        clear H
        have hnb21 := NB180_178.out
        have hnc21 := NB178_180.out
        have hcz22_0 : w9.cell? ⟨gb180, 0, none⟩ = some (.int .i64 0) := (bC BK180.out 0).trans rfl
        have hcz22_1 : w9.cell? ⟨gb180, 1, none⟩ = some (.int .i64 0) := (bC BK180.out 1).trans rfl
        have hcz22_2 : w9.cell? ⟨gb180, 2, none⟩ = some (.int .i64 0) := (bC BK180.out 2).trans rfl
        have hfz22_0 := blk_frozen BK180.out 0
        have hfz22_1 := blk_frozen BK180.out 1
        have hfz22_2 := blk_frozen BK180.out 2
        go_wp2_with (first | (go_at_call 67; (with_reducible refine (spec_l1In.calls ((rd_T46 l1 x9_1).f1) 1 999 false _ A15.out).mono ?_); rintro e w' ⟨rfl, ⟨nd, rfl⟩⟩))
        go_meet
        case rel => exact ⟨_, (true), zV, H', ⟨by have := HK1.out; first | omega | exact Nat.le_refl _⟩, ⟨by (with_reducible repeat (first | refine bN ?_ _ | refine bD ?_ | refine bA ?_ _)); refine blk_far ?_ NB178_180.out _; (with_reducible repeat (first | refine bN ?_ _ | refine bD ?_ | refine bA ?_ _)); refine blk_far ?_ NB178_180.out _; (with_reducible repeat (first | refine bN ?_ _ | refine bD ?_ | refine bA ?_ _)); refine blk_far ?_ NB178_180.out _; exact zB BK178.out⟩, ⟨by (with_reducible repeat (first | refine bN ?_ _ | refine bD ?_ | refine bA ?_ _)); refine blk_put (cs := #[.int .i64 ((rd_T46 l1 x9_1).f0), .int .i64 ((rd_T46 l1 x9_1).f1), .int .i64 0]) ?_ 2 _ rfl; (with_reducible repeat (first | refine bN ?_ _ | refine bD ?_ | refine bA ?_ _)); refine blk_put (cs := #[.int .i64 ((rd_T46 l1 x9_1).f0), .int .i64 0, .int .i64 0]) ?_ 1 _ rfl; (with_reducible repeat (first | refine bN ?_ _ | refine bD ?_ | refine bA ?_ _)); refine blk_put (cs := #[.int .i64 0, .int .i64 0, .int .i64 0]) ?_ 0 _ rfl; exact zB BK180.out⟩, ⟨zL2 HB.out GE178.out GE180.out⟩⟩
     case rest =>
      clear HC8
      try clear c1
      try clear p1
      try clear q1
      try clear hx1
      try clear c2
      try clear p2
      try clear c6
      try clear c6b0
      try clear p6
      try clear c7
      try clear c7b0
      try clear c10
      try clear c12
      try clear c12b0
      try clear c13
      try clear c16
      try clear p17
      try clear q17
      try clear hx17
      try clear c18
      try clear c21
      try clear hcz11; try clear hcz14; try clear hcz19; try clear hcz20; try clear hcz22; try clear hfz11; try clear hfz14; try clear hfz19; try clear hfz20; try clear hfz22
      try clear hx179_0
      try clear hx179_1
      try clear hx179_2
      try clear p179
      try clear p2
      try clear q179
      obtain ⟨kq, x40_7, rfl, HA, HJ7, BK178, BK180, HB⟩ := hcut
      cases kq with
      | zero => exact absurd HA.out (by simp [spec_l8Slot.j1])
      | succ kj7 =>
       have H := HA.out
       clear HA
       simp only [spec_l8Slot.j1] at H
       by_cases c23 : x40_7 = true
       ·subst c23
        rw [if_pos rfl] at H
        obtain rfl := Option.some.inj H
        go_wp2
        go_ret
        exact ⟨zW, zL2 HB.out GE178.out GE180.out⟩
       ·obtain rfl := Bool.eq_false_iff.mpr c23
        rw [if_neg zn] at H
        obtain ⟨⟨t183, t184⟩, A24, H⟩ := zO H; try dsimp only at H
        by_cases c25 : t183 = a2
        ·rw [if_pos c25] at H
         obtain ⟨c25b0, c25b1⟩ := zt c25
         clear c25
         by_cases c26 : t184 = a3
         ·rw [if_pos c26] at H
          obtain ⟨c26b0, c26b1⟩ := zt c26
          clear c26
          have H' := Aside0.mk H
          clear H
          have hnb27 := NB178_180.out
          have hnc27 := NB180_178.out
          have hcz28 := zc4 BK178.out
          have hfz28 := zf4 BK178.out
          have hcz29_0 : wc.cell? ⟨gb180, 0, none⟩ = some (.int .i64 ((rd_T46 l1 x9_1).f0)) := (bC BK180.out 0).trans rfl
          have hcz29_1 : wc.cell? ⟨gb180, 1, none⟩ = some (.int .i64 ((rd_T46 l1 x9_1).f1)) := (bC BK180.out 1).trans rfl
          have hcz29_2 : wc.cell? ⟨gb180, 2, none⟩ = some (.int .i64 ((rd_T46 l1 x9_1).f2)) := (bC BK180.out 2).trans rfl
          have hfz29_0 := blk_frozen BK180.out 0
          have hfz29_1 := blk_frozen BK180.out 1
          have hfz29_2 := blk_frozen BK180.out 2
          go_wp2_with (first | ((with_reducible refine gC 88 rfl ?_); refine gL 46 Try.func88 #[.int .i64 a0_0, .int .i64 ((rd_T46 l1 x9_1).f2)] ?_; (with_reducible refine (spec_l8Place.calls a0_0 ((rd_T46 l1 x9_1).f2) t183 t184 _ A24.out).mono ?_); rintro e w' ⟨rfl, ⟨nd, rfl⟩⟩; refine ⟨_, rfl, ?_⟩))
          go_roundg kj7
          case measure => have := HK1.out; have := HJ7.out; omega
          case rel => exact ⟨(wrap64 (x9_1 + 1)), zV, H', ⟨by have := HK1.out; have := HJ7.out; omega⟩, ⟨zB BK178.out⟩, ⟨zL2 HB.out GE178.out GE180.out⟩⟩
         ·rw [if_neg c26] at H
          obtain ⟨c26b0, c26b1⟩ := zf c26
          obtain rfl := Option.some.inj H
          have hnb30 := NB178_180.out
          have hnc30 := NB180_178.out
          have hcz31 := zc4 BK178.out
          have hfz31 := zf4 BK178.out
          have hcz32_0 : wc.cell? ⟨gb180, 0, none⟩ = some (.int .i64 ((rd_T46 l1 x9_1).f0)) := (bC BK180.out 0).trans rfl
          have hcz32_1 : wc.cell? ⟨gb180, 1, none⟩ = some (.int .i64 ((rd_T46 l1 x9_1).f1)) := (bC BK180.out 1).trans rfl
          have hcz32_2 : wc.cell? ⟨gb180, 2, none⟩ = some (.int .i64 ((rd_T46 l1 x9_1).f2)) := (bC BK180.out 2).trans rfl
          have hfz32_0 := blk_frozen BK180.out 0
          have hfz32_1 := blk_frozen BK180.out 1
          have hfz32_2 := blk_frozen BK180.out 2
          go_wp2_with (first | ((with_reducible refine gC 88 rfl ?_); refine gL 46 Try.func88 #[.int .i64 a0_0, .int .i64 ((rd_T46 l1 x9_1).f2)] ?_; (with_reducible refine (spec_l8Place.calls a0_0 ((rd_T46 l1 x9_1).f2) t183 t184 _ A24.out).mono ?_); rintro e w' ⟨rfl, ⟨nd, rfl⟩⟩; refine ⟨_, rfl, ?_⟩))
          go_ret
          exact ⟨zW, zL2 HB.out GE178.out GE180.out⟩
        ·rw [if_neg c25] at H
         obtain ⟨c25b0, c25b1⟩ := zf c25
         obtain rfl := Option.some.inj H
         have hnb33 := NB178_180.out
         have hnc33 := NB180_178.out
         have hcz34 := zc4 BK178.out
         have hfz34 := zf4 BK178.out
         have hcz35_0 : wc.cell? ⟨gb180, 0, none⟩ = some (.int .i64 ((rd_T46 l1 x9_1).f0)) := (bC BK180.out 0).trans rfl
         have hcz35_1 : wc.cell? ⟨gb180, 1, none⟩ = some (.int .i64 ((rd_T46 l1 x9_1).f1)) := (bC BK180.out 1).trans rfl
         have hcz35_2 : wc.cell? ⟨gb180, 2, none⟩ = some (.int .i64 ((rd_T46 l1 x9_1).f2)) := (bC BK180.out 2).trans rfl
         have hfz35_0 := blk_frozen BK180.out 0
         have hfz35_1 := blk_frozen BK180.out 1
         have hfz35_2 := blk_frozen BK180.out 2
         go_wp2_with (first | ((with_reducible refine gC 88 rfl ?_); refine gL 46 Try.func88 #[.int .i64 a0_0, .int .i64 ((rd_T46 l1 x9_1).f2)] ?_; (with_reducible refine (spec_l8Place.calls a0_0 ((rd_T46 l1 x9_1).f2) t183 t184 _ A24.out).mono ?_); rintro e w' ⟨rfl, ⟨nd, rfl⟩⟩; refine ⟨_, rfl, ?_⟩))
         go_ret
         exact ⟨zW, zL2 HB.out GE178.out GE180.out⟩
    ·rw [if_neg c7] at H
     exact absurd H (by simp)
   ·rw [if_neg c6] at H
    have c6b0 := decide_eq_false c6
    clear c6
    obtain rfl := Option.some.inj H
    go_wp2
    go_ret
    exact ⟨zW, zL1 HB.out GE178.out⟩

end Go.Proofs.Ytggenhomnbnodaa.QFnExactCancel
