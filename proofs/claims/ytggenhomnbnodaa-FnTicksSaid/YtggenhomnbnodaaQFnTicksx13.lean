/- What the Go functions that the law FnTicks reaches answer: each as a Lean function, with its walk. Written by a program of this session. Conditions: those that each theorem names. -/
import Derived.Test.YtggenhomnbnodaaQFnTicksx0
import Derived.Test.YtggenhomnbnodaaQFnTicksx5
import Derived.Test.YtggenhomnbnodaaQFnTicksx12
namespace Go.Proofs.Ytggenhomnbnodaa.QFnTicks
open Go.RowKit Go.Proofs.YtggenhomnbnodaaW.PrintWords Go.Proofs.YtggenhomnbnodaaW.PrintLast Go.Proofs.YtggenhomnbnodaaW.PrintMore
attribute [local go_sem] max2_int min2_int max_two min_two max_three min_three max_four min_four   -- for this text's walks alone
set_option linter.unusedVariables false
set_option linter.unusedSimpArgs false

open Go.Proofs.YtggenhomnbnodaaW.PrintWords renaming blk_drewN → bN, blk_drew → bD, blk_alloc → bA, blk_cell → bC, blk_below → bB, below_set → bS
def spec_l8Draw.l0 : Nat → Int → List Int → Int → Int → Int → List (List (S46)) → List (List (S46)) → List (S46) → Option (Int × (List (List (S46))) × (List (List (S46))) × (List (S46)) × Int × Int)
 | 0, _, _, _, _, _, _, _, _ => none
 | k + 1, x4, x1000, x1001, x1002, x336000, x336001, x336002, x336003 => if x4 > 0 then ((spec_l8Timer.f x1000 x1001 x1002 x336000 x4).bind fun bt345 => ((spec_Put.f k x336000 x336001 x336002 x336003 bt345.1 bt345.2.1 bt345.2.2.1).bind fun bt350 => (spec_l8Draw.l0 k (wrap64 (x4 - 1)) x1000 bt345.2.2.2.1 bt345.2.2.2.2 bt350.1 bt350.2.1 bt350.2.2.1 bt350.2.2.2.1))) else (some (x336000, x336001, x336002, x336003, x1001, x1002))
def spec_l8Draw.f (k : Nat) (s0_0 : List Int) (s0_1 : Int) (s0_2 : Int) : Option (Int × (List (List (S46))) × (List (List (S46))) × (List (S46)) × Int × Int) := (spec_WheelNew.f k).bind fun bt325 => ((spec_l1Int.f s0_0 s0_1 s0_2 (([0, 0, 5, 7, 8, 63, 64, 1000] : List Int))).bind fun bt339 => ((spec_l1Below.f s0_0 bt339.2.1 bt339.2.2 7).bind fun bt342 => (spec_l8Draw.l0 k bt342.1 s0_0 bt342.2.1 bt342.2.2 bt339.1 bt325.2.1 bt325.2.2.1 bt325.2.2.2)))
def spec_l8Draw.T6 : Bool × List (List Nat × List Nat) := (true, [([], []), ([], []), ([], []), ([2], [2]), ([], []), ([1, 3, 4], [1, 3, 4]), ([0, 5, 5], [0, 5]), ([6], [6]), ([7], [7]), ([7], [7]), ([8, 6, 0, 1, 2, 3, 4, 5, 6, 7, 8], [8])])
def spec_l8Draw.B6 : List Nat := [0, 0, 0, 4, 0, 30, 63, 127, 255, 255, 511]
theorem spec_l8Draw.tab6 : rtab .any (opsOf Try.f86 6) = spec_l8Draw.T6 := by kernel_rfl
theorem spec_l8Draw.bits6 : waitsOk spec_l8Draw.T6.2 spec_l8Draw.B6 = true := by kernel_rfl
set_option maxHeartbeats 8000000 in
set_option maxRecDepth 100000 in
theorem spec_l8Draw.calls (k : Nat) (g : Nat) (s0_0 : List Int) (s0_1 : Int) (s0_2 : Int) (r1 : Int) (r2 : List (List (S46))) (r3 : List (List (S46))) (r4 : List (S46)) (r5 : Int) (r6 : Int) (w0 w : World) (hI : IsS98 w0 w g s0_0 s0_1 s0_2) (hB : Below w0.heap.size w0 w) (h : spec_l8Draw.f k s0_0 s0_1 s0_2 = some (r1, r2, r3, r4, r5, r6)) :
  Calls Try.prog 86 #[.pointer (some ⟨g, 0, none⟩)] w fun e w' => ∃ v1_ v2_ v3_ : Value, e = .returned (.agg #[.int .i64 r1, v1_, v2_, v3_]) ∧ Kd.S (Kd.slice 46 k46) 23 w' w.heap.size (fun k_ => some k_ ≠ (v2_ : Value).ownBlock ∧ some k_ ≠ (v3_ : Value).ownBlock) v1_ r2 ∧ Kd.S (Kd.slice 46 k46) 23 w' w.heap.size (fun k_ => some k_ ≠ (v1_ : Value).ownBlock ∧ some k_ ≠ (v3_ : Value).ownBlock) v2_ r3 ∧ Kd.R k46 46 w' w.heap.size (fun _ => True) v3_ r4 ∧ IsS98 w0 w' g s0_0 r5 r6 ∧ Below w0.heap.size w0 w' ∧ KeepBut w w' g none := by
 have hu25 := Try.underlying25
 have HI0 := aM hI
 have HK := aM (KeepBut.refl w g none)
 have HL := aM hB.size
 clear hI
 have HW0 := aM hB.size
 have HB := aM hB
 clear hB
 unfold spec_l8Draw.f at h; have H := h
 clear h
 obtain ⟨⟨t325, t326, t329, t332⟩, A2, H⟩ := zO H; try dsimp only at H
 generalize hy336 : (([0, 0, 5, 7, 8, 63, 64, 1000] : List Int)) = y336 at H; (try rw [Option.bind_some] at H); have Ny336 := aM hy336.symm; clear hy336
 obtain ⟨⟨t339, t340, t341⟩, A3, H⟩ := zO H; try dsimp only at H
 obtain ⟨⟨t342, t343, t344⟩, A4, H⟩ := zO H; try dsimp only at H
 have H' := aM H
 clear H
 go_enter Try.func86, Try.ntmps86
 go_wp2_with (first | ((with_reducible refine gD 2 rfl ?_); refine bE 2 #[.int .i64 0, .slice none 0 0, .slice none 0 0, .slice none 0 0] 25 ?_; intro gb324 hg w5 hbox hb; replace HB := zLB (zL1 HB.out (IsS98.ge HI0.out)) hb; have BK324 := aM hbox; have GW324 := aM (zgK (g := g) (zK HK.out) hg : w.heap.size ≤ gb324); have GE324 := aM ((Nat.le_trans HW0.out (zgK (g := g) (zK HK.out) hg : w.heap.size ≤ gb324) : w0.heap.size ≤ gb324)); replace HK := zKB g (zK HK.out) hb; have NB0_324 := aM ((zNI (IsS98.lt (zI HI0.out : IsS98 w0 _ g s0_0 s0_1 s0_2)) hg : g ≠ gb324)); have NB324_0 := aM ((zMI (IsS98.lt (zI HI0.out : IsS98 w0 _ g s0_0 s0_1 s0_2)) hg : gb324 ≠ g)); replace HI0 := aM (IsS98.below (zI HI0.out) hb); clear hb hbox hg) | ((with_reducible refine gC 15 rfl ?_); refine gL 5 Try.func15 #[] ?_; (with_reducible refine (spec_WheelNew.calls k  t325 t326 t329 t332 _ A2.out).mono ?_); rintro e w6 ⟨v327, v330, v333, rfl, ho0, ho1, ho2, hb⟩; refine ⟨_, rfl, ?_⟩; have HO328 := aM (Kd.S_lower ho0 (keep_size (w := w) (g := g) (row := none) (zK1 HK.out GW324.out))); have HO331 := aM (Kd.S_lower ho1 (keep_size (w := w) (g := g) (row := none) (zK1 HK.out GW324.out))); have HO334 := aM (Kd.R_lower ho2 (keep_size (w := w) (g := g) (row := none) (zK1 HK.out GW324.out))); replace BK324 := zBB BK324 hb; replace HK := zKB g (zK1 HK.out GW324.out) hb; replace HB := zLB (zL2 HB.out (IsS98.ge HI0.out) GE324.out) hb; replace HI0 := aM (IsS98.below (zI1 HI0.out NB0_324.out) hb); clear ho0 hb; (try clear ho1); (try clear ho2)) | ((with_reducible refine gD 3 rfl ?_); refine bE 3 #[.int .i64 0, .slice none 0 0, .slice none 0 0, .slice none 0 0] 25 ?_; intro gb335 hg w7 hbox hb; replace HO328 := zSB HO328 hb; replace HO331 := zSB HO331 hb; replace HO334 := zRB HO334 hb; replace HB := zLB (zL2 HB.out (IsS98.ge HI0.out) GE324.out) hb; have BK335 := aM hbox; have GW335 := aM (zgK (g := g) (zK1 HK.out GW324.out) hg : w.heap.size ≤ gb335); have GE335 := aM ((Nat.le_trans HW0.out (zgK (g := g) (zK1 HK.out GW324.out) hg : w.heap.size ≤ gb335) : w0.heap.size ≤ gb335)); replace HK := zKB g (zK1 HK.out GW324.out) hb; have NB324_335 := aM (zN BK324.out hg : gb324 ≠ gb335); have NB335_324 := aM (zM BK324.out hg : gb335 ≠ gb324); replace BK324 := zBB BK324 hb; have NB0_335 := aM ((zNI (IsS98.lt (zI1 HI0.out NB0_324.out : IsS98 w0 _ g s0_0 s0_1 s0_2)) hg : g ≠ gb335)); have NB335_0 := aM ((zMI (IsS98.lt (zI1 HI0.out NB0_324.out : IsS98 w0 _ g s0_0 s0_1 s0_2)) hg : gb335 ≠ g)); replace HI0 := aM (IsS98.below (zI1 HI0.out NB0_324.out) hb); clear hb hbox hg; have hnb8 := NB335_324.out; have hnc8 := NB324_335.out; have hnb9 := NB335_0.out; have hnc9 := NB0_335.out; have hcz10 := zc4 BK335.out; have hfz10 := zf4 BK335.out; obtain ⟨Ao11, co11, eo11⟩ := Kd.S_slice HO328.out; subst eo11; obtain ⟨Ao12, co12, eo12⟩ := Kd.S_slice HO331.out; subst eo12; obtain ⟨Ao13, co13, eo13⟩ := Kd.R_slice HO334.out; subst eo13) | ((with_reducible refine gD 7 rfl ?_); refine Kd.R_lit (Kd.int .i64) _ 3 ?hg (N := 7) ?hd (xs := ([0, 0, 5, 7, 8, 63, 64, 1000] : List Int)) (inner := [.int .i64 0, .int .i64 0, .int .i64 5, .int .i64 7, .int .i64 8, .int .i64 63, .int .i64 64, .int .i64 1000]) (ok := fun _ => True) (okp := fun _ => True) ?hr ?hp (fun _ hk => hk) trivial (Below.refl _ _) (Nat.le_refl _) (by simp) ?_; (case hd => rfl); (case hg => rfl); (case hr => first | (go_simp; done) | (go_simp; rfl)); (case hp => exact zhp); intro v337 w14 ho15 hb hg_ hnew_; clear hg_ hnew_; (first | rw [← Ny336.out] at ho15 | (simp only [Int.reduceToNat] at ho15; rw [← Ny336.out] at ho15)); replace HO328 := aM (Kd.S_below (by (with_reducible repeat (first | apply Kd.S_alloc | apply Kd.S_drewN | apply Kd.S_drew)); exact (Kd.S_mono (zSF4 (Kd.S_types HO328.out BK335.out (by decide)) gb335 (fun _ hk => hk.2) (.int .i64 t325) (.slice Ao11 t326.length co11) (.slice Ao12 t329.length co12) (.slice Ao13 t332.length co13)) (fun _ h_ => h_.1))) hb); replace HO331 := aM (Kd.S_below (by (with_reducible repeat (first | apply Kd.S_alloc | apply Kd.S_drewN | apply Kd.S_drew)); exact (Kd.S_mono (zSF4 (Kd.S_types HO331.out BK335.out (by decide)) gb335 (fun _ hk => hk.2) (.int .i64 t325) (.slice Ao11 t326.length co11) (.slice Ao12 t329.length co12) (.slice Ao13 t332.length co13)) (fun _ h_ => h_.1))) hb); replace HO334 := aM (Kd.R_below (by (with_reducible repeat (first | apply Kd.R_alloc | apply Kd.R_drewN | apply Kd.R_drew)); exact (Kd.R_mono (zRF4 (Kd.R_types HO334.out BK335.out (by decide)) gb335 (fun _ hk => hk.2) (.int .i64 t325) (.slice Ao11 t326.length co11) (.slice Ao12 t329.length co12) (.slice Ao13 t332.length co13)) (fun _ h_ => h_.1))) hb); have HO338 := aM (Kd.R_lower ho15 (keep_size (w := w) (g := g) (row := none) (zK2 HK.out GW324.out GW335.out))); replace BK324 := aM (bB (g := gb324) (o := .cells #[.int .i64 0, .slice none 0 0, .slice none 0 0, .slice none 0 0] 25 (0, 0)) (by refine zB ?_; refine zr4 ?_ NB324_335.out; exact zB BK324.out) hb); replace BK335 := aM (bB (g := gb335) (o := .cells #[.int .i64 t325, .slice Ao11 t326.length co11, .slice Ao12 t329.length co12, .slice Ao13 t332.length co13] 25 (0, 0)) (by refine zB ?_; refine zp4 (cs := #[.int .i64 0, .slice none 0 0, .slice none 0 0, .slice none 0 0]) ?_; exact zB BK335.out) hb); replace HK := zKB g (zK2 HK.out GW324.out GW335.out) hb; replace HB := zLB (zL3 HB.out (IsS98.ge HI0.out) GE324.out GE335.out) hb; replace HI0 := aM (IsS98.below (show IsS98 w0 ((((w7.setCell ⟨gb335, 0, none⟩ (.int .i64 t325)).setCell ⟨gb335, 1, none⟩ (.slice Ao11 t326.length co11)).setCell ⟨gb335, 2, none⟩ (.slice Ao12 t329.length co12)).setCell ⟨gb335, 3, none⟩ (.slice Ao13 t332.length co13)) g s0_0 s0_1 s0_2 from zI2 HI0.out NB0_324.out NB0_335.out) hb); clear hb ho15; obtain ⟨Ao16, co16, eo16⟩ := Kd.R_slice HO338.out; subst eo16) | ((with_reducible refine gC 85 rfl ?_); refine gL 8 Try.func85 #[.pointer (some ⟨g, 0, none⟩), .slice Ao16 y336.length co16] ?_; (with_reducible refine (spec_l1Int.calls g s0_0 s0_1 s0_2 _ _ y336 t339 t340 t341 w0 _ ?side1 ?side2 ?side3 ?side4 ?side5 A3.out).mono ?_); (case side1 => exact zI2 HI0.out NB0_324.out NB0_335.out); (case side2 => exact zL3 HB.out (IsS98.ge HI0.out) GE324.out GE335.out); (case side3 => exact zC (Kd.R_reads' HO338.out).2.2); (case side4 => exact (Kd.R_reads' HO338.out).2.1); (case side5 => exact far_slice (IsS98.own_ne HI0.out HO338.out (by decide))); rintro e w17 ⟨rfl, hi, hb, hk⟩; refine ⟨_, rfl, ?_⟩; replace BK324 := zBK hk BK324 NB324_0; replace HO328 := aM (Kd.S_mono (Kd.S_keep (IsS98.apartS (show IsS98 w0 _ g s0_0 s0_1 s0_2 from zI2 HI0.out NB0_324.out NB0_335.out) (zS HO328.out) (by decide)) hk (fun _ h => h.2)) (fun _ h => h.1)); replace HO331 := aM (Kd.S_mono (Kd.S_keep (IsS98.apartS (show IsS98 w0 _ g s0_0 s0_1 s0_2 from zI2 HI0.out NB0_324.out NB0_335.out) (zS HO331.out) (by decide)) hk (fun _ h => h.2)) (fun _ h => h.1)); replace HO334 := aM (Kd.R_mono (Kd.R_keep (IsS98.apart (show IsS98 w0 _ g s0_0 s0_1 s0_2 from zI2 HI0.out NB0_324.out NB0_335.out) (zR HO334.out) (by decide)) hk (fun _ h => h.2)) (fun _ h => h.1)); replace BK335 := zBK hk BK335 NB335_0; replace HO338 := aM (Kd.R_mono (Kd.R_keep (IsS98.apart (show IsS98 w0 _ g s0_0 s0_1 s0_2 from zI2 HI0.out NB0_324.out NB0_335.out) (zR HO338.out) (by decide)) hk (fun _ h => h.2)) (fun _ h => h.1)); replace HK := zKK (zK2 HK.out GW324.out GW335.out) hk; replace HB := aM hb; replace HI0 := aM hi; clear hi hb hk; have hcz18 := zc4 BK335.out; have hfz18 := zf4 BK335.out) | ((with_reducible refine gC 83 rfl ?_); refine gL 11 Try.func83 #[.pointer (some ⟨g, 0, none⟩), .int .i64 7] ?_; (with_reducible refine (spec_l1Below.calls g s0_0 t340 t341 7 t342 t343 t344 w0 _ ?side1 ?side2 A4.out).mono ?_); (case side1 => exact zI2 HI0.out NB0_324.out NB0_335.out); (case side2 => exact zL3 HB.out (IsS98.ge HI0.out) GE324.out GE335.out); rintro e w19 ⟨rfl, hi, hb, hk⟩; refine ⟨_, rfl, ?_⟩; replace BK324 := aM (zQ2 (.cells #[.int .i64 0, .slice none 0 0, .slice none 0 0, .slice none 0 0] 25 (0, 0)) hk (by (with_reducible repeat (first | refine bN ?_ _ | refine bD ?_ | refine bA ?_ _)); refine blk_far ?_ NB324_335.out _; exact zB BK324.out) NB324_0.out (by simp)); replace HO328 := aM (Kd.S_mono (Kd.S_keep (IsS98.apartS (show IsS98 w0 _ g s0_0 t340 t341 from zI2 HI0.out NB0_324.out NB0_335.out) (by (with_reducible repeat (first | apply Kd.S_alloc | apply Kd.S_drewN | apply Kd.S_drew)); exact (Kd.S_mono (Kd.S_far (p := ⟨gb335, 0, none⟩) (Kd.S_types HO328.out BK335.out (by decide)) (fun _ hk => hk.2) (.int .i64 t339)) (fun _ h_ => h_.1))) (by decide)) hk (fun _ h => h.2)) (fun _ h => h.1)); replace HO331 := aM (Kd.S_mono (Kd.S_keep (IsS98.apartS (show IsS98 w0 _ g s0_0 t340 t341 from zI2 HI0.out NB0_324.out NB0_335.out) (by (with_reducible repeat (first | apply Kd.S_alloc | apply Kd.S_drewN | apply Kd.S_drew)); exact (Kd.S_mono (Kd.S_far (p := ⟨gb335, 0, none⟩) (Kd.S_types HO331.out BK335.out (by decide)) (fun _ hk => hk.2) (.int .i64 t339)) (fun _ h_ => h_.1))) (by decide)) hk (fun _ h => h.2)) (fun _ h => h.1)); replace HO334 := aM (Kd.R_mono (Kd.R_keep (IsS98.apart (show IsS98 w0 _ g s0_0 t340 t341 from zI2 HI0.out NB0_324.out NB0_335.out) (by (with_reducible repeat (first | apply Kd.R_alloc | apply Kd.R_drewN | apply Kd.R_drew)); exact (Kd.R_mono (Kd.R_far (p := ⟨gb335, 0, none⟩) (Kd.R_types HO334.out BK335.out (by decide)) (fun _ hk => hk.2) (.int .i64 t339)) (fun _ h_ => h_.1))) (by decide)) hk (fun _ h => h.2)) (fun _ h => h.1)); replace HO338 := aM (Kd.R_mono (Kd.R_keep (IsS98.apart (show IsS98 w0 _ g s0_0 t340 t341 from zI2 HI0.out NB0_324.out NB0_335.out) (by (with_reducible repeat (first | apply Kd.R_alloc | apply Kd.R_drewN | apply Kd.R_drew)); exact (Kd.R_mono (Kd.R_far (p := ⟨gb335, 0, none⟩) (Kd.R_types HO338.out BK335.out (by decide)) (fun _ hk => hk.2) (.int .i64 t339)) (fun _ h_ => h_.1))) (by decide)) hk (fun _ h => h.2)) (fun _ h => h.1)); replace BK335 := aM (zQ2 (.cells #[.int .i64 t339, .slice Ao11 t326.length co11, .slice Ao12 t329.length co12, .slice Ao13 t332.length co13] 25 (0, 0)) hk (by (with_reducible repeat (first | refine bN ?_ _ | refine bD ?_ | refine bA ?_ _)); refine blk_put (cs := #[.int .i64 t325, .slice Ao11 t326.length co11, .slice Ao12 t329.length co12, .slice Ao13 t332.length co13]) ?_ 0 _ rfl; exact zB BK335.out) NB335_0.out (by simp)); replace HK := zKK (zK2 HK.out GW324.out GW335.out) hk; replace HB := aM hb; replace HI0 := aM hi; clear hi hb hk))
 go_loopg [4] k (fun kq v4 w' => ∃ (x4_1 : Int) (x1001_1 : Int) (x1002_1 : Int) (x336000_1 : Int) (x336001_1 : List (List (S46))) (x336002_1 : List (List (S46))) (x336003_1 : List (S46)) (u336001 : Value) (u336002 : Value) (u336003 : Value), v4 = .int .i64 x4_1 ∧ Aside0 (spec_l8Draw.l0 kq x4_1 s0_0 x1001_1 x1002_1 x336000_1 x336001_1 x336002_1 x336003_1 = some (r1, r2, r3, r4, r5, r6)) ∧ Aside0 (kq ≤ k) ∧ Aside0 (Kd.S (Kd.slice 46 k46) 23 w' w.heap.size (fun k_ => some k_ ≠ (u336002 : Value).ownBlock ∧ some k_ ≠ (u336003 : Value).ownBlock) u336001 x336001_1) ∧ Aside0 (Kd.S (Kd.slice 46 k46) 23 w' w.heap.size (fun k_ => some k_ ≠ (u336001 : Value).ownBlock ∧ some k_ ≠ (u336003 : Value).ownBlock) u336002 x336002_1) ∧ Aside0 (Kd.R k46 46 w' w.heap.size (fun _ => True) u336003 x336003_1) ∧ Aside0 (w'.heap[gb324]? = some (.cells #[.int .i64 0, (.slice none 0 0), (.slice none 0 0), (.slice none 0 0)] 25 (0, 0))) ∧ Aside0 (w'.heap[gb335]? = some (.cells #[.int .i64 x336000_1, u336001, u336002, u336003] 25 (0, 0))) ∧ Aside0 (IsS98 w0 w' g s0_0 x1001_1 x1002_1) ∧ Aside0 (KeepBut w w' g none) ∧ Aside0 (Below w0.heap.size w0 w'))
 case atStart => exact ⟨(t342), (t343), (t344), (t339), (t326), (t329), (t332), (.slice Ao11 t326.length co11), (.slice Ao12 t329.length co12), (.slice Ao13 t332.length co13), zV, H', ⟨Nat.le_refl _⟩, ⟨zS HO328.out⟩, ⟨zS HO331.out⟩, ⟨zR HO334.out⟩, ⟨zB BK324.out⟩, ⟨zB BK335.out⟩, ⟨zI2 HI0.out NB0_324.out NB0_335.out⟩, ⟨zK2 HK.out GW324.out GW335.out⟩, ⟨zL3 HB.out (IsS98.ge HI0.out) GE324.out GE335.out⟩⟩
 case round =>
  clear H'
  try clear c1
  try clear p2
  try clear c8
  try clear c9
  try clear c15
  try clear hcz10; try clear hcz18; try clear hfz10; try clear hfz18
  try clear BK324; try clear BK335
  obtain ⟨x4_1, x1001_1, x1002_1, x336000_1, x336001_1, x336002_1, x336003_1, u336001, u336002, u336003, rfl, HA, HK1, HO_336001, HO_336002, HO_336003, BK324, BK335, HI0, HK, HB⟩ := hrel
  cases gk with
  | zero => exact absurd HA.out (by simp [spec_l8Draw.l0])
  | succ k1 =>
   have H := HA.out
   clear HA
   simp only [spec_l8Draw.l0] at H
   by_cases c20 : x4_1 > 0
   ·rw [if_pos c20] at H
    have c20b0 := dT c20
    clear c20
    obtain ⟨⟨t345, t346, t347, t348, t349⟩, A21, H⟩ := zO H; try dsimp only at H
    obtain ⟨⟨t350, t351, t354, t357, t360⟩, A22, H⟩ := zO H; try dsimp only at H
    have H' := aM H
    clear H
    try go_wp2
    replace HO_336001 := zSD HO_336001; replace HO_336002 := zSD HO_336002; replace HO_336003 := zRD HO_336003; replace BK324 := zBD BK324; replace BK335 := zBD BK335; replace HI0 := aM (IsS98.drew HI0.out); replace HK := aM (keep_drew HK.out); replace HB := zLD HB
    refine start_ (n := 11) (S := fun w' => zs4 w' gb335 (.int .i64 x336000_1) (u336001) (u336002) (u336003)) (ds := [10]) (fB 11 0) (by kernel_rfl) rfl rfl (zc4 BK335.out) (fun hHeld => ?_); refine with_tabW spec_l8Draw.tab6 spec_l8Draw.bits6 (fun HT_ HW_ => ?_)
    generalize wr.drew = w23 at HO_336001 HO_336002 HO_336003 BK324 BK335 HI0 HK HB hHeld ⊢
    refine pY 1 18 (fB 11 2) HT_.out ?_
    refine pY 2 19 (fB 11 6) HT_.out ?_
    refine pY 4 21 (fB 11 22) HT_.out ?_
    refine tY 0 17 (fB 11 23) HT_.out HW_.out hHeld ?_
    refine tY 3 20 (fB 11 31) HT_.out HW_.out hHeld ?_
    refine oN 5 22 (fB 11 63) HT_.out fun K hK => ?_
    refine gS Try.func82 #[.pointer (some ⟨g, 0, none⟩), .int .i64 x336000_1, .int .i64 x4_1] ?_
    with_reducible refine (spec_l8Timer.calls g s0_0 x1001_1 x1002_1 x336000_1 x4_1 t345 t346 t347 t348 t349 w0 _ ?side1 ?side2 A21.out).mono ?_
    (case side1 => exact zI2 HI0.out NB0_324.out NB0_335.out)
    (case side2 => exact zL3 HB.out (IsS98.ge HI0.out) GE324.out GE335.out)
    rintro e w24 ⟨rfl, hi, hb, hk⟩
    refine ⟨_, rfl, ?_⟩
    replace HO_336001 := aM (Kd.S_mono (Kd.S_keep (IsS98.apartS (show IsS98 w0 _ g s0_0 x1001_1 x1002_1 from zI2 HI0.out NB0_324.out NB0_335.out) (zS HO_336001.out) (by decide)) hk (fun _ h => h.2)) (fun _ h => h.1)); replace HO_336002 := aM (Kd.S_mono (Kd.S_keep (IsS98.apartS (show IsS98 w0 _ g s0_0 x1001_1 x1002_1 from zI2 HI0.out NB0_324.out NB0_335.out) (zS HO_336002.out) (by decide)) hk (fun _ h => h.2)) (fun _ h => h.1)); replace HO_336003 := aM (Kd.R_mono (Kd.R_keep (IsS98.apart (show IsS98 w0 _ g s0_0 x1001_1 x1002_1 from zI2 HI0.out NB0_324.out NB0_335.out) (zR HO_336003.out) (by decide)) hk (fun _ h => h.2)) (fun _ h => h.1)); replace BK324 := zBK hk BK324 NB324_0; replace BK335 := zBK hk BK335 NB335_0; replace HK := zKK (zK2 HK.out GW324.out GW335.out) hk; replace HB := aM hb; replace HI0 := aM hi
    clear hi hb hk
    obtain ⟨Ao25, co25, eo25⟩ := Kd.S_slice HO_336001.out
    (first | subst eo25 | (injection eo25 with f1_ f2_ f3_; have f4_ := f1_.symm; have f5_ := f3_.symm; clear f1_ f2_ f3_; subst f4_; subst f5_))
    obtain ⟨Ao26, co26, eo26⟩ := Kd.S_slice HO_336002.out
    (first | subst eo26 | (injection eo26 with f1_ f2_ f3_; have f4_ := f1_.symm; have f5_ := f3_.symm; clear f1_ f2_ f3_; subst f4_; subst f5_))
    obtain ⟨Ao27, co27, eo27⟩ := Kd.R_slice HO_336003.out
    (first | subst eo27 | (injection eo27 with f1_ f2_ f3_; have f4_ := f1_.symm; have f5_ := f3_.symm; clear f1_ f2_ f3_; subst f4_; subst f5_))
    refine hK.out _ _ (zc4 BK335.out) fun hHeld => ?_; clear hK K
    refine nZ 22 ?_
    refine oN 6 23 (fB 11 127) HT_.out fun K hK => ?_
    refine gS Try.func31 #[.agg #[.int .i64 x336000_1, .slice Ao25 x336001_1.length co25, .slice Ao26 x336002_1.length co26, .slice Ao27 x336003_1.length co27], .agg #[.int .i64 t345, .int .i64 t346, .int .i64 t347]] ?_
    with_reducible refine (spec_Put.calls k1 x336000_1 _ _ x336001_1 _ _ x336002_1 _ _ x336003_1 t345 t346 t347 t350 t351 t354 t357 t360 _ ?side1 ?side2 ?side3 ?side4 ?side5 ?side6 A22.out).mono ?_
    (case side1 => exact zC (Kd.S_reads' HO_336001.out).2.2)
    (case side2 => exact (Kd.S_reads' HO_336001.out).2.1)
    (case side3 => exact zC (Kd.S_reads' HO_336002.out).2.2)
    (case side4 => exact (Kd.S_reads' HO_336002.out).2.1)
    (case side5 => exact zC (Kd.R_reads' HO_336003.out).2.2)
    (case side6 => exact (Kd.R_reads' HO_336003.out).2.1)
    rintro e w28 ⟨v352, v355, v358, rfl, ho0, ho1, ho2, hb⟩
    refine ⟨_, rfl, ?_⟩
    have HO353 := aM (Kd.S_lower (Kd.S_new' (Kd.S_new' (Kd.S_new' ho0 (Kd.S_lt (zS HO_336001.out))) (Kd.S_lt (zS HO_336002.out))) (Kd.R_lt (zR HO_336003.out))) (keep_size (w := w) (g := g) (row := none) (zK2 HK.out GW324.out GW335.out))); have HO356 := aM (Kd.S_lower (Kd.S_new' (Kd.S_new' (Kd.S_new' ho1 (Kd.S_lt (zS HO_336001.out))) (Kd.S_lt (zS HO_336002.out))) (Kd.R_lt (zR HO_336003.out))) (keep_size (w := w) (g := g) (row := none) (zK2 HK.out GW324.out GW335.out))); replace HO_336001 := aM (Kd.S_mono (Kd.S_told (Kd.S_told (Kd.S_told (Kd.S_old (zS HO_336001.out) hb) (Kd.S_base ho0)) (Kd.S_base ho1)) (Kd.R_base ho2)) (fun _ h_ => h_.1)); replace HO_336002 := aM (Kd.S_mono (Kd.S_told (Kd.S_told (Kd.S_told (Kd.S_old (zS HO_336002.out) hb) (Kd.S_base ho0)) (Kd.S_base ho1)) (Kd.R_base ho2)) (fun _ h_ => h_.1)); have HO359 := aM (Kd.R_lower (Kd.R_new' ho2 (Kd.R_lt (zR HO_336003.out))) (keep_size (w := w) (g := g) (row := none) (zK2 HK.out GW324.out GW335.out))); replace HO_336003 := aM (Kd.R_elder' (zR HO_336003.out) (Kd.R_base ho2) hb); replace BK324 := zBB BK324 hb; replace BK335 := zBB BK335 hb; replace HK := zKB g (zK2 HK.out GW324.out GW335.out) hb; replace HB := zLB (zL3 HB.out (IsS98.ge HI0.out) GE324.out GE335.out) hb; replace HI0 := aM (IsS98.below (zI2 HI0.out NB0_324.out NB0_335.out) hb)
    clear ho0 hb
    (try clear ho0)
    (try clear ho1)
    (try clear ho2)
    obtain ⟨Ao30, co30, eo30⟩ := Kd.S_slice HO353.out
    (first | subst eo30 | (injection eo30 with f1_ f2_ f3_; have f4_ := f1_.symm; have f5_ := f3_.symm; clear f1_ f2_ f3_; subst f4_; subst f5_))
    obtain ⟨Ao32, co32, eo32⟩ := Kd.S_slice HO356.out
    (first | subst eo32 | (injection eo32 with f1_ f2_ f3_; have f4_ := f1_.symm; have f5_ := f3_.symm; clear f1_ f2_ f3_; subst f4_; subst f5_))
    obtain ⟨Ao34, co34, eo34⟩ := Kd.R_slice HO359.out
    (first | subst eo34 | (injection eo34 with f1_ f2_ f3_; have f4_ := f1_.symm; have f5_ := f3_.symm; clear f1_ f2_ f3_; subst f4_; subst f5_))
    refine hK.out _ _ (zc4 BK335.out) fun hHeld => ?_; clear hK K
    refine nZ 23 ?_
    refine pY 7 16 (fB 11 255) HT_.out ?_
    refine pY 8 24 (fB 11 511) HT_.out ?_
    refine pY 9 25 (fB 11 1023) HT_.out ?_
    refine last_ (i := 10) (N := none) #[true, true, true, true, true, true, true, true, true, true, true] rfl rfl (one_of HT_.out (by kernel_rfl)) (by decide) (fun K hK => ?_)
    have hs29 : w28.cell? ⟨gb335, 0, none⟩ = some (.int .i64 x336000_1) := (bC BK335.out 0).trans rfl
    have hfs29 := blk_frozen BK335.out 0
    have hns29_0 := NB324_335.out
    have hms29_0 := NB335_324.out
    have hs31 : w28.cell? ⟨gb335, 1, none⟩ = some (.slice Ao25 x336001_1.length co25) := (bC BK335.out 1).trans rfl
    have hfs31 := blk_frozen BK335.out 1
    have hns31_0 := NB324_335.out
    have hms31_0 := NB335_324.out
    have hs33 : w28.cell? ⟨gb335, 2, none⟩ = some (.slice Ao26 x336002_1.length co26) := (bC BK335.out 2).trans rfl
    have hfs33 := blk_frozen BK335.out 2
    have hns33_0 := NB324_335.out
    have hms33_0 := NB335_324.out
    have hs35 : w28.cell? ⟨gb335, 3, none⟩ = some (.slice Ao27 x336003_1.length co27) := (bC BK335.out 3).trans rfl
    have hfs35 := blk_frozen BK335.out 3
    have hns35_0 := NB324_335.out
    have hms35_0 := NB335_324.out
    refine skip_ (w1 := ?_) (by rfl) rfl ?_ ?_
    rotate_left
    ·go_simp
     rfl
    refine hK.out _ _ ?_
    clear hK K
    refine done_ (done_of HT_.out (by kernel_rfl)) ?_
    try go_wp2
    go_roundg k1
    case measure => have := HK1.out; omega
    case rel => exact ⟨(wrap64 (x4_1 - 1)), (t348), (t349), (t350), (t351), (t354), (t357), (.slice Ao30 t351.length co30), (.slice Ao32 t354.length co32), (.slice Ao34 t357.length co34), zV, H', ⟨by have := HK1.out; omega⟩, ⟨by (with_reducible repeat (first | apply Kd.S_alloc | apply Kd.S_drewN | apply Kd.S_drew)); exact Kd.S_mono (zSF4 (Kd.S_types HO353.out BK335.out (by decide)) gb335 (fun _ hk => hk.2) (.int .i64 t350) (.slice Ao30 t351.length co30) (.slice Ao32 t354.length co32) (.slice Ao34 t357.length co34)) (fun _ hk => ⟨hk.1.1.1.1.1, hk.1.1.1.1.2⟩)⟩, ⟨by (with_reducible repeat (first | apply Kd.S_alloc | apply Kd.S_drewN | apply Kd.S_drew)); exact Kd.S_mono (zSF4 (Kd.S_types HO356.out BK335.out (by decide)) gb335 (fun _ hk => hk.2) (.int .i64 t350) (.slice Ao30 t351.length co30) (.slice Ao32 t354.length co32) (.slice Ao34 t357.length co34)) (fun _ hk => ⟨hk.1.1.1.1.1, hk.1.1.1.1.2⟩)⟩, ⟨by (with_reducible repeat (first | apply Kd.R_alloc | apply Kd.R_drewN | apply Kd.R_drew)); exact Kd.R_mono (zRF4 (Kd.R_types HO359.out BK335.out (by decide)) gb335 (fun _ hk => hk.2) (.int .i64 t350) (.slice Ao30 t351.length co30) (.slice Ao32 t354.length co32) (.slice Ao34 t357.length co34)) (fun _ hk => trivial)⟩, ⟨by refine zB ?_; refine zr4 ?_ NB324_335.out; exact zB BK324.out⟩, ⟨by refine zB ?_; refine zp4 (cs := #[.int .i64 x336000_1, .slice Ao25 x336001_1.length co25, .slice Ao26 x336002_1.length co26, .slice Ao27 x336003_1.length co27]) ?_; exact zB BK335.out⟩, ⟨zI2 HI0.out NB0_324.out NB0_335.out⟩, ⟨zK2 HK.out GW324.out GW335.out⟩, ⟨zL3 HB.out (IsS98.ge HI0.out) GE324.out GE335.out⟩⟩
   ·rw [if_neg c20] at H
    have c20b0 := dF c20
    clear c20
    simp only [Option.some.injEq, Prod.mk.injEq] at H
    obtain ⟨rfl, rfl, rfl, rfl, rfl, rfl⟩ := H
    have hnb36 := NB335_324.out
    have hnc36 := NB324_335.out
    have hnb37 := NB335_0.out
    have hnc37 := NB0_335.out
    have hcz38 := zc4 BK335.out
    have hfz38 := zf4 BK335.out
    have hnb39 := NB324_0.out
    have hnc39 := NB0_324.out
    have hcz40 := zc4 BK324.out
    have hfz40 := zf4 BK324.out
    obtain ⟨Ao41, co41, eo41⟩ := Kd.S_slice HO_336001.out
    subst eo41
    obtain ⟨Ao42, co42, eo42⟩ := Kd.S_slice HO_336002.out
    subst eo42
    obtain ⟨Ao43, co43, eo43⟩ := Kd.R_slice HO_336003.out
    subst eo43
    go_wp2
    refine bodyPost_ret (results_cell_row rfl _ _ gb324 25 #[.int .i64 x336000_1, .slice Ao41 x336001_1.length co41, .slice Ao42 x336002_1.length co42, .slice Ao43 x336003_1.length co43] (0, 0) _ rfl (by refine zB ?_; refine zp4 (cs := #[.int .i64 0, .slice none 0 0, .slice none 0 0, .slice none 0 0]) ?_; exact zB BK324.out) Try.underlying25 rfl (by kernel_rfl)) rfl ?_
    exact ⟨_, _, _, zW, by (with_reducible repeat (first | apply Kd.S_alloc | apply Kd.S_drewN | apply Kd.S_drew)); exact Kd.S_mono (zSF4 (Kd.S_types HO_336001.out BK324.out (by decide)) gb324 (fun _ hk => hk.2) (.int .i64 x336000_1) (.slice Ao41 x336001_1.length co41) (.slice Ao42 x336002_1.length co42) (.slice Ao43 x336003_1.length co43)) (fun _ hk => ⟨hk.1.1, hk.1.2⟩), by (with_reducible repeat (first | apply Kd.S_alloc | apply Kd.S_drewN | apply Kd.S_drew)); exact Kd.S_mono (zSF4 (Kd.S_types HO_336002.out BK324.out (by decide)) gb324 (fun _ hk => hk.2) (.int .i64 x336000_1) (.slice Ao41 x336001_1.length co41) (.slice Ao42 x336002_1.length co42) (.slice Ao43 x336003_1.length co43)) (fun _ hk => ⟨hk.1.1, hk.1.2⟩), by (with_reducible repeat (first | apply Kd.R_alloc | apply Kd.R_drewN | apply Kd.R_drew)); exact Kd.R_mono (zRF4 (Kd.R_types HO_336003.out BK324.out (by decide)) gb324 (fun _ hk => hk.2) (.int .i64 x336000_1) (.slice Ao41 x336001_1.length co41) (.slice Ao42 x336002_1.length co42) (.slice Ao43 x336003_1.length co43)) (fun _ hk => trivial), zI2 HI0.out NB0_324.out NB0_335.out, zL3 HB.out (IsS98.ge HI0.out) GE324.out GE335.out, zK2 HK.out GW324.out GW335.out⟩

open Go.Proofs.YtggenhomnbnodaaW.PrintWords renaming blk_drewN → bN, blk_drew → bD, blk_alloc → bA, blk_cell → bC, blk_below → bB, below_set → bS
def spec_l8Any.f (k : Nat) (s0_0 : List Int) (s0_1 : Int) (s0_2 : Int) : Option (Int × (List (List (S46))) × (List (List (S46))) × (List (S46)) × Int × Int) := (spec_l8Draw.f k s0_0 s0_1 s0_2).bind fun bt362 => ((spec_l1Below.f s0_0 bt362.2.2.2.2.1 bt362.2.2.2.2.2 12).bind fun bt375 => (if bt375.1 = 0 then ((spec_l1Int.f s0_0 bt375.2.1 bt375.2.2 (([(-1), 1, 8] : List Int))).bind fun bt381 => (some (wrap64 (bt362.1 + bt381.1), bt362.2.1, bt362.2.2.1, bt362.2.2.2.1, bt381.2.1, bt381.2.2))) else (if bt375.1 = 1 then ((spec_l1Below.f s0_0 bt375.2.1 bt375.2.2 8).bind fun bt384 => ((spec_l8Timer.f s0_0 bt384.2.1 bt384.2.2 bt362.1 9).bind fun bt387 => (if 0 ≤ bt384.1 then (if bt384.1 < (bt362.2.1.length : Int) then (some (bt362.1, (bt362.2.1.set (bt384.1 : Int).toNat (([(⟨bt387.1, bt387.2.1, bt387.2.2.1⟩ : S46)] : List (S46)))), bt362.2.2.1, bt362.2.2.2.1, bt387.2.2.2.1, bt387.2.2.2.2)) else (none)) else (none)))) else (if bt375.1 = 2 then ((spec_l1Below.f s0_0 bt375.2.1 bt375.2.2 8).bind fun bt396 => ((spec_l8Timer.f s0_0 bt396.2.1 bt396.2.2 bt362.1 9).bind fun bt399 => (if 0 ≤ bt396.1 then (if bt396.1 < (bt362.2.2.1.length : Int) then (some (bt362.1, bt362.2.1, (bt362.2.2.1.set (bt396.1 : Int).toNat (([(⟨bt399.1, bt399.2.1, bt399.2.2.1⟩ : S46)] : List (S46)))), bt362.2.2.2.1, bt399.2.2.2.1, bt399.2.2.2.2)) else (none)) else (none)))) else (if bt375.1 = 3 then ((spec_l1Int.f s0_0 bt375.2.1 bt375.2.2 (([0, 1, 9] : List Int))).bind fun bt411 => ((spec_l8Timer.f s0_0 bt411.2.1 bt411.2.2 bt362.1 bt411.1).bind fun bt414 => (if bt362.2.2.2.1.length < 5864062014805 then (some (bt362.1, bt362.2.1, bt362.2.2.1, (bt362.2.2.2.1 ++ [(⟨bt414.1, bt414.2.1, bt414.2.2.1⟩ : S46)]), bt414.2.2.2.1, bt414.2.2.2.2)) else (none)))) else (if bt375.1 = 4 then (if 7 ≤ (bt362.2.1.length : Int) then (some (bt362.1, (bt362.2.1.take (7 : Int).toNat), bt362.2.2.1, bt362.2.2.2.1, bt375.2.1, bt375.2.2)) else (none)) else (some (bt362.1, bt362.2.1, bt362.2.2.1, bt362.2.2.2.1, bt375.2.1, bt375.2.2))))))))
def spec_l8Any.T4 : Bool × List (List Nat × List Nat) := (true, [([], []), ([0], [0]), ([], []), ([], []), ([2, 3], [2, 3]), ([1, 4], [1, 4]), ([0, 1, 2, 3, 4, 5], []), ([6, 5, 4, 0, 1, 2, 3, 4, 5], [5, 6])])
def spec_l8Any.B4 : List Nat := [0, 1, 0, 0, 12, 31, 63, 127]
theorem spec_l8Any.tab4 : rtab .any (opsOf Try.f81 4) = spec_l8Any.T4 := by kernel_rfl
theorem spec_l8Any.bits4 : waitsOk spec_l8Any.T4.2 spec_l8Any.B4 = true := by kernel_rfl
def spec_l8Any.T6 : Bool × List (List Nat × List Nat) := (true, [([], []), ([0], [0]), ([], []), ([2], [2]), ([], []), ([], []), ([5], [5]), ([4, 6, 3], [4, 6]), ([7], [7]), ([1, 3, 0, 1, 2, 3, 4, 5, 6, 7, 8], [1, 3]), ([9, 8, 7, 0, 1, 2, 3, 4, 5, 6, 7, 8], [8, 9])])
def spec_l8Any.B6 : List Nat := [0, 1, 0, 4, 0, 0, 32, 124, 252, 511, 1023]
theorem spec_l8Any.tab6 : rtab .any (opsOf Try.f81 6) = spec_l8Any.T6 := by kernel_rfl
theorem spec_l8Any.bits6 : waitsOk spec_l8Any.T6.2 spec_l8Any.B6 = true := by kernel_rfl
def spec_l8Any.T8 : Bool × List (List Nat × List Nat) := (true, [([], []), ([0], [0]), ([], []), ([2], [2]), ([], []), ([], []), ([5], [5]), ([4, 6, 3], [4, 6]), ([7], [7]), ([1, 3, 0, 1, 2, 3, 4, 5, 6, 7, 8], [1, 3]), ([9, 8, 7, 0, 1, 2, 3, 4, 5, 6, 7, 8], [8, 9])])
def spec_l8Any.B8 : List Nat := [0, 1, 0, 4, 0, 0, 32, 124, 252, 511, 1023]
theorem spec_l8Any.tab8 : rtab .any (opsOf Try.f81 8) = spec_l8Any.T8 := by kernel_rfl
theorem spec_l8Any.bits8 : waitsOk spec_l8Any.T8.2 spec_l8Any.B8 = true := by kernel_rfl
def spec_l8Any.T10 : Bool × List (List Nat × List Nat) := (true, [([], []), ([0], [0]), ([], []), ([], []), ([3], [3]), ([], []), ([], []), ([5, 6], [5, 6]), ([2, 4, 7, 7], [2, 4, 7]), ([8], [8]), ([1, 9, 8], [1, 9]), ([0, 1, 2, 3, 4, 5, 6, 7, 8, 9, 10], []), ([11, 10, 10, 0, 1, 2, 3, 4, 5, 6, 7, 8, 9, 10], [10, 11])])
def spec_l8Any.B10 : List Nat := [0, 1, 0, 0, 8, 0, 0, 96, 252, 508, 1023, 2047, 4095]
theorem spec_l8Any.tab10 : rtab .any (opsOf Try.f81 10) = spec_l8Any.T10 := by kernel_rfl
theorem spec_l8Any.bits10 : waitsOk spec_l8Any.T10.2 spec_l8Any.B10 = true := by kernel_rfl
theorem fk13_of {w : World} {base : Nat} {ok : Nat → Prop} {v : Value} {l : List S46} (h : Kd.R k46 46 w base ok v l) : (Kd.slice 46 k46).FK w ok l [v] := by
 obtain ⟨A, c, rfl⟩ := Kd.R_slice h
 exact Kd.FK_slice_mk (Kd.R_reads' h).2.1 (Kd.R_F h)
theorem fk13_ofo {x n m : Nat} {A : Option Addr} {c d : Nat} (h : some x ≠ (Value.slice A n c).ownBlock) : some x ≠ (Value.slice A m d).ownBlock := by cases A <;> exact h
set_option maxHeartbeats 8000000 in
set_option maxRecDepth 100000 in
theorem spec_l8Any.calls (k : Nat) (g : Nat) (s0_0 : List Int) (s0_1 : Int) (s0_2 : Int) (r1 : Int) (r2 : List (List (S46))) (r3 : List (List (S46))) (r4 : List (S46)) (r5 : Int) (r6 : Int) (w0 w : World) (hI : IsS98 w0 w g s0_0 s0_1 s0_2) (hB : Below w0.heap.size w0 w) (h : spec_l8Any.f k s0_0 s0_1 s0_2 = some (r1, r2, r3, r4, r5, r6)) :
  Calls Try.prog 81 #[.pointer (some ⟨g, 0, none⟩)] w fun e w' => ∃ v1_ v2_ v3_ : Value, e = .returned (.agg #[.int .i64 r1, v1_, v2_, v3_]) ∧ Kd.N (Kd.slice 46 k46) 23 w' w.heap.size (fun k_ => (w.heap.size ≤ k_) ∧ some k_ ≠ (v2_ : Value).ownBlock ∧ some k_ ≠ (v3_ : Value).ownBlock) v1_ r2 ∧ Kd.N (Kd.slice 46 k46) 23 w' w.heap.size (fun k_ => (w.heap.size ≤ k_) ∧ some k_ ≠ (v1_ : Value).ownBlock ∧ some k_ ≠ (v3_ : Value).ownBlock) v2_ r3 ∧ Kd.R k46 46 w' w.heap.size (fun k_ => (w.heap.size ≤ k_)) v3_ r4 ∧ IsS98 w0 w' g s0_0 r5 r6 ∧ Below w0.heap.size w0 w' ∧ KeepBut w w' g none := by
 have hu25 := Try.underlying25
 have HI0 := aM hI
 have HK := aM (KeepBut.refl w g none)
 have HL := aM hB.size
 clear hI
 have HW0 := aM hB.size
 have HB := aM hB
 clear hB
 unfold spec_l8Any.f at h; have H := h
 clear h
 obtain ⟨⟨t362, t363, t366, t369, t372, t373⟩, A2, H⟩ := zO H; try dsimp only at H
 obtain ⟨⟨t375, t376, t377⟩, A3, H⟩ := zO H; try dsimp only at H
 by_cases c4 : t375 = 0
 ·rw [if_pos c4] at H
  obtain ⟨c4b0, c4b1⟩ := zt c4
  clear c4
  generalize hy378 : (([(-1), 1, 8] : List Int)) = y378 at H; (try rw [Option.bind_some] at H); have Ny378 := aM hy378.symm; clear hy378
  obtain ⟨⟨t381, t382, t383⟩, A5, H⟩ := zO H; try dsimp only at H
  simp only [Option.some.injEq, Prod.mk.injEq] at H
  obtain ⟨rfl, rfl, rfl, rfl, rfl, rfl⟩ := H
  go_enter Try.func81, Try.ntmps81
  try go_wp2_with (first | ((with_reducible refine gD 2 rfl ?_); refine bE 2 #[.int .i64 0, .slice none 0 0, .slice none 0 0, .slice none 0 0] 25 ?_; intro gb361 hg w6 hbox hb; replace HB := zLB (zL1 HB.out (IsS98.ge HI0.out)) hb; have BK361 := aM hbox; have GW361 := aM (zgK (g := g) (zK HK.out) hg : w.heap.size ≤ gb361); have GE361 := aM ((Nat.le_trans HW0.out (zgK (g := g) (zK HK.out) hg : w.heap.size ≤ gb361) : w0.heap.size ≤ gb361)); replace HK := zKB g (zK HK.out) hb; have NB0_361 := aM ((zNI (IsS98.lt (zI HI0.out : IsS98 w0 _ g s0_0 s0_1 s0_2)) hg : g ≠ gb361)); have NB361_0 := aM ((zMI (IsS98.lt (zI HI0.out : IsS98 w0 _ g s0_0 s0_1 s0_2)) hg : gb361 ≠ g)); replace HI0 := aM (IsS98.below (zI HI0.out) hb); clear hb hbox hg) | ((with_reducible refine gC 86 rfl ?_); refine gL 5 Try.func86 #[.pointer (some ⟨g, 0, none⟩)] ?_; (with_reducible refine (spec_l8Draw.calls k g s0_0 s0_1 s0_2 t362 t363 t366 t369 t372 t373 w0 _ ?side1 ?side2 A2.out).mono ?_); (case side1 => exact zI1 HI0.out NB0_361.out); (case side2 => exact zL2 HB.out (IsS98.ge HI0.out) GE361.out); rintro e w7 ⟨v364, v367, v370, rfl, ho0, ho1, ho2, hi, hb, hk⟩; refine ⟨_, rfl, ?_⟩; have HO365 := aM (Kd.N_lower (Kd.N_mono (ok' := fun k_ => (w.heap.size ≤ k_) ∧ some k_ ≠ (v367 : Value).ownBlock ∧ some k_ ≠ (v370 : Value).ownBlock ∧ k_ ≠ gb361 ∧ k_ ≠ g) (Kd.S_N (Kd.S_bound ho0)) (fun k_ hk_ => ⟨(Nat.le_trans (keep_size (w := w) (g := g) (row := none) (zK1 HK.out GW361.out)) hk_.2.1), hk_.1.1, hk_.1.2, (Kd.freshB (g := gb361) (o := .cells #[.int .i64 0, .slice none 0 0, .slice none 0 0, .slice none 0 0] 25 (0, 0)) (zB BK361.out) k_ hk_.2.1), (IsS98.fresh (zI1 HI0.out NB0_361.out) k_ hk_.2.1)⟩)) (keep_size (w := w) (g := g) (row := none) (zK1 HK.out GW361.out))); have HO368 := aM (Kd.N_lower (Kd.N_mono (ok' := fun k_ => (w.heap.size ≤ k_) ∧ some k_ ≠ (v364 : Value).ownBlock ∧ some k_ ≠ (v370 : Value).ownBlock ∧ k_ ≠ gb361 ∧ k_ ≠ g) (Kd.S_N (Kd.S_bound ho1)) (fun k_ hk_ => ⟨(Nat.le_trans (keep_size (w := w) (g := g) (row := none) (zK1 HK.out GW361.out)) hk_.2.1), hk_.1.1, hk_.1.2, (Kd.freshB (g := gb361) (o := .cells #[.int .i64 0, .slice none 0 0, .slice none 0 0, .slice none 0 0] 25 (0, 0)) (zB BK361.out) k_ hk_.2.1), (IsS98.fresh (zI1 HI0.out NB0_361.out) k_ hk_.2.1)⟩)) (keep_size (w := w) (g := g) (row := none) (zK1 HK.out GW361.out))); replace BK361 := zBK hk BK361 NB361_0; have HO371 := aM (Kd.R_lower (Kd.R_newM (M := fun k_ => (w.heap.size ≤ k_)) ho2 (keep_size (w := w) (g := g) (row := none) (zK1 HK.out GW361.out)) (fun k_ h_ => h_)) (keep_size (w := w) (g := g) (row := none) (zK1 HK.out GW361.out))); replace HK := zKK (zK1 HK.out GW361.out) hk; replace HB := aM hb; replace HI0 := aM hi; clear ho0 hi hb hk; (try clear ho1); (try clear ho2)) | ((with_reducible refine gD 3 rfl ?_); refine bE 3 #[.int .i64 0, .slice none 0 0, .slice none 0 0, .slice none 0 0] 25 ?_; intro gb374 hg w8 hbox hb; replace HO365 := aM (Kd.N_below (Kd.N_elderB (zX HO365.out) gb374 (Nat.le_of_eq hg.symm)) hb); replace HO368 := aM (Kd.N_below (Kd.N_elderB (zX HO368.out) gb374 (Nat.le_of_eq hg.symm)) hb); replace HO371 := zRB HO371 hb; replace HB := zLB (zL2 HB.out (IsS98.ge HI0.out) GE361.out) hb; have BK374 := aM hbox; have GW374 := aM (zgK (g := g) (zK1 HK.out GW361.out) hg : w.heap.size ≤ gb374); have GE374 := aM ((Nat.le_trans HW0.out (zgK (g := g) (zK1 HK.out GW361.out) hg : w.heap.size ≤ gb374) : w0.heap.size ≤ gb374)); replace HK := zKB g (zK1 HK.out GW361.out) hb; have NB361_374 := aM (zN BK361.out hg : gb361 ≠ gb374); have NB374_361 := aM (zM BK361.out hg : gb374 ≠ gb361); replace BK361 := zBB BK361 hb; have NB0_374 := aM ((zNI (IsS98.lt (zI1 HI0.out NB0_361.out : IsS98 w0 _ g s0_0 t372 t373)) hg : g ≠ gb374)); have NB374_0 := aM ((zMI (IsS98.lt (zI1 HI0.out NB0_361.out : IsS98 w0 _ g s0_0 t372 t373)) hg : gb374 ≠ g)); replace HI0 := aM (IsS98.below (zI1 HI0.out NB0_361.out) hb); clear hb hbox hg; have hnb9 := NB374_361.out; have hnc9 := NB361_374.out; have hnb10 := NB374_0.out; have hnc10 := NB0_374.out; have hcz11 := zc4 BK374.out; have hfz11 := zf4 BK374.out; obtain ⟨Ao12, co12, eo12⟩ := Kd.N_slice HO365.out; subst eo12; obtain ⟨Ao13, co13, eo13⟩ := Kd.N_slice HO368.out; subst eo13; obtain ⟨Ao14, co14, eo14⟩ := Kd.R_slice HO371.out; subst eo14) | ((with_reducible refine gC 83 rfl ?_); refine gL 7 Try.func83 #[.pointer (some ⟨g, 0, none⟩), .int .i64 12] ?_; (with_reducible refine (spec_l1Below.calls g s0_0 t372 t373 12 t375 t376 t377 w0 _ ?side1 ?side2 A3.out).mono ?_); (case side1 => exact zI2 HI0.out NB0_361.out NB0_374.out); (case side2 => exact zL3 HB.out (IsS98.ge HI0.out) GE361.out GE374.out); rintro e w15 ⟨rfl, hi, hb, hk⟩; refine ⟨_, rfl, ?_⟩; replace BK361 := aM (zQ2 (.cells #[.int .i64 0, .slice none 0 0, .slice none 0 0, .slice none 0 0] 25 (0, 0)) hk (by refine zB ?_; refine zr4 ?_ NB361_374.out; exact zB BK361.out) NB361_0.out (by simp)); replace HO365 := aM (Kd.N_mono (Kd.N_keep (Kd.N_mono (ok := fun k_ => ((((w.heap.size ≤ k_)) ∧ (some k_ ≠ (.slice Ao13 t366.length co13 : Value).ownBlock ∧ (some k_ ≠ (.slice Ao14 t369.length co14 : Value).ownBlock ∧ (k_ ≠ gb361 ∧ k_ ≠ g)))) ∧ k_ ≠ gb374)) (by (with_reducible repeat (first | apply Kd.N_alloc | apply Kd.N_drewN | apply Kd.N_drew)); exact (Kd.N_mono (zNF4 (Kd.N_mono HO365.out (fun k_ hk => (⟨hk, hk.2⟩ : _ ∧ k_ ≠ gb374))) gb374 (fun _ hk => hk.2) (.int .i64 t362) (.slice Ao12 t363.length co12) (.slice Ao13 t366.length co13) (.slice Ao14 t369.length co14)) (fun _ h_ => h_.1))) (fun k_ hk_ => (⟨hk_, hk_.1.2.2.2.2⟩ : _ ∧ k_ ≠ g))) hk (fun _ h => h.2)) (fun _ h => h.1)); replace HO368 := aM (Kd.N_mono (Kd.N_keep (Kd.N_mono (ok := fun k_ => ((((w.heap.size ≤ k_)) ∧ (some k_ ≠ (.slice Ao12 t363.length co12 : Value).ownBlock ∧ (some k_ ≠ (.slice Ao14 t369.length co14 : Value).ownBlock ∧ (k_ ≠ gb361 ∧ k_ ≠ g)))) ∧ k_ ≠ gb374)) (by (with_reducible repeat (first | apply Kd.N_alloc | apply Kd.N_drewN | apply Kd.N_drew)); exact (Kd.N_mono (zNF4 (Kd.N_mono HO368.out (fun k_ hk => (⟨hk, hk.2⟩ : _ ∧ k_ ≠ gb374))) gb374 (fun _ hk => hk.2) (.int .i64 t362) (.slice Ao12 t363.length co12) (.slice Ao13 t366.length co13) (.slice Ao14 t369.length co14)) (fun _ h_ => h_.1))) (fun k_ hk_ => (⟨hk_, hk_.1.2.2.2.2⟩ : _ ∧ k_ ≠ g))) hk (fun _ h => h.2)) (fun _ h => h.1)); replace HO371 := aM (Kd.R_mono (Kd.R_keep (IsS98.apart (show IsS98 w0 _ g s0_0 t372 t373 from zI2 HI0.out NB0_361.out NB0_374.out) (by (with_reducible repeat (first | apply Kd.R_alloc | apply Kd.R_drewN | apply Kd.R_drew)); exact (Kd.R_mono (zRF4 (Kd.R_types HO371.out BK374.out (by decide)) gb374 (fun _ hk => hk.2) (.int .i64 t362) (.slice Ao12 t363.length co12) (.slice Ao13 t366.length co13) (.slice Ao14 t369.length co14)) (fun _ h_ => h_.1))) (by decide)) hk (fun _ h => h.2)) (fun _ h => h.1)); replace BK374 := aM (zQ2 (.cells #[.int .i64 t362, .slice Ao12 t363.length co12, .slice Ao13 t366.length co13, .slice Ao14 t369.length co14] 25 (0, 0)) hk (by refine zB ?_; refine zp4 (cs := #[.int .i64 0, .slice none 0 0, .slice none 0 0, .slice none 0 0]) ?_; exact zB BK374.out) NB374_0.out (by simp)); replace HK := zKK (zK2 HK.out GW361.out GW374.out) hk; replace HB := aM hb; replace HI0 := aM hi; clear hi hb hk))
  replace HO365 := zXD HO365; replace HO368 := zXD HO368; replace HO371 := zRD HO371; replace BK361 := zBD BK361; replace BK374 := zBD BK374; replace HI0 := aM (IsS98.drew HI0.out); replace HK := aM (keep_drew HK.out); replace HB := zLD HB
  refine start_ (n := 8) (S := fun w' => zs4 w' gb374 (.int .i64 t362) (.slice Ao12 t363.length co12) (.slice Ao13 t366.length co13) (.slice Ao14 t369.length co14)) (ds := [7]) (fB 8 0) (by kernel_rfl) rfl rfl (zc4 BK374.out) (fun hHeld => ?_); refine with_tabW spec_l8Any.tab4 spec_l8Any.bits4 (fun HT_ HW_ => ?_)
  generalize w15.drew = w16 at HO365 HO368 HO371 BK361 BK374 HI0 HK HB hHeld ⊢
  refine pY 0 10 (fB 8 1) HT_.out ?_
  refine pY 2 12 (fB 8 5) HT_.out ?_
  refine tY 1 11 (fB 8 7) HT_.out HW_.out hHeld ?_
  refine oN 3 13 (fB 8 15) HT_.out fun K hK => ?_
  refine Kd.R_lit_step (Kd.int .i64) _ 3 ?hg (N := 13) ?hd (xs := ([(-1), 1, 8] : List Int)) (inner := [.int .i64 (-1), .int .i64 1, .int .i64 8]) (ok := fun _ => True) (okp := fun _ => True) ?hr ?hp (fun _ hk => hk) trivial (Below.refl _ _) (Nat.le_refl _) (by simp) ?_; (case hd => rfl); (case hg => rfl); (case hr => first | (go_simp; done) | (go_simp; rfl)); (case hp => exact zhp)
  intro v379 w17 ho18 hb hg_ hnew_
  clear hg_ hnew_
  (first | rw [← Ny378.out] at ho18 | (simp only [Int.reduceToNat] at ho18; rw [← Ny378.out] at ho18))
  replace HO365 := aM (Kd.N_elder' (zX HO365.out) (Kd.R_base ho18) hb); replace HO368 := aM (Kd.N_elder' (zX HO368.out) (Kd.R_base ho18) hb); replace HO371 := zRB HO371 hb; have HO380 := aM (Kd.R_lower (Kd.R_newM (M := fun k_ => (w.heap.size ≤ k_)) ho18 (keep_size (w := w) (g := g) (row := none) (zK2 HK.out GW361.out GW374.out)) (fun k_ h_ => h_)) (keep_size (w := w) (g := g) (row := none) (zK2 HK.out GW361.out GW374.out))); replace BK361 := zBB BK361 hb; replace BK374 := zBB BK374 hb; replace HK := zKB g (zK2 HK.out GW361.out GW374.out) hb; replace HB := zLB (zL3 HB.out (IsS98.ge HI0.out) GE361.out GE374.out) hb; replace HI0 := aM (IsS98.below (zI2 HI0.out NB0_361.out NB0_374.out) hb)
  clear hb ho18
  obtain ⟨Ao19, co19, eo19⟩ := Kd.R_slice HO380.out
  (first | subst eo19 | (injection eo19 with f1_ f2_ f3_; have f4_ := f1_.symm; have f5_ := f3_.symm; clear f1_ f2_ f3_; subst f4_; subst f5_))
  refine hK.out _ _ (zc4 BK374.out) fun hHeld => ?_; clear hK K
  refine nZ 13 ?_
  refine oN 4 14 (fB 8 31) HT_.out fun K hK => ?_
  refine gS Try.func85 #[.pointer (some ⟨g, 0, none⟩), .slice Ao19 y378.length co19] ?_
  with_reducible refine (spec_l1Int.calls g s0_0 t376 t377 _ _ y378 t381 t382 t383 w0 _ ?side1 ?side2 ?side3 ?side4 ?side5 A5.out).mono ?_
  (case side1 => exact zI2 HI0.out NB0_361.out NB0_374.out)
  (case side2 => exact zL3 HB.out (IsS98.ge HI0.out) GE361.out GE374.out)
  (case side3 => exact zC (Kd.R_reads' HO380.out).2.2)
  (case side4 => exact (Kd.R_reads' HO380.out).2.1)
  (case side5 => exact far_slice (IsS98.own_ne HI0.out HO380.out (by decide)))
  rintro e w20 ⟨rfl, hi, hb, hk⟩
  refine ⟨_, rfl, ?_⟩
  replace BK361 := zBK hk BK361 NB361_0; replace HO365 := aM (Kd.N_mono (Kd.N_keep (Kd.N_mono (ok := fun k_ => (((((w.heap.size ≤ k_)) ∧ (some k_ ≠ (.slice Ao13 t366.length co13 : Value).ownBlock ∧ (some k_ ≠ (.slice Ao14 t369.length co14 : Value).ownBlock ∧ (k_ ≠ gb361 ∧ k_ ≠ g)))) ∧ k_ ≠ gb374) ∧ some k_ ≠ (.slice Ao19 y378.length co19 : Value).ownBlock)) (zX HO365.out) (fun k_ hk_ => (⟨hk_, hk_.1.1.2.2.2.2⟩ : _ ∧ k_ ≠ g))) hk (fun _ h => h.2)) (fun _ h => h.1)); replace HO368 := aM (Kd.N_mono (Kd.N_keep (Kd.N_mono (ok := fun k_ => (((((w.heap.size ≤ k_)) ∧ (some k_ ≠ (.slice Ao12 t363.length co12 : Value).ownBlock ∧ (some k_ ≠ (.slice Ao14 t369.length co14 : Value).ownBlock ∧ (k_ ≠ gb361 ∧ k_ ≠ g)))) ∧ k_ ≠ gb374) ∧ some k_ ≠ (.slice Ao19 y378.length co19 : Value).ownBlock)) (zX HO368.out) (fun k_ hk_ => (⟨hk_, hk_.1.1.2.2.2.2⟩ : _ ∧ k_ ≠ g))) hk (fun _ h => h.2)) (fun _ h => h.1)); replace HO371 := aM (Kd.R_mono (Kd.R_keep (IsS98.apart (show IsS98 w0 _ g s0_0 t376 t377 from zI2 HI0.out NB0_361.out NB0_374.out) (zR HO371.out) (by decide)) hk (fun _ h => h.2)) (fun _ h => h.1)); replace BK374 := zBK hk BK374 NB374_0; replace HO380 := aM (Kd.R_mono (Kd.R_keep (IsS98.apart (show IsS98 w0 _ g s0_0 t376 t377 from zI2 HI0.out NB0_361.out NB0_374.out) (zR HO380.out) (by decide)) hk (fun _ h => h.2)) (fun _ h => h.1)); replace HK := zKK (zK2 HK.out GW361.out GW374.out) hk; replace HB := aM hb; replace HI0 := aM hi
  clear hi hb hk
  refine hK.out _ _ (zc4 BK374.out) fun hHeld => ?_; clear hK K
  refine nZ 14 ?_
  refine pY 5 15 (fB 8 63) HT_.out ?_
  refine pY 6 16 (fB 8 127) HT_.out ?_
  refine last_ (i := 7) (N := none) #[true, true, true, true, true, true, true, true] rfl rfl (one_of HT_.out (by kernel_rfl)) (by decide) (fun K hK => ?_)
  have hs21 : w20.cell? ⟨gb374, 0, none⟩ = some (.int .i64 t362) := (bC BK374.out 0).trans rfl
  have hfs21 := blk_frozen BK374.out 0
  have hns21_0 := NB361_374.out
  have hms21_0 := NB374_361.out
  refine skip_ (w1 := ?_) (by rfl) rfl ?_ ?_
  rotate_left
  ·go_simp
   rfl
  refine hK.out _ _ ?_
  clear hK K
  refine done_ (done_of HT_.out (by kernel_rfl)) ?_
  have hcz22 := zc4 BK374.out
  have hfz22 := zf4 BK374.out
  have hnb23 := NB361_0.out
  have hnc23 := NB0_361.out
  have hcz24 := zc4 BK361.out
  have hfz24 := zf4 BK361.out
  try go_wp2
  refine bodyPost_ret (results_cell_row rfl _ _ gb361 25 #[.int .i64 (wrap64 (t362 + t381)), .slice Ao12 t363.length co12, .slice Ao13 t366.length co13, .slice Ao14 t369.length co14] (0, 0) _ rfl (by refine zB ?_; refine zp4 (cs := #[.int .i64 0, .slice none 0 0, .slice none 0 0, .slice none 0 0]) ?_; (with_reducible repeat (first | refine bN ?_ _ | refine bD ?_ | refine bA ?_ _)); refine blk_far ?_ NB361_374.out _; exact zB BK361.out) Try.underlying25 rfl (by kernel_rfl)) rfl ?_
  exact ⟨_, _, _, zW, by (with_reducible repeat (first | apply Kd.N_alloc | apply Kd.N_drewN | apply Kd.N_drew)); exact Kd.N_mono (zNF4 (Kd.N_far (p := ⟨gb374, 0, none⟩) (Kd.N_mono (Kd.N_mono HO365.out (fun k_ hk => (⟨hk, hk.1.2⟩ : _ ∧ k_ ≠ gb374))) (fun k_ hk => (⟨hk, hk.1.1.1.2.2.2.1⟩ : _ ∧ k_ ≠ gb361))) (fun _ hk => hk.1.2) (.int .i64 (wrap64 (t362 + t381)))) gb361 (fun _ hk => hk.2) (.int .i64 (wrap64 (t362 + t381))) (.slice Ao12 t363.length co12) (.slice Ao13 t366.length co13) (.slice Ao14 t369.length co14)) (fun _ hk => ⟨hk.1.1.1.1.1, ⟨hk.1.1.1.1.2.1, hk.1.1.1.1.2.2.1⟩⟩), by (with_reducible repeat (first | apply Kd.N_alloc | apply Kd.N_drewN | apply Kd.N_drew)); exact Kd.N_mono (zNF4 (Kd.N_far (p := ⟨gb374, 0, none⟩) (Kd.N_mono (Kd.N_mono HO368.out (fun k_ hk => (⟨hk, hk.1.2⟩ : _ ∧ k_ ≠ gb374))) (fun k_ hk => (⟨hk, hk.1.1.1.2.2.2.1⟩ : _ ∧ k_ ≠ gb361))) (fun _ hk => hk.1.2) (.int .i64 (wrap64 (t362 + t381)))) gb361 (fun _ hk => hk.2) (.int .i64 (wrap64 (t362 + t381))) (.slice Ao12 t363.length co12) (.slice Ao13 t366.length co13) (.slice Ao14 t369.length co14)) (fun _ hk => ⟨hk.1.1.1.1.1, ⟨hk.1.1.1.1.2.1, hk.1.1.1.1.2.2.1⟩⟩), by (with_reducible repeat (first | apply Kd.R_alloc | apply Kd.R_drewN | apply Kd.R_drew)); exact Kd.R_mono (zRF4 (Kd.R_far (p := ⟨gb374, 0, none⟩) (Kd.R_types (Kd.R_types HO371.out BK374.out (by decide)) BK361.out (by decide)) (fun _ hk => hk.1.2) (.int .i64 (wrap64 (t362 + t381)))) gb361 (fun _ hk => hk.2) (.int .i64 (wrap64 (t362 + t381))) (.slice Ao12 t363.length co12) (.slice Ao13 t366.length co13) (.slice Ao14 t369.length co14)) (fun _ hk => hk.1.1.1), zI2 HI0.out NB0_361.out NB0_374.out, zL3 HB.out (IsS98.ge HI0.out) GE361.out GE374.out, zK2 HK.out GW361.out GW374.out⟩
 ·rw [if_neg c4] at H
  obtain ⟨c4b0, c4b1⟩ := zf c4
  by_cases c25 : t375 = 1
  ·rw [if_pos c25] at H
   obtain ⟨c25b0, c25b1⟩ := zt c25
   clear c25
   obtain ⟨⟨t384, t385, t386⟩, A26, H⟩ := zO H; try dsimp only at H
   obtain ⟨⟨t387, t388, t389, t390, t391⟩, A27, H⟩ := zO H; try dsimp only at H
   generalize hy392 : (([(⟨t387, t388, t389⟩ : S46)] : List (S46))) = y392 at H; (try rw [Option.bind_some] at H); have Ny392 := aM hy392.symm; clear hy392
   by_cases c28 : 0 ≤ t384
   ·rw [if_pos c28] at H
    have c28b0 := dT c28
    clear c28
    by_cases c29 : t384 < (t363.length : Int)
    ·rw [if_pos c29] at H
     have c29b0 := dT c29
     clear c29
     generalize hy395 : (t363.set (t384 : Int).toNat y392) = y395 at H; (try rw [Option.bind_some] at H); have Ny395 := aM hy395.symm; clear hy395
     simp only [Option.some.injEq, Prod.mk.injEq] at H
     obtain ⟨rfl, rfl, rfl, rfl, rfl, rfl⟩ := H
     go_enter Try.func81, Try.ntmps81
     try go_wp2_with (first | ((with_reducible refine gD 2 rfl ?_); refine bE 2 #[.int .i64 0, .slice none 0 0, .slice none 0 0, .slice none 0 0] 25 ?_; intro gb361 hg w31 hbox hb; replace HB := zLB (zL1 HB.out (IsS98.ge HI0.out)) hb; have BK361 := aM hbox; have GW361 := aM (zgK (g := g) (zK HK.out) hg : w.heap.size ≤ gb361); have GE361 := aM ((Nat.le_trans HW0.out (zgK (g := g) (zK HK.out) hg : w.heap.size ≤ gb361) : w0.heap.size ≤ gb361)); replace HK := zKB g (zK HK.out) hb; have NB0_361 := aM ((zNI (IsS98.lt (zI HI0.out : IsS98 w0 _ g s0_0 s0_1 s0_2)) hg : g ≠ gb361)); have NB361_0 := aM ((zMI (IsS98.lt (zI HI0.out : IsS98 w0 _ g s0_0 s0_1 s0_2)) hg : gb361 ≠ g)); replace HI0 := aM (IsS98.below (zI HI0.out) hb); clear hb hbox hg) | ((with_reducible refine gC 86 rfl ?_); refine gL 5 Try.func86 #[.pointer (some ⟨g, 0, none⟩)] ?_; (with_reducible refine (spec_l8Draw.calls k g s0_0 s0_1 s0_2 t362 t363 t366 t369 t372 t373 w0 _ ?side1 ?side2 A2.out).mono ?_); (case side1 => exact zI1 HI0.out NB0_361.out); (case side2 => exact zL2 HB.out (IsS98.ge HI0.out) GE361.out); rintro e w32 ⟨v364, v367, v370, rfl, ho0, ho1, ho2, hi, hb, hk⟩; refine ⟨_, rfl, ?_⟩; have HO365 := aM (Kd.N_lower (Kd.N_mono (ok' := fun k_ => (w.heap.size ≤ k_) ∧ some k_ ≠ (v367 : Value).ownBlock ∧ some k_ ≠ (v370 : Value).ownBlock ∧ k_ ≠ gb361 ∧ k_ ≠ g) (Kd.S_N (Kd.S_bound ho0)) (fun k_ hk_ => ⟨(Nat.le_trans (keep_size (w := w) (g := g) (row := none) (zK1 HK.out GW361.out)) hk_.2.1), hk_.1.1, hk_.1.2, (Kd.freshB (g := gb361) (o := .cells #[.int .i64 0, .slice none 0 0, .slice none 0 0, .slice none 0 0] 25 (0, 0)) (zB BK361.out) k_ hk_.2.1), (IsS98.fresh (zI1 HI0.out NB0_361.out) k_ hk_.2.1)⟩)) (keep_size (w := w) (g := g) (row := none) (zK1 HK.out GW361.out))); have HO368 := aM (Kd.N_lower (Kd.N_mono (ok' := fun k_ => (w.heap.size ≤ k_) ∧ some k_ ≠ (v364 : Value).ownBlock ∧ some k_ ≠ (v370 : Value).ownBlock ∧ k_ ≠ gb361 ∧ k_ ≠ g) (Kd.S_N (Kd.S_bound ho1)) (fun k_ hk_ => ⟨(Nat.le_trans (keep_size (w := w) (g := g) (row := none) (zK1 HK.out GW361.out)) hk_.2.1), hk_.1.1, hk_.1.2, (Kd.freshB (g := gb361) (o := .cells #[.int .i64 0, .slice none 0 0, .slice none 0 0, .slice none 0 0] 25 (0, 0)) (zB BK361.out) k_ hk_.2.1), (IsS98.fresh (zI1 HI0.out NB0_361.out) k_ hk_.2.1)⟩)) (keep_size (w := w) (g := g) (row := none) (zK1 HK.out GW361.out))); replace BK361 := zBK hk BK361 NB361_0; have HO371 := aM (Kd.R_lower (Kd.R_newM (M := fun k_ => (w.heap.size ≤ k_)) ho2 (keep_size (w := w) (g := g) (row := none) (zK1 HK.out GW361.out)) (fun k_ h_ => h_)) (keep_size (w := w) (g := g) (row := none) (zK1 HK.out GW361.out))); replace HK := zKK (zK1 HK.out GW361.out) hk; replace HB := aM hb; replace HI0 := aM hi; clear ho0 hi hb hk; (try clear ho1); (try clear ho2)) | ((with_reducible refine gD 3 rfl ?_); refine bE 3 #[.int .i64 0, .slice none 0 0, .slice none 0 0, .slice none 0 0] 25 ?_; intro gb374 hg w33 hbox hb; replace HO365 := aM (Kd.N_below (Kd.N_elderB (zX HO365.out) gb374 (Nat.le_of_eq hg.symm)) hb); replace HO368 := aM (Kd.N_below (Kd.N_elderB (zX HO368.out) gb374 (Nat.le_of_eq hg.symm)) hb); replace HO371 := zRB HO371 hb; replace HB := zLB (zL2 HB.out (IsS98.ge HI0.out) GE361.out) hb; have BK374 := aM hbox; have GW374 := aM (zgK (g := g) (zK1 HK.out GW361.out) hg : w.heap.size ≤ gb374); have GE374 := aM ((Nat.le_trans HW0.out (zgK (g := g) (zK1 HK.out GW361.out) hg : w.heap.size ≤ gb374) : w0.heap.size ≤ gb374)); replace HK := zKB g (zK1 HK.out GW361.out) hb; have NB361_374 := aM (zN BK361.out hg : gb361 ≠ gb374); have NB374_361 := aM (zM BK361.out hg : gb374 ≠ gb361); replace BK361 := zBB BK361 hb; have NB0_374 := aM ((zNI (IsS98.lt (zI1 HI0.out NB0_361.out : IsS98 w0 _ g s0_0 t372 t373)) hg : g ≠ gb374)); have NB374_0 := aM ((zMI (IsS98.lt (zI1 HI0.out NB0_361.out : IsS98 w0 _ g s0_0 t372 t373)) hg : gb374 ≠ g)); replace HI0 := aM (IsS98.below (zI1 HI0.out NB0_361.out) hb); clear hb hbox hg; have hnb34 := NB374_361.out; have hnc34 := NB361_374.out; have hnb35 := NB374_0.out; have hnc35 := NB0_374.out; have hcz36 := zc4 BK374.out; have hfz36 := zf4 BK374.out; obtain ⟨Ao37, co37, eo37⟩ := Kd.N_slice HO365.out; subst eo37; obtain ⟨Ao38, co38, eo38⟩ := Kd.N_slice HO368.out; subst eo38; obtain ⟨Ao39, co39, eo39⟩ := Kd.R_slice HO371.out; subst eo39) | ((with_reducible refine gC 83 rfl ?_); refine gL 7 Try.func83 #[.pointer (some ⟨g, 0, none⟩), .int .i64 12] ?_; (with_reducible refine (spec_l1Below.calls g s0_0 t372 t373 12 t375 t376 t377 w0 _ ?side1 ?side2 A3.out).mono ?_); (case side1 => exact zI2 HI0.out NB0_361.out NB0_374.out); (case side2 => exact zL3 HB.out (IsS98.ge HI0.out) GE361.out GE374.out); rintro e w40 ⟨rfl, hi, hb, hk⟩; refine ⟨_, rfl, ?_⟩; replace BK361 := aM (zQ2 (.cells #[.int .i64 0, .slice none 0 0, .slice none 0 0, .slice none 0 0] 25 (0, 0)) hk (by refine zB ?_; refine zr4 ?_ NB361_374.out; exact zB BK361.out) NB361_0.out (by simp)); replace HO365 := aM (Kd.N_mono (Kd.N_keep (Kd.N_mono (ok := fun k_ => ((((w.heap.size ≤ k_)) ∧ (some k_ ≠ (.slice Ao38 t366.length co38 : Value).ownBlock ∧ (some k_ ≠ (.slice Ao39 t369.length co39 : Value).ownBlock ∧ (k_ ≠ gb361 ∧ k_ ≠ g)))) ∧ k_ ≠ gb374)) (by (with_reducible repeat (first | apply Kd.N_alloc | apply Kd.N_drewN | apply Kd.N_drew)); exact (Kd.N_mono (zNF4 (Kd.N_mono HO365.out (fun k_ hk => (⟨hk, hk.2⟩ : _ ∧ k_ ≠ gb374))) gb374 (fun _ hk => hk.2) (.int .i64 t362) (.slice Ao37 t363.length co37) (.slice Ao38 t366.length co38) (.slice Ao39 t369.length co39)) (fun _ h_ => h_.1))) (fun k_ hk_ => (⟨hk_, hk_.1.2.2.2.2⟩ : _ ∧ k_ ≠ g))) hk (fun _ h => h.2)) (fun _ h => h.1)); replace HO368 := aM (Kd.N_mono (Kd.N_keep (Kd.N_mono (ok := fun k_ => ((((w.heap.size ≤ k_)) ∧ (some k_ ≠ (.slice Ao37 t363.length co37 : Value).ownBlock ∧ (some k_ ≠ (.slice Ao39 t369.length co39 : Value).ownBlock ∧ (k_ ≠ gb361 ∧ k_ ≠ g)))) ∧ k_ ≠ gb374)) (by (with_reducible repeat (first | apply Kd.N_alloc | apply Kd.N_drewN | apply Kd.N_drew)); exact (Kd.N_mono (zNF4 (Kd.N_mono HO368.out (fun k_ hk => (⟨hk, hk.2⟩ : _ ∧ k_ ≠ gb374))) gb374 (fun _ hk => hk.2) (.int .i64 t362) (.slice Ao37 t363.length co37) (.slice Ao38 t366.length co38) (.slice Ao39 t369.length co39)) (fun _ h_ => h_.1))) (fun k_ hk_ => (⟨hk_, hk_.1.2.2.2.2⟩ : _ ∧ k_ ≠ g))) hk (fun _ h => h.2)) (fun _ h => h.1)); replace HO371 := aM (Kd.R_mono (Kd.R_keep (IsS98.apart (show IsS98 w0 _ g s0_0 t372 t373 from zI2 HI0.out NB0_361.out NB0_374.out) (by (with_reducible repeat (first | apply Kd.R_alloc | apply Kd.R_drewN | apply Kd.R_drew)); exact (Kd.R_mono (zRF4 (Kd.R_types HO371.out BK374.out (by decide)) gb374 (fun _ hk => hk.2) (.int .i64 t362) (.slice Ao37 t363.length co37) (.slice Ao38 t366.length co38) (.slice Ao39 t369.length co39)) (fun _ h_ => h_.1))) (by decide)) hk (fun _ h => h.2)) (fun _ h => h.1)); replace BK374 := aM (zQ2 (.cells #[.int .i64 t362, .slice Ao37 t363.length co37, .slice Ao38 t366.length co38, .slice Ao39 t369.length co39] 25 (0, 0)) hk (by refine zB ?_; refine zp4 (cs := #[.int .i64 0, .slice none 0 0, .slice none 0 0, .slice none 0 0]) ?_; exact zB BK374.out) NB374_0.out (by simp)); replace HK := zKK (zK2 HK.out GW361.out GW374.out) hk; replace HB := aM hb; replace HI0 := aM hi; clear hi hb hk))
     replace HO365 := zXD HO365; replace HO368 := zXD HO368; replace HO371 := zRD HO371; replace BK361 := zBD BK361; replace BK374 := zBD BK374; replace HI0 := aM (IsS98.drew HI0.out); replace HK := aM (keep_drew HK.out); replace HB := zLD HB
     refine start_ (n := 11) (S := fun w' => zs4 w' gb374 (.int .i64 t362) (.slice Ao37 t363.length co37) (.slice Ao38 t366.length co38) (.slice Ao39 t369.length co39)) (ds := [10]) (fB 11 0) (by kernel_rfl) rfl rfl (zc4 BK374.out) (fun hHeld => ?_); refine with_tabW spec_l8Any.tab6 spec_l8Any.bits6 (fun HT_ HW_ => ?_)
     generalize w40.drew = w41 at HO365 HO368 HO371 BK361 BK374 HI0 HK HB hHeld ⊢
     refine pY 0 19 (fB 11 1) HT_.out ?_
     refine pY 2 21 (fB 11 5) HT_.out ?_
     refine pY 4 23 (fB 11 21) HT_.out ?_
     refine pY 5 24 (fB 11 53) HT_.out ?_
     refine tY 1 20 (fB 11 55) HT_.out HW_.out hHeld ?_
     refine tY 6 25 (fB 11 119) HT_.out HW_.out hHeld ?_
     refine oN 3 22 (fB 11 127) HT_.out fun K hK => ?_
     refine gS Try.func83 #[.pointer (some ⟨g, 0, none⟩), .int .i64 8] ?_
     with_reducible refine (spec_l1Below.calls g s0_0 t376 t377 8 t384 t385 t386 w0 _ ?side1 ?side2 A26.out).mono ?_
     (case side1 => exact zI2 HI0.out NB0_361.out NB0_374.out)
     (case side2 => exact zL3 HB.out (IsS98.ge HI0.out) GE361.out GE374.out)
     rintro e w42 ⟨rfl, hi, hb, hk⟩
     refine ⟨_, rfl, ?_⟩
     replace BK361 := zBK hk BK361 NB361_0; replace HO365 := aM (Kd.N_mono (Kd.N_keep (Kd.N_mono (ok := fun k_ => ((((w.heap.size ≤ k_)) ∧ (some k_ ≠ (.slice Ao38 t366.length co38 : Value).ownBlock ∧ (some k_ ≠ (.slice Ao39 t369.length co39 : Value).ownBlock ∧ (k_ ≠ gb361 ∧ k_ ≠ g)))) ∧ k_ ≠ gb374)) (zX HO365.out) (fun k_ hk_ => (⟨hk_, hk_.1.2.2.2.2⟩ : _ ∧ k_ ≠ g))) hk (fun _ h => h.2)) (fun _ h => h.1)); replace HO368 := aM (Kd.N_mono (Kd.N_keep (Kd.N_mono (ok := fun k_ => ((((w.heap.size ≤ k_)) ∧ (some k_ ≠ (.slice Ao37 t363.length co37 : Value).ownBlock ∧ (some k_ ≠ (.slice Ao39 t369.length co39 : Value).ownBlock ∧ (k_ ≠ gb361 ∧ k_ ≠ g)))) ∧ k_ ≠ gb374)) (zX HO368.out) (fun k_ hk_ => (⟨hk_, hk_.1.2.2.2.2⟩ : _ ∧ k_ ≠ g))) hk (fun _ h => h.2)) (fun _ h => h.1)); replace HO371 := aM (Kd.R_mono (Kd.R_keep (IsS98.apart (show IsS98 w0 _ g s0_0 t376 t377 from zI2 HI0.out NB0_361.out NB0_374.out) (zR HO371.out) (by decide)) hk (fun _ h => h.2)) (fun _ h => h.1)); replace BK374 := zBK hk BK374 NB374_0; replace HK := zKK (zK2 HK.out GW361.out GW374.out) hk; replace HB := aM hb; replace HI0 := aM hi
     clear hi hb hk
     refine hK.out _ _ (zc4 BK374.out) fun hHeld => ?_; clear hK K
     refine nZ 22 ?_
     refine oN 7 26 (fB 11 255) HT_.out fun K hK => ?_
     refine gS Try.func82 #[.pointer (some ⟨g, 0, none⟩), .int .i64 t362, .int .i64 9] ?_
     with_reducible refine (spec_l8Timer.calls g s0_0 t385 t386 t362 9 t387 t388 t389 t390 t391 w0 _ ?side1 ?side2 A27.out).mono ?_
     (case side1 => exact zI2 HI0.out NB0_361.out NB0_374.out)
     (case side2 => exact zL3 HB.out (IsS98.ge HI0.out) GE361.out GE374.out)
     rintro e w43 ⟨rfl, hi, hb, hk⟩
     refine ⟨_, rfl, ?_⟩
     replace BK361 := zBK hk BK361 NB361_0; replace HO365 := aM (Kd.N_mono (Kd.N_keep (Kd.N_mono (ok := fun k_ => ((((w.heap.size ≤ k_)) ∧ (some k_ ≠ (.slice Ao38 t366.length co38 : Value).ownBlock ∧ (some k_ ≠ (.slice Ao39 t369.length co39 : Value).ownBlock ∧ (k_ ≠ gb361 ∧ k_ ≠ g)))) ∧ k_ ≠ gb374)) (zX HO365.out) (fun k_ hk_ => (⟨hk_, hk_.1.2.2.2.2⟩ : _ ∧ k_ ≠ g))) hk (fun _ h => h.2)) (fun _ h => h.1)); replace HO368 := aM (Kd.N_mono (Kd.N_keep (Kd.N_mono (ok := fun k_ => ((((w.heap.size ≤ k_)) ∧ (some k_ ≠ (.slice Ao37 t363.length co37 : Value).ownBlock ∧ (some k_ ≠ (.slice Ao39 t369.length co39 : Value).ownBlock ∧ (k_ ≠ gb361 ∧ k_ ≠ g)))) ∧ k_ ≠ gb374)) (zX HO368.out) (fun k_ hk_ => (⟨hk_, hk_.1.2.2.2.2⟩ : _ ∧ k_ ≠ g))) hk (fun _ h => h.2)) (fun _ h => h.1)); replace HO371 := aM (Kd.R_mono (Kd.R_keep (IsS98.apart (show IsS98 w0 _ g s0_0 t385 t386 from zI2 HI0.out NB0_361.out NB0_374.out) (zR HO371.out) (by decide)) hk (fun _ h => h.2)) (fun _ h => h.1)); replace BK374 := zBK hk BK374 NB374_0; replace HK := zKK (zK2 HK.out GW361.out GW374.out) hk; replace HB := aM hb; replace HI0 := aM hi
     clear hi hb hk
     refine hK.out _ _ (zc4 BK374.out) fun hHeld => ?_; clear hK K
     refine nZ 26 ?_
     refine oN 8 27 (fB 11 511) HT_.out fun K hK => ?_
     refine Kd.R_lit_step k46 _ 46 ?hg (N := 27) ?hd (xs := ([(⟨t387, t388, t389⟩ : S46)] : List (S46))) (inner := [.int .i64 t387, .int .i64 t388, .int .i64 t389]) (ok := fun _ => True) (okp := fun _ => True) ?hr ?hp (fun _ hk => hk) trivial (Below.refl _ _) (Nat.le_refl _) (by simp) ?_; (case hd => rfl); (case hg => rfl); (case hr => first | (go_simp; done) | (go_simp; rfl)); (case hp => exact (Reps.c3 (show Kd.M k46 _ _ _ (⟨t387, t388, t389⟩ : S46) [.int .i64 t387, .int .i64 t388, .int .i64 t389] from (k46_mkM _ _ _ (⟨t387, t388, t389⟩ : S46) )) (Reps.none _ _)))
     intro v393 w44 ho45 hb hg_ hnew_
     clear hg_ hnew_
     (first | rw [← Ny392.out] at ho45 | (simp only [Int.reduceToNat] at ho45; rw [← Ny392.out] at ho45))
     replace HO365 := aM (Kd.N_elder' (zX HO365.out) (Kd.R_base ho45) hb); replace HO368 := aM (Kd.N_elder' (zX HO368.out) (Kd.R_base ho45) hb); have HO394 := aM (Kd.R_lower (Kd.R_new' (Kd.R_newM (M := fun k_ => (w.heap.size ≤ k_)) ho45 (keep_size (w := w) (g := g) (row := none) (zK2 HK.out GW361.out GW374.out)) (fun k_ h_ => h_)) (Kd.R_lt (zR HO371.out))) (keep_size (w := w) (g := g) (row := none) (zK2 HK.out GW361.out GW374.out))); replace HO371 := aM (Kd.R_elder' (zR HO371.out) (Kd.R_base ho45) hb); replace BK361 := zBB BK361 hb; replace BK374 := zBB BK374 hb; replace HK := zKB g (zK2 HK.out GW361.out GW374.out) hb; replace HB := zLB (zL3 HB.out (IsS98.ge HI0.out) GE361.out GE374.out) hb; replace HI0 := aM (IsS98.below (zI2 HI0.out NB0_361.out NB0_374.out) hb)
     clear hb ho45
     have p30 : 0 ≤ (t384 : Int) := zD
     have q30 : (t384 : Int) < ((t363.length : Int) : Int) := zD
     obtain ⟨go30, co30, eo30, gb30, gl30, cl30, HG30⟩ := Kd.N_form HO365.out (by omega)
     (first | cases eo30 | (injection eo30 with ea_ en_ ec_; (first | subst ea_ | (injection ea_ with ea_; subst ea_)); subst ec_; clear en_))
     have GB30 := aM gb30
     have GG30 := aM HG30
     clear gb30 gl30 HG30
     obtain ⟨ce30, hcl30, hM30, hcc30, hfr30⟩ := Kd.N_elem HO365.out [] (t384 : Int) p30 q30
     obtain ⟨ua30_0, uc30_0, rfl, ul30_0, ge30_0⟩ := Kd.FK_slice_open hM30
     have hx30_0 := hcc30 0 _ rfl
     have hf30_0 := hfr30 0
     (try simp only [show ((Kd.slice 46 k46)).sz = 1 from rfl, Nat.mul_one, Nat.add_zero] at hx30_0)
     (try simp only [show ((Kd.slice 46 k46)).sz = 1 from rfl, Nat.mul_one, Nat.add_zero] at hf30_0)
     clear hcl30 hcc30 hfr30; (try clear hM30)
     replace p30 := eq_true p30
     replace q30 := eq_true q30
     have HN0_go30 := aM (show g ≠ go30 from by have h_ := IsS98.own_neN HI0.out HO365.out (by decide); intro e_; exact h_ (by rw [e_]; rfl))
     have HX46 := aM (show Kd.N (Kd.slice 46 k46) 23 _ w.heap.size (fun k_ => (w.heap.size ≤ k_) ∧ some k_ ≠ (.slice Ao38 t366.length co38 : Value).ownBlock ∧ some k_ ≠ (.slice Ao39 t369.length co39 : Value).ownBlock ∧ some k_ ≠ (v393 : Value).ownBlock ∧ k_ ≠ gb361 ∧ k_ ≠ gb374 ∧ k_ ≠ g) (.slice (some ⟨go30, 0, none⟩) t363.length co37) t363 from (Kd.N_mono (HO365.out) (fun k_ hk => ⟨hk.1.1.1, ⟨hk.1.1.2.1, ⟨hk.1.1.2.2.1, ⟨hk.2, ⟨hk.1.1.2.2.2.1, ⟨hk.1.2, hk.1.1.2.2.2.2⟩⟩⟩⟩⟩⟩)))
     replace HX46 := aM (show Kd.N (Kd.slice 46 k46) 23 _ w.heap.size (fun k_ => (w.heap.size ≤ k_) ∧ some k_ ≠ (.slice Ao38 t366.length co38 : Value).ownBlock ∧ some k_ ≠ (.slice Ao39 t369.length co39 : Value).ownBlock ∧ k_ ≠ gb361 ∧ k_ ≠ gb374 ∧ k_ ≠ g) (.slice (some ⟨go30, 0, none⟩) t363.length co37) t363 from Kd.N_mono HX46.out (fun k_ hk => ⟨hk.1, ⟨hk.2.1, ⟨hk.2.2.1, ⟨hk.2.2.2.2.1, ⟨hk.2.2.2.2.2.1, hk.2.2.2.2.2.2⟩⟩⟩⟩⟩))
     obtain ⟨ce46, hcl46, hM46, hcc46, hfr46⟩ := Kd.N_elem HX46.out [] (t384 : Int) (zD) (by have h_ : (t384 : Int) < ((t363.length : Int) : Int) := zD; first | exact h_ | (have e_ := (Kd.N_reads' HO365.out).1; omega) | simpa using h_)
     obtain ⟨ua46_0, uc46_0, rfl, ul46_0, ge46_0⟩ := Kd.FK_slice_open hM46
     obtain ⟨Av393, cv393, ev_⟩ := Kd.R_slice HO394.out
     subst ev_
     have HEHP46_ := (IsS98.apart HI0.out (Kd.R_types (Kd.R_types (Kd.R_apart' (Kd.R_apart' (HO394.out) (Kd.N_typed HO368.out) (by decide)) (Kd.N_typed HO365.out) (by decide)) BK361.out (by decide)) BK374.out (by decide)) (by decide))
     have HRHP46_ := Kd.R_mono (ok' := (fun k_ => ((fun k_ => (w.heap.size ≤ k_) ∧ some k_ ≠ (.slice Ao38 t366.length co38 : Value).ownBlock ∧ some k_ ≠ (.slice Ao39 t369.length co39 : Value).ownBlock ∧ k_ ≠ gb361 ∧ k_ ≠ gb374 ∧ k_ ≠ g)) k_ ∧ k_ ≠ go30)) HEHP46_ (fun k_ hk => ⟨⟨hk.1.1.1.1.1.1.1, ⟨hk.1.1.1.1.2, ⟨hk.1.1.1.1.1.2, ⟨hk.1.1.2, ⟨hk.1.2, hk.2⟩⟩⟩⟩⟩, fun e_ => (hk.1.1.1.2) (by rw [e_]; rfl)⟩)
     have HP46 := (Kd.N_seg HX46.out (t384 : Int) (zD) (by have h_ : (t384 : Int) < ((t363.length : Int) : Int) := zD; first | exact h_ | (have e_ := (Kd.N_reads' HO365.out).1; omega) | simpa using h_) (seg := [(.slice Av393 y392.length cv393)]) (j := 0) hcl46 hcc46 (show 1 ≤ 1 from by decide) (x' := y392) (fk13_of HRHP46_) (fun _ hk => hk)).1
     (try simp only [show ((Kd.slice 46 k46)).sz = 1 from rfl, Nat.mul_one, Nat.add_zero] at HP46)
     rw [← Ny395.out] at HP46
     have HQ46 := aM HP46
     clear hcl46 hcc46 hfr46 HP46; (try clear hM46)
     refine hK.out _ _ (zc4 BK374.out) fun hHeld => ?_; clear hK K
     refine nZ 27 ?_
     refine pY 9 28 (fB 11 1023) HT_.out ?_
     refine last_ (i := 10) (N := none) #[true, true, true, true, true, true, true, true, true, true, true] rfl rfl (one_of HT_.out (by kernel_rfl)) (by decide) (fun K hK => ?_)
     refine skip_ (w1 := ?_) (by rfl) rfl ?_ ?_
     rotate_left
     ·go_simp
      rfl
     refine hK.out _ _ ?_
     clear hK K
     refine done_ (done_of HT_.out (by kernel_rfl)) ?_
     have n0_ : Aside0 (Kd.N (Kd.slice 46 k46) 23 (w44.setCell ⟨go30, (t384 : Int).toNat, none⟩ ((.slice Av393 y392.length cv393))) w.heap.size (fun k_ => (w.heap.size ≤ k_) ∧ some k_ ≠ (.slice Ao38 t366.length co38 : Value).ownBlock ∧ some k_ ≠ (.slice Ao39 t369.length co39 : Value).ownBlock ∧ k_ ≠ gb361 ∧ k_ ≠ g ∧ k_ ≠ gb374) (.slice (some ⟨go30, 0, none⟩) t363.length co37) y395) := ⟨by (with_reducible repeat (first | apply Kd.N_alloc | apply Kd.N_drewN | apply Kd.N_drew)); exact Kd.N_mono HQ46.out (fun _ hk => ⟨hk.1, ⟨hk.2.1, ⟨hk.2.2.1, ⟨hk.2.2.2.1, ⟨hk.2.2.2.2.2, hk.2.2.2.2.1⟩⟩⟩⟩⟩)⟩
     have n1_ : Aside0 (Kd.N (Kd.slice 46 k46) 23 (w44.setCell ⟨go30, (t384 : Int).toNat, none⟩ ((.slice Av393 y392.length cv393))) w.heap.size (fun k_ => (w.heap.size ≤ k_) ∧ some k_ ≠ (.slice (some ⟨go30, 0, none⟩) t363.length co37 : Value).ownBlock ∧ some k_ ≠ (.slice Ao39 t369.length co39 : Value).ownBlock ∧ k_ ≠ gb361 ∧ k_ ≠ g ∧ k_ ≠ gb374) (.slice Ao38 t366.length co38) t366) := ⟨by (with_reducible repeat (first | apply Kd.N_alloc | apply Kd.N_drewN | apply Kd.N_drew)); exact Kd.N_mono (Kd.N_far (p := ⟨go30, (t384 : Int).toNat, none⟩) (Kd.N_mono HO368.out (fun k_ hk => (⟨hk, fun e_ => hk.1.1.2.1 (by rw [e_]; rfl)⟩ : _ ∧ k_ ≠ go30))) (fun _ hk => hk.2) ((.slice Av393 y392.length cv393))) (fun _ hk => ⟨hk.1.1.1.1, ⟨hk.1.1.1.2.1, ⟨hk.1.1.1.2.2.1, ⟨hk.1.1.1.2.2.2.1, ⟨hk.1.1.1.2.2.2.2, hk.1.1.2⟩⟩⟩⟩⟩)⟩
     have n2_ : Aside0 (Kd.R k46 46 (w44.setCell ⟨go30, (t384 : Int).toNat, none⟩ ((.slice Av393 y392.length cv393))) w.heap.size (fun k_ => (w.heap.size ≤ k_)) (.slice Ao39 t369.length co39) t369) := ⟨by (with_reducible repeat (first | apply Kd.R_alloc | apply Kd.R_drewN | apply Kd.R_drew)); exact Kd.R_mono (Kd.R_far (p := ⟨go30, (t384 : Int).toNat, none⟩) (Kd.R_types HO371.out GG30.out (by decide)) (fun _ hk => hk.2) ((.slice Av393 y392.length cv393))) (fun _ hk => hk.1.1.1)⟩
     have n3_ : Aside0 ((w44.setCell ⟨go30, (t384 : Int).toNat, none⟩ ((.slice Av393 y392.length cv393))).heap[gb361]? = some (.cells #[.int .i64 0, .slice none 0 0, .slice none 0 0, .slice none 0 0] 25 (0, 0))) := ⟨by (with_reducible repeat (first | refine bN ?_ _ | refine bD ?_ | refine bA ?_ _)); refine blk_far ?_ (by have h_ := Kd.N_away HO365.out (fun k_ hk => (show k_ ≠ gb361 from by first | exact hk.2.2.2.1 | exact hk.1.2.2.2.1 | (obtain ⟨⟨⟨a1_, a2_, a3_, a4_, a5_⟩, a6_⟩, a7_⟩ := hk; assumption))); intro e_; exact h_ (by rw [e_]; rfl)) _; exact zB BK361.out⟩
     have n4_ : Aside0 ((w44.setCell ⟨go30, (t384 : Int).toNat, none⟩ ((.slice Av393 y392.length cv393))).heap[gb374]? = some (.cells #[.int .i64 t362, .slice (some ⟨go30, 0, none⟩) t363.length co37, .slice Ao38 t366.length co38, .slice Ao39 t369.length co39] 25 (0, 0))) := ⟨by (with_reducible repeat (first | refine bN ?_ _ | refine bD ?_ | refine bA ?_ _)); refine blk_far ?_ (by have h_ := Kd.N_away HO365.out (fun k_ hk => (show k_ ≠ gb374 from by first | exact hk.2.2.2.2.1 | exact hk.1.2.2.2.2.1 | (obtain ⟨⟨⟨a1_, a2_, a3_, a4_, a5_⟩, a6_⟩, a7_⟩ := hk; assumption))); intro e_; exact h_ (by rw [e_]; rfl)) _; exact zB BK374.out⟩
     have n5_ : Aside0 (IsS98 w0 (w44.setCell ⟨go30, (t384 : Int).toNat, none⟩ ((.slice Av393 y392.length cv393))) g s0_0 t390 t391) := ⟨by repeat (first | (with_reducible first | exact HI0.out | apply IsS98.alloc | apply IsS98.drewN | apply IsS98.drew | apply IsS98.set_1 | apply IsS98.set_2 | refine IsS98.far ?_ HN0_go30.out _ | refine IsS98.far ?_ NB0_361.out _ | refine IsS98.far ?_ NB0_374.out _) | exact HI0.out)⟩
     have n6_ : Aside0 (KeepBut w (w44.setCell ⟨go30, (t384 : Int).toNat, none⟩ ((.slice Av393 y392.length cv393))) g none) := ⟨by repeat (first | (with_reducible first | exact HK.out | apply KeepBut.set_ | apply keep_drewN | apply keep_drew | apply keep_alloc | refine keep_far ?_ GB30.out _ | refine keep_far ?_ GW361.out _ | refine keep_far ?_ GW374.out _) | exact HK.out)⟩
     have n7_ : Aside0 (Below w0.heap.size w0 (w44.setCell ⟨go30, (t384 : Int).toNat, none⟩ ((.slice Av393 y392.length cv393)))) := ⟨by repeat (first | (with_reducible first | exact HB.out | apply below_alloc | apply pw_below_drewN | apply below_drew1 | refine bS ?_ (Nat.le_trans HL.out GB30.out) | refine bS ?_ (IsS98.ge HI0.out) | refine bS ?_ GE361.out | refine bS ?_ GE374.out) | exact HB.out)⟩
     (try clear HO365)
     (try clear HO368)
     (try clear HO371)
     (try clear BK361)
     (try clear BK374)
     (try clear HI0)
     (try clear HK)
     (try clear HB)
     generalize (w44.setCell ⟨go30, (t384 : Int).toNat, none⟩ ((.slice Av393 y392.length cv393))) = w47 at n0_ n1_ n2_ n3_ n4_ n5_ n6_ n7_ ⊢
     have HO365 := n0_
     have HO368 := n1_
     have HO371 := n2_
     have BK361 := n3_
     have BK374 := n4_
     have HI0 := n5_
     have HK := n6_
     have HB := n7_
     clear n0_ n1_ n2_ n3_ n4_ n5_ n6_ n7_
     have hcz48 := zc4 BK374.out
     have hfz48 := zf4 BK374.out
     have hnb49 := NB361_0.out
     have hnc49 := NB0_361.out
     have hcz50 := zc4 BK361.out
     have hfz50 := zf4 BK361.out
     try go_wp2
     refine bodyPost_ret (results_cell_row rfl _ _ gb361 25 #[.int .i64 t362, .slice (some ⟨go30, 0, none⟩) t363.length co37, .slice Ao38 t366.length co38, .slice Ao39 t369.length co39] (0, 0) _ rfl (by refine zB ?_; refine zp4 (cs := #[.int .i64 0, .slice none 0 0, .slice none 0 0, .slice none 0 0]) ?_; exact zB BK361.out) Try.underlying25 rfl (by kernel_rfl)) rfl ?_
     exact ⟨_, _, _, zW, by (with_reducible repeat (first | apply Kd.N_alloc | apply Kd.N_drewN | apply Kd.N_drew)); exact Kd.N_mono (zNF4 (Kd.N_mono HO365.out (fun k_ hk => (⟨hk, hk.2.2.2.1⟩ : _ ∧ k_ ≠ gb361))) gb361 (fun _ hk => hk.2) (.int .i64 t362) (.slice (some ⟨go30, 0, none⟩) t363.length co37) (.slice Ao38 t366.length co38) (.slice Ao39 t369.length co39)) (fun _ hk => ⟨hk.1.1, ⟨hk.1.2.1, hk.1.2.2.1⟩⟩), by (with_reducible repeat (first | apply Kd.N_alloc | apply Kd.N_drewN | apply Kd.N_drew)); exact Kd.N_mono (zNF4 (Kd.N_mono HO368.out (fun k_ hk => (⟨hk, hk.2.2.2.1⟩ : _ ∧ k_ ≠ gb361))) gb361 (fun _ hk => hk.2) (.int .i64 t362) (.slice (some ⟨go30, 0, none⟩) t363.length co37) (.slice Ao38 t366.length co38) (.slice Ao39 t369.length co39)) (fun _ hk => ⟨hk.1.1, ⟨hk.1.2.1, hk.1.2.2.1⟩⟩), by (with_reducible repeat (first | apply Kd.R_alloc | apply Kd.R_drewN | apply Kd.R_drew)); exact Kd.R_mono (zRF4 (Kd.R_types HO371.out BK361.out (by decide)) gb361 (fun _ hk => hk.2) (.int .i64 t362) (.slice (some ⟨go30, 0, none⟩) t363.length co37) (.slice Ao38 t366.length co38) (.slice Ao39 t369.length co39)) (fun _ hk => hk.1), zI2 HI0.out NB0_361.out NB0_374.out, zL3 HB.out (IsS98.ge HI0.out) GE361.out GE374.out, zK2 HK.out GW361.out GW374.out⟩
    ·rw [if_neg c29] at H
     exact absurd H (by simp)
   ·rw [if_neg c28] at H
    exact absurd H (by simp)
  ·rw [if_neg c25] at H
   obtain ⟨c25b0, c25b1⟩ := zf c25
   by_cases c51 : t375 = 2
   ·rw [if_pos c51] at H
    obtain ⟨c51b0, c51b1⟩ := zt c51
    clear c51
    obtain ⟨⟨t396, t397, t398⟩, A52, H⟩ := zO H; try dsimp only at H
    obtain ⟨⟨t399, t400, t401, t402, t403⟩, A53, H⟩ := zO H; try dsimp only at H
    generalize hy404 : (([(⟨t399, t400, t401⟩ : S46)] : List (S46))) = y404 at H; (try rw [Option.bind_some] at H); have Ny404 := aM hy404.symm; clear hy404
    by_cases c54 : 0 ≤ t396
    ·rw [if_pos c54] at H
     have c54b0 := dT c54
     clear c54
     by_cases c55 : t396 < (t366.length : Int)
     ·rw [if_pos c55] at H
      have c55b0 := dT c55
      clear c55
      generalize hy407 : (t366.set (t396 : Int).toNat y404) = y407 at H; (try rw [Option.bind_some] at H); have Ny407 := aM hy407.symm; clear hy407
      simp only [Option.some.injEq, Prod.mk.injEq] at H
      obtain ⟨rfl, rfl, rfl, rfl, rfl, rfl⟩ := H
      go_enter Try.func81, Try.ntmps81
      try go_wp2_with (first | ((with_reducible refine gD 2 rfl ?_); refine bE 2 #[.int .i64 0, .slice none 0 0, .slice none 0 0, .slice none 0 0] 25 ?_; intro gb361 hg w57 hbox hb; replace HB := zLB (zL1 HB.out (IsS98.ge HI0.out)) hb; have BK361 := aM hbox; have GW361 := aM (zgK (g := g) (zK HK.out) hg : w.heap.size ≤ gb361); have GE361 := aM ((Nat.le_trans HW0.out (zgK (g := g) (zK HK.out) hg : w.heap.size ≤ gb361) : w0.heap.size ≤ gb361)); replace HK := zKB g (zK HK.out) hb; have NB0_361 := aM ((zNI (IsS98.lt (zI HI0.out : IsS98 w0 _ g s0_0 s0_1 s0_2)) hg : g ≠ gb361)); have NB361_0 := aM ((zMI (IsS98.lt (zI HI0.out : IsS98 w0 _ g s0_0 s0_1 s0_2)) hg : gb361 ≠ g)); replace HI0 := aM (IsS98.below (zI HI0.out) hb); clear hb hbox hg) | ((with_reducible refine gC 86 rfl ?_); refine gL 5 Try.func86 #[.pointer (some ⟨g, 0, none⟩)] ?_; (with_reducible refine (spec_l8Draw.calls k g s0_0 s0_1 s0_2 t362 t363 t366 t369 t372 t373 w0 _ ?side1 ?side2 A2.out).mono ?_); (case side1 => exact zI1 HI0.out NB0_361.out); (case side2 => exact zL2 HB.out (IsS98.ge HI0.out) GE361.out); rintro e w58 ⟨v364, v367, v370, rfl, ho0, ho1, ho2, hi, hb, hk⟩; refine ⟨_, rfl, ?_⟩; have HO365 := aM (Kd.N_lower (Kd.N_mono (ok' := fun k_ => (w.heap.size ≤ k_) ∧ some k_ ≠ (v367 : Value).ownBlock ∧ some k_ ≠ (v370 : Value).ownBlock ∧ k_ ≠ gb361 ∧ k_ ≠ g) (Kd.S_N (Kd.S_bound ho0)) (fun k_ hk_ => ⟨(Nat.le_trans (keep_size (w := w) (g := g) (row := none) (zK1 HK.out GW361.out)) hk_.2.1), hk_.1.1, hk_.1.2, (Kd.freshB (g := gb361) (o := .cells #[.int .i64 0, .slice none 0 0, .slice none 0 0, .slice none 0 0] 25 (0, 0)) (zB BK361.out) k_ hk_.2.1), (IsS98.fresh (zI1 HI0.out NB0_361.out) k_ hk_.2.1)⟩)) (keep_size (w := w) (g := g) (row := none) (zK1 HK.out GW361.out))); have HO368 := aM (Kd.N_lower (Kd.N_mono (ok' := fun k_ => (w.heap.size ≤ k_) ∧ some k_ ≠ (v364 : Value).ownBlock ∧ some k_ ≠ (v370 : Value).ownBlock ∧ k_ ≠ gb361 ∧ k_ ≠ g) (Kd.S_N (Kd.S_bound ho1)) (fun k_ hk_ => ⟨(Nat.le_trans (keep_size (w := w) (g := g) (row := none) (zK1 HK.out GW361.out)) hk_.2.1), hk_.1.1, hk_.1.2, (Kd.freshB (g := gb361) (o := .cells #[.int .i64 0, .slice none 0 0, .slice none 0 0, .slice none 0 0] 25 (0, 0)) (zB BK361.out) k_ hk_.2.1), (IsS98.fresh (zI1 HI0.out NB0_361.out) k_ hk_.2.1)⟩)) (keep_size (w := w) (g := g) (row := none) (zK1 HK.out GW361.out))); replace BK361 := zBK hk BK361 NB361_0; have HO371 := aM (Kd.R_lower (Kd.R_newM (M := fun k_ => (w.heap.size ≤ k_)) ho2 (keep_size (w := w) (g := g) (row := none) (zK1 HK.out GW361.out)) (fun k_ h_ => h_)) (keep_size (w := w) (g := g) (row := none) (zK1 HK.out GW361.out))); replace HK := zKK (zK1 HK.out GW361.out) hk; replace HB := aM hb; replace HI0 := aM hi; clear ho0 hi hb hk; (try clear ho1); (try clear ho2)) | ((with_reducible refine gD 3 rfl ?_); refine bE 3 #[.int .i64 0, .slice none 0 0, .slice none 0 0, .slice none 0 0] 25 ?_; intro gb374 hg w59 hbox hb; replace HO365 := aM (Kd.N_below (Kd.N_elderB (zX HO365.out) gb374 (Nat.le_of_eq hg.symm)) hb); replace HO368 := aM (Kd.N_below (Kd.N_elderB (zX HO368.out) gb374 (Nat.le_of_eq hg.symm)) hb); replace HO371 := zRB HO371 hb; replace HB := zLB (zL2 HB.out (IsS98.ge HI0.out) GE361.out) hb; have BK374 := aM hbox; have GW374 := aM (zgK (g := g) (zK1 HK.out GW361.out) hg : w.heap.size ≤ gb374); have GE374 := aM ((Nat.le_trans HW0.out (zgK (g := g) (zK1 HK.out GW361.out) hg : w.heap.size ≤ gb374) : w0.heap.size ≤ gb374)); replace HK := zKB g (zK1 HK.out GW361.out) hb; have NB361_374 := aM (zN BK361.out hg : gb361 ≠ gb374); have NB374_361 := aM (zM BK361.out hg : gb374 ≠ gb361); replace BK361 := zBB BK361 hb; have NB0_374 := aM ((zNI (IsS98.lt (zI1 HI0.out NB0_361.out : IsS98 w0 _ g s0_0 t372 t373)) hg : g ≠ gb374)); have NB374_0 := aM ((zMI (IsS98.lt (zI1 HI0.out NB0_361.out : IsS98 w0 _ g s0_0 t372 t373)) hg : gb374 ≠ g)); replace HI0 := aM (IsS98.below (zI1 HI0.out NB0_361.out) hb); clear hb hbox hg; have hnb60 := NB374_361.out; have hnc60 := NB361_374.out; have hnb61 := NB374_0.out; have hnc61 := NB0_374.out; have hcz62 := zc4 BK374.out; have hfz62 := zf4 BK374.out; obtain ⟨Ao63, co63, eo63⟩ := Kd.N_slice HO365.out; subst eo63; obtain ⟨Ao64, co64, eo64⟩ := Kd.N_slice HO368.out; subst eo64; obtain ⟨Ao65, co65, eo65⟩ := Kd.R_slice HO371.out; subst eo65) | ((with_reducible refine gC 83 rfl ?_); refine gL 7 Try.func83 #[.pointer (some ⟨g, 0, none⟩), .int .i64 12] ?_; (with_reducible refine (spec_l1Below.calls g s0_0 t372 t373 12 t375 t376 t377 w0 _ ?side1 ?side2 A3.out).mono ?_); (case side1 => exact zI2 HI0.out NB0_361.out NB0_374.out); (case side2 => exact zL3 HB.out (IsS98.ge HI0.out) GE361.out GE374.out); rintro e w66 ⟨rfl, hi, hb, hk⟩; refine ⟨_, rfl, ?_⟩; replace BK361 := aM (zQ2 (.cells #[.int .i64 0, .slice none 0 0, .slice none 0 0, .slice none 0 0] 25 (0, 0)) hk (by refine zB ?_; refine zr4 ?_ NB361_374.out; exact zB BK361.out) NB361_0.out (by simp)); replace HO365 := aM (Kd.N_mono (Kd.N_keep (Kd.N_mono (ok := fun k_ => ((((w.heap.size ≤ k_)) ∧ (some k_ ≠ (.slice Ao64 t366.length co64 : Value).ownBlock ∧ (some k_ ≠ (.slice Ao65 t369.length co65 : Value).ownBlock ∧ (k_ ≠ gb361 ∧ k_ ≠ g)))) ∧ k_ ≠ gb374)) (by (with_reducible repeat (first | apply Kd.N_alloc | apply Kd.N_drewN | apply Kd.N_drew)); exact (Kd.N_mono (zNF4 (Kd.N_mono HO365.out (fun k_ hk => (⟨hk, hk.2⟩ : _ ∧ k_ ≠ gb374))) gb374 (fun _ hk => hk.2) (.int .i64 t362) (.slice Ao63 t363.length co63) (.slice Ao64 t366.length co64) (.slice Ao65 t369.length co65)) (fun _ h_ => h_.1))) (fun k_ hk_ => (⟨hk_, hk_.1.2.2.2.2⟩ : _ ∧ k_ ≠ g))) hk (fun _ h => h.2)) (fun _ h => h.1)); replace HO368 := aM (Kd.N_mono (Kd.N_keep (Kd.N_mono (ok := fun k_ => ((((w.heap.size ≤ k_)) ∧ (some k_ ≠ (.slice Ao63 t363.length co63 : Value).ownBlock ∧ (some k_ ≠ (.slice Ao65 t369.length co65 : Value).ownBlock ∧ (k_ ≠ gb361 ∧ k_ ≠ g)))) ∧ k_ ≠ gb374)) (by (with_reducible repeat (first | apply Kd.N_alloc | apply Kd.N_drewN | apply Kd.N_drew)); exact (Kd.N_mono (zNF4 (Kd.N_mono HO368.out (fun k_ hk => (⟨hk, hk.2⟩ : _ ∧ k_ ≠ gb374))) gb374 (fun _ hk => hk.2) (.int .i64 t362) (.slice Ao63 t363.length co63) (.slice Ao64 t366.length co64) (.slice Ao65 t369.length co65)) (fun _ h_ => h_.1))) (fun k_ hk_ => (⟨hk_, hk_.1.2.2.2.2⟩ : _ ∧ k_ ≠ g))) hk (fun _ h => h.2)) (fun _ h => h.1)); replace HO371 := aM (Kd.R_mono (Kd.R_keep (IsS98.apart (show IsS98 w0 _ g s0_0 t372 t373 from zI2 HI0.out NB0_361.out NB0_374.out) (by (with_reducible repeat (first | apply Kd.R_alloc | apply Kd.R_drewN | apply Kd.R_drew)); exact (Kd.R_mono (zRF4 (Kd.R_types HO371.out BK374.out (by decide)) gb374 (fun _ hk => hk.2) (.int .i64 t362) (.slice Ao63 t363.length co63) (.slice Ao64 t366.length co64) (.slice Ao65 t369.length co65)) (fun _ h_ => h_.1))) (by decide)) hk (fun _ h => h.2)) (fun _ h => h.1)); replace BK374 := aM (zQ2 (.cells #[.int .i64 t362, .slice Ao63 t363.length co63, .slice Ao64 t366.length co64, .slice Ao65 t369.length co65] 25 (0, 0)) hk (by refine zB ?_; refine zp4 (cs := #[.int .i64 0, .slice none 0 0, .slice none 0 0, .slice none 0 0]) ?_; exact zB BK374.out) NB374_0.out (by simp)); replace HK := zKK (zK2 HK.out GW361.out GW374.out) hk; replace HB := aM hb; replace HI0 := aM hi; clear hi hb hk))
      replace HO365 := zXD HO365; replace HO368 := zXD HO368; replace HO371 := zRD HO371; replace BK361 := zBD BK361; replace BK374 := zBD BK374; replace HI0 := aM (IsS98.drew HI0.out); replace HK := aM (keep_drew HK.out); replace HB := zLD HB
      refine start_ (n := 11) (S := fun w' => zs4 w' gb374 (.int .i64 t362) (.slice Ao63 t363.length co63) (.slice Ao64 t366.length co64) (.slice Ao65 t369.length co65)) (ds := [10]) (fB 11 0) (by kernel_rfl) rfl rfl (zc4 BK374.out) (fun hHeld => ?_); refine with_tabW spec_l8Any.tab8 spec_l8Any.bits8 (fun HT_ HW_ => ?_)
      generalize w66.drew = w67 at HO365 HO368 HO371 BK361 BK374 HI0 HK HB hHeld ⊢
      refine pY 0 31 (fB 11 1) HT_.out ?_
      refine pY 2 33 (fB 11 5) HT_.out ?_
      refine pY 4 35 (fB 11 21) HT_.out ?_
      refine pY 5 36 (fB 11 53) HT_.out ?_
      refine tY 1 32 (fB 11 55) HT_.out HW_.out hHeld ?_
      refine tY 6 37 (fB 11 119) HT_.out HW_.out hHeld ?_
      refine oN 3 34 (fB 11 127) HT_.out fun K hK => ?_
      refine gS Try.func83 #[.pointer (some ⟨g, 0, none⟩), .int .i64 8] ?_
      with_reducible refine (spec_l1Below.calls g s0_0 t376 t377 8 t396 t397 t398 w0 _ ?side1 ?side2 A52.out).mono ?_
      (case side1 => exact zI2 HI0.out NB0_361.out NB0_374.out)
      (case side2 => exact zL3 HB.out (IsS98.ge HI0.out) GE361.out GE374.out)
      rintro e w68 ⟨rfl, hi, hb, hk⟩
      refine ⟨_, rfl, ?_⟩
      replace BK361 := zBK hk BK361 NB361_0; replace HO365 := aM (Kd.N_mono (Kd.N_keep (Kd.N_mono (ok := fun k_ => ((((w.heap.size ≤ k_)) ∧ (some k_ ≠ (.slice Ao64 t366.length co64 : Value).ownBlock ∧ (some k_ ≠ (.slice Ao65 t369.length co65 : Value).ownBlock ∧ (k_ ≠ gb361 ∧ k_ ≠ g)))) ∧ k_ ≠ gb374)) (zX HO365.out) (fun k_ hk_ => (⟨hk_, hk_.1.2.2.2.2⟩ : _ ∧ k_ ≠ g))) hk (fun _ h => h.2)) (fun _ h => h.1)); replace HO368 := aM (Kd.N_mono (Kd.N_keep (Kd.N_mono (ok := fun k_ => ((((w.heap.size ≤ k_)) ∧ (some k_ ≠ (.slice Ao63 t363.length co63 : Value).ownBlock ∧ (some k_ ≠ (.slice Ao65 t369.length co65 : Value).ownBlock ∧ (k_ ≠ gb361 ∧ k_ ≠ g)))) ∧ k_ ≠ gb374)) (zX HO368.out) (fun k_ hk_ => (⟨hk_, hk_.1.2.2.2.2⟩ : _ ∧ k_ ≠ g))) hk (fun _ h => h.2)) (fun _ h => h.1)); replace HO371 := aM (Kd.R_mono (Kd.R_keep (IsS98.apart (show IsS98 w0 _ g s0_0 t376 t377 from zI2 HI0.out NB0_361.out NB0_374.out) (zR HO371.out) (by decide)) hk (fun _ h => h.2)) (fun _ h => h.1)); replace BK374 := zBK hk BK374 NB374_0; replace HK := zKK (zK2 HK.out GW361.out GW374.out) hk; replace HB := aM hb; replace HI0 := aM hi
      clear hi hb hk
      refine hK.out _ _ (zc4 BK374.out) fun hHeld => ?_; clear hK K
      refine nZ 34 ?_
      refine oN 7 38 (fB 11 255) HT_.out fun K hK => ?_
      refine gS Try.func82 #[.pointer (some ⟨g, 0, none⟩), .int .i64 t362, .int .i64 9] ?_
      with_reducible refine (spec_l8Timer.calls g s0_0 t397 t398 t362 9 t399 t400 t401 t402 t403 w0 _ ?side1 ?side2 A53.out).mono ?_
      (case side1 => exact zI2 HI0.out NB0_361.out NB0_374.out)
      (case side2 => exact zL3 HB.out (IsS98.ge HI0.out) GE361.out GE374.out)
      rintro e w69 ⟨rfl, hi, hb, hk⟩
      refine ⟨_, rfl, ?_⟩
      replace BK361 := zBK hk BK361 NB361_0; replace HO365 := aM (Kd.N_mono (Kd.N_keep (Kd.N_mono (ok := fun k_ => ((((w.heap.size ≤ k_)) ∧ (some k_ ≠ (.slice Ao64 t366.length co64 : Value).ownBlock ∧ (some k_ ≠ (.slice Ao65 t369.length co65 : Value).ownBlock ∧ (k_ ≠ gb361 ∧ k_ ≠ g)))) ∧ k_ ≠ gb374)) (zX HO365.out) (fun k_ hk_ => (⟨hk_, hk_.1.2.2.2.2⟩ : _ ∧ k_ ≠ g))) hk (fun _ h => h.2)) (fun _ h => h.1)); replace HO368 := aM (Kd.N_mono (Kd.N_keep (Kd.N_mono (ok := fun k_ => ((((w.heap.size ≤ k_)) ∧ (some k_ ≠ (.slice Ao63 t363.length co63 : Value).ownBlock ∧ (some k_ ≠ (.slice Ao65 t369.length co65 : Value).ownBlock ∧ (k_ ≠ gb361 ∧ k_ ≠ g)))) ∧ k_ ≠ gb374)) (zX HO368.out) (fun k_ hk_ => (⟨hk_, hk_.1.2.2.2.2⟩ : _ ∧ k_ ≠ g))) hk (fun _ h => h.2)) (fun _ h => h.1)); replace HO371 := aM (Kd.R_mono (Kd.R_keep (IsS98.apart (show IsS98 w0 _ g s0_0 t397 t398 from zI2 HI0.out NB0_361.out NB0_374.out) (zR HO371.out) (by decide)) hk (fun _ h => h.2)) (fun _ h => h.1)); replace BK374 := zBK hk BK374 NB374_0; replace HK := zKK (zK2 HK.out GW361.out GW374.out) hk; replace HB := aM hb; replace HI0 := aM hi
      clear hi hb hk
      refine hK.out _ _ (zc4 BK374.out) fun hHeld => ?_; clear hK K
      refine nZ 38 ?_
      refine oN 8 39 (fB 11 511) HT_.out fun K hK => ?_
      refine Kd.R_lit_step k46 _ 46 ?hg (N := 39) ?hd (xs := ([(⟨t399, t400, t401⟩ : S46)] : List (S46))) (inner := [.int .i64 t399, .int .i64 t400, .int .i64 t401]) (ok := fun _ => True) (okp := fun _ => True) ?hr ?hp (fun _ hk => hk) trivial (Below.refl _ _) (Nat.le_refl _) (by simp) ?_; (case hd => rfl); (case hg => rfl); (case hr => first | (go_simp; done) | (go_simp; rfl)); (case hp => exact (Reps.c3 (show Kd.M k46 _ _ _ (⟨t399, t400, t401⟩ : S46) [.int .i64 t399, .int .i64 t400, .int .i64 t401] from (k46_mkM _ _ _ (⟨t399, t400, t401⟩ : S46) )) (Reps.none _ _)))
      intro v405 w70 ho71 hb hg_ hnew_
      clear hg_ hnew_
      (first | rw [← Ny404.out] at ho71 | (simp only [Int.reduceToNat] at ho71; rw [← Ny404.out] at ho71))
      replace HO365 := aM (Kd.N_elder' (zX HO365.out) (Kd.R_base ho71) hb); replace HO368 := aM (Kd.N_elder' (zX HO368.out) (Kd.R_base ho71) hb); have HO406 := aM (Kd.R_lower (Kd.R_new' (Kd.R_newM (M := fun k_ => (w.heap.size ≤ k_)) ho71 (keep_size (w := w) (g := g) (row := none) (zK2 HK.out GW361.out GW374.out)) (fun k_ h_ => h_)) (Kd.R_lt (zR HO371.out))) (keep_size (w := w) (g := g) (row := none) (zK2 HK.out GW361.out GW374.out))); replace HO371 := aM (Kd.R_elder' (zR HO371.out) (Kd.R_base ho71) hb); replace BK361 := zBB BK361 hb; replace BK374 := zBB BK374 hb; replace HK := zKB g (zK2 HK.out GW361.out GW374.out) hb; replace HB := zLB (zL3 HB.out (IsS98.ge HI0.out) GE361.out GE374.out) hb; replace HI0 := aM (IsS98.below (zI2 HI0.out NB0_361.out NB0_374.out) hb)
      clear hb ho71
      have p56 : 0 ≤ (t396 : Int) := zD
      have q56 : (t396 : Int) < ((t366.length : Int) : Int) := zD
      obtain ⟨go56, co56, eo56, gb56, gl56, cl56, HG56⟩ := Kd.N_form HO368.out (by omega)
      (first | cases eo56 | (injection eo56 with ea_ en_ ec_; (first | subst ea_ | (injection ea_ with ea_; subst ea_)); subst ec_; clear en_))
      have GB56 := aM gb56
      have GG56 := aM HG56
      clear gb56 gl56 HG56
      obtain ⟨ce56, hcl56, hM56, hcc56, hfr56⟩ := Kd.N_elem HO368.out [] (t396 : Int) p56 q56
      obtain ⟨ua56_0, uc56_0, rfl, ul56_0, ge56_0⟩ := Kd.FK_slice_open hM56
      have hx56_0 := hcc56 0 _ rfl
      have hf56_0 := hfr56 0
      (try simp only [show ((Kd.slice 46 k46)).sz = 1 from rfl, Nat.mul_one, Nat.add_zero] at hx56_0)
      (try simp only [show ((Kd.slice 46 k46)).sz = 1 from rfl, Nat.mul_one, Nat.add_zero] at hf56_0)
      clear hcl56 hcc56 hfr56; (try clear hM56)
      replace p56 := eq_true p56
      replace q56 := eq_true q56
      have HN0_go56 := aM (show g ≠ go56 from by have h_ := IsS98.own_neN HI0.out HO368.out (by decide); intro e_; exact h_ (by rw [e_]; rfl))
      have HX72 := aM (show Kd.N (Kd.slice 46 k46) 23 _ w.heap.size (fun k_ => (w.heap.size ≤ k_) ∧ some k_ ≠ (.slice Ao63 t363.length co63 : Value).ownBlock ∧ some k_ ≠ (.slice Ao65 t369.length co65 : Value).ownBlock ∧ some k_ ≠ (v405 : Value).ownBlock ∧ k_ ≠ gb361 ∧ k_ ≠ gb374 ∧ k_ ≠ g) (.slice (some ⟨go56, 0, none⟩) t366.length co64) t366 from (Kd.N_mono (HO368.out) (fun k_ hk => ⟨hk.1.1.1, ⟨hk.1.1.2.1, ⟨hk.1.1.2.2.1, ⟨hk.2, ⟨hk.1.1.2.2.2.1, ⟨hk.1.2, hk.1.1.2.2.2.2⟩⟩⟩⟩⟩⟩)))
      replace HX72 := aM (show Kd.N (Kd.slice 46 k46) 23 _ w.heap.size (fun k_ => (w.heap.size ≤ k_) ∧ some k_ ≠ (.slice Ao63 t363.length co63 : Value).ownBlock ∧ some k_ ≠ (.slice Ao65 t369.length co65 : Value).ownBlock ∧ k_ ≠ gb361 ∧ k_ ≠ gb374 ∧ k_ ≠ g) (.slice (some ⟨go56, 0, none⟩) t366.length co64) t366 from Kd.N_mono HX72.out (fun k_ hk => ⟨hk.1, ⟨hk.2.1, ⟨hk.2.2.1, ⟨hk.2.2.2.2.1, ⟨hk.2.2.2.2.2.1, hk.2.2.2.2.2.2⟩⟩⟩⟩⟩))
      obtain ⟨ce72, hcl72, hM72, hcc72, hfr72⟩ := Kd.N_elem HX72.out [] (t396 : Int) (zD) (by have h_ : (t396 : Int) < ((t366.length : Int) : Int) := zD; first | exact h_ | (have e_ := (Kd.N_reads' HO368.out).1; omega) | simpa using h_)
      obtain ⟨ua72_0, uc72_0, rfl, ul72_0, ge72_0⟩ := Kd.FK_slice_open hM72
      obtain ⟨Av405, cv405, ev_⟩ := Kd.R_slice HO406.out
      subst ev_
      have HEHP72_ := (IsS98.apart HI0.out (Kd.R_types (Kd.R_types (Kd.R_apart' (Kd.R_apart' (HO406.out) (Kd.N_typed HO365.out) (by decide)) (Kd.N_typed HO368.out) (by decide)) BK361.out (by decide)) BK374.out (by decide)) (by decide))
      have HRHP72_ := Kd.R_mono (ok' := (fun k_ => ((fun k_ => (w.heap.size ≤ k_) ∧ some k_ ≠ (.slice Ao63 t363.length co63 : Value).ownBlock ∧ some k_ ≠ (.slice Ao65 t369.length co65 : Value).ownBlock ∧ k_ ≠ gb361 ∧ k_ ≠ gb374 ∧ k_ ≠ g)) k_ ∧ k_ ≠ go56)) HEHP72_ (fun k_ hk => ⟨⟨hk.1.1.1.1.1.1.1, ⟨hk.1.1.1.1.2, ⟨hk.1.1.1.1.1.2, ⟨hk.1.1.2, ⟨hk.1.2, hk.2⟩⟩⟩⟩⟩, fun e_ => (hk.1.1.1.2) (by rw [e_]; rfl)⟩)
      have HP72 := (Kd.N_seg HX72.out (t396 : Int) (zD) (by have h_ : (t396 : Int) < ((t366.length : Int) : Int) := zD; first | exact h_ | (have e_ := (Kd.N_reads' HO368.out).1; omega) | simpa using h_) (seg := [(.slice Av405 y404.length cv405)]) (j := 0) hcl72 hcc72 (show 1 ≤ 1 from by decide) (x' := y404) (fk13_of HRHP72_) (fun _ hk => hk)).1
      (try simp only [show ((Kd.slice 46 k46)).sz = 1 from rfl, Nat.mul_one, Nat.add_zero] at HP72)
      rw [← Ny407.out] at HP72
      have HQ72 := aM HP72
      clear hcl72 hcc72 hfr72 HP72; (try clear hM72)
      refine hK.out _ _ (zc4 BK374.out) fun hHeld => ?_; clear hK K
      refine nZ 39 ?_
      refine pY 9 40 (fB 11 1023) HT_.out ?_
      refine last_ (i := 10) (N := none) #[true, true, true, true, true, true, true, true, true, true, true] rfl rfl (one_of HT_.out (by kernel_rfl)) (by decide) (fun K hK => ?_)
      refine skip_ (w1 := ?_) (by rfl) rfl ?_ ?_
      rotate_left
      ·go_simp
       rfl
      refine hK.out _ _ ?_
      clear hK K
      refine done_ (done_of HT_.out (by kernel_rfl)) ?_
      have n0_ : Aside0 (Kd.N (Kd.slice 46 k46) 23 (w70.setCell ⟨go56, (t396 : Int).toNat, none⟩ ((.slice Av405 y404.length cv405))) w.heap.size (fun k_ => (w.heap.size ≤ k_) ∧ some k_ ≠ (.slice (some ⟨go56, 0, none⟩) t366.length co64 : Value).ownBlock ∧ some k_ ≠ (.slice Ao65 t369.length co65 : Value).ownBlock ∧ k_ ≠ gb361 ∧ k_ ≠ g ∧ k_ ≠ gb374) (.slice Ao63 t363.length co63) t363) := ⟨by (with_reducible repeat (first | apply Kd.N_alloc | apply Kd.N_drewN | apply Kd.N_drew)); exact Kd.N_mono (Kd.N_far (p := ⟨go56, (t396 : Int).toNat, none⟩) (Kd.N_mono HO365.out (fun k_ hk => (⟨hk, fun e_ => hk.1.1.2.1 (by rw [e_]; rfl)⟩ : _ ∧ k_ ≠ go56))) (fun _ hk => hk.2) ((.slice Av405 y404.length cv405))) (fun _ hk => ⟨hk.1.1.1.1, ⟨hk.1.1.1.2.1, ⟨hk.1.1.1.2.2.1, ⟨hk.1.1.1.2.2.2.1, ⟨hk.1.1.1.2.2.2.2, hk.1.1.2⟩⟩⟩⟩⟩)⟩
      have n1_ : Aside0 (Kd.N (Kd.slice 46 k46) 23 (w70.setCell ⟨go56, (t396 : Int).toNat, none⟩ ((.slice Av405 y404.length cv405))) w.heap.size (fun k_ => (w.heap.size ≤ k_) ∧ some k_ ≠ (.slice Ao63 t363.length co63 : Value).ownBlock ∧ some k_ ≠ (.slice Ao65 t369.length co65 : Value).ownBlock ∧ k_ ≠ gb361 ∧ k_ ≠ g ∧ k_ ≠ gb374) (.slice (some ⟨go56, 0, none⟩) t366.length co64) y407) := ⟨by (with_reducible repeat (first | apply Kd.N_alloc | apply Kd.N_drewN | apply Kd.N_drew)); exact Kd.N_mono HQ72.out (fun _ hk => ⟨hk.1, ⟨hk.2.1, ⟨hk.2.2.1, ⟨hk.2.2.2.1, ⟨hk.2.2.2.2.2, hk.2.2.2.2.1⟩⟩⟩⟩⟩)⟩
      have n2_ : Aside0 (Kd.R k46 46 (w70.setCell ⟨go56, (t396 : Int).toNat, none⟩ ((.slice Av405 y404.length cv405))) w.heap.size (fun k_ => (w.heap.size ≤ k_)) (.slice Ao65 t369.length co65) t369) := ⟨by (with_reducible repeat (first | apply Kd.R_alloc | apply Kd.R_drewN | apply Kd.R_drew)); exact Kd.R_mono (Kd.R_far (p := ⟨go56, (t396 : Int).toNat, none⟩) (Kd.R_types HO371.out GG56.out (by decide)) (fun _ hk => hk.2) ((.slice Av405 y404.length cv405))) (fun _ hk => hk.1.1.1)⟩
      have n3_ : Aside0 ((w70.setCell ⟨go56, (t396 : Int).toNat, none⟩ ((.slice Av405 y404.length cv405))).heap[gb361]? = some (.cells #[.int .i64 0, .slice none 0 0, .slice none 0 0, .slice none 0 0] 25 (0, 0))) := ⟨by (with_reducible repeat (first | refine bN ?_ _ | refine bD ?_ | refine bA ?_ _)); refine blk_far ?_ (by have h_ := Kd.N_away HO368.out (fun k_ hk => (show k_ ≠ gb361 from by first | exact hk.2.2.2.1 | exact hk.1.2.2.2.1 | (obtain ⟨⟨⟨a1_, a2_, a3_, a4_, a5_⟩, a6_⟩, a7_⟩ := hk; assumption))); intro e_; exact h_ (by rw [e_]; rfl)) _; exact zB BK361.out⟩
      have n4_ : Aside0 ((w70.setCell ⟨go56, (t396 : Int).toNat, none⟩ ((.slice Av405 y404.length cv405))).heap[gb374]? = some (.cells #[.int .i64 t362, .slice Ao63 t363.length co63, .slice (some ⟨go56, 0, none⟩) t366.length co64, .slice Ao65 t369.length co65] 25 (0, 0))) := ⟨by (with_reducible repeat (first | refine bN ?_ _ | refine bD ?_ | refine bA ?_ _)); refine blk_far ?_ (by have h_ := Kd.N_away HO368.out (fun k_ hk => (show k_ ≠ gb374 from by first | exact hk.2.2.2.2.1 | exact hk.1.2.2.2.2.1 | (obtain ⟨⟨⟨a1_, a2_, a3_, a4_, a5_⟩, a6_⟩, a7_⟩ := hk; assumption))); intro e_; exact h_ (by rw [e_]; rfl)) _; exact zB BK374.out⟩
      have n5_ : Aside0 (IsS98 w0 (w70.setCell ⟨go56, (t396 : Int).toNat, none⟩ ((.slice Av405 y404.length cv405))) g s0_0 t402 t403) := ⟨by repeat (first | (with_reducible first | exact HI0.out | apply IsS98.alloc | apply IsS98.drewN | apply IsS98.drew | apply IsS98.set_1 | apply IsS98.set_2 | refine IsS98.far ?_ HN0_go56.out _ | refine IsS98.far ?_ NB0_361.out _ | refine IsS98.far ?_ NB0_374.out _) | exact HI0.out)⟩
      have n6_ : Aside0 (KeepBut w (w70.setCell ⟨go56, (t396 : Int).toNat, none⟩ ((.slice Av405 y404.length cv405))) g none) := ⟨by repeat (first | (with_reducible first | exact HK.out | apply KeepBut.set_ | apply keep_drewN | apply keep_drew | apply keep_alloc | refine keep_far ?_ GB56.out _ | refine keep_far ?_ GW361.out _ | refine keep_far ?_ GW374.out _) | exact HK.out)⟩
      have n7_ : Aside0 (Below w0.heap.size w0 (w70.setCell ⟨go56, (t396 : Int).toNat, none⟩ ((.slice Av405 y404.length cv405)))) := ⟨by repeat (first | (with_reducible first | exact HB.out | apply below_alloc | apply pw_below_drewN | apply below_drew1 | refine bS ?_ (Nat.le_trans HL.out GB56.out) | refine bS ?_ (IsS98.ge HI0.out) | refine bS ?_ GE361.out | refine bS ?_ GE374.out) | exact HB.out)⟩
      (try clear HO365)
      (try clear HO368)
      (try clear HO371)
      (try clear BK361)
      (try clear BK374)
      (try clear HI0)
      (try clear HK)
      (try clear HB)
      generalize (w70.setCell ⟨go56, (t396 : Int).toNat, none⟩ ((.slice Av405 y404.length cv405))) = w73 at n0_ n1_ n2_ n3_ n4_ n5_ n6_ n7_ ⊢
      have HO365 := n0_
      have HO368 := n1_
      have HO371 := n2_
      have BK361 := n3_
      have BK374 := n4_
      have HI0 := n5_
      have HK := n6_
      have HB := n7_
      clear n0_ n1_ n2_ n3_ n4_ n5_ n6_ n7_
      have hcz74 := zc4 BK374.out
      have hfz74 := zf4 BK374.out
      have hnb75 := NB361_0.out
      have hnc75 := NB0_361.out
      have hcz76 := zc4 BK361.out
      have hfz76 := zf4 BK361.out
      try go_wp2
      refine bodyPost_ret (results_cell_row rfl _ _ gb361 25 #[.int .i64 t362, .slice Ao63 t363.length co63, .slice (some ⟨go56, 0, none⟩) t366.length co64, .slice Ao65 t369.length co65] (0, 0) _ rfl (by refine zB ?_; refine zp4 (cs := #[.int .i64 0, .slice none 0 0, .slice none 0 0, .slice none 0 0]) ?_; exact zB BK361.out) Try.underlying25 rfl (by kernel_rfl)) rfl ?_
      exact ⟨_, _, _, zW, by (with_reducible repeat (first | apply Kd.N_alloc | apply Kd.N_drewN | apply Kd.N_drew)); exact Kd.N_mono (zNF4 (Kd.N_mono HO365.out (fun k_ hk => (⟨hk, hk.2.2.2.1⟩ : _ ∧ k_ ≠ gb361))) gb361 (fun _ hk => hk.2) (.int .i64 t362) (.slice Ao63 t363.length co63) (.slice (some ⟨go56, 0, none⟩) t366.length co64) (.slice Ao65 t369.length co65)) (fun _ hk => ⟨hk.1.1, ⟨hk.1.2.1, hk.1.2.2.1⟩⟩), by (with_reducible repeat (first | apply Kd.N_alloc | apply Kd.N_drewN | apply Kd.N_drew)); exact Kd.N_mono (zNF4 (Kd.N_mono HO368.out (fun k_ hk => (⟨hk, hk.2.2.2.1⟩ : _ ∧ k_ ≠ gb361))) gb361 (fun _ hk => hk.2) (.int .i64 t362) (.slice Ao63 t363.length co63) (.slice (some ⟨go56, 0, none⟩) t366.length co64) (.slice Ao65 t369.length co65)) (fun _ hk => ⟨hk.1.1, ⟨hk.1.2.1, hk.1.2.2.1⟩⟩), by (with_reducible repeat (first | apply Kd.R_alloc | apply Kd.R_drewN | apply Kd.R_drew)); exact Kd.R_mono (zRF4 (Kd.R_types HO371.out BK361.out (by decide)) gb361 (fun _ hk => hk.2) (.int .i64 t362) (.slice Ao63 t363.length co63) (.slice (some ⟨go56, 0, none⟩) t366.length co64) (.slice Ao65 t369.length co65)) (fun _ hk => hk.1), zI2 HI0.out NB0_361.out NB0_374.out, zL3 HB.out (IsS98.ge HI0.out) GE361.out GE374.out, zK2 HK.out GW361.out GW374.out⟩
     ·rw [if_neg c55] at H
      exact absurd H (by simp)
    ·rw [if_neg c54] at H
     exact absurd H (by simp)
   ·rw [if_neg c51] at H
    obtain ⟨c51b0, c51b1⟩ := zf c51
    by_cases c77 : t375 = 3
    ·rw [if_pos c77] at H
     obtain ⟨c77b0, c77b1⟩ := zt c77
     clear c77
     generalize hy408 : (([0, 1, 9] : List Int)) = y408 at H; (try rw [Option.bind_some] at H); have Ny408 := aM hy408.symm; clear hy408
     obtain ⟨⟨t411, t412, t413⟩, A78, H⟩ := zO H; try dsimp only at H
     obtain ⟨⟨t414, t415, t416, t417, t418⟩, A79, H⟩ := zO H; try dsimp only at H
     by_cases c80 : t369.length < 5864062014805
     ·rw [if_pos c80] at H
      have LMc80 := aM c80
      clear c80
      generalize hy419 : (t369 ++ [(⟨t414, t415, t416⟩ : S46)]) = y419 at H; (try rw [Option.bind_some] at H); have Ny419 := aM hy419.symm; clear hy419
      simp only [Option.some.injEq, Prod.mk.injEq] at H
      obtain ⟨rfl, rfl, rfl, rfl, rfl, rfl⟩ := H
      go_enter Try.func81, Try.ntmps81
      try go_wp2_with (first | ((with_reducible refine gD 2 rfl ?_); refine bE 2 #[.int .i64 0, .slice none 0 0, .slice none 0 0, .slice none 0 0] 25 ?_; intro gb361 hg w81 hbox hb; replace HB := zLB (zL1 HB.out (IsS98.ge HI0.out)) hb; have BK361 := aM hbox; have GW361 := aM (zgK (g := g) (zK HK.out) hg : w.heap.size ≤ gb361); have GE361 := aM ((Nat.le_trans HW0.out (zgK (g := g) (zK HK.out) hg : w.heap.size ≤ gb361) : w0.heap.size ≤ gb361)); replace HK := zKB g (zK HK.out) hb; have NB0_361 := aM ((zNI (IsS98.lt (zI HI0.out : IsS98 w0 _ g s0_0 s0_1 s0_2)) hg : g ≠ gb361)); have NB361_0 := aM ((zMI (IsS98.lt (zI HI0.out : IsS98 w0 _ g s0_0 s0_1 s0_2)) hg : gb361 ≠ g)); replace HI0 := aM (IsS98.below (zI HI0.out) hb); clear hb hbox hg) | ((with_reducible refine gC 86 rfl ?_); refine gL 5 Try.func86 #[.pointer (some ⟨g, 0, none⟩)] ?_; (with_reducible refine (spec_l8Draw.calls k g s0_0 s0_1 s0_2 t362 t363 t366 t369 t372 t373 w0 _ ?side1 ?side2 A2.out).mono ?_); (case side1 => exact zI1 HI0.out NB0_361.out); (case side2 => exact zL2 HB.out (IsS98.ge HI0.out) GE361.out); rintro e w82 ⟨v364, v367, v370, rfl, ho0, ho1, ho2, hi, hb, hk⟩; refine ⟨_, rfl, ?_⟩; have HO365 := aM (Kd.N_lower (Kd.N_mono (ok' := fun k_ => (w.heap.size ≤ k_) ∧ some k_ ≠ (v367 : Value).ownBlock ∧ some k_ ≠ (v370 : Value).ownBlock ∧ k_ ≠ gb361 ∧ k_ ≠ g) (Kd.S_N (Kd.S_bound ho0)) (fun k_ hk_ => ⟨(Nat.le_trans (keep_size (w := w) (g := g) (row := none) (zK1 HK.out GW361.out)) hk_.2.1), hk_.1.1, hk_.1.2, (Kd.freshB (g := gb361) (o := .cells #[.int .i64 0, .slice none 0 0, .slice none 0 0, .slice none 0 0] 25 (0, 0)) (zB BK361.out) k_ hk_.2.1), (IsS98.fresh (zI1 HI0.out NB0_361.out) k_ hk_.2.1)⟩)) (keep_size (w := w) (g := g) (row := none) (zK1 HK.out GW361.out))); have HO368 := aM (Kd.N_lower (Kd.N_mono (ok' := fun k_ => (w.heap.size ≤ k_) ∧ some k_ ≠ (v364 : Value).ownBlock ∧ some k_ ≠ (v370 : Value).ownBlock ∧ k_ ≠ gb361 ∧ k_ ≠ g) (Kd.S_N (Kd.S_bound ho1)) (fun k_ hk_ => ⟨(Nat.le_trans (keep_size (w := w) (g := g) (row := none) (zK1 HK.out GW361.out)) hk_.2.1), hk_.1.1, hk_.1.2, (Kd.freshB (g := gb361) (o := .cells #[.int .i64 0, .slice none 0 0, .slice none 0 0, .slice none 0 0] 25 (0, 0)) (zB BK361.out) k_ hk_.2.1), (IsS98.fresh (zI1 HI0.out NB0_361.out) k_ hk_.2.1)⟩)) (keep_size (w := w) (g := g) (row := none) (zK1 HK.out GW361.out))); replace BK361 := zBK hk BK361 NB361_0; have HO371 := aM (Kd.R_lower (Kd.R_newM (M := fun k_ => (w.heap.size ≤ k_)) ho2 (keep_size (w := w) (g := g) (row := none) (zK1 HK.out GW361.out)) (fun k_ h_ => h_)) (keep_size (w := w) (g := g) (row := none) (zK1 HK.out GW361.out))); replace HK := zKK (zK1 HK.out GW361.out) hk; replace HB := aM hb; replace HI0 := aM hi; clear ho0 hi hb hk; (try clear ho1); (try clear ho2)) | ((with_reducible refine gD 3 rfl ?_); refine bE 3 #[.int .i64 0, .slice none 0 0, .slice none 0 0, .slice none 0 0] 25 ?_; intro gb374 hg w83 hbox hb; replace HO365 := aM (Kd.N_below (Kd.N_elderB (zX HO365.out) gb374 (Nat.le_of_eq hg.symm)) hb); replace HO368 := aM (Kd.N_below (Kd.N_elderB (zX HO368.out) gb374 (Nat.le_of_eq hg.symm)) hb); replace HO371 := zRB HO371 hb; replace HB := zLB (zL2 HB.out (IsS98.ge HI0.out) GE361.out) hb; have BK374 := aM hbox; have GW374 := aM (zgK (g := g) (zK1 HK.out GW361.out) hg : w.heap.size ≤ gb374); have GE374 := aM ((Nat.le_trans HW0.out (zgK (g := g) (zK1 HK.out GW361.out) hg : w.heap.size ≤ gb374) : w0.heap.size ≤ gb374)); replace HK := zKB g (zK1 HK.out GW361.out) hb; have NB361_374 := aM (zN BK361.out hg : gb361 ≠ gb374); have NB374_361 := aM (zM BK361.out hg : gb374 ≠ gb361); replace BK361 := zBB BK361 hb; have NB0_374 := aM ((zNI (IsS98.lt (zI1 HI0.out NB0_361.out : IsS98 w0 _ g s0_0 t372 t373)) hg : g ≠ gb374)); have NB374_0 := aM ((zMI (IsS98.lt (zI1 HI0.out NB0_361.out : IsS98 w0 _ g s0_0 t372 t373)) hg : gb374 ≠ g)); replace HI0 := aM (IsS98.below (zI1 HI0.out NB0_361.out) hb); clear hb hbox hg; have hnb84 := NB374_361.out; have hnc84 := NB361_374.out; have hnb85 := NB374_0.out; have hnc85 := NB0_374.out; have hcz86 := zc4 BK374.out; have hfz86 := zf4 BK374.out; obtain ⟨Ao87, co87, eo87⟩ := Kd.N_slice HO365.out; subst eo87; obtain ⟨Ao88, co88, eo88⟩ := Kd.N_slice HO368.out; subst eo88; obtain ⟨Ao89, co89, eo89⟩ := Kd.R_slice HO371.out; subst eo89) | ((with_reducible refine gC 83 rfl ?_); refine gL 7 Try.func83 #[.pointer (some ⟨g, 0, none⟩), .int .i64 12] ?_; (with_reducible refine (spec_l1Below.calls g s0_0 t372 t373 12 t375 t376 t377 w0 _ ?side1 ?side2 A3.out).mono ?_); (case side1 => exact zI2 HI0.out NB0_361.out NB0_374.out); (case side2 => exact zL3 HB.out (IsS98.ge HI0.out) GE361.out GE374.out); rintro e w90 ⟨rfl, hi, hb, hk⟩; refine ⟨_, rfl, ?_⟩; replace BK361 := aM (zQ2 (.cells #[.int .i64 0, .slice none 0 0, .slice none 0 0, .slice none 0 0] 25 (0, 0)) hk (by refine zB ?_; refine zr4 ?_ NB361_374.out; exact zB BK361.out) NB361_0.out (by simp)); replace HO365 := aM (Kd.N_mono (Kd.N_keep (Kd.N_mono (ok := fun k_ => ((((w.heap.size ≤ k_)) ∧ (some k_ ≠ (.slice Ao88 t366.length co88 : Value).ownBlock ∧ (some k_ ≠ (.slice Ao89 t369.length co89 : Value).ownBlock ∧ (k_ ≠ gb361 ∧ k_ ≠ g)))) ∧ k_ ≠ gb374)) (by (with_reducible repeat (first | apply Kd.N_alloc | apply Kd.N_drewN | apply Kd.N_drew)); exact (Kd.N_mono (zNF4 (Kd.N_mono HO365.out (fun k_ hk => (⟨hk, hk.2⟩ : _ ∧ k_ ≠ gb374))) gb374 (fun _ hk => hk.2) (.int .i64 t362) (.slice Ao87 t363.length co87) (.slice Ao88 t366.length co88) (.slice Ao89 t369.length co89)) (fun _ h_ => h_.1))) (fun k_ hk_ => (⟨hk_, hk_.1.2.2.2.2⟩ : _ ∧ k_ ≠ g))) hk (fun _ h => h.2)) (fun _ h => h.1)); replace HO368 := aM (Kd.N_mono (Kd.N_keep (Kd.N_mono (ok := fun k_ => ((((w.heap.size ≤ k_)) ∧ (some k_ ≠ (.slice Ao87 t363.length co87 : Value).ownBlock ∧ (some k_ ≠ (.slice Ao89 t369.length co89 : Value).ownBlock ∧ (k_ ≠ gb361 ∧ k_ ≠ g)))) ∧ k_ ≠ gb374)) (by (with_reducible repeat (first | apply Kd.N_alloc | apply Kd.N_drewN | apply Kd.N_drew)); exact (Kd.N_mono (zNF4 (Kd.N_mono HO368.out (fun k_ hk => (⟨hk, hk.2⟩ : _ ∧ k_ ≠ gb374))) gb374 (fun _ hk => hk.2) (.int .i64 t362) (.slice Ao87 t363.length co87) (.slice Ao88 t366.length co88) (.slice Ao89 t369.length co89)) (fun _ h_ => h_.1))) (fun k_ hk_ => (⟨hk_, hk_.1.2.2.2.2⟩ : _ ∧ k_ ≠ g))) hk (fun _ h => h.2)) (fun _ h => h.1)); replace HO371 := aM (Kd.R_mono (Kd.R_keep (IsS98.apart (show IsS98 w0 _ g s0_0 t372 t373 from zI2 HI0.out NB0_361.out NB0_374.out) (by (with_reducible repeat (first | apply Kd.R_alloc | apply Kd.R_drewN | apply Kd.R_drew)); exact (Kd.R_mono (zRF4 (Kd.R_types HO371.out BK374.out (by decide)) gb374 (fun _ hk => hk.2) (.int .i64 t362) (.slice Ao87 t363.length co87) (.slice Ao88 t366.length co88) (.slice Ao89 t369.length co89)) (fun _ h_ => h_.1))) (by decide)) hk (fun _ h => h.2)) (fun _ h => h.1)); replace BK374 := aM (zQ2 (.cells #[.int .i64 t362, .slice Ao87 t363.length co87, .slice Ao88 t366.length co88, .slice Ao89 t369.length co89] 25 (0, 0)) hk (by refine zB ?_; refine zp4 (cs := #[.int .i64 0, .slice none 0 0, .slice none 0 0, .slice none 0 0]) ?_; exact zB BK374.out) NB374_0.out (by simp)); replace HK := zKK (zK2 HK.out GW361.out GW374.out) hk; replace HB := aM hb; replace HI0 := aM hi; clear hi hb hk))
      replace HO365 := zXD HO365; replace HO368 := zXD HO368; replace HO371 := zRD HO371; replace BK361 := zBD BK361; replace BK374 := zBD BK374; replace HI0 := aM (IsS98.drew HI0.out); replace HK := aM (keep_drew HK.out); replace HB := zLD HB
      refine start_ (n := 13) (S := fun w' => zs4 w' gb374 (.int .i64 t362) (.slice Ao87 t363.length co87) (.slice Ao88 t366.length co88) (.slice Ao89 t369.length co89)) (ds := [12]) (fB 13 0) (by kernel_rfl) rfl rfl (zc4 BK374.out) (fun hHeld => ?_); refine with_tabW spec_l8Any.tab10 spec_l8Any.bits10 (fun HT_ HW_ => ?_)
      generalize w90.drew = w91 at HO365 HO368 HO371 BK361 BK374 HI0 HK HB hHeld ⊢
      refine pY 0 43 (fB 13 1) HT_.out ?_
      refine pY 2 45 (fB 13 5) HT_.out ?_
      refine pY 3 46 (fB 13 13) HT_.out ?_
      refine pY 5 48 (fB 13 45) HT_.out ?_
      refine tY 1 44 (fB 13 47) HT_.out HW_.out hHeld ?_
      refine tY 4 47 (fB 13 63) HT_.out HW_.out hHeld ?_
      refine oN 6 49 (fB 13 127) HT_.out fun K hK => ?_
      refine Kd.R_lit_step (Kd.int .i64) _ 3 ?hg (N := 49) ?hd (xs := ([0, 1, 9] : List Int)) (inner := [.int .i64 0, .int .i64 1, .int .i64 9]) (ok := fun _ => True) (okp := fun _ => True) ?hr ?hp (fun _ hk => hk) trivial (Below.refl _ _) (Nat.le_refl _) (by simp) ?_; (case hd => rfl); (case hg => rfl); (case hr => first | (go_simp; done) | (go_simp; rfl)); (case hp => exact zhp)
      intro v409 w92 ho93 hb hg_ hnew_
      clear hg_ hnew_
      (first | rw [← Ny408.out] at ho93 | (simp only [Int.reduceToNat] at ho93; rw [← Ny408.out] at ho93))
      replace HO365 := aM (Kd.N_elder' (zX HO365.out) (Kd.R_base ho93) hb); replace HO368 := aM (Kd.N_elder' (zX HO368.out) (Kd.R_base ho93) hb); replace HO371 := zRB HO371 hb; have HO410 := aM (Kd.R_lower (Kd.R_newM (M := fun k_ => (w.heap.size ≤ k_)) ho93 (keep_size (w := w) (g := g) (row := none) (zK2 HK.out GW361.out GW374.out)) (fun k_ h_ => h_)) (keep_size (w := w) (g := g) (row := none) (zK2 HK.out GW361.out GW374.out))); replace BK361 := zBB BK361 hb; replace BK374 := zBB BK374 hb; replace HK := zKB g (zK2 HK.out GW361.out GW374.out) hb; replace HB := zLB (zL3 HB.out (IsS98.ge HI0.out) GE361.out GE374.out) hb; replace HI0 := aM (IsS98.below (zI2 HI0.out NB0_361.out NB0_374.out) hb)
      clear hb ho93
      obtain ⟨Ao94, co94, eo94⟩ := Kd.R_slice HO410.out
      (first | subst eo94 | (injection eo94 with f1_ f2_ f3_; have f4_ := f1_.symm; have f5_ := f3_.symm; clear f1_ f2_ f3_; subst f4_; subst f5_))
      refine hK.out _ _ (zc4 BK374.out) fun hHeld => ?_; clear hK K
      refine nZ 49 ?_
      refine oN 7 50 (fB 13 255) HT_.out fun K hK => ?_
      refine gS Try.func85 #[.pointer (some ⟨g, 0, none⟩), .slice Ao94 y408.length co94] ?_
      with_reducible refine (spec_l1Int.calls g s0_0 t376 t377 _ _ y408 t411 t412 t413 w0 _ ?side1 ?side2 ?side3 ?side4 ?side5 A78.out).mono ?_
      (case side1 => exact zI2 HI0.out NB0_361.out NB0_374.out)
      (case side2 => exact zL3 HB.out (IsS98.ge HI0.out) GE361.out GE374.out)
      (case side3 => exact zC (Kd.R_reads' HO410.out).2.2)
      (case side4 => exact (Kd.R_reads' HO410.out).2.1)
      (case side5 => exact far_slice (IsS98.own_ne HI0.out HO410.out (by decide)))
      rintro e w95 ⟨rfl, hi, hb, hk⟩
      refine ⟨_, rfl, ?_⟩
      replace BK361 := zBK hk BK361 NB361_0; replace HO365 := aM (Kd.N_mono (Kd.N_keep (Kd.N_mono (ok := fun k_ => (((((w.heap.size ≤ k_)) ∧ (some k_ ≠ (.slice Ao88 t366.length co88 : Value).ownBlock ∧ (some k_ ≠ (.slice Ao89 t369.length co89 : Value).ownBlock ∧ (k_ ≠ gb361 ∧ k_ ≠ g)))) ∧ k_ ≠ gb374) ∧ some k_ ≠ (.slice Ao94 y408.length co94 : Value).ownBlock)) (zX HO365.out) (fun k_ hk_ => (⟨hk_, hk_.1.1.2.2.2.2⟩ : _ ∧ k_ ≠ g))) hk (fun _ h => h.2)) (fun _ h => h.1)); replace HO368 := aM (Kd.N_mono (Kd.N_keep (Kd.N_mono (ok := fun k_ => (((((w.heap.size ≤ k_)) ∧ (some k_ ≠ (.slice Ao87 t363.length co87 : Value).ownBlock ∧ (some k_ ≠ (.slice Ao89 t369.length co89 : Value).ownBlock ∧ (k_ ≠ gb361 ∧ k_ ≠ g)))) ∧ k_ ≠ gb374) ∧ some k_ ≠ (.slice Ao94 y408.length co94 : Value).ownBlock)) (zX HO368.out) (fun k_ hk_ => (⟨hk_, hk_.1.1.2.2.2.2⟩ : _ ∧ k_ ≠ g))) hk (fun _ h => h.2)) (fun _ h => h.1)); replace HO371 := aM (Kd.R_mono (Kd.R_keep (IsS98.apart (show IsS98 w0 _ g s0_0 t376 t377 from zI2 HI0.out NB0_361.out NB0_374.out) (zR HO371.out) (by decide)) hk (fun _ h => h.2)) (fun _ h => h.1)); replace BK374 := zBK hk BK374 NB374_0; replace HO410 := aM (Kd.R_mono (Kd.R_keep (IsS98.apart (show IsS98 w0 _ g s0_0 t376 t377 from zI2 HI0.out NB0_361.out NB0_374.out) (zR HO410.out) (by decide)) hk (fun _ h => h.2)) (fun _ h => h.1)); replace HK := zKK (zK2 HK.out GW361.out GW374.out) hk; replace HB := aM hb; replace HI0 := aM hi
      clear hi hb hk
      refine hK.out _ _ (zc4 BK374.out) fun hHeld => ?_; clear hK K
      refine nZ 50 ?_
      refine oN 8 51 (fB 13 511) HT_.out fun K hK => ?_
      refine gS Try.func82 #[.pointer (some ⟨g, 0, none⟩), .int .i64 t362, .int .i64 t411] ?_
      with_reducible refine (spec_l8Timer.calls g s0_0 t412 t413 t362 t411 t414 t415 t416 t417 t418 w0 _ ?side1 ?side2 A79.out).mono ?_
      (case side1 => exact zI2 HI0.out NB0_361.out NB0_374.out)
      (case side2 => exact zL3 HB.out (IsS98.ge HI0.out) GE361.out GE374.out)
      rintro e w96 ⟨rfl, hi, hb, hk⟩
      refine ⟨_, rfl, ?_⟩
      replace BK361 := zBK hk BK361 NB361_0; replace HO365 := aM (Kd.N_mono (Kd.N_keep (Kd.N_mono (ok := fun k_ => (((((w.heap.size ≤ k_)) ∧ (some k_ ≠ (.slice Ao88 t366.length co88 : Value).ownBlock ∧ (some k_ ≠ (.slice Ao89 t369.length co89 : Value).ownBlock ∧ (k_ ≠ gb361 ∧ k_ ≠ g)))) ∧ k_ ≠ gb374) ∧ some k_ ≠ (.slice Ao94 y408.length co94 : Value).ownBlock)) (zX HO365.out) (fun k_ hk_ => (⟨hk_, hk_.1.1.2.2.2.2⟩ : _ ∧ k_ ≠ g))) hk (fun _ h => h.2)) (fun _ h => h.1)); replace HO368 := aM (Kd.N_mono (Kd.N_keep (Kd.N_mono (ok := fun k_ => (((((w.heap.size ≤ k_)) ∧ (some k_ ≠ (.slice Ao87 t363.length co87 : Value).ownBlock ∧ (some k_ ≠ (.slice Ao89 t369.length co89 : Value).ownBlock ∧ (k_ ≠ gb361 ∧ k_ ≠ g)))) ∧ k_ ≠ gb374) ∧ some k_ ≠ (.slice Ao94 y408.length co94 : Value).ownBlock)) (zX HO368.out) (fun k_ hk_ => (⟨hk_, hk_.1.1.2.2.2.2⟩ : _ ∧ k_ ≠ g))) hk (fun _ h => h.2)) (fun _ h => h.1)); replace HO371 := aM (Kd.R_mono (Kd.R_keep (IsS98.apart (show IsS98 w0 _ g s0_0 t412 t413 from zI2 HI0.out NB0_361.out NB0_374.out) (zR HO371.out) (by decide)) hk (fun _ h => h.2)) (fun _ h => h.1)); replace BK374 := zBK hk BK374 NB374_0; replace HO410 := aM (Kd.R_mono (Kd.R_keep (IsS98.apart (show IsS98 w0 _ g s0_0 t412 t413 from zI2 HI0.out NB0_361.out NB0_374.out) (zR HO410.out) (by decide)) hk (fun _ h => h.2)) (fun _ h => h.1)); replace HK := zKK (zK2 HK.out GW361.out GW374.out) hk; replace HB := aM hb; replace HI0 := aM hi
      clear hi hb hk
      refine hK.out _ _ (zc4 BK374.out) fun hHeld => ?_; clear hK K
      refine nZ 51 ?_
      refine oN 9 52 (fB 13 1023) HT_.out fun K hK => ?_
      refine value_ (w1 := ?_) (v := ?_) (by rfl) rfl ?_ ?_
      rotate_left 2
      ·go_simp
       constructor
       ·rfl
       ·rfl
      refine hK.out _ _ ⟨(bC (bA BK374.out _) 0).trans rfl, (bC (bA BK374.out _) 1).trans rfl, (bC (bA BK374.out _) 2).trans rfl, (bC (bA BK374.out _) 3).trans rfl⟩ fun hHeld => ?_; clear hK K
      refine nZ 52 ?_
      refine oN 10 53 (fB 13 2047) HT_.out fun K hK => ?_
      refine Kd.R_append_step k46 w.heap.size (by rfl) (.tmp 44) (.tmp 52) 23 46 (.agg #[(.int .i64 0), (.int .i64 0), (.int .i64 0)]) 24 rfl Try.underlying23 info46 rfl (by decide) (by omega) (.slice Ao89 t369.length co89) t369 (⟨t414, t415, t416⟩ : S46) [.int .i64 t414, .int .i64 t415, .int .i64 t416] (fun k_ => (w.heap.size ≤ k_)) (fun _ => False) rfl rfl ?aP (fun _ hk => hk.elim) ?aF ?aO (Below.refl _ _) ?aS ?aL ?_
      (case aP => exact k46_mkM _ _ _ (⟨t414, t415, t416⟩ : S46))
      (case aF => exact (fun k_ hk => (Nat.le_trans (keep_size (w := w) (g := g) (row := none) (zK2 HK.out GW361.out GW374.out)) hk)))
      (case aO => exact (zRm HO371.out (fun _ hk => hk.1)))
      (case aS => exact (keep_size (w := w) (g := g) (row := none) (zK2 HK.out GW361.out GW374.out)))
      (case aL => have := LMc80.out; omega)
      intro v420 w97 ho hb hg hat
      rw [← Ny419.out] at ho
      replace BK361 := aM (blk_grown (g := gb361) (o := .cells #[.int .i64 0, .slice none 0 0, .slice none 0 0, .slice none 0 0] 25 (0, 0)) (zB BK361.out) hg (Kd.R_ne HO371.out BK361.out (by decide))); replace HO365 := aM (Kd.N_afterv (ok := (fun k_ => (w.heap.size ≤ k_) ∧ some k_ ≠ (.slice Ao88 t366.length co88 : Value).ownBlock ∧ some k_ ≠ (.slice Ao94 y408.length co94 : Value).ownBlock ∧ k_ ≠ gb361 ∧ k_ ≠ g ∧ k_ ≠ gb374)) (zXm HO365.out (fun _ hk => ⟨⟨hk.1.1.1, ⟨hk.1.1.2.1, ⟨hk.2, ⟨hk.1.1.2.2.2.1, ⟨hk.1.1.2.2.2.2, hk.1.2⟩⟩⟩⟩⟩, hk.1.1.2.2.1⟩)) hg hat); replace HO368 := aM (Kd.N_afterv (ok := (fun k_ => (w.heap.size ≤ k_) ∧ some k_ ≠ (.slice Ao87 t363.length co87 : Value).ownBlock ∧ some k_ ≠ (.slice Ao94 y408.length co94 : Value).ownBlock ∧ k_ ≠ gb361 ∧ k_ ≠ g ∧ k_ ≠ gb374)) (zXm HO368.out (fun _ hk => ⟨⟨hk.1.1.1, ⟨hk.1.1.2.1, ⟨hk.2, ⟨hk.1.1.2.2.2.1, ⟨hk.1.1.2.2.2.2, hk.1.2⟩⟩⟩⟩⟩, hk.1.1.2.2.1⟩)) hg hat); replace BK374 := aM (blk_grown (g := gb374) (o := .cells #[.int .i64 t362, .slice Ao87 t363.length co87, .slice Ao88 t366.length co88, .slice Ao89 t369.length co89] 25 (0, 0)) (zB BK374.out) hg (Kd.R_ne HO371.out BK374.out (by decide))); replace HO410 := aM (Kd.R_over' (zR HO410.out) (Kd.R_typed (zR HO371.out)) (by decide) hg); replace HB := aM (below_weaken (zL3 HB.out (IsS98.ge HI0.out) GE361.out GE374.out) HL.out hb); replace HI0 := aM (IsS98.grown (zI2 HI0.out NB0_361.out NB0_374.out) hg (IsS98.own_ne HI0.out HO371.out (by decide))); replace HK := aM (KeepBut.trans (zK2 HK.out GW361.out GW374.out) (KeepBut.of_grown hg g) (Kd.R_base2 HO371.out)); have HO421 := aM (ho); clear HO371
      clear ho hb hg hat
      obtain ⟨Ao98, co98, eo98⟩ := Kd.R_slice HO421.out
      (first | subst eo98 | (injection eo98 with f1_ f2_ f3_; have f4_ := f1_.symm; have f5_ := f3_.symm; clear f1_ f2_ f3_; subst f4_; subst f5_))
      refine hK.out _ _ (zc4 BK374.out) fun hHeld => ?_; clear hK K
      refine nZ 53 ?_
      refine pY 11 54 (fB 13 4095) HT_.out ?_
      refine last_ (i := 12) (N := none) #[true, true, true, true, true, true, true, true, true, true, true, true, true] rfl rfl (one_of HT_.out (by kernel_rfl)) (by decide) (fun K hK => ?_)
      have hs99 : w97.cell? ⟨gb374, 3, none⟩ = some (.slice Ao89 t369.length co89) := (bC BK374.out 3).trans rfl
      have hfs99 := blk_frozen BK374.out 3
      have hns99_0 := NB361_374.out
      have hms99_0 := NB374_361.out
      refine skip_ (w1 := ?_) (by rfl) rfl ?_ ?_
      rotate_left
      ·go_simp
       rfl
      refine hK.out _ _ ?_
      clear hK K
      refine done_ (done_of HT_.out (by kernel_rfl)) ?_
      have hcz100 := zc4 BK374.out
      have hfz100 := zf4 BK374.out
      have hnb101 := NB361_0.out
      have hnc101 := NB0_361.out
      have hcz102 := zc4 BK361.out
      have hfz102 := zf4 BK361.out
      try go_wp2
      refine bodyPost_ret (results_cell_row rfl _ _ gb361 25 #[.int .i64 t362, .slice Ao87 t363.length co87, .slice Ao88 t366.length co88, .slice Ao98 y419.length co98] (0, 0) _ rfl (by refine zB ?_; refine zp4 (cs := #[.int .i64 0, .slice none 0 0, .slice none 0 0, .slice none 0 0]) ?_; (with_reducible repeat (first | refine bN ?_ _ | refine bD ?_ | refine bA ?_ _)); refine blk_far ?_ NB361_374.out _; exact zB BK361.out) Try.underlying25 rfl (by kernel_rfl)) rfl ?_
      exact ⟨_, _, _, zW, by (with_reducible repeat (first | apply Kd.N_alloc | apply Kd.N_drewN | apply Kd.N_drew)); exact Kd.N_mono (zNF4 (Kd.N_far (p := ⟨gb374, 3, none⟩) (Kd.N_mono (Kd.N_mono HO365.out (fun k_ hk => (⟨hk, hk.1.2.2.2.2.2⟩ : _ ∧ k_ ≠ gb374))) (fun k_ hk => (⟨hk, hk.1.1.2.2.2.1⟩ : _ ∧ k_ ≠ gb361))) (fun _ hk => hk.1.2) (.slice Ao98 y419.length co98)) gb361 (fun _ hk => hk.2) (.int .i64 t362) (.slice Ao87 t363.length co87) (.slice Ao88 t366.length co88) (.slice Ao98 y419.length co98)) (fun _ hk => ⟨hk.1.1.1.1, ⟨hk.1.1.1.2.1, hk.1.1.2⟩⟩), by (with_reducible repeat (first | apply Kd.N_alloc | apply Kd.N_drewN | apply Kd.N_drew)); exact Kd.N_mono (zNF4 (Kd.N_far (p := ⟨gb374, 3, none⟩) (Kd.N_mono (Kd.N_mono HO368.out (fun k_ hk => (⟨hk, hk.1.2.2.2.2.2⟩ : _ ∧ k_ ≠ gb374))) (fun k_ hk => (⟨hk, hk.1.1.2.2.2.1⟩ : _ ∧ k_ ≠ gb361))) (fun _ hk => hk.1.2) (.slice Ao98 y419.length co98)) gb361 (fun _ hk => hk.2) (.int .i64 t362) (.slice Ao87 t363.length co87) (.slice Ao88 t366.length co88) (.slice Ao98 y419.length co98)) (fun _ hk => ⟨hk.1.1.1.1, ⟨hk.1.1.1.2.1, hk.1.1.2⟩⟩), by (with_reducible repeat (first | apply Kd.R_alloc | apply Kd.R_drewN | apply Kd.R_drew)); exact Kd.R_mono (zRF4 (Kd.R_far (p := ⟨gb374, 3, none⟩) (Kd.R_types (Kd.R_types HO421.out BK374.out (by decide)) BK361.out (by decide)) (fun _ hk => hk.1.2) (.slice Ao98 y419.length co98)) gb361 (fun _ hk => hk.2) (.int .i64 t362) (.slice Ao87 t363.length co87) (.slice Ao88 t366.length co88) (.slice Ao98 y419.length co98)) (fun _ hk => hk.1.1), zI2 HI0.out NB0_361.out NB0_374.out, zL3 HB.out (IsS98.ge HI0.out) GE361.out GE374.out, zK2 HK.out GW361.out GW374.out⟩
     ·rw [if_neg c80] at H
      exact absurd H (by simp)
    ·rw [if_neg c77] at H
     obtain ⟨c77b0, c77b1⟩ := zf c77
     by_cases c103 : t375 = 4
     ·rw [if_pos c103] at H
      obtain ⟨c103b0, c103b1⟩ := zt c103
      clear c103
      by_cases c104 : 7 ≤ (t363.length : Int)
      ·rw [if_pos c104] at H
       have c104b0 := eq_true c104
       have c104b1 := dT c104
       clear c104
       generalize hy422 : (t363.take (7 : Int).toNat) = y422 at H; (try rw [Option.bind_some] at H); have Ny422 := aM hy422.symm; clear hy422
       simp only [Option.some.injEq, Prod.mk.injEq] at H
       obtain ⟨rfl, rfl, rfl, rfl, rfl, rfl⟩ := H
       go_enter Try.func81, Try.ntmps81
       go_wp2_with (first | ((with_reducible refine gD 2 rfl ?_); refine bE 2 #[.int .i64 0, .slice none 0 0, .slice none 0 0, .slice none 0 0] 25 ?_; intro gb361 hg w105 hbox hb; replace HB := zLB (zL1 HB.out (IsS98.ge HI0.out)) hb; have BK361 := aM hbox; have GW361 := aM (zgK (g := g) (zK HK.out) hg : w.heap.size ≤ gb361); have GE361 := aM ((Nat.le_trans HW0.out (zgK (g := g) (zK HK.out) hg : w.heap.size ≤ gb361) : w0.heap.size ≤ gb361)); replace HK := zKB g (zK HK.out) hb; have NB0_361 := aM ((zNI (IsS98.lt (zI HI0.out : IsS98 w0 _ g s0_0 s0_1 s0_2)) hg : g ≠ gb361)); have NB361_0 := aM ((zMI (IsS98.lt (zI HI0.out : IsS98 w0 _ g s0_0 s0_1 s0_2)) hg : gb361 ≠ g)); replace HI0 := aM (IsS98.below (zI HI0.out) hb); clear hb hbox hg) | ((with_reducible refine gC 86 rfl ?_); refine gL 5 Try.func86 #[.pointer (some ⟨g, 0, none⟩)] ?_; (with_reducible refine (spec_l8Draw.calls k g s0_0 s0_1 s0_2 t362 t363 t366 t369 t372 t373 w0 _ ?side1 ?side2 A2.out).mono ?_); (case side1 => exact zI1 HI0.out NB0_361.out); (case side2 => exact zL2 HB.out (IsS98.ge HI0.out) GE361.out); rintro e w106 ⟨v364, v367, v370, rfl, ho0, ho1, ho2, hi, hb, hk⟩; refine ⟨_, rfl, ?_⟩; have HO365 := aM (Kd.N_lower (Kd.N_mono (ok' := fun k_ => (w.heap.size ≤ k_) ∧ some k_ ≠ (v367 : Value).ownBlock ∧ some k_ ≠ (v370 : Value).ownBlock ∧ k_ ≠ gb361 ∧ k_ ≠ g) (Kd.S_N (Kd.S_bound ho0)) (fun k_ hk_ => ⟨(Nat.le_trans (keep_size (w := w) (g := g) (row := none) (zK1 HK.out GW361.out)) hk_.2.1), hk_.1.1, hk_.1.2, (Kd.freshB (g := gb361) (o := .cells #[.int .i64 0, .slice none 0 0, .slice none 0 0, .slice none 0 0] 25 (0, 0)) (zB BK361.out) k_ hk_.2.1), (IsS98.fresh (zI1 HI0.out NB0_361.out) k_ hk_.2.1)⟩)) (keep_size (w := w) (g := g) (row := none) (zK1 HK.out GW361.out))); have HO368 := aM (Kd.N_lower (Kd.N_mono (ok' := fun k_ => (w.heap.size ≤ k_) ∧ some k_ ≠ (v364 : Value).ownBlock ∧ some k_ ≠ (v370 : Value).ownBlock ∧ k_ ≠ gb361 ∧ k_ ≠ g) (Kd.S_N (Kd.S_bound ho1)) (fun k_ hk_ => ⟨(Nat.le_trans (keep_size (w := w) (g := g) (row := none) (zK1 HK.out GW361.out)) hk_.2.1), hk_.1.1, hk_.1.2, (Kd.freshB (g := gb361) (o := .cells #[.int .i64 0, .slice none 0 0, .slice none 0 0, .slice none 0 0] 25 (0, 0)) (zB BK361.out) k_ hk_.2.1), (IsS98.fresh (zI1 HI0.out NB0_361.out) k_ hk_.2.1)⟩)) (keep_size (w := w) (g := g) (row := none) (zK1 HK.out GW361.out))); replace BK361 := zBK hk BK361 NB361_0; have HO371 := aM (Kd.R_lower (Kd.R_newM (M := fun k_ => (w.heap.size ≤ k_)) ho2 (keep_size (w := w) (g := g) (row := none) (zK1 HK.out GW361.out)) (fun k_ h_ => h_)) (keep_size (w := w) (g := g) (row := none) (zK1 HK.out GW361.out))); replace HK := zKK (zK1 HK.out GW361.out) hk; replace HB := aM hb; replace HI0 := aM hi; clear ho0 hi hb hk; (try clear ho1); (try clear ho2)) | ((with_reducible refine gD 3 rfl ?_); refine bE 3 #[.int .i64 0, .slice none 0 0, .slice none 0 0, .slice none 0 0] 25 ?_; intro gb374 hg w107 hbox hb; replace HO365 := aM (Kd.N_below (Kd.N_elderB (zX HO365.out) gb374 (Nat.le_of_eq hg.symm)) hb); replace HO368 := aM (Kd.N_below (Kd.N_elderB (zX HO368.out) gb374 (Nat.le_of_eq hg.symm)) hb); replace HO371 := zRB HO371 hb; replace HB := zLB (zL2 HB.out (IsS98.ge HI0.out) GE361.out) hb; have BK374 := aM hbox; have GW374 := aM (zgK (g := g) (zK1 HK.out GW361.out) hg : w.heap.size ≤ gb374); have GE374 := aM ((Nat.le_trans HW0.out (zgK (g := g) (zK1 HK.out GW361.out) hg : w.heap.size ≤ gb374) : w0.heap.size ≤ gb374)); replace HK := zKB g (zK1 HK.out GW361.out) hb; have NB361_374 := aM (zN BK361.out hg : gb361 ≠ gb374); have NB374_361 := aM (zM BK361.out hg : gb374 ≠ gb361); replace BK361 := zBB BK361 hb; have NB0_374 := aM ((zNI (IsS98.lt (zI1 HI0.out NB0_361.out : IsS98 w0 _ g s0_0 t372 t373)) hg : g ≠ gb374)); have NB374_0 := aM ((zMI (IsS98.lt (zI1 HI0.out NB0_361.out : IsS98 w0 _ g s0_0 t372 t373)) hg : gb374 ≠ g)); replace HI0 := aM (IsS98.below (zI1 HI0.out NB0_361.out) hb); clear hb hbox hg; have hnb108 := NB374_361.out; have hnc108 := NB361_374.out; have hnb109 := NB374_0.out; have hnc109 := NB0_374.out; have hcz110 := zc4 BK374.out; have hfz110 := zf4 BK374.out; obtain ⟨Ao111, co111, eo111⟩ := Kd.N_slice HO365.out; subst eo111; obtain ⟨Ao112, co112, eo112⟩ := Kd.N_slice HO368.out; subst eo112; obtain ⟨Ao113, co113, eo113⟩ := Kd.R_slice HO371.out; subst eo113) | ((with_reducible refine gC 83 rfl ?_); refine gL 7 Try.func83 #[.pointer (some ⟨g, 0, none⟩), .int .i64 12] ?_; (with_reducible refine (spec_l1Below.calls g s0_0 t372 t373 12 t375 t376 t377 w0 _ ?side1 ?side2 A3.out).mono ?_); (case side1 => exact zI2 HI0.out NB0_361.out NB0_374.out); (case side2 => exact zL3 HB.out (IsS98.ge HI0.out) GE361.out GE374.out); rintro e w114 ⟨rfl, hi, hb, hk⟩; refine ⟨_, rfl, ?_⟩; replace BK361 := aM (zQ2 (.cells #[.int .i64 0, .slice none 0 0, .slice none 0 0, .slice none 0 0] 25 (0, 0)) hk (by refine zB ?_; refine zr4 ?_ NB361_374.out; exact zB BK361.out) NB361_0.out (by simp)); replace HO365 := aM (Kd.N_mono (Kd.N_keep (Kd.N_mono (ok := fun k_ => ((((w.heap.size ≤ k_)) ∧ (some k_ ≠ (.slice Ao112 t366.length co112 : Value).ownBlock ∧ (some k_ ≠ (.slice Ao113 t369.length co113 : Value).ownBlock ∧ (k_ ≠ gb361 ∧ k_ ≠ g)))) ∧ k_ ≠ gb374)) (by (with_reducible repeat (first | apply Kd.N_alloc | apply Kd.N_drewN | apply Kd.N_drew)); exact (Kd.N_mono (zNF4 (Kd.N_mono HO365.out (fun k_ hk => (⟨hk, hk.2⟩ : _ ∧ k_ ≠ gb374))) gb374 (fun _ hk => hk.2) (.int .i64 t362) (.slice Ao111 t363.length co111) (.slice Ao112 t366.length co112) (.slice Ao113 t369.length co113)) (fun _ h_ => h_.1))) (fun k_ hk_ => (⟨hk_, hk_.1.2.2.2.2⟩ : _ ∧ k_ ≠ g))) hk (fun _ h => h.2)) (fun _ h => h.1)); replace HO368 := aM (Kd.N_mono (Kd.N_keep (Kd.N_mono (ok := fun k_ => ((((w.heap.size ≤ k_)) ∧ (some k_ ≠ (.slice Ao111 t363.length co111 : Value).ownBlock ∧ (some k_ ≠ (.slice Ao113 t369.length co113 : Value).ownBlock ∧ (k_ ≠ gb361 ∧ k_ ≠ g)))) ∧ k_ ≠ gb374)) (by (with_reducible repeat (first | apply Kd.N_alloc | apply Kd.N_drewN | apply Kd.N_drew)); exact (Kd.N_mono (zNF4 (Kd.N_mono HO368.out (fun k_ hk => (⟨hk, hk.2⟩ : _ ∧ k_ ≠ gb374))) gb374 (fun _ hk => hk.2) (.int .i64 t362) (.slice Ao111 t363.length co111) (.slice Ao112 t366.length co112) (.slice Ao113 t369.length co113)) (fun _ h_ => h_.1))) (fun k_ hk_ => (⟨hk_, hk_.1.2.2.2.2⟩ : _ ∧ k_ ≠ g))) hk (fun _ h => h.2)) (fun _ h => h.1)); replace HO371 := aM (Kd.R_mono (Kd.R_keep (IsS98.apart (show IsS98 w0 _ g s0_0 t372 t373 from zI2 HI0.out NB0_361.out NB0_374.out) (by (with_reducible repeat (first | apply Kd.R_alloc | apply Kd.R_drewN | apply Kd.R_drew)); exact (Kd.R_mono (zRF4 (Kd.R_types HO371.out BK374.out (by decide)) gb374 (fun _ hk => hk.2) (.int .i64 t362) (.slice Ao111 t363.length co111) (.slice Ao112 t366.length co112) (.slice Ao113 t369.length co113)) (fun _ h_ => h_.1))) (by decide)) hk (fun _ h => h.2)) (fun _ h => h.1)); replace BK374 := aM (zQ2 (.cells #[.int .i64 t362, .slice Ao111 t363.length co111, .slice Ao112 t366.length co112, .slice Ao113 t369.length co113] 25 (0, 0)) hk (by refine zB ?_; refine zp4 (cs := #[.int .i64 0, .slice none 0 0, .slice none 0 0, .slice none 0 0]) ?_; exact zB BK374.out) NB374_0.out (by simp)); replace HK := zKK (zK2 HK.out GW361.out GW374.out) hk; replace HB := aM hb; replace HI0 := aM hi; clear hi hb hk; have hcz115 := zc4 BK374.out; have hfz115 := zf4 BK374.out; have q116 : (7 : Int) ≤ ((t363.length : Int) : Int) := zD; obtain ⟨i0116, hi0116, _, hsz116, _⟩ := info_parts info23; have hcut116 := cut_to (P := Try.prog) 22 23 .i64 Try.underlying22 hi0116 Ao111 t363.length co111 7 (by omega) q116 (Kd.N_reads' HO365.out).2.1; have hr116 := Kd.N_take (m := (7 : Int).toNat) HO365.out (by omega); have hy116 : y422.length = (7 : Int).toNat := (by rw [Ny422.out, List.length_take]; omega); rw [← Ny422.out] at hr116; rw [← hy116] at hr116 hcut116; clear hy116 hi0116 hsz116 HO365; have HO424 := aM hr116; clear hr116; replace q116 := eq_true q116; have hnb117 := NB361_0.out; have hnc117 := NB0_361.out; have hcz118 := zc4 BK361.out; have hfz118 := zf4 BK361.out))
       refine bodyPost_ret (results_cell_row rfl _ _ gb361 25 #[.int .i64 t362, .slice Ao111 y422.length co111, .slice Ao112 t366.length co112, .slice Ao113 t369.length co113] (0, 0) _ rfl (by refine zB ?_; refine zp4 (cs := #[.int .i64 0, .slice none 0 0, .slice none 0 0, .slice none 0 0]) ?_; (with_reducible repeat (first | refine bN ?_ _ | refine bD ?_ | refine bA ?_ _)); refine blk_far ?_ NB361_374.out _; exact zB BK361.out) Try.underlying25 rfl (by kernel_rfl)) rfl ?_
       exact ⟨_, _, _, zW, by (with_reducible repeat (first | apply Kd.N_alloc | apply Kd.N_drewN | apply Kd.N_drew)); exact Kd.N_mono (zNF4 (Kd.N_far (p := ⟨gb374, 1, none⟩) (Kd.N_mono (Kd.N_mono HO424.out (fun k_ hk => (⟨hk, hk.2⟩ : _ ∧ k_ ≠ gb374))) (fun k_ hk => (⟨hk, hk.1.1.2.2.2.1⟩ : _ ∧ k_ ≠ gb361))) (fun _ hk => hk.1.2) (.slice Ao111 y422.length co111)) gb361 (fun _ hk => hk.2) (.int .i64 t362) (.slice Ao111 y422.length co111) (.slice Ao112 t366.length co112) (.slice Ao113 t369.length co113)) (fun _ hk => ⟨hk.1.1.1.1, ⟨by first | exact hk.1.1.1.2.1 | exact fk13_ofo hk.1.1.1.2.1, hk.1.1.1.2.2.1⟩⟩), by (with_reducible repeat (first | apply Kd.N_alloc | apply Kd.N_drewN | apply Kd.N_drew)); exact Kd.N_mono (zNF4 (Kd.N_far (p := ⟨gb374, 1, none⟩) (Kd.N_mono (Kd.N_mono HO368.out (fun k_ hk => (⟨hk, hk.2⟩ : _ ∧ k_ ≠ gb374))) (fun k_ hk => (⟨hk, hk.1.1.2.2.2.1⟩ : _ ∧ k_ ≠ gb361))) (fun _ hk => hk.1.2) (.slice Ao111 y422.length co111)) gb361 (fun _ hk => hk.2) (.int .i64 t362) (.slice Ao111 y422.length co111) (.slice Ao112 t366.length co112) (.slice Ao113 t369.length co113)) (fun _ hk => ⟨hk.1.1.1.1, ⟨by first | exact hk.1.1.1.2.1 | exact fk13_ofo hk.1.1.1.2.1, hk.1.1.1.2.2.1⟩⟩), by (with_reducible repeat (first | apply Kd.R_alloc | apply Kd.R_drewN | apply Kd.R_drew)); exact Kd.R_mono (zRF4 (Kd.R_far (p := ⟨gb374, 1, none⟩) (Kd.R_types (Kd.R_types HO371.out BK374.out (by decide)) BK361.out (by decide)) (fun _ hk => hk.1.2) (.slice Ao111 y422.length co111)) gb361 (fun _ hk => hk.2) (.int .i64 t362) (.slice Ao111 y422.length co111) (.slice Ao112 t366.length co112) (.slice Ao113 t369.length co113)) (fun _ hk => hk.1.1.1), zI2 HI0.out NB0_361.out NB0_374.out, zL3 HB.out (IsS98.ge HI0.out) GE361.out GE374.out, zK2 HK.out GW361.out GW374.out⟩
      ·rw [if_neg c104] at H
       exact absurd H (by simp)
     ·rw [if_neg c103] at H
      obtain ⟨c103b0, c103b1⟩ := zf c103
      simp only [Option.some.injEq, Prod.mk.injEq] at H
      obtain ⟨rfl, rfl, rfl, rfl, rfl, rfl⟩ := H
      go_enter Try.func81, Try.ntmps81
      go_wp2_with (first | ((with_reducible refine gD 2 rfl ?_); refine bE 2 #[.int .i64 0, .slice none 0 0, .slice none 0 0, .slice none 0 0] 25 ?_; intro gb361 hg w119 hbox hb; replace HB := zLB (zL1 HB.out (IsS98.ge HI0.out)) hb; have BK361 := aM hbox; have GW361 := aM (zgK (g := g) (zK HK.out) hg : w.heap.size ≤ gb361); have GE361 := aM ((Nat.le_trans HW0.out (zgK (g := g) (zK HK.out) hg : w.heap.size ≤ gb361) : w0.heap.size ≤ gb361)); replace HK := zKB g (zK HK.out) hb; have NB0_361 := aM ((zNI (IsS98.lt (zI HI0.out : IsS98 w0 _ g s0_0 s0_1 s0_2)) hg : g ≠ gb361)); have NB361_0 := aM ((zMI (IsS98.lt (zI HI0.out : IsS98 w0 _ g s0_0 s0_1 s0_2)) hg : gb361 ≠ g)); replace HI0 := aM (IsS98.below (zI HI0.out) hb); clear hb hbox hg) | ((with_reducible refine gC 86 rfl ?_); refine gL 5 Try.func86 #[.pointer (some ⟨g, 0, none⟩)] ?_; (with_reducible refine (spec_l8Draw.calls k g s0_0 s0_1 s0_2 t362 t363 t366 t369 t372 t373 w0 _ ?side1 ?side2 A2.out).mono ?_); (case side1 => exact zI1 HI0.out NB0_361.out); (case side2 => exact zL2 HB.out (IsS98.ge HI0.out) GE361.out); rintro e w120 ⟨v364, v367, v370, rfl, ho0, ho1, ho2, hi, hb, hk⟩; refine ⟨_, rfl, ?_⟩; have HO365 := aM (Kd.N_lower (Kd.N_mono (ok' := fun k_ => (w.heap.size ≤ k_) ∧ some k_ ≠ (v367 : Value).ownBlock ∧ some k_ ≠ (v370 : Value).ownBlock ∧ k_ ≠ gb361 ∧ k_ ≠ g) (Kd.S_N (Kd.S_bound ho0)) (fun k_ hk_ => ⟨(Nat.le_trans (keep_size (w := w) (g := g) (row := none) (zK1 HK.out GW361.out)) hk_.2.1), hk_.1.1, hk_.1.2, (Kd.freshB (g := gb361) (o := .cells #[.int .i64 0, .slice none 0 0, .slice none 0 0, .slice none 0 0] 25 (0, 0)) (zB BK361.out) k_ hk_.2.1), (IsS98.fresh (zI1 HI0.out NB0_361.out) k_ hk_.2.1)⟩)) (keep_size (w := w) (g := g) (row := none) (zK1 HK.out GW361.out))); have HO368 := aM (Kd.N_lower (Kd.N_mono (ok' := fun k_ => (w.heap.size ≤ k_) ∧ some k_ ≠ (v364 : Value).ownBlock ∧ some k_ ≠ (v370 : Value).ownBlock ∧ k_ ≠ gb361 ∧ k_ ≠ g) (Kd.S_N (Kd.S_bound ho1)) (fun k_ hk_ => ⟨(Nat.le_trans (keep_size (w := w) (g := g) (row := none) (zK1 HK.out GW361.out)) hk_.2.1), hk_.1.1, hk_.1.2, (Kd.freshB (g := gb361) (o := .cells #[.int .i64 0, .slice none 0 0, .slice none 0 0, .slice none 0 0] 25 (0, 0)) (zB BK361.out) k_ hk_.2.1), (IsS98.fresh (zI1 HI0.out NB0_361.out) k_ hk_.2.1)⟩)) (keep_size (w := w) (g := g) (row := none) (zK1 HK.out GW361.out))); replace BK361 := zBK hk BK361 NB361_0; have HO371 := aM (Kd.R_lower (Kd.R_newM (M := fun k_ => (w.heap.size ≤ k_)) ho2 (keep_size (w := w) (g := g) (row := none) (zK1 HK.out GW361.out)) (fun k_ h_ => h_)) (keep_size (w := w) (g := g) (row := none) (zK1 HK.out GW361.out))); replace HK := zKK (zK1 HK.out GW361.out) hk; replace HB := aM hb; replace HI0 := aM hi; clear ho0 hi hb hk; (try clear ho1); (try clear ho2)) | ((with_reducible refine gD 3 rfl ?_); refine bE 3 #[.int .i64 0, .slice none 0 0, .slice none 0 0, .slice none 0 0] 25 ?_; intro gb374 hg w121 hbox hb; replace HO365 := aM (Kd.N_below (Kd.N_elderB (zX HO365.out) gb374 (Nat.le_of_eq hg.symm)) hb); replace HO368 := aM (Kd.N_below (Kd.N_elderB (zX HO368.out) gb374 (Nat.le_of_eq hg.symm)) hb); replace HO371 := zRB HO371 hb; replace HB := zLB (zL2 HB.out (IsS98.ge HI0.out) GE361.out) hb; have BK374 := aM hbox; have GW374 := aM (zgK (g := g) (zK1 HK.out GW361.out) hg : w.heap.size ≤ gb374); have GE374 := aM ((Nat.le_trans HW0.out (zgK (g := g) (zK1 HK.out GW361.out) hg : w.heap.size ≤ gb374) : w0.heap.size ≤ gb374)); replace HK := zKB g (zK1 HK.out GW361.out) hb; have NB361_374 := aM (zN BK361.out hg : gb361 ≠ gb374); have NB374_361 := aM (zM BK361.out hg : gb374 ≠ gb361); replace BK361 := zBB BK361 hb; have NB0_374 := aM ((zNI (IsS98.lt (zI1 HI0.out NB0_361.out : IsS98 w0 _ g s0_0 t372 t373)) hg : g ≠ gb374)); have NB374_0 := aM ((zMI (IsS98.lt (zI1 HI0.out NB0_361.out : IsS98 w0 _ g s0_0 t372 t373)) hg : gb374 ≠ g)); replace HI0 := aM (IsS98.below (zI1 HI0.out NB0_361.out) hb); clear hb hbox hg; have hnb122 := NB374_361.out; have hnc122 := NB361_374.out; have hnb123 := NB374_0.out; have hnc123 := NB0_374.out; have hcz124 := zc4 BK374.out; have hfz124 := zf4 BK374.out; obtain ⟨Ao125, co125, eo125⟩ := Kd.N_slice HO365.out; subst eo125; obtain ⟨Ao126, co126, eo126⟩ := Kd.N_slice HO368.out; subst eo126; obtain ⟨Ao127, co127, eo127⟩ := Kd.R_slice HO371.out; subst eo127) | ((with_reducible refine gC 83 rfl ?_); refine gL 7 Try.func83 #[.pointer (some ⟨g, 0, none⟩), .int .i64 12] ?_; (with_reducible refine (spec_l1Below.calls g s0_0 t372 t373 12 t375 t376 t377 w0 _ ?side1 ?side2 A3.out).mono ?_); (case side1 => exact zI2 HI0.out NB0_361.out NB0_374.out); (case side2 => exact zL3 HB.out (IsS98.ge HI0.out) GE361.out GE374.out); rintro e w128 ⟨rfl, hi, hb, hk⟩; refine ⟨_, rfl, ?_⟩; replace BK361 := aM (zQ2 (.cells #[.int .i64 0, .slice none 0 0, .slice none 0 0, .slice none 0 0] 25 (0, 0)) hk (by refine zB ?_; refine zr4 ?_ NB361_374.out; exact zB BK361.out) NB361_0.out (by simp)); replace HO365 := aM (Kd.N_mono (Kd.N_keep (Kd.N_mono (ok := fun k_ => ((((w.heap.size ≤ k_)) ∧ (some k_ ≠ (.slice Ao126 t366.length co126 : Value).ownBlock ∧ (some k_ ≠ (.slice Ao127 t369.length co127 : Value).ownBlock ∧ (k_ ≠ gb361 ∧ k_ ≠ g)))) ∧ k_ ≠ gb374)) (by (with_reducible repeat (first | apply Kd.N_alloc | apply Kd.N_drewN | apply Kd.N_drew)); exact (Kd.N_mono (zNF4 (Kd.N_mono HO365.out (fun k_ hk => (⟨hk, hk.2⟩ : _ ∧ k_ ≠ gb374))) gb374 (fun _ hk => hk.2) (.int .i64 t362) (.slice Ao125 t363.length co125) (.slice Ao126 t366.length co126) (.slice Ao127 t369.length co127)) (fun _ h_ => h_.1))) (fun k_ hk_ => (⟨hk_, hk_.1.2.2.2.2⟩ : _ ∧ k_ ≠ g))) hk (fun _ h => h.2)) (fun _ h => h.1)); replace HO368 := aM (Kd.N_mono (Kd.N_keep (Kd.N_mono (ok := fun k_ => ((((w.heap.size ≤ k_)) ∧ (some k_ ≠ (.slice Ao125 t363.length co125 : Value).ownBlock ∧ (some k_ ≠ (.slice Ao127 t369.length co127 : Value).ownBlock ∧ (k_ ≠ gb361 ∧ k_ ≠ g)))) ∧ k_ ≠ gb374)) (by (with_reducible repeat (first | apply Kd.N_alloc | apply Kd.N_drewN | apply Kd.N_drew)); exact (Kd.N_mono (zNF4 (Kd.N_mono HO368.out (fun k_ hk => (⟨hk, hk.2⟩ : _ ∧ k_ ≠ gb374))) gb374 (fun _ hk => hk.2) (.int .i64 t362) (.slice Ao125 t363.length co125) (.slice Ao126 t366.length co126) (.slice Ao127 t369.length co127)) (fun _ h_ => h_.1))) (fun k_ hk_ => (⟨hk_, hk_.1.2.2.2.2⟩ : _ ∧ k_ ≠ g))) hk (fun _ h => h.2)) (fun _ h => h.1)); replace HO371 := aM (Kd.R_mono (Kd.R_keep (IsS98.apart (show IsS98 w0 _ g s0_0 t372 t373 from zI2 HI0.out NB0_361.out NB0_374.out) (by (with_reducible repeat (first | apply Kd.R_alloc | apply Kd.R_drewN | apply Kd.R_drew)); exact (Kd.R_mono (zRF4 (Kd.R_types HO371.out BK374.out (by decide)) gb374 (fun _ hk => hk.2) (.int .i64 t362) (.slice Ao125 t363.length co125) (.slice Ao126 t366.length co126) (.slice Ao127 t369.length co127)) (fun _ h_ => h_.1))) (by decide)) hk (fun _ h => h.2)) (fun _ h => h.1)); replace BK374 := aM (zQ2 (.cells #[.int .i64 t362, .slice Ao125 t363.length co125, .slice Ao126 t366.length co126, .slice Ao127 t369.length co127] 25 (0, 0)) hk (by refine zB ?_; refine zp4 (cs := #[.int .i64 0, .slice none 0 0, .slice none 0 0, .slice none 0 0]) ?_; exact zB BK374.out) NB374_0.out (by simp)); replace HK := zKK (zK2 HK.out GW361.out GW374.out) hk; replace HB := aM hb; replace HI0 := aM hi; clear hi hb hk; have hcz129 := zc4 BK374.out; have hfz129 := zf4 BK374.out; have hnb130 := NB361_0.out; have hnc130 := NB0_361.out; have hcz131 := zc4 BK361.out; have hfz131 := zf4 BK361.out))
      refine bodyPost_ret (results_cell_row rfl _ _ gb361 25 #[.int .i64 t362, .slice Ao125 t363.length co125, .slice Ao126 t366.length co126, .slice Ao127 t369.length co127] (0, 0) _ rfl (by refine zB ?_; refine zp4 (cs := #[.int .i64 0, .slice none 0 0, .slice none 0 0, .slice none 0 0]) ?_; exact zB BK361.out) Try.underlying25 rfl (by kernel_rfl)) rfl ?_
      exact ⟨_, _, _, zW, by (with_reducible repeat (first | apply Kd.N_alloc | apply Kd.N_drewN | apply Kd.N_drew)); exact Kd.N_mono (zNF4 (Kd.N_mono HO365.out (fun k_ hk => (⟨hk, hk.1.2.2.2.1⟩ : _ ∧ k_ ≠ gb361))) gb361 (fun _ hk => hk.2) (.int .i64 t362) (.slice Ao125 t363.length co125) (.slice Ao126 t366.length co126) (.slice Ao127 t369.length co127)) (fun _ hk => ⟨hk.1.1.1, ⟨hk.1.1.2.1, hk.1.1.2.2.1⟩⟩), by (with_reducible repeat (first | apply Kd.N_alloc | apply Kd.N_drewN | apply Kd.N_drew)); exact Kd.N_mono (zNF4 (Kd.N_mono HO368.out (fun k_ hk => (⟨hk, hk.1.2.2.2.1⟩ : _ ∧ k_ ≠ gb361))) gb361 (fun _ hk => hk.2) (.int .i64 t362) (.slice Ao125 t363.length co125) (.slice Ao126 t366.length co126) (.slice Ao127 t369.length co127)) (fun _ hk => ⟨hk.1.1.1, ⟨hk.1.1.2.1, hk.1.1.2.2.1⟩⟩), by (with_reducible repeat (first | apply Kd.R_alloc | apply Kd.R_drewN | apply Kd.R_drew)); exact Kd.R_mono (zRF4 (Kd.R_types HO371.out BK361.out (by decide)) gb361 (fun _ hk => hk.2) (.int .i64 t362) (.slice Ao125 t363.length co125) (.slice Ao126 t366.length co126) (.slice Ao127 t369.length co127)) (fun _ hk => hk.1.1), zI2 HI0.out NB0_361.out NB0_374.out, zL3 HB.out (IsS98.ge HI0.out) GE361.out GE374.out, zK2 HK.out GW361.out GW374.out⟩

open Go.Proofs.YtggenhomnbnodaaW.PrintWords renaming blk_drewN → bN, blk_drew → bD, blk_alloc → bA, blk_cell → bC, blk_below → bB, below_set → bS
def spec_l1Once.f (s0_0 : List Int) (s0_1 : Int) (s0_2 : Int) (a1 : Int) : Option (Bool × Int × Int) := (spec_l1Below.f s0_0 s0_1 s0_2 a1).bind fun bt425 => (some ((bt425.1 == 0), bt425.2.1, bt425.2.2))
set_option maxHeartbeats 8000000 in
set_option maxRecDepth 100000 in
theorem spec_l1Once.calls (g : Nat) (s0_0 : List Int) (s0_1 : Int) (s0_2 : Int) (a1 : Int) (r1 : Bool) (r2 : Int) (r3 : Int) (w0 w : World) (hI : IsS98 w0 w g s0_0 s0_1 s0_2) (hB : Below w0.heap.size w0 w) (h : spec_l1Once.f s0_0 s0_1 s0_2 a1 = some (r1, r2, r3)) :
  Calls Try.prog 87 #[.pointer (some ⟨g, 0, none⟩), .int .i64 a1] w fun e w' => e = .returned (.bool r1) ∧ IsS98 w0 w' g s0_0 r2 r3 ∧ Below w0.heap.size w0 w' ∧ KeepBut w w' g none := by
 have HI0 := aM hI
 have HK := aM (KeepBut.refl w g none)
 have HL := aM hB.size
 clear hI
 have HW0 := aM hB.size
 have HB := aM hB
 clear hB
 unfold spec_l1Once.f at h; have H := h
 clear h
 obtain ⟨⟨t425, t426, t427⟩, A3, H⟩ := zO H; try dsimp only at H
 simp only [Option.some.injEq, Prod.mk.injEq] at H
 obtain ⟨rfl, rfl, rfl⟩ := H
 go_enter Try.func87, Try.ntmps87
 go_wp2_with (first | ((with_reducible refine gC 83 rfl ?_); refine gL 7 Try.func83 #[.pointer (some ⟨g, 0, none⟩), .int .i64 a1] ?_; (with_reducible refine (spec_l1Below.calls g s0_0 s0_1 s0_2 a1 t425 t426 t427 w0 _ ?side1 ?side2 A3.out).mono ?_); (case side1 => exact zI HI0.out); (case side2 => exact zL1 HB.out (IsS98.ge HI0.out)); rintro e w4 ⟨rfl, hi, hb, hk⟩; refine ⟨_, rfl, ?_⟩; replace HK := zKK (zK HK.out) hk; replace HB := aM hb; replace HI0 := aM hi; clear hi hb hk))
 go_ret
 exact ⟨zW, zI HI0.out, zL1 HB.out (IsS98.ge HI0.out), zK HK.out⟩

open Go.Proofs.YtggenhomnbnodaaW.PrintWords renaming blk_drewN → bN, blk_drew → bD, blk_alloc → bA, blk_cell → bC, blk_below → bB, below_set → bS
def spec_DrawTickOn.j0 : Nat → Bool → List Int → Int → Int → Int → List (List (S46)) → List (List (S46)) → List (S46) → Option (Int × (List (List (S46))) × (List (List (S46))) × (List (S46)))
 | 0, _, _, _, _, _, _, _, _ => none
 | k + 1, x14, x433000, x433001, x433002, x446000, x446001, x446002, x446003 => if x14 = true then ((spec_l1Below.f x433000 x433001 x433002 12).bind fun bt450 => ((spec_Advance.f k x446000 x446001 x446002 x446003 bt450.1).bind fun bt453 => (some (bt453.1, bt453.2.1, bt453.2.2.1, bt453.2.2.2.1)))) else (some (x446000, x446001, x446002, x446003))
def spec_DrawTickOn.f (k : Nat) (l0 : List Int) : Option (Int × (List (List (S46))) × (List (List (S46))) × (List (S46))) := (spec_l1New.f k l0).bind fun bt429 => ((spec_l8Any.f k bt429.1 bt429.2.1 bt429.2.2).bind fun bt433 => ((spec_l1Once.f bt429.1 bt433.2.2.2.2.1 bt433.2.2.2.2.2 2).bind fun bt446 => (if bt446.1 = true then ((spec_WheelOk.f k bt433.1 bt433.2.1 bt433.2.2.1 bt433.2.2.2.1).bind fun t449 => (spec_DrawTickOn.j0 k t449 bt429.1 bt446.2.1 bt446.2.2 bt433.1 bt433.2.1 bt433.2.2.1 bt433.2.2.2.1)) else (spec_DrawTickOn.j0 k false bt429.1 bt446.2.1 bt446.2.2 bt433.1 bt433.2.1 bt433.2.2.1 bt433.2.2.2.1))))
def spec_DrawTickOn.T4 : Bool × List (List Nat × List Nat) := (true, [([], []), ([], []), ([1], [1]), ([0, 2, 2], [0, 2]), ([3], [3]), ([4], [4]), ([4], [4]), ([5, 3, 0, 1, 2, 3, 4, 5], [5])])
def spec_DrawTickOn.B4 : List Nat := [0, 0, 2, 7, 15, 31, 31, 63]
theorem spec_DrawTickOn.tab4 : rtab .any (opsOf Try.f55 4) = spec_DrawTickOn.T4 := by kernel_rfl
theorem spec_DrawTickOn.bits4 : waitsOk spec_DrawTickOn.T4.2 spec_DrawTickOn.B4 = true := by kernel_rfl
set_option maxHeartbeats 8000000 in
set_option maxRecDepth 100000 in
theorem spec_DrawTickOn.calls (k : Nat) (A0 : Option Addr) (c0 : Nat) (l0 : List Int) (r1 : Int) (r2 : List (List (S46))) (r3 : List (List (S46))) (r4 : List (S46)) (w : World) (hr0 : Kd.C (Kd.int .u8) w A0 l0.length l0) (hc0 : l0.length ≤ c0) (h : spec_DrawTickOn.f k l0 = some (r1, r2, r3, r4)) :
  Calls Try.prog 55 #[.slice A0 l0.length c0] w fun e w' => ∃ v1_ v2_ v3_ : Value, e = .returned (.agg #[.int .i64 r1, v1_, v2_, v3_]) ∧ Kd.N (Kd.slice 46 k46) 23 w' w.heap.size (fun k_ => (w.heap.size ≤ k_) ∧ some k_ ≠ (v2_ : Value).ownBlock ∧ some k_ ≠ (v3_ : Value).ownBlock) v1_ r2 ∧ Kd.N (Kd.slice 46 k46) 23 w' w.heap.size (fun k_ => (w.heap.size ≤ k_) ∧ some k_ ≠ (v1_ : Value).ownBlock ∧ some k_ ≠ (v3_ : Value).ownBlock) v2_ r3 ∧ Kd.R k46 46 w' w.heap.size (fun k_ => (w.heap.size ≤ k_)) v3_ r4 ∧ Below w.heap.size w w' := by
 have hu25 := Try.underlying25
 have HR0 := aM hr0
 have HC0 := aM hc0
 clear hr0 hc0
 have HB := aM (Below.refl w.heap.size w)
 unfold spec_DrawTickOn.f at h; have H := h
 clear h
 obtain ⟨⟨t429, t430, t431⟩, A2, H⟩ := zO H; try dsimp only at H
 obtain ⟨⟨t433, t434, t437, t440, t443, t444⟩, A3, H⟩ := zO H; try dsimp only at H
 have HC4 := aM H
 clear H
 go_enter Try.func55, Try.ntmps55
 go_upto_region 3 with (first | ((with_reducible refine gD 2 rfl ?_); refine bE 2 #[.int .i64 0, .slice none 0 0, .slice none 0 0, .slice none 0 0] 25 ?_; intro gb428 hg w5 hbox hb; have BK428 := aM hbox; have GW428 := aM (zg (zL HB.out) hg : w.heap.size ≤ gb428); have GE428 := GW428; replace HB := zLB (zL HB.out) hb; clear hb hbox hg) | ((with_reducible refine gC 80 rfl ?_); refine gL 6 Try.func80 #[.slice A0 l0.length c0] ?_; (with_reducible refine (spec_l1New.calls k _ _ l0 t429 t430 t431 w _ ?side1 ?side2 ?side3 A2.out).mono ?_); (case side1 => exact zL1 HB.out GE428.out); (case side2 => exact HR0.out); (case side3 => exact HC0.out); rintro e w6 ⟨g432, rfl, hi, hb, hb2⟩; refine ⟨_, rfl, ?_⟩; replace HB := aM hb; have HI432 := aM hi; have NB432_428 := aM (IsS98.ne_blk hi (bB (g := gb428) (o := .cells #[.int .i64 0, .slice none 0 0, .slice none 0 0, .slice none 0 0] 25 (0, 0)) (zB BK428.out) hb2) (by decide)); have NB428_432 := aM (Ne.symm (IsS98.ne_blk hi (bB (g := gb428) (o := .cells #[.int .i64 0, .slice none 0 0, .slice none 0 0, .slice none 0 0] 25 (0, 0)) (zB BK428.out) hb2) (by decide))); replace BK428 := zBB BK428 hb2; clear hi hb hb2) | ((with_reducible refine gC 81 rfl ?_); refine gL 8 Try.func81 #[.pointer (some ⟨g432, 0, none⟩)] ?_; (with_reducible refine (spec_l8Any.calls k g432 t429 t430 t431 t433 t434 t437 t440 t443 t444 w _ ?side1 ?side2 A3.out).mono ?_); (case side1 => exact zI1 HI432.out NB432_428.out); (case side2 => exact zL2 HB.out (IsS98.ge HI432.out) GE428.out); rintro e w7 ⟨v435, v438, v441, rfl, ho0, ho1, ho2, hi, hb, hk⟩; refine ⟨_, rfl, ?_⟩; have HO436 := aM (Kd.N_lower (Kd.N_mono (ok' := fun k_ => (w.heap.size ≤ k_) ∧ some k_ ≠ (v438 : Value).ownBlock ∧ some k_ ≠ (v441 : Value).ownBlock ∧ k_ ≠ gb428 ∧ k_ ≠ g432) ho0 (fun k_ hk_ => ⟨(Nat.le_trans (below_size (zL2 HB.out (IsS98.ge HI432.out) GE428.out)) hk_.1), hk_.2.1, hk_.2.2, (Kd.freshB (g := gb428) (o := .cells #[.int .i64 0, .slice none 0 0, .slice none 0 0, .slice none 0 0] 25 (0, 0)) (zB BK428.out) k_ hk_.1), (IsS98.fresh (zI1 HI432.out NB432_428.out) k_ hk_.1)⟩)) (below_size (zL2 HB.out (IsS98.ge HI432.out) GE428.out))); have HO439 := aM (Kd.N_lower (Kd.N_mono (ok' := fun k_ => (w.heap.size ≤ k_) ∧ some k_ ≠ (v435 : Value).ownBlock ∧ some k_ ≠ (v441 : Value).ownBlock ∧ k_ ≠ gb428 ∧ k_ ≠ g432) ho1 (fun k_ hk_ => ⟨(Nat.le_trans (below_size (zL2 HB.out (IsS98.ge HI432.out) GE428.out)) hk_.1), hk_.2.1, hk_.2.2, (Kd.freshB (g := gb428) (o := .cells #[.int .i64 0, .slice none 0 0, .slice none 0 0, .slice none 0 0] 25 (0, 0)) (zB BK428.out) k_ hk_.1), (IsS98.fresh (zI1 HI432.out NB432_428.out) k_ hk_.1)⟩)) (below_size (zL2 HB.out (IsS98.ge HI432.out) GE428.out))); replace BK428 := zBK hk BK428 NB428_432; have HO442 := aM (Kd.R_lower (Kd.R_newM (M := fun k_ => (w.heap.size ≤ k_)) (Kd.R_mono (ok' := fun k_ => True) ho2 (fun _ hk_ => trivial)) (below_size (zL2 HB.out (IsS98.ge HI432.out) GE428.out)) (fun k_ h_ => h_)) (below_size (zL2 HB.out (IsS98.ge HI432.out) GE428.out))); replace HB := aM hb; replace HI432 := aM hi; clear ho0 hi hb hk; (try clear ho1); (try clear ho2)) | ((with_reducible refine gD 4 rfl ?_); refine bE 4 #[.int .i64 0, .slice none 0 0, .slice none 0 0, .slice none 0 0] 25 ?_; intro gb445 hg w8 hbox hb; replace HO436 := aM (Kd.N_below (Kd.N_elderB (zX HO436.out) gb445 (Nat.le_of_eq hg.symm)) hb); replace HO439 := aM (Kd.N_below (Kd.N_elderB (zX HO439.out) gb445 (Nat.le_of_eq hg.symm)) hb); replace HO442 := zRB HO442 hb; have BK445 := aM hbox; have GW445 := aM ((zg (zL2 HB.out (IsS98.ge HI432.out) GE428.out) hg : w.heap.size ≤ gb445)); have GE445 := GW445; replace HB := zLB (zL2 HB.out (IsS98.ge HI432.out) GE428.out) hb; have NB428_445 := aM (zN BK428.out hg : gb428 ≠ gb445); have NB445_428 := aM (zM BK428.out hg : gb445 ≠ gb428); replace BK428 := zBB BK428 hb; have NB432_445 := aM ((zNI (IsS98.lt (zI1 HI432.out NB432_428.out : IsS98 w _ g432 t429 t443 t444)) hg : g432 ≠ gb445)); have NB445_432 := aM ((zMI (IsS98.lt (zI1 HI432.out NB432_428.out : IsS98 w _ g432 t429 t443 t444)) hg : gb445 ≠ g432)); replace HI432 := aM (IsS98.below (zI1 HI432.out NB432_428.out) hb); clear hb hbox hg; have hnb9 := NB445_428.out; have hnc9 := NB428_445.out; have hnb10 := NB445_432.out; have hnc10 := NB432_445.out; have hcz11 := zc4 BK445.out; have hfz11 := zf4 BK445.out; obtain ⟨Ao12, co12, eo12⟩ := Kd.N_slice HO436.out; subst eo12; obtain ⟨Ao13, co13, eo13⟩ := Kd.N_slice HO439.out; subst eo13; obtain ⟨Ao14, co14, eo14⟩ := Kd.R_slice HO442.out; subst eo14))
 (try simp only [Act.put, List.setIfInBounds_toArray, List.set_cons_zero, List.set_cons_succ])
 go_cut [14] (fun v14 wc => ∃ (kq : Nat) (x14_3 : Bool) (x433001_3 : Int) (x433002_3 : Int), v14 = .bool x14_3 ∧ Aside0 (spec_DrawTickOn.j0 kq x14_3 t429 x433001_3 x433002_3 t433 t434 t437 t440 = some (r1, r2, r3, r4)) ∧ Aside0 (kq ≤ k) ∧ Aside0 (Kd.N (Kd.slice 46 k46) 23 wc w.heap.size (fun k_ => (w.heap.size ≤ k_) ∧ some k_ ≠ ((.slice Ao13 t437.length co13) : Value).ownBlock ∧ some k_ ≠ ((.slice Ao14 t440.length co14) : Value).ownBlock ∧ k_ ≠ gb428 ∧ k_ ≠ gb445 ∧ k_ ≠ g432) (.slice Ao12 t434.length co12) t434) ∧ Aside0 (Kd.N (Kd.slice 46 k46) 23 wc w.heap.size (fun k_ => (w.heap.size ≤ k_) ∧ some k_ ≠ ((.slice Ao12 t434.length co12) : Value).ownBlock ∧ some k_ ≠ ((.slice Ao14 t440.length co14) : Value).ownBlock ∧ k_ ≠ gb428 ∧ k_ ≠ gb445 ∧ k_ ≠ g432) (.slice Ao13 t437.length co13) t437) ∧ Aside0 (Kd.R k46 46 wc w.heap.size (fun k_ => (w.heap.size ≤ k_)) (.slice Ao14 t440.length co14) t440) ∧ Aside0 (wc.heap[gb428]? = some (.cells #[.int .i64 0, (.slice none 0 0), (.slice none 0 0), (.slice none 0 0)] 25 (0, 0))) ∧ Aside0 (wc.heap[gb445]? = some (.cells #[.int .i64 t433, (.slice Ao12 t434.length co12), (.slice Ao13 t437.length co13), (.slice Ao14 t440.length co14)] 25 (0, 0))) ∧ Aside0 (IsS98 w wc g432 t429 x433001_3 x433002_3) ∧ Aside0 (Below w.heap.size w wc))
 case first =>
  have H := HC4.out
  clear HC4
  obtain ⟨⟨t446, t447, t448⟩, A15, H⟩ := zO H; try dsimp only at H
  by_cases c16 : t446 = true
  ·subst c16
   rw [if_pos rfl] at H
   obtain ⟨t449, A17, H⟩ := zO H; try dsimp only at H
   have H' := aM H
   clear H
   go_wp2_with (first | ((with_reducible refine gC 87 rfl ?_); refine gL 10 Try.func87 #[.pointer (some ⟨g432, 0, none⟩), .int .i64 2] ?_; (with_reducible refine (spec_l1Once.calls g432 t429 t443 t444 2 true t447 t448 w _ ?side1 ?side2 A15.out).mono ?_); (case side1 => exact zI2 HI432.out NB432_428.out NB432_445.out); (case side2 => exact zL3 HB.out (IsS98.ge HI432.out) GE428.out GE445.out); rintro e w18 ⟨rfl, hi, hb, hk⟩; refine ⟨_, rfl, ?_⟩; replace BK428 := aM (zQ2 (.cells #[.int .i64 0, .slice none 0 0, .slice none 0 0, .slice none 0 0] 25 (0, 0)) hk (by refine zB ?_; refine zr4 ?_ NB428_445.out; exact zB BK428.out) NB428_432.out (by simp)); replace HO436 := aM (Kd.N_mono (Kd.N_keep (Kd.N_mono (ok := fun k_ => ((((w.heap.size ≤ k_)) ∧ (some k_ ≠ (.slice Ao13 t437.length co13 : Value).ownBlock ∧ (some k_ ≠ (.slice Ao14 t440.length co14 : Value).ownBlock ∧ (k_ ≠ gb428 ∧ k_ ≠ g432)))) ∧ k_ ≠ gb445)) (by (with_reducible repeat (first | apply Kd.N_alloc | apply Kd.N_drewN | apply Kd.N_drew)); exact (Kd.N_mono (zNF4 (Kd.N_mono HO436.out (fun k_ hk => (⟨hk, hk.2⟩ : _ ∧ k_ ≠ gb445))) gb445 (fun _ hk => hk.2) (.int .i64 t433) (.slice Ao12 t434.length co12) (.slice Ao13 t437.length co13) (.slice Ao14 t440.length co14)) (fun _ h_ => h_.1))) (fun k_ hk_ => (⟨hk_, hk_.1.2.2.2.2⟩ : _ ∧ k_ ≠ g432))) hk (fun _ h => h.2)) (fun _ h => h.1)); replace HO439 := aM (Kd.N_mono (Kd.N_keep (Kd.N_mono (ok := fun k_ => ((((w.heap.size ≤ k_)) ∧ (some k_ ≠ (.slice Ao12 t434.length co12 : Value).ownBlock ∧ (some k_ ≠ (.slice Ao14 t440.length co14 : Value).ownBlock ∧ (k_ ≠ gb428 ∧ k_ ≠ g432)))) ∧ k_ ≠ gb445)) (by (with_reducible repeat (first | apply Kd.N_alloc | apply Kd.N_drewN | apply Kd.N_drew)); exact (Kd.N_mono (zNF4 (Kd.N_mono HO439.out (fun k_ hk => (⟨hk, hk.2⟩ : _ ∧ k_ ≠ gb445))) gb445 (fun _ hk => hk.2) (.int .i64 t433) (.slice Ao12 t434.length co12) (.slice Ao13 t437.length co13) (.slice Ao14 t440.length co14)) (fun _ h_ => h_.1))) (fun k_ hk_ => (⟨hk_, hk_.1.2.2.2.2⟩ : _ ∧ k_ ≠ g432))) hk (fun _ h => h.2)) (fun _ h => h.1)); replace HO442 := aM (Kd.R_mono (Kd.R_keep (IsS98.apart (show IsS98 w _ g432 t429 t443 t444 from zI2 HI432.out NB432_428.out NB432_445.out) (by (with_reducible repeat (first | apply Kd.R_alloc | apply Kd.R_drewN | apply Kd.R_drew)); exact (Kd.R_mono (zRF4 (Kd.R_types HO442.out BK445.out (by decide)) gb445 (fun _ hk => hk.2) (.int .i64 t433) (.slice Ao12 t434.length co12) (.slice Ao13 t437.length co13) (.slice Ao14 t440.length co14)) (fun _ h_ => h_.1))) (by decide)) hk (fun _ h => h.2)) (fun _ h => h.1)); replace BK445 := aM (zQ2 (.cells #[.int .i64 t433, .slice Ao12 t434.length co12, .slice Ao13 t437.length co13, .slice Ao14 t440.length co14] 25 (0, 0)) hk (by refine zB ?_; refine zp4 (cs := #[.int .i64 0, .slice none 0 0, .slice none 0 0, .slice none 0 0]) ?_; exact zB BK445.out) NB445_432.out (by simp)); replace HB := aM hb; replace HI432 := aM hi; clear hi hb hk; have hnb19 := NB445_428.out; have hnc19 := NB428_445.out; have hnb20 := NB445_432.out; have hnc20 := NB432_445.out; have hcz21 := zc4 BK445.out; have hfz21 := zf4 BK445.out) | (go_at_call 29; (with_reducible refine (spec_WheelOk.calls k t433 _ _ t434 _ _ t437 _ _ t440 t449 _ ?side1 ?side2 ?side3 ?side4 ?side5 ?side6 A17.out).mono ?_); (case side1 => exact zC (Kd.N_reads' HO436.out).2.2); (case side2 => exact (Kd.N_reads' HO436.out).2.1); (case side3 => exact zC (Kd.N_reads' HO439.out).2.2); (case side4 => exact (Kd.N_reads' HO439.out).2.1); (case side5 => exact zC (Kd.R_reads' HO442.out).2.2); (case side6 => exact (Kd.R_reads' HO442.out).2.1); rintro e w22 ⟨rfl, hb⟩; replace HO436 := zXB HO436 hb; replace HO439 := zXB HO439 hb; replace HO442 := zRB HO442 hb; replace BK428 := zBB BK428 hb; replace BK445 := zBB BK445 hb; replace HB := zLB (zL3 HB.out (IsS98.ge HI432.out) GE428.out GE445.out) hb; replace HI432 := aM (IsS98.below (zI2 HI432.out NB432_428.out NB432_445.out) hb); clear hb))
   go_meet
   case rel => exact ⟨_, (t449), (t447), (t448), zV, H', ⟨by first | omega | exact Nat.le_refl _⟩, ⟨zXm HO436.out (fun _ hk => ⟨hk.1.1, ⟨hk.1.2.1, ⟨hk.1.2.2.1, ⟨hk.1.2.2.2.1, ⟨hk.2, hk.1.2.2.2.2⟩⟩⟩⟩⟩)⟩, ⟨zXm HO439.out (fun _ hk => ⟨hk.1.1, ⟨hk.1.2.1, ⟨hk.1.2.2.1, ⟨hk.1.2.2.2.1, ⟨hk.2, hk.1.2.2.2.2⟩⟩⟩⟩⟩)⟩, ⟨zRm HO442.out (fun _ hk => hk.1)⟩, ⟨zB BK428.out⟩, ⟨zB BK445.out⟩, ⟨zI2 HI432.out NB432_428.out NB432_445.out⟩, ⟨zL3 HB.out (IsS98.ge HI432.out) GE428.out GE445.out⟩⟩
  ·obtain rfl := Bool.eq_false_iff.mpr c16
   rw [if_neg zn] at H
   have H' := aM H
   clear H
   go_wp2_with (first | ((with_reducible refine gC 87 rfl ?_); refine gL 10 Try.func87 #[.pointer (some ⟨g432, 0, none⟩), .int .i64 2] ?_; (with_reducible refine (spec_l1Once.calls g432 t429 t443 t444 2 false t447 t448 w _ ?side1 ?side2 A15.out).mono ?_); (case side1 => exact zI2 HI432.out NB432_428.out NB432_445.out); (case side2 => exact zL3 HB.out (IsS98.ge HI432.out) GE428.out GE445.out); rintro e w23 ⟨rfl, hi, hb, hk⟩; refine ⟨_, rfl, ?_⟩; replace BK428 := aM (zQ2 (.cells #[.int .i64 0, .slice none 0 0, .slice none 0 0, .slice none 0 0] 25 (0, 0)) hk (by refine zB ?_; refine zr4 ?_ NB428_445.out; exact zB BK428.out) NB428_432.out (by simp)); replace HO436 := aM (Kd.N_mono (Kd.N_keep (Kd.N_mono (ok := fun k_ => ((((w.heap.size ≤ k_)) ∧ (some k_ ≠ (.slice Ao13 t437.length co13 : Value).ownBlock ∧ (some k_ ≠ (.slice Ao14 t440.length co14 : Value).ownBlock ∧ (k_ ≠ gb428 ∧ k_ ≠ g432)))) ∧ k_ ≠ gb445)) (by (with_reducible repeat (first | apply Kd.N_alloc | apply Kd.N_drewN | apply Kd.N_drew)); exact (Kd.N_mono (zNF4 (Kd.N_mono HO436.out (fun k_ hk => (⟨hk, hk.2⟩ : _ ∧ k_ ≠ gb445))) gb445 (fun _ hk => hk.2) (.int .i64 t433) (.slice Ao12 t434.length co12) (.slice Ao13 t437.length co13) (.slice Ao14 t440.length co14)) (fun _ h_ => h_.1))) (fun k_ hk_ => (⟨hk_, hk_.1.2.2.2.2⟩ : _ ∧ k_ ≠ g432))) hk (fun _ h => h.2)) (fun _ h => h.1)); replace HO439 := aM (Kd.N_mono (Kd.N_keep (Kd.N_mono (ok := fun k_ => ((((w.heap.size ≤ k_)) ∧ (some k_ ≠ (.slice Ao12 t434.length co12 : Value).ownBlock ∧ (some k_ ≠ (.slice Ao14 t440.length co14 : Value).ownBlock ∧ (k_ ≠ gb428 ∧ k_ ≠ g432)))) ∧ k_ ≠ gb445)) (by (with_reducible repeat (first | apply Kd.N_alloc | apply Kd.N_drewN | apply Kd.N_drew)); exact (Kd.N_mono (zNF4 (Kd.N_mono HO439.out (fun k_ hk => (⟨hk, hk.2⟩ : _ ∧ k_ ≠ gb445))) gb445 (fun _ hk => hk.2) (.int .i64 t433) (.slice Ao12 t434.length co12) (.slice Ao13 t437.length co13) (.slice Ao14 t440.length co14)) (fun _ h_ => h_.1))) (fun k_ hk_ => (⟨hk_, hk_.1.2.2.2.2⟩ : _ ∧ k_ ≠ g432))) hk (fun _ h => h.2)) (fun _ h => h.1)); replace HO442 := aM (Kd.R_mono (Kd.R_keep (IsS98.apart (show IsS98 w _ g432 t429 t443 t444 from zI2 HI432.out NB432_428.out NB432_445.out) (by (with_reducible repeat (first | apply Kd.R_alloc | apply Kd.R_drewN | apply Kd.R_drew)); exact (Kd.R_mono (zRF4 (Kd.R_types HO442.out BK445.out (by decide)) gb445 (fun _ hk => hk.2) (.int .i64 t433) (.slice Ao12 t434.length co12) (.slice Ao13 t437.length co13) (.slice Ao14 t440.length co14)) (fun _ h_ => h_.1))) (by decide)) hk (fun _ h => h.2)) (fun _ h => h.1)); replace BK445 := aM (zQ2 (.cells #[.int .i64 t433, .slice Ao12 t434.length co12, .slice Ao13 t437.length co13, .slice Ao14 t440.length co14] 25 (0, 0)) hk (by refine zB ?_; refine zp4 (cs := #[.int .i64 0, .slice none 0 0, .slice none 0 0, .slice none 0 0]) ?_; exact zB BK445.out) NB445_432.out (by simp)); replace HB := aM hb; replace HI432 := aM hi; clear hi hb hk))
   go_meet
   case rel => exact ⟨_, (false), (t447), (t448), zV, H', ⟨by first | omega | exact Nat.le_refl _⟩, ⟨zXm HO436.out (fun _ hk => ⟨hk.1.1, ⟨hk.1.2.1, ⟨hk.1.2.2.1, ⟨hk.1.2.2.2.1, ⟨hk.2, hk.1.2.2.2.2⟩⟩⟩⟩⟩)⟩, ⟨zXm HO439.out (fun _ hk => ⟨hk.1.1, ⟨hk.1.2.1, ⟨hk.1.2.2.1, ⟨hk.1.2.2.2.1, ⟨hk.2, hk.1.2.2.2.2⟩⟩⟩⟩⟩)⟩, ⟨zRm HO442.out (fun _ hk => hk.1)⟩, ⟨zB BK428.out⟩, ⟨zB BK445.out⟩, ⟨zI2 HI432.out NB432_428.out NB432_445.out⟩, ⟨zL3 HB.out (IsS98.ge HI432.out) GE428.out GE445.out⟩⟩
 case rest =>
  clear HC4
  try clear c1
  try clear c2
  try clear p2
  try clear c5
  try clear c8
  try clear c9
  try clear c10
  try clear c16
  try clear c19
  try clear c20
  try clear hcz11; try clear hcz21; try clear hfz11; try clear hfz21
  obtain ⟨kq, x14_3, x433001_3, x433002_3, rfl, HA, HJ3, HO_446001, HO_446002, HO_446003, BK428, BK445, HI432, HB⟩ := hcut
  cases kq with
  | zero => exact absurd HA.out (by simp [spec_DrawTickOn.j0])
  | succ kj3 =>
   have H := HA.out
   clear HA
   simp only [spec_DrawTickOn.j0] at H
   by_cases c24 : x14_3 = true
   ·subst c24
    rw [if_pos rfl] at H
    obtain ⟨⟨t450, t451, t452⟩, A25, H⟩ := zO H; try dsimp only at H
    obtain ⟨⟨t453, t454, t457, t460, t463⟩, A26, H⟩ := zO H; try dsimp only at H
    simp only [Option.some.injEq, Prod.mk.injEq] at H
    obtain ⟨rfl, rfl, rfl, rfl⟩ := H
    try go_wp2
    replace HO_446001 := zXD HO_446001; replace HO_446002 := zXD HO_446002; replace HO_446003 := zRD HO_446003; replace BK428 := zBD BK428; replace BK445 := zBD BK445; replace HI432 := aM (IsS98.drew HI432.out); replace HB := zLD HB
    refine start_ (n := 8) (S := fun w' => zs4 w' gb445 (.int .i64 t433) (.slice Ao12 t434.length co12) (.slice Ao13 t437.length co13) (.slice Ao14 t440.length co14)) (ds := [7]) (fB 8 0) (by kernel_rfl) rfl rfl (zc4 BK445.out) (fun hHeld => ?_); refine with_tabW spec_DrawTickOn.tab4 spec_DrawTickOn.bits4 (fun HT_ HW_ => ?_)
    generalize wc.drew = w27 at HO_446001 HO_446002 HO_446003 BK428 BK445 HI432 HB hHeld ⊢
    refine pY 1 17 (fB 8 2) HT_.out ?_
    refine tY 0 16 (fB 8 3) HT_.out HW_.out hHeld ?_
    refine oN 2 18 (fB 8 7) HT_.out fun K hK => ?_
    refine gS Try.func83 #[.pointer (some ⟨g432, 0, none⟩), .int .i64 12] ?_
    with_reducible refine (spec_l1Below.calls g432 t429 x433001_3 x433002_3 12 t450 t451 t452 w _ ?side1 ?side2 A25.out).mono ?_
    (case side1 => exact zI2 HI432.out NB432_428.out NB432_445.out)
    (case side2 => exact zL3 HB.out (IsS98.ge HI432.out) GE428.out GE445.out)
    rintro e w28 ⟨rfl, hi, hb, hk⟩
    refine ⟨_, rfl, ?_⟩
    replace HO_446001 := aM (Kd.N_mono (Kd.N_keep (Kd.N_mono (ok := fun k_ => (((w.heap.size ≤ k_)) ∧ (some k_ ≠ (.slice Ao13 t437.length co13 : Value).ownBlock ∧ (some k_ ≠ (.slice Ao14 t440.length co14 : Value).ownBlock ∧ (k_ ≠ gb428 ∧ (k_ ≠ gb445 ∧ k_ ≠ g432)))))) (zX HO_446001.out) (fun k_ hk_ => (⟨hk_, hk_.2.2.2.2.2⟩ : _ ∧ k_ ≠ g432))) hk (fun _ h => h.2)) (fun _ h => h.1)); replace HO_446002 := aM (Kd.N_mono (Kd.N_keep (Kd.N_mono (ok := fun k_ => (((w.heap.size ≤ k_)) ∧ (some k_ ≠ (.slice Ao12 t434.length co12 : Value).ownBlock ∧ (some k_ ≠ (.slice Ao14 t440.length co14 : Value).ownBlock ∧ (k_ ≠ gb428 ∧ (k_ ≠ gb445 ∧ k_ ≠ g432)))))) (zX HO_446002.out) (fun k_ hk_ => (⟨hk_, hk_.2.2.2.2.2⟩ : _ ∧ k_ ≠ g432))) hk (fun _ h => h.2)) (fun _ h => h.1)); replace HO_446003 := aM (Kd.R_mono (Kd.R_keep (IsS98.apart (show IsS98 w _ g432 t429 x433001_3 x433002_3 from zI2 HI432.out NB432_428.out NB432_445.out) (zR HO_446003.out) (by decide)) hk (fun _ h => h.2)) (fun _ h => h.1)); replace BK428 := zBK hk BK428 NB428_432; replace BK445 := zBK hk BK445 NB445_432; replace HB := aM hb; replace HI432 := aM hi
    clear hi hb hk
    refine hK.out _ _ (zc4 BK445.out) fun hHeld => ?_; clear hK K
    refine nZ 18 ?_
    refine oN 3 19 (fB 8 15) HT_.out fun K hK => ?_
    refine gS Try.func38 #[.agg #[.int .i64 t433, .slice Ao12 t434.length co12, .slice Ao13 t437.length co13, .slice Ao14 t440.length co14], .int .i64 t450] ?_
    with_reducible refine (spec_Advance.calls kj3 t433 _ _ t434 _ _ t437 _ _ t440 t450 t453 t454 t457 t460 t463 _ ?side1 ?side2 ?side3 ?side4 ?side5 ?side6 A26.out).mono ?_
    (case side1 => exact zC (Kd.N_reads' HO_446001.out).2.2)
    (case side2 => exact (Kd.N_reads' HO_446001.out).2.1)
    (case side3 => exact zC (Kd.N_reads' HO_446002.out).2.2)
    (case side4 => exact (Kd.N_reads' HO_446002.out).2.1)
    (case side5 => exact zC (Kd.R_reads' HO_446003.out).2.2)
    (case side6 => exact (Kd.R_reads' HO_446003.out).2.1)
    rintro e w29 ⟨v455, v458, v461, v464, rfl, ho0, ho1, ho2, ho3, hb⟩
    refine ⟨_, rfl, ?_⟩
    have HO456 := aM (Kd.N_lower (Kd.N_mono (ok' := fun k_ => (w.heap.size ≤ k_) ∧ some k_ ≠ (v458 : Value).ownBlock ∧ some k_ ≠ (v461 : Value).ownBlock ∧ some k_ ≠ (v464 : Value).ownBlock ∧ some k_ ≠ (.slice Ao12 t434.length co12 : Value).ownBlock ∧ some k_ ≠ (.slice Ao13 t437.length co13 : Value).ownBlock ∧ some k_ ≠ (.slice Ao14 t440.length co14 : Value).ownBlock ∧ k_ ≠ gb428 ∧ k_ ≠ gb445 ∧ k_ ≠ g432) (Kd.S_N (Kd.S_bound ho0)) (fun k_ hk_ => ⟨(Nat.le_trans (below_size (zL3 HB.out (IsS98.ge HI432.out) GE428.out GE445.out)) hk_.2.1), hk_.1.1, hk_.1.2.1, hk_.1.2.2, (Kd.fresh' (Kd.N_lt (zX HO_446001.out)) k_ hk_.2.1), (Kd.fresh' (Kd.N_lt (zX HO_446002.out)) k_ hk_.2.1), (Kd.fresh' (Kd.R_lt (zR HO_446003.out)) k_ hk_.2.1), (Kd.freshB (g := gb428) (o := .cells #[.int .i64 0, .slice none 0 0, .slice none 0 0, .slice none 0 0] 25 (0, 0)) (zB BK428.out) k_ hk_.2.1), (Kd.freshB (g := gb445) (o := .cells #[.int .i64 t433, .slice Ao12 t434.length co12, .slice Ao13 t437.length co13, .slice Ao14 t440.length co14] 25 (0, 0)) (zB BK445.out) k_ hk_.2.1), (IsS98.fresh (zI2 HI432.out NB432_428.out NB432_445.out) k_ hk_.2.1)⟩)) (below_size (zL3 HB.out (IsS98.ge HI432.out) GE428.out GE445.out))); have HO459 := aM (Kd.N_lower (Kd.N_mono (ok' := fun k_ => (w.heap.size ≤ k_) ∧ some k_ ≠ (v455 : Value).ownBlock ∧ some k_ ≠ (v461 : Value).ownBlock ∧ some k_ ≠ (v464 : Value).ownBlock ∧ some k_ ≠ (.slice Ao12 t434.length co12 : Value).ownBlock ∧ some k_ ≠ (.slice Ao13 t437.length co13 : Value).ownBlock ∧ some k_ ≠ (.slice Ao14 t440.length co14 : Value).ownBlock ∧ k_ ≠ gb428 ∧ k_ ≠ gb445 ∧ k_ ≠ g432) (Kd.S_N (Kd.S_bound ho1)) (fun k_ hk_ => ⟨(Nat.le_trans (below_size (zL3 HB.out (IsS98.ge HI432.out) GE428.out GE445.out)) hk_.2.1), hk_.1.1, hk_.1.2.1, hk_.1.2.2, (Kd.fresh' (Kd.N_lt (zX HO_446001.out)) k_ hk_.2.1), (Kd.fresh' (Kd.N_lt (zX HO_446002.out)) k_ hk_.2.1), (Kd.fresh' (Kd.R_lt (zR HO_446003.out)) k_ hk_.2.1), (Kd.freshB (g := gb428) (o := .cells #[.int .i64 0, .slice none 0 0, .slice none 0 0, .slice none 0 0] 25 (0, 0)) (zB BK428.out) k_ hk_.2.1), (Kd.freshB (g := gb445) (o := .cells #[.int .i64 t433, .slice Ao12 t434.length co12, .slice Ao13 t437.length co13, .slice Ao14 t440.length co14] 25 (0, 0)) (zB BK445.out) k_ hk_.2.1), (IsS98.fresh (zI2 HI432.out NB432_428.out NB432_445.out) k_ hk_.2.1)⟩)) (below_size (zL3 HB.out (IsS98.ge HI432.out) GE428.out GE445.out))); replace HO_446001 := aM (Kd.N_mono (Kd.N_told (Kd.N_told (Kd.N_told (Kd.N_told (Kd.N_old (zX HO_446001.out) hb) (by first | exact Kd.S_base ho0 | exact Kd.R_base ho0 | exact Kd.S_base ho0)) (Kd.S_base ho1)) (Kd.R_base ho2)) (Kd.R_base ho3)) (fun _ h_ => h_.1)); replace HO_446002 := aM (Kd.N_mono (Kd.N_told (Kd.N_told (Kd.N_told (Kd.N_told (Kd.N_old (zX HO_446002.out) hb) (by first | exact Kd.S_base ho0 | exact Kd.R_base ho0 | exact Kd.S_base ho0)) (Kd.S_base ho1)) (Kd.R_base ho2)) (Kd.R_base ho3)) (fun _ h_ => h_.1)); have HO462 := aM (Kd.R_lower (Kd.R_new' (Kd.R_newM (M := fun k_ => (w.heap.size ≤ k_)) ho2 (below_size (zL3 HB.out (IsS98.ge HI432.out) GE428.out GE445.out)) (fun k_ h_ => h_)) (Kd.R_lt (zR HO_446003.out))) (below_size (zL3 HB.out (IsS98.ge HI432.out) GE428.out GE445.out))); have HO465 := aM (Kd.R_lower (Kd.R_new' (Kd.R_newM (M := fun k_ => (w.heap.size ≤ k_)) ho3 (below_size (zL3 HB.out (IsS98.ge HI432.out) GE428.out GE445.out)) (fun k_ h_ => h_)) (Kd.R_lt (zR HO_446003.out))) (below_size (zL3 HB.out (IsS98.ge HI432.out) GE428.out GE445.out))); replace HO_446003 := aM (Kd.R_mono (Kd.R_told (Kd.R_told (Kd.R_old (zR HO_446003.out) hb) (Kd.R_base ho2)) (Kd.R_base ho3)) (fun _ h_ => h_.1)); replace BK428 := zBB BK428 hb; replace BK445 := zBB BK445 hb; replace HB := zLB (zL3 HB.out (IsS98.ge HI432.out) GE428.out GE445.out) hb; replace HI432 := aM (IsS98.below (zI2 HI432.out NB432_428.out NB432_445.out) hb)
    clear ho0 hb
    (try clear ho0)
    (try clear ho1)
    (try clear ho2)
    (try clear ho3)
    obtain ⟨Ao31, co31, eo31⟩ := Kd.N_slice HO456.out
    (first | subst eo31 | (injection eo31 with f1_ f2_ f3_; have f4_ := f1_.symm; have f5_ := f3_.symm; clear f1_ f2_ f3_; subst f4_; subst f5_))
    obtain ⟨Ao33, co33, eo33⟩ := Kd.N_slice HO459.out
    (first | subst eo33 | (injection eo33 with f1_ f2_ f3_; have f4_ := f1_.symm; have f5_ := f3_.symm; clear f1_ f2_ f3_; subst f4_; subst f5_))
    obtain ⟨Ao35, co35, eo35⟩ := Kd.R_slice HO462.out
    (first | subst eo35 | (injection eo35 with f1_ f2_ f3_; have f4_ := f1_.symm; have f5_ := f3_.symm; clear f1_ f2_ f3_; subst f4_; subst f5_))
    refine hK.out _ _ (zc4 BK445.out) fun hHeld => ?_; clear hK K
    refine nZ 19 ?_
    refine pY 4 15 (fB 8 31) HT_.out ?_
    refine pY 5 20 (fB 8 63) HT_.out ?_
    refine pY 6 21 (fB 8 127) HT_.out ?_
    refine last_ (i := 7) (N := none) #[true, true, true, true, true, true, true, true] rfl rfl (one_of HT_.out (by kernel_rfl)) (by decide) (fun K hK => ?_)
    have hs30 : w29.cell? ⟨gb445, 0, none⟩ = some (.int .i64 t433) := (bC BK445.out 0).trans rfl
    have hfs30 := blk_frozen BK445.out 0
    have hns30_0 := NB428_445.out
    have hms30_0 := NB445_428.out
    have hs32 : w29.cell? ⟨gb445, 1, none⟩ = some (.slice Ao12 t434.length co12) := (bC BK445.out 1).trans rfl
    have hfs32 := blk_frozen BK445.out 1
    have hns32_0 := NB428_445.out
    have hms32_0 := NB445_428.out
    have hs34 : w29.cell? ⟨gb445, 2, none⟩ = some (.slice Ao13 t437.length co13) := (bC BK445.out 2).trans rfl
    have hfs34 := blk_frozen BK445.out 2
    have hns34_0 := NB428_445.out
    have hms34_0 := NB445_428.out
    have hs36 : w29.cell? ⟨gb445, 3, none⟩ = some (.slice Ao14 t440.length co14) := (bC BK445.out 3).trans rfl
    have hfs36 := blk_frozen BK445.out 3
    have hns36_0 := NB428_445.out
    have hms36_0 := NB445_428.out
    refine skip_ (w1 := ?_) (by rfl) rfl ?_ ?_
    rotate_left
    ·go_simp
     rfl
    refine hK.out _ _ ?_
    clear hK K
    refine done_ (done_of HT_.out (by kernel_rfl)) ?_
    have hnb37 := NB445_428.out
    have hnc37 := NB428_445.out
    have hnb38 := NB445_432.out
    have hnc38 := NB432_445.out
    have hcz39 := zc4 BK445.out
    have hfz39 := zf4 BK445.out
    have hnb40 := NB428_432.out
    have hnc40 := NB432_428.out
    have hcz41 := zc4 BK428.out
    have hfz41 := zf4 BK428.out
    try go_wp2
    refine bodyPost_ret (results_cell_row rfl _ _ gb428 25 #[.int .i64 t453, .slice Ao31 t454.length co31, .slice Ao33 t457.length co33, .slice Ao35 t460.length co35] (0, 0) _ rfl (by refine zB ?_; refine zp4 (cs := #[.int .i64 0, .slice none 0 0, .slice none 0 0, .slice none 0 0]) ?_; refine zB ?_; refine zr4 ?_ NB428_445.out; exact zB BK428.out) Try.underlying25 rfl (by kernel_rfl)) rfl ?_
    exact ⟨_, _, _, zW, by (with_reducible repeat (first | apply Kd.N_alloc | apply Kd.N_drewN | apply Kd.N_drew)); exact Kd.N_mono (zNF4 (zNF4 (Kd.N_mono (Kd.N_mono HO456.out (fun k_ hk => (⟨hk, hk.2.2.2.2.2.2.2.2.1⟩ : _ ∧ k_ ≠ gb445))) (fun k_ hk => (⟨hk, hk.1.2.2.2.2.2.2.2.1⟩ : _ ∧ k_ ≠ gb428))) gb445 (fun _ hk => hk.1.2) (.int .i64 t453) (.slice Ao31 t454.length co31) (.slice Ao33 t457.length co33) (.slice Ao35 t460.length co35)) gb428 (fun _ hk => hk.2) (.int .i64 t453) (.slice Ao31 t454.length co31) (.slice Ao33 t457.length co33) (.slice Ao35 t460.length co35)) (fun _ hk => ⟨hk.1.1.1, ⟨hk.1.1.2.1, hk.1.1.2.2.1⟩⟩), by (with_reducible repeat (first | apply Kd.N_alloc | apply Kd.N_drewN | apply Kd.N_drew)); exact Kd.N_mono (zNF4 (zNF4 (Kd.N_mono (Kd.N_mono HO459.out (fun k_ hk => (⟨hk, hk.2.2.2.2.2.2.2.2.1⟩ : _ ∧ k_ ≠ gb445))) (fun k_ hk => (⟨hk, hk.1.2.2.2.2.2.2.2.1⟩ : _ ∧ k_ ≠ gb428))) gb445 (fun _ hk => hk.1.2) (.int .i64 t453) (.slice Ao31 t454.length co31) (.slice Ao33 t457.length co33) (.slice Ao35 t460.length co35)) gb428 (fun _ hk => hk.2) (.int .i64 t453) (.slice Ao31 t454.length co31) (.slice Ao33 t457.length co33) (.slice Ao35 t460.length co35)) (fun _ hk => ⟨hk.1.1.1, ⟨hk.1.1.2.1, hk.1.1.2.2.1⟩⟩), by (with_reducible repeat (first | apply Kd.R_alloc | apply Kd.R_drewN | apply Kd.R_drew)); exact Kd.R_mono (zRF4 (zRF4 (Kd.R_types (Kd.R_types HO462.out BK445.out (by decide)) BK428.out (by decide)) gb445 (fun _ hk => hk.1.2) (.int .i64 t453) (.slice Ao31 t454.length co31) (.slice Ao33 t457.length co33) (.slice Ao35 t460.length co35)) gb428 (fun _ hk => hk.2) (.int .i64 t453) (.slice Ao31 t454.length co31) (.slice Ao33 t457.length co33) (.slice Ao35 t460.length co35)) (fun _ hk => hk.1.1.1.1), zL3 HB.out (IsS98.ge HI432.out) GE428.out GE445.out⟩
   ·obtain rfl := Bool.eq_false_iff.mpr c24
    rw [if_neg zn] at H
    simp only [Option.some.injEq, Prod.mk.injEq] at H
    obtain ⟨rfl, rfl, rfl, rfl⟩ := H
    have hnb42 := NB445_428.out
    have hnc42 := NB428_445.out
    have hnb43 := NB445_432.out
    have hnc43 := NB432_445.out
    have hcz44 := zc4 BK445.out
    have hfz44 := zf4 BK445.out
    have hnb45 := NB428_432.out
    have hnc45 := NB432_428.out
    have hcz46 := zc4 BK428.out
    have hfz46 := zf4 BK428.out
    go_wp2
    refine bodyPost_ret (results_cell_row rfl _ _ gb428 25 #[.int .i64 t433, .slice Ao12 t434.length co12, .slice Ao13 t437.length co13, .slice Ao14 t440.length co14] (0, 0) _ rfl (by refine zB ?_; refine zp4 (cs := #[.int .i64 0, .slice none 0 0, .slice none 0 0, .slice none 0 0]) ?_; exact zB BK428.out) Try.underlying25 rfl (by kernel_rfl)) rfl ?_
    exact ⟨_, _, _, zW, by (with_reducible repeat (first | apply Kd.N_alloc | apply Kd.N_drewN | apply Kd.N_drew)); exact Kd.N_mono (zNF4 (Kd.N_mono HO_446001.out (fun k_ hk => (⟨hk, hk.2.2.2.1⟩ : _ ∧ k_ ≠ gb428))) gb428 (fun _ hk => hk.2) (.int .i64 t433) (.slice Ao12 t434.length co12) (.slice Ao13 t437.length co13) (.slice Ao14 t440.length co14)) (fun _ hk => ⟨hk.1.1, ⟨hk.1.2.1, hk.1.2.2.1⟩⟩), by (with_reducible repeat (first | apply Kd.N_alloc | apply Kd.N_drewN | apply Kd.N_drew)); exact Kd.N_mono (zNF4 (Kd.N_mono HO_446002.out (fun k_ hk => (⟨hk, hk.2.2.2.1⟩ : _ ∧ k_ ≠ gb428))) gb428 (fun _ hk => hk.2) (.int .i64 t433) (.slice Ao12 t434.length co12) (.slice Ao13 t437.length co13) (.slice Ao14 t440.length co14)) (fun _ hk => ⟨hk.1.1, ⟨hk.1.2.1, hk.1.2.2.1⟩⟩), by (with_reducible repeat (first | apply Kd.R_alloc | apply Kd.R_drewN | apply Kd.R_drew)); exact Kd.R_mono (zRF4 (Kd.R_types HO_446003.out BK428.out (by decide)) gb428 (fun _ hk => hk.2) (.int .i64 t433) (.slice Ao12 t434.length co12) (.slice Ao13 t437.length co13) (.slice Ao14 t440.length co14)) (fun _ hk => hk.1), zL3 HB.out (IsS98.ge HI432.out) GE428.out GE445.out⟩

open Go.Proofs.YtggenhomnbnodaaW.PrintWords renaming blk_drewN → bN, blk_drew → bD, blk_alloc → bA, blk_cell → bC, blk_below → bB, below_set → bS
def spec_DrawNextDue.f (k : Nat) (l0 : List Int) : Option (Int × (List (List (S46))) × (List (List (S46))) × (List (S46))) := (spec_l1New.f k l0).bind fun bt467 => ((spec_l8Any.f k bt467.1 bt467.2.1 bt467.2.2).bind fun bt471 => (some (bt471.1, bt471.2.1, bt471.2.2.1, bt471.2.2.2.1)))
set_option maxHeartbeats 8000000 in
set_option maxRecDepth 100000 in
theorem spec_DrawNextDue.calls (k : Nat) (A0 : Option Addr) (c0 : Nat) (l0 : List Int) (r1 : Int) (r2 : List (List (S46))) (r3 : List (List (S46))) (r4 : List (S46)) (w : World) (hr0 : Kd.C (Kd.int .u8) w A0 l0.length l0) (hc0 : l0.length ≤ c0) (h : spec_DrawNextDue.f k l0 = some (r1, r2, r3, r4)) :
  Calls Try.prog 56 #[.slice A0 l0.length c0] w fun e w' => ∃ v1_ v2_ v3_ : Value, e = .returned (.agg #[.int .i64 r1, v1_, v2_, v3_]) ∧ Kd.N (Kd.slice 46 k46) 23 w' w.heap.size (fun k_ => (w.heap.size ≤ k_) ∧ some k_ ≠ (v2_ : Value).ownBlock ∧ some k_ ≠ (v3_ : Value).ownBlock) v1_ r2 ∧ Kd.N (Kd.slice 46 k46) 23 w' w.heap.size (fun k_ => (w.heap.size ≤ k_) ∧ some k_ ≠ (v1_ : Value).ownBlock ∧ some k_ ≠ (v3_ : Value).ownBlock) v2_ r3 ∧ Kd.R k46 46 w' w.heap.size (fun k_ => (w.heap.size ≤ k_)) v3_ r4 ∧ Below w.heap.size w w' := by
 have hu25 := Try.underlying25
 have HR0 := aM hr0
 have HC0 := aM hc0
 clear hr0 hc0
 have HB := aM (Below.refl w.heap.size w)
 unfold spec_DrawNextDue.f at h; have H := h
 clear h
 obtain ⟨⟨t467, t468, t469⟩, A2, H⟩ := zO H; try dsimp only at H
 obtain ⟨⟨t471, t472, t475, t478, t481, t482⟩, A3, H⟩ := zO H; try dsimp only at H
 simp only [Option.some.injEq, Prod.mk.injEq] at H
 obtain ⟨rfl, rfl, rfl, rfl⟩ := H
 go_enter Try.func56, Try.ntmps56
 go_wp2_with (first | ((with_reducible refine gD 2 rfl ?_); refine bE 2 #[.int .i64 0, .slice none 0 0, .slice none 0 0, .slice none 0 0] 25 ?_; intro gb466 hg w4 hbox hb; have BK466 := aM hbox; have GW466 := aM (zg (zL HB.out) hg : w.heap.size ≤ gb466); have GE466 := GW466; replace HB := zLB (zL HB.out) hb; clear hb hbox hg) | ((with_reducible refine gC 80 rfl ?_); refine gL 5 Try.func80 #[.slice A0 l0.length c0] ?_; (with_reducible refine (spec_l1New.calls k _ _ l0 t467 t468 t469 w _ ?side1 ?side2 ?side3 A2.out).mono ?_); (case side1 => exact zL1 HB.out GE466.out); (case side2 => exact HR0.out); (case side3 => exact HC0.out); rintro e w5 ⟨g470, rfl, hi, hb, hb2⟩; refine ⟨_, rfl, ?_⟩; replace HB := aM hb; have HI470 := aM hi; have NB470_466 := aM (IsS98.ne_blk hi (bB (g := gb466) (o := .cells #[.int .i64 0, .slice none 0 0, .slice none 0 0, .slice none 0 0] 25 (0, 0)) (zB BK466.out) hb2) (by decide)); have NB466_470 := aM (Ne.symm (IsS98.ne_blk hi (bB (g := gb466) (o := .cells #[.int .i64 0, .slice none 0 0, .slice none 0 0, .slice none 0 0] 25 (0, 0)) (zB BK466.out) hb2) (by decide))); replace BK466 := zBB BK466 hb2; clear hi hb hb2) | ((with_reducible refine gC 81 rfl ?_); refine gL 7 Try.func81 #[.pointer (some ⟨g470, 0, none⟩)] ?_; (with_reducible refine (spec_l8Any.calls k g470 t467 t468 t469 t471 t472 t475 t478 t481 t482 w _ ?side1 ?side2 A3.out).mono ?_); (case side1 => exact zI1 HI470.out NB470_466.out); (case side2 => exact zL2 HB.out (IsS98.ge HI470.out) GE466.out); rintro e w6 ⟨v473, v476, v479, rfl, ho0, ho1, ho2, hi, hb, hk⟩; refine ⟨_, rfl, ?_⟩; have HO474 := aM (Kd.N_lower (Kd.N_mono (ok' := fun k_ => (w.heap.size ≤ k_) ∧ some k_ ≠ (v476 : Value).ownBlock ∧ some k_ ≠ (v479 : Value).ownBlock ∧ k_ ≠ gb466 ∧ k_ ≠ g470) ho0 (fun k_ hk_ => ⟨(Nat.le_trans (below_size (zL2 HB.out (IsS98.ge HI470.out) GE466.out)) hk_.1), hk_.2.1, hk_.2.2, (Kd.freshB (g := gb466) (o := .cells #[.int .i64 0, .slice none 0 0, .slice none 0 0, .slice none 0 0] 25 (0, 0)) (zB BK466.out) k_ hk_.1), (IsS98.fresh (zI1 HI470.out NB470_466.out) k_ hk_.1)⟩)) (below_size (zL2 HB.out (IsS98.ge HI470.out) GE466.out))); have HO477 := aM (Kd.N_lower (Kd.N_mono (ok' := fun k_ => (w.heap.size ≤ k_) ∧ some k_ ≠ (v473 : Value).ownBlock ∧ some k_ ≠ (v479 : Value).ownBlock ∧ k_ ≠ gb466 ∧ k_ ≠ g470) ho1 (fun k_ hk_ => ⟨(Nat.le_trans (below_size (zL2 HB.out (IsS98.ge HI470.out) GE466.out)) hk_.1), hk_.2.1, hk_.2.2, (Kd.freshB (g := gb466) (o := .cells #[.int .i64 0, .slice none 0 0, .slice none 0 0, .slice none 0 0] 25 (0, 0)) (zB BK466.out) k_ hk_.1), (IsS98.fresh (zI1 HI470.out NB470_466.out) k_ hk_.1)⟩)) (below_size (zL2 HB.out (IsS98.ge HI470.out) GE466.out))); replace BK466 := zBK hk BK466 NB466_470; have HO480 := aM (Kd.R_lower (Kd.R_newM (M := fun k_ => (w.heap.size ≤ k_)) (Kd.R_mono (ok' := fun k_ => True) ho2 (fun _ hk_ => trivial)) (below_size (zL2 HB.out (IsS98.ge HI470.out) GE466.out)) (fun k_ h_ => h_)) (below_size (zL2 HB.out (IsS98.ge HI470.out) GE466.out))); replace HB := aM hb; replace HI470 := aM hi; clear ho0 hi hb hk; (try clear ho1); (try clear ho2); have hnb7 := NB466_470.out; have hnc7 := NB470_466.out; have hcz8 := zc4 BK466.out; have hfz8 := zf4 BK466.out; obtain ⟨Ao9, co9, eo9⟩ := Kd.N_slice HO474.out; subst eo9; obtain ⟨Ao10, co10, eo10⟩ := Kd.N_slice HO477.out; subst eo10; obtain ⟨Ao11, co11, eo11⟩ := Kd.R_slice HO480.out; subst eo11))
 refine bodyPost_ret (results_cell_row rfl _ _ gb466 25 #[.int .i64 t471, .slice Ao9 t472.length co9, .slice Ao10 t475.length co10, .slice Ao11 t478.length co11] (0, 0) _ rfl (by refine zB ?_; refine zp4 (cs := #[.int .i64 0, .slice none 0 0, .slice none 0 0, .slice none 0 0]) ?_; exact zB BK466.out) Try.underlying25 rfl (by kernel_rfl)) rfl ?_
 exact ⟨_, _, _, zW, by (with_reducible repeat (first | apply Kd.N_alloc | apply Kd.N_drewN | apply Kd.N_drew)); exact Kd.N_mono (zNF4 (Kd.N_mono HO474.out (fun k_ hk => (⟨hk, hk.2.2.2.1⟩ : _ ∧ k_ ≠ gb466))) gb466 (fun _ hk => hk.2) (.int .i64 t471) (.slice Ao9 t472.length co9) (.slice Ao10 t475.length co10) (.slice Ao11 t478.length co11)) (fun _ hk => ⟨hk.1.1, ⟨hk.1.2.1, hk.1.2.2.1⟩⟩), by (with_reducible repeat (first | apply Kd.N_alloc | apply Kd.N_drewN | apply Kd.N_drew)); exact Kd.N_mono (zNF4 (Kd.N_mono HO477.out (fun k_ hk => (⟨hk, hk.2.2.2.1⟩ : _ ∧ k_ ≠ gb466))) gb466 (fun _ hk => hk.2) (.int .i64 t471) (.slice Ao9 t472.length co9) (.slice Ao10 t475.length co10) (.slice Ao11 t478.length co11)) (fun _ hk => ⟨hk.1.1, ⟨hk.1.2.1, hk.1.2.2.1⟩⟩), by (with_reducible repeat (first | apply Kd.R_alloc | apply Kd.R_drewN | apply Kd.R_drew)); exact Kd.R_mono (zRF4 (Kd.R_types HO480.out BK466.out (by decide)) gb466 (fun _ hk => hk.2) (.int .i64 t471) (.slice Ao9 t472.length co9) (.slice Ao10 t475.length co10) (.slice Ao11 t478.length co11)) (fun _ hk => hk.1.1), zL2 HB.out (IsS98.ge HI470.out) GE466.out⟩

end Go.Proofs.Ytggenhomnbnodaa.QFnTicks
