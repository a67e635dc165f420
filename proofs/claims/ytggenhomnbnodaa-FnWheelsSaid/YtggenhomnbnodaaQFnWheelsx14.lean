/- What functions that the law reaches answer, with their walks. Conditions: those that each theorem names. -/
import Derived.Test.YtggenhomnbnodaaQFnWheelsx0
import Derived.Test.YtggenhomnbnodaaQFnWheelsx12
import Derived.Test.YtggenhomnbnodaaQFnWheelsx13
namespace Go.Proofs.Ytggenhomnbnodaa.QFnWheels
open Go.RowKit Go.Proofs.YtggenhomnbnodaaW.PrintWords Go.Proofs.YtggenhomnbnodaaW.PrintLast Go.Proofs.YtggenhomnbnodaaW.PrintMore
attribute [local go_sem] max2_int min2_int max_two min_two max_three min_three max_four min_four
set_option linter.unusedVariables false
set_option linter.unusedSimpArgs false

open Go.Proofs.YtggenhomnbnodaaW.PrintWords renaming blk_drewN → bN, blk_drew → bD, blk_alloc → bA, blk_cell → bC, blk_below → bB, below_set → bS
def spec_DrawPut.f (k : Nat) (l0 : List Int) : Option (Int × (List (List (S46))) × (List (List (S46))) × (List (S46)) × Int × Int × Int) := (spec_l1New.f k l0).bind fun btM => ((spec_l8Any.f k btM.1 btM.2.1 btM.2.2).bind fun btL => ((spec_l1Below.f btM.1 btL.2.2.2.2.1 btL.2.2.2.2.2 9).bind fun btV => ((spec_l8Timer.f btM.1 btV.2.1 btV.2.2 btL.1 (wrap64 (1 + btV.1))).bind fun btQ => ((spec_l1Below.f btM.1 btQ.2.2.2.1 btQ.2.2.2.2 8).bind fun btA6 => (if btA6.1 = 0 then ((spec_l1Raw.f btM.1 btA6.2.1 btA6.2.2).bind fun btA5 => (some (btL.1, btL.2.1, btL.2.2.1, btL.2.2.2.1, btQ.1, btQ.2.1, btA5.1))) else (if btA6.1 = 1 then ((spec_l1Int.f btM.1 btA6.2.1 btA6.2.2 (([0, 1000] : List Int))).bind fun btA4 => (some (btL.1, btL.2.1, btL.2.2.1, btL.2.2.2.1, btQ.1, btA4.1, btQ.2.2.1))) else (if btA6.1 = 2 then ((spec_l1Int.f btM.1 btA6.2.1 btA6.2.2 (([0, (-1)] : List Int))).bind fun btA3 => (some (btL.1, btL.2.1, btL.2.2.1, btL.2.2.2.1, btA3.1, btQ.2.1, btQ.2.2.1))) else (some (btL.1, btL.2.1, btL.2.2.1, btL.2.2.2.1, btQ.1, btQ.2.1, btQ.2.2.1)))))))))
def spec_DrawPut.T3 : Bool × List (List Nat × List Nat) := (true, [([], []), ([], []), ([1], [1]), ([], []), ([3], [3]), ([4], [4]), ([0, 2, 5, 4], [0, 2, 5]), ([], []), ([7, 6, 6, 0, 1, 2, 3, 4, 5, 6, 7], [6, 7])])
def spec_DrawPut.B3 : List Nat := [0, 0, 2, 0, 8, 24, 63, 0, 255]
theorem spec_DrawPut.tab3 : rtab .any (opsOf Try.f46 3) = spec_DrawPut.T3 := by kernel_rfl
theorem spec_DrawPut.bits3 : waitsOk spec_DrawPut.T3.2 spec_DrawPut.B3 = true := by kernel_rfl
set_option maxHeartbeats 8000000 in
set_option maxRecDepth 100000 in
theorem spec_DrawPut.calls (k : Nat) (A0 : Option Addr) (c0 : Nat) (l0 : List Int) (r1 : Int) (r2 : List (List (S46))) (r3 : List (List (S46))) (r4 : List (S46)) (r5 : Int) (r6 : Int) (r7 : Int) (w : World) (hr0 : Kd.C (Kd.int .u8) w A0 l0.length l0) (hc0 : l0.length ≤ c0) (h : spec_DrawPut.f k l0 = some (r1, r2, r3, r4, r5, r6, r7)) :
  Calls Try.prog 46 #[.slice A0 l0.length c0] w fun e w' => ∃ v1_ v2_ v3_ : Value, e = .returned (.tuple #[.agg #[.int .i64 r1, v1_, v2_, v3_], .agg #[.int .i64 r5, .int .i64 r6, .int .i64 r7]]) ∧ Kd.N (Kd.slice 46 k46) 23 w' w.heap.size (fun k_ => (w.heap.size ≤ k_) ∧ some k_ ≠ (v2_ : Value).ownBlock ∧ some k_ ≠ (v3_ : Value).ownBlock) v1_ r2 ∧ Kd.N (Kd.slice 46 k46) 23 w' w.heap.size (fun k_ => (w.heap.size ≤ k_) ∧ some k_ ≠ (v1_ : Value).ownBlock ∧ some k_ ≠ (v3_ : Value).ownBlock) v2_ r3 ∧ Kd.R k46 46 w' w.heap.size (fun k_ => (w.heap.size ≤ k_)) v3_ r4 ∧ Below w.heap.size w w' := by
 have hu25 := Try.underlying25
 have hu46 := Try.underlying46
 have HR0 := aM hr0
 have HC0 := aM hc0
 clear hr0 hc0
 have HB := aM (Below.refl w.heap.size w)
 unfold spec_DrawPut.f at h; have H := h
 clear h
 obtain ⟨⟨tM, tB8, tB9⟩, A2, H⟩ := zO H; try dsimp only at H
 obtain ⟨⟨tL, tG, tH, tF, tW, tX⟩, A3, H⟩ := zO H; try dsimp only at H
 obtain ⟨⟨tV, tZ, tA0⟩, A4, H⟩ := zO H; try dsimp only at H
 obtain ⟨⟨tQ, tT, tU, tA1, tA2⟩, A5, H⟩ := zO H; try dsimp only at H
 obtain ⟨⟨tA6, tB2, tB3⟩, A6, H⟩ := zO H; try dsimp only at H
 by_cases c7 : tA6 = 0
 ·rw [if_pos c7] at H
  obtain ⟨c7b0, c7b1⟩ := zt c7
  clear c7
  obtain ⟨⟨tA5, tE6, tE7⟩, A8, H⟩ := zO H; try dsimp only at H
  simp only [Option.some.injEq, Prod.mk.injEq] at H
  obtain ⟨rfl, rfl, rfl, rfl, rfl, rfl, rfl⟩ := H
  go_enter Try.func46, Try.ntmps46
  try go_wp2_with (first | ((with_reducible refine gD 2 rfl ?_); refine bE 2 #[.int .i64 0, .slice none 0 0, .slice none 0 0, .slice none 0 0] 25 ?_; intro gbE hg w9 hbox hb; have BKE := aM hbox; have GWE := aM (zg (zL HB.o) hg : w.heap.size ≤ gbE); have GEE := GWE; replace HB := zLB (zL HB.o) hb; clear hb hbox hg) | ((with_reducible refine gD 3 rfl ?_); refine bE 3 #[.int .i64 0, .int .i64 0, .int .i64 0] 46 ?_; intro gbC hg w10 hbox hb; have BKC := aM hbox; have GWC := aM (zg (zL1 HB.o GEE.o) hg : w.heap.size ≤ gbC); have GEC := GWC; replace HB := zLB (zL1 HB.o GEE.o) hb; have NBE_C := aM (zN BKE.o hg : gbE ≠ gbC); have NBC_E := aM (zM BKE.o hg : gbC ≠ gbE); replace BKE := zBB BKE hb; clear hb hbox hg) | ((with_reducible refine gC 80 rfl ?_); refine gL 8 Try.func80 #[.slice A0 l0.length c0] ?_; (with_reducible refine (spec_l1New.calls k _ _ l0 tM tB8 tB9 w _ ?side1 ?side2 ?side3 A2.o).mono ?_); (case side1 => exact zL2 HB.o GEE.o GEC.o); (case side2 => exact HR0.o); (case side3 => exact HC0.o); rintro e w11 ⟨gA, rfl, hi, hb, hb2⟩; refine ⟨_, rfl, ?_⟩; replace HB := aM hb; have HIA := aM hi; have NBA_E := aM (IsS98.ne_blk hi (bB (g := gbE) (o := .cells #[.int .i64 0, .slice none 0 0, .slice none 0 0, .slice none 0 0] 25 (0, 0)) (zB BKE.o) hb2) (by decide)); have NBE_A := aM (Ne.symm (IsS98.ne_blk hi (bB (g := gbE) (o := .cells #[.int .i64 0, .slice none 0 0, .slice none 0 0, .slice none 0 0] 25 (0, 0)) (zB BKE.o) hb2) (by decide))); replace BKE := zBB BKE hb2; have NBA_C := aM (IsS98.ne_blk hi (bB (g := gbC) (o := .cells #[.int .i64 0, .int .i64 0, .int .i64 0] 46 (0, 0)) (zB BKC.o) hb2) (by decide)); have NBC_A := aM (Ne.symm (IsS98.ne_blk hi (bB (g := gbC) (o := .cells #[.int .i64 0, .int .i64 0, .int .i64 0] 46 (0, 0)) (zB BKC.o) hb2) (by decide))); replace BKC := zBB BKC hb2; clear hi hb hb2) | ((with_reducible refine gC 81 rfl ?_); refine gL 10 Try.func81 #[.pointer (some ⟨gA, 0, none⟩)] ?_; (with_reducible refine (spec_l8Any.calls k gA tM tB8 tB9 tL tG tH tF tW tX w _ ?side1 ?side2 A3.o).mono ?_); (case side1 => exact zI2 HIA.o NBA_E.o NBA_C.o); (case side2 => exact zL3 HB.o (IsS98.ge HIA.o) GEE.o GEC.o); rintro e w12 ⟨vC0, vC1, vB6, rfl, ho0, ho1, ho2, hi, hb, hk⟩; refine ⟨_, rfl, ?_⟩; have HOI := aM (Kd.N_lower (Kd.N_mono (ok' := fun k_ => (w.heap.size ≤ k_) ∧ some k_ ≠ (vC1 : Value).ownBlock ∧ some k_ ≠ (vB6 : Value).ownBlock ∧ k_ ≠ gbE ∧ k_ ≠ gbC ∧ k_ ≠ gA) ho0 (fun k_ hk_ => ⟨(Nat.le_trans (below_size (zL3 HB.o (IsS98.ge HIA.o) GEE.o GEC.o)) hk_.1), hk_.2.1, hk_.2.2, (Kd.freshB (g := gbE) (o := .cells #[.int .i64 0, .slice none 0 0, .slice none 0 0, .slice none 0 0] 25 (0, 0)) (zB BKE.o) k_ hk_.1), (Kd.freshB (g := gbC) (o := .cells #[.int .i64 0, .int .i64 0, .int .i64 0] 46 (0, 0)) (zB BKC.o) k_ hk_.1), (IsS98.fresh (zI2 HIA.o NBA_E.o NBA_C.o) k_ hk_.1)⟩)) (below_size (zL3 HB.o (IsS98.ge HIA.o) GEE.o GEC.o))); have HOJ := aM (Kd.N_lower (Kd.N_mono (ok' := fun k_ => (w.heap.size ≤ k_) ∧ some k_ ≠ (vC0 : Value).ownBlock ∧ some k_ ≠ (vB6 : Value).ownBlock ∧ k_ ≠ gbE ∧ k_ ≠ gbC ∧ k_ ≠ gA) ho1 (fun k_ hk_ => ⟨(Nat.le_trans (below_size (zL3 HB.o (IsS98.ge HIA.o) GEE.o GEC.o)) hk_.1), hk_.2.1, hk_.2.2, (Kd.freshB (g := gbE) (o := .cells #[.int .i64 0, .slice none 0 0, .slice none 0 0, .slice none 0 0] 25 (0, 0)) (zB BKE.o) k_ hk_.1), (Kd.freshB (g := gbC) (o := .cells #[.int .i64 0, .int .i64 0, .int .i64 0] 46 (0, 0)) (zB BKC.o) k_ hk_.1), (IsS98.fresh (zI2 HIA.o NBA_E.o NBA_C.o) k_ hk_.1)⟩)) (below_size (zL3 HB.o (IsS98.ge HIA.o) GEE.o GEC.o))); replace BKE := zBK hk BKE NBE_A; have HOK := aM (Kd.R_lower (Kd.R_newB (Kd.R_newM (M := fun k_ => (w.heap.size ≤ k_)) (Kd.R_mono (ok' := fun k_ => True) ho2 (fun _ hk_ => trivial)) (below_size (zL3 HB.o (IsS98.ge HIA.o) GEE.o GEC.o)) (fun k_ h_ => h_)) (g := gbC) (o := .cells #[.int .i64 0, .int .i64 0, .int .i64 0] 46 (0, 0)) (zB BKC.o)) (below_size (zL3 HB.o (IsS98.ge HIA.o) GEE.o GEC.o))); replace BKC := zBK hk BKC NBC_A; replace HB := aM hb; replace HIA := aM hi; clear ho0 hi hb hk; (try clear ho1); (try clear ho2)) | ((with_reducible refine gD 5 rfl ?_); refine bE 5 #[.int .i64 0, .slice none 0 0, .slice none 0 0, .slice none 0 0] 25 ?_; intro gbD hg w13 hbox hb; replace HOI := aM (Kd.N_below (Kd.N_elderB (zX HOI.o) gbD (Nat.le_of_eq hg.symm)) hb); replace HOJ := aM (Kd.N_below (Kd.N_elderB (zX HOJ.o) gbD (Nat.le_of_eq hg.symm)) hb); replace HOK := zRB HOK hb; have BKD := aM hbox; have GWD := aM ((zg (zL3 HB.o (IsS98.ge HIA.o) GEE.o GEC.o) hg : w.heap.size ≤ gbD)); have GED := GWD; replace HB := zLB (zL3 HB.o (IsS98.ge HIA.o) GEE.o GEC.o) hb; have NBE_D := aM (zN BKE.o hg : gbE ≠ gbD); have NBD_E := aM (zM BKE.o hg : gbD ≠ gbE); replace BKE := zBB BKE hb; have NBC_D := aM (zN BKC.o hg : gbC ≠ gbD); have NBD_C := aM (zM BKC.o hg : gbD ≠ gbC); replace BKC := zBB BKC hb; have NBA_D := aM ((zNI (IsS98.lt (zI2 HIA.o NBA_E.o NBA_C.o : IsS98 w _ gA tM tW tX)) hg : gA ≠ gbD)); have NBD_A := aM ((zMI (IsS98.lt (zI2 HIA.o NBA_E.o NBA_C.o : IsS98 w _ gA tM tW tX)) hg : gbD ≠ gA)); replace HIA := aM (IsS98.below (zI2 HIA.o NBA_E.o NBA_C.o) hb); clear hb hbox hg; have hnb14 := NBD_E.o; have hnc14 := NBE_D.o; have hnb15 := NBD_C.o; have hnc15 := NBC_D.o; have hnb16 := NBD_A.o; have hnc16 := NBA_D.o; have hcz17 := zc4 BKD.o; have hfz17 := zf4 BKD.o; obtain ⟨Ao18, co18, eo18⟩ := Kd.N_slice HOI.o; subst eo18; obtain ⟨Ao19, co19, eo19⟩ := Kd.N_slice HOJ.o; subst eo19; obtain ⟨Ao20, co20, eo20⟩ := Kd.R_slice HOK.o; subst eo20))
  have n0_ : Aside0 (Kd.N (Kd.slice 46 k46) 23 ((((w13.setCell ⟨gbD, 0, none⟩ (.int .i64 tL)).setCell ⟨gbD, 1, none⟩ (.slice Ao18 tG.length co18)).setCell ⟨gbD, 2, none⟩ (.slice Ao19 tH.length co19)).setCell ⟨gbD, 3, none⟩ (.slice Ao20 tF.length co20)) w.heap.size (fun k_ => (w.heap.size ≤ k_) ∧ some k_ ≠ (.slice Ao19 tH.length co19 : Value).ownBlock ∧ some k_ ≠ (.slice Ao20 tF.length co20 : Value).ownBlock ∧ k_ ≠ gbE ∧ k_ ≠ gbC ∧ k_ ≠ gA ∧ k_ ≠ gbD) (.slice Ao18 tG.length co18) tG) := ⟨by refine zX ?_; exact Kd.N_mono (zNF4 (Kd.N_mono HOI.o (fun k_ hk => (⟨hk, hk.2⟩ : _ ∧ k_ ≠ gbD))) gbD (fun _ hk => hk.2) (.int .i64 tL) (.slice Ao18 tG.length co18) (.slice Ao19 tH.length co19) (.slice Ao20 tF.length co20)) (fun _ hk => ⟨hk.1.1.1, ⟨hk.1.1.2.1, ⟨hk.1.1.2.2.1, ⟨hk.1.1.2.2.2.1, ⟨hk.1.1.2.2.2.2.1, ⟨hk.1.1.2.2.2.2.2, hk.1.2⟩⟩⟩⟩⟩⟩)⟩
  have n1_ : Aside0 (Kd.N (Kd.slice 46 k46) 23 ((((w13.setCell ⟨gbD, 0, none⟩ (.int .i64 tL)).setCell ⟨gbD, 1, none⟩ (.slice Ao18 tG.length co18)).setCell ⟨gbD, 2, none⟩ (.slice Ao19 tH.length co19)).setCell ⟨gbD, 3, none⟩ (.slice Ao20 tF.length co20)) w.heap.size (fun k_ => (w.heap.size ≤ k_) ∧ some k_ ≠ (.slice Ao18 tG.length co18 : Value).ownBlock ∧ some k_ ≠ (.slice Ao20 tF.length co20 : Value).ownBlock ∧ k_ ≠ gbE ∧ k_ ≠ gbC ∧ k_ ≠ gA ∧ k_ ≠ gbD) (.slice Ao19 tH.length co19) tH) := ⟨by refine zX ?_; exact Kd.N_mono (zNF4 (Kd.N_mono HOJ.o (fun k_ hk => (⟨hk, hk.2⟩ : _ ∧ k_ ≠ gbD))) gbD (fun _ hk => hk.2) (.int .i64 tL) (.slice Ao18 tG.length co18) (.slice Ao19 tH.length co19) (.slice Ao20 tF.length co20)) (fun _ hk => ⟨hk.1.1.1, ⟨hk.1.1.2.1, ⟨hk.1.1.2.2.1, ⟨hk.1.1.2.2.2.1, ⟨hk.1.1.2.2.2.2.1, ⟨hk.1.1.2.2.2.2.2, hk.1.2⟩⟩⟩⟩⟩⟩)⟩
  have n2_ : Aside0 (Kd.R k46 46 ((((w13.setCell ⟨gbD, 0, none⟩ (.int .i64 tL)).setCell ⟨gbD, 1, none⟩ (.slice Ao18 tG.length co18)).setCell ⟨gbD, 2, none⟩ (.slice Ao19 tH.length co19)).setCell ⟨gbD, 3, none⟩ (.slice Ao20 tF.length co20)) w.heap.size (fun k_ => (w.heap.size ≤ k_) ∧ k_ ≠ gbC) (.slice Ao20 tF.length co20) tF) := ⟨by refine zR ?_; exact Kd.R_mono (zRF4 (Kd.R_types HOK.o BKD.o (by decide)) gbD (fun _ hk => hk.2) (.int .i64 tL) (.slice Ao18 tG.length co18) (.slice Ao19 tH.length co19) (.slice Ao20 tF.length co20)) (fun _ hk => ⟨hk.1.1.1, hk.1.2⟩)⟩
  have n3_ : Aside0 (((((w13.setCell ⟨gbD, 0, none⟩ (.int .i64 tL)).setCell ⟨gbD, 1, none⟩ (.slice Ao18 tG.length co18)).setCell ⟨gbD, 2, none⟩ (.slice Ao19 tH.length co19)).setCell ⟨gbD, 3, none⟩ (.slice Ao20 tF.length co20)).heap[gbE]? = some (.cells #[.int .i64 0, .slice none 0 0, .slice none 0 0, .slice none 0 0] 25 (0, 0))) := ⟨by refine zB ?_; refine zr4 ?_ NBE_D.o; exact zB BKE.o⟩
  have n4_ : Aside0 (((((w13.setCell ⟨gbD, 0, none⟩ (.int .i64 tL)).setCell ⟨gbD, 1, none⟩ (.slice Ao18 tG.length co18)).setCell ⟨gbD, 2, none⟩ (.slice Ao19 tH.length co19)).setCell ⟨gbD, 3, none⟩ (.slice Ao20 tF.length co20)).heap[gbC]? = some (.cells #[.int .i64 0, .int .i64 0, .int .i64 0] 46 (0, 0))) := ⟨by refine zB ?_; refine zr4 ?_ NBC_D.o; exact zB BKC.o⟩
  have n5_ : Aside0 (((((w13.setCell ⟨gbD, 0, none⟩ (.int .i64 tL)).setCell ⟨gbD, 1, none⟩ (.slice Ao18 tG.length co18)).setCell ⟨gbD, 2, none⟩ (.slice Ao19 tH.length co19)).setCell ⟨gbD, 3, none⟩ (.slice Ao20 tF.length co20)).heap[gbD]? = some (.cells #[.int .i64 tL, .slice Ao18 tG.length co18, .slice Ao19 tH.length co19, .slice Ao20 tF.length co20] 25 (0, 0))) := ⟨by refine zB ?_; refine zp4 (cs := #[.int .i64 0, .slice none 0 0, .slice none 0 0, .slice none 0 0]) ?_; exact zB BKD.o⟩
  have n6_ : Aside0 (IsS98 w ((((w13.setCell ⟨gbD, 0, none⟩ (.int .i64 tL)).setCell ⟨gbD, 1, none⟩ (.slice Ao18 tG.length co18)).setCell ⟨gbD, 2, none⟩ (.slice Ao19 tH.length co19)).setCell ⟨gbD, 3, none⟩ (.slice Ao20 tF.length co20)) gA tM tW tX) := ⟨zI3 HIA.o NBA_E.o NBA_C.o NBA_D.o⟩
  have n7_ : Aside0 (Below w.heap.size w ((((w13.setCell ⟨gbD, 0, none⟩ (.int .i64 tL)).setCell ⟨gbD, 1, none⟩ (.slice Ao18 tG.length co18)).setCell ⟨gbD, 2, none⟩ (.slice Ao19 tH.length co19)).setCell ⟨gbD, 3, none⟩ (.slice Ao20 tF.length co20))) := ⟨zL4 HB.o (IsS98.ge HIA.o) GEE.o GEC.o GED.o⟩
  (try clear HOI)
  (try clear HOJ)
  (try clear HOK)
  (try clear BKE)
  (try clear BKC)
  (try clear BKD)
  (try clear HIA)
  (try clear HB)
  generalize ((((w13.setCell ⟨gbD, 0, none⟩ (.int .i64 tL)).setCell ⟨gbD, 1, none⟩ (.slice Ao18 tG.length co18)).setCell ⟨gbD, 2, none⟩ (.slice Ao19 tH.length co19)).setCell ⟨gbD, 3, none⟩ (.slice Ao20 tF.length co20)) = w21 at n0_ n1_ n2_ n3_ n4_ n5_ n6_ n7_ ⊢
  have HOI := n0_
  have HOJ := n1_
  have HOK := n2_
  have BKE := n3_
  have BKC := n4_
  have BKD := n5_
  have HIA := n6_
  have HB := n7_
  clear n0_ n1_ n2_ n3_ n4_ n5_ n6_ n7_
  replace HOI := zXD HOI; replace HOJ := zXD HOJ; replace HOK := zRD HOK; replace BKE := zBD BKE; replace BKC := zBD BKC; replace BKD := zBD BKD; replace HIA := aM (IsS98.drew HIA.o); replace HB := zLD HB
  refine start_ (n := 9) (S := fun w' => zs4 w' gbD (.int .i64 tL) (.slice Ao18 tG.length co18) (.slice Ao19 tH.length co19) (.slice Ao20 tF.length co20)) (ds := []) (fB 9 0) (by kernel_rfl) rfl rfl (zc4 BKD.o) (fun hHeld => ?_); refine with_tabW spec_DrawPut.tab3 spec_DrawPut.bits3 (fun HT_ HW_ => ?_)
  generalize w21.drew = w22 at HOI HOJ HOK BKE BKC BKD HIA HB hHeld ⊢
  refine pY 0 11 (fB 9 1) HT_.o ?_
  refine pY 1 12 (fB 9 3) HT_.o ?_
  refine pY 3 14 (fB 9 11) HT_.o ?_
  refine tY 2 13 (fB 9 15) HT_.o HW_.o hHeld ?_
  refine join_ (σ := Nat) 1 #[true, true, true, true, true, true, true, true, false] (fun s_ => [(15, .int .i64 tV), (17, .agg #[.int .i64 tQ, .int .i64 tT, .int .i64 tU]), (6, .pointer (some ⟨s_, 0, none⟩)), (16, .int .i64 (wrap64 (1 + tV)))]) (fun s_ w' => (w'.cell? ⟨gbD, 0, none⟩ = some (.int .i64 tL) ∧ w'.cell? ⟨gbD, 1, none⟩ = some (.slice Ao18 tG.length co18) ∧ w'.cell? ⟨gbD, 2, none⟩ = some (.slice Ao19 tH.length co19) ∧ w'.cell? ⟨gbD, 3, none⟩ = some (.slice Ao20 tF.length co20)) ∧ (Kd.N (Kd.slice 46 k46) 23 w' w.heap.size (fun k_ => (w.heap.size ≤ k_) ∧ some k_ ≠ (.slice Ao19 tH.length co19 : Value).ownBlock ∧ some k_ ≠ (.slice Ao20 tF.length co20 : Value).ownBlock ∧ k_ ≠ gbE ∧ k_ ≠ gbC ∧ k_ ≠ gA ∧ k_ ≠ gbD ∧ k_ ≠ s_) (.slice Ao18 tG.length co18) tG) ∧ (Kd.N (Kd.slice 46 k46) 23 w' w.heap.size (fun k_ => (w.heap.size ≤ k_) ∧ some k_ ≠ (.slice Ao18 tG.length co18 : Value).ownBlock ∧ some k_ ≠ (.slice Ao20 tF.length co20 : Value).ownBlock ∧ k_ ≠ gbE ∧ k_ ≠ gbC ∧ k_ ≠ gA ∧ k_ ≠ gbD ∧ k_ ≠ s_) (.slice Ao19 tH.length co19) tH) ∧ (Kd.R k46 46 w' w.heap.size (fun k_ => (w.heap.size ≤ k_) ∧ k_ ≠ gbC ∧ k_ ≠ s_) (.slice Ao20 tF.length co20) tF) ∧ (w'.heap[gbE]? = some (.cells #[.int .i64 0, .slice none 0 0, .slice none 0 0, .slice none 0 0] 25 (0, 0))) ∧ (w'.heap[gbC]? = some (.cells #[.int .i64 0, .int .i64 0, .int .i64 0] 46 (0, 0))) ∧ (w'.heap[gbD]? = some (.cells #[.int .i64 tL, .slice Ao18 tG.length co18, .slice Ao19 tH.length co19, .slice Ao20 tF.length co20] 25 (0, 0))) ∧ (w'.heap[s_]? = some (.cells #[.int .i64 0, .int .i64 0, .int .i64 0] 46 (0, 0))) ∧ (w.heap.size ≤ s_) ∧ (w.heap.size ≤ s_) ∧ (gA ≠ s_) ∧ (s_ ≠ gA) ∧ (gbE ≠ s_) ∧ (s_ ≠ gbE) ∧ (gbC ≠ s_) ∧ (s_ ≠ gbC) ∧ (gbD ≠ s_) ∧ (s_ ≠ gbD) ∧ (IsS98 w w' gA tM tA1 tA2) ∧ (Below w.heap.size w w')) ?_ ?_
  rotate_left
  ·intro hCont
   refine two_ (i := 4) (j := 7) (Ni := some 15) (Nj := some 6) #[true, true, true, true, true, false, false, false, false] #[true, true, true, true, false, false, false, true, false] rfl rfl rfl rfl (two_of HT_.o (by kernel_rfl)) (by decide) (by decide) (fun K hK => ?_) (fun K hK => ?_)
   ·skip
    refine gS Try.func83 #[.pointer (some ⟨gA, 0, none⟩), .int .i64 9] ?_
    with_reducible refine (spec_l1Below.calls gA tM tW tX 9 tV tZ tA0 w _ ?side1 ?side2 A4.o).mono ?_
    (case side1 => exact zI3 HIA.o NBA_E.o NBA_C.o NBA_D.o)
    (case side2 => exact zL4 HB.o (IsS98.ge HIA.o) GEE.o GEC.o GED.o)
    rintro e w23 ⟨rfl, hi, hb, hk⟩
    refine ⟨_, rfl, ?_⟩
    replace BKE := zBK hk BKE NBE_A; replace BKC := zBK hk BKC NBC_A; replace HOI := aM (Kd.N_mono (Kd.N_keep (Kd.N_mono (ok := fun k_ => (((w.heap.size ≤ k_)) ∧ (some k_ ≠ (.slice Ao19 tH.length co19 : Value).ownBlock ∧ (some k_ ≠ (.slice Ao20 tF.length co20 : Value).ownBlock ∧ (k_ ≠ gbE ∧ (k_ ≠ gbC ∧ (k_ ≠ gA ∧ k_ ≠ gbD))))))) (zX HOI.o) (fun k_ hk_ => (⟨hk_, hk_.2.2.2.2.2.1⟩ : _ ∧ k_ ≠ gA))) hk (fun _ h => h.2)) (fun _ h => h.1)); replace HOJ := aM (Kd.N_mono (Kd.N_keep (Kd.N_mono (ok := fun k_ => (((w.heap.size ≤ k_)) ∧ (some k_ ≠ (.slice Ao18 tG.length co18 : Value).ownBlock ∧ (some k_ ≠ (.slice Ao20 tF.length co20 : Value).ownBlock ∧ (k_ ≠ gbE ∧ (k_ ≠ gbC ∧ (k_ ≠ gA ∧ k_ ≠ gbD))))))) (zX HOJ.o) (fun k_ hk_ => (⟨hk_, hk_.2.2.2.2.2.1⟩ : _ ∧ k_ ≠ gA))) hk (fun _ h => h.2)) (fun _ h => h.1)); replace HOK := aM (Kd.R_mono (Kd.R_keep (IsS98.apart (show IsS98 w _ gA tM tW tX from zI3 HIA.o NBA_E.o NBA_C.o NBA_D.o) (zR HOK.o) (by decide)) hk (fun _ h => h.2)) (fun _ h => h.1)); replace BKD := zBK hk BKD NBD_A; replace HB := aM hb; replace HIA := aM hi
    clear hi hb hk
    refine hK.out _ _ (zc4 BKD.o) fun hHeld => ?_; clear hK K
    refine nZ 15 ?_
    refine pY 5 16 (fB 9 63) HT_.o ?_
    refine two_ (i := 6) (j := 7) (Ni := some 17) (Nj := some 6) #[true, true, true, true, true, true, true, false, false] #[true, true, true, true, true, true, false, true, false] rfl rfl rfl rfl (two_of HT_.o (by kernel_rfl)) (by decide) (by decide) (fun K hK => ?_) (fun K hK => ?_)
    ·skip
     refine gS Try.func82 #[.pointer (some ⟨gA, 0, none⟩), .int .i64 tL, .int .i64 (wrap64 (1 + tV))] ?_
     with_reducible refine (spec_l8Timer.calls gA tM tZ tA0 tL (wrap64 (1 + tV)) tQ tT tU tA1 tA2 w _ ?side1 ?side2 A5.o).mono ?_
     (case side1 => exact zI3 HIA.o NBA_E.o NBA_C.o NBA_D.o)
     (case side2 => exact zL4 HB.o (IsS98.ge HIA.o) GEE.o GEC.o GED.o)
     rintro e w24 ⟨rfl, hi, hb, hk⟩
     refine ⟨_, rfl, ?_⟩
     replace BKE := zBK hk BKE NBE_A; replace BKC := zBK hk BKC NBC_A; replace HOI := aM (Kd.N_mono (Kd.N_keep (Kd.N_mono (ok := fun k_ => (((w.heap.size ≤ k_)) ∧ (some k_ ≠ (.slice Ao19 tH.length co19 : Value).ownBlock ∧ (some k_ ≠ (.slice Ao20 tF.length co20 : Value).ownBlock ∧ (k_ ≠ gbE ∧ (k_ ≠ gbC ∧ (k_ ≠ gA ∧ k_ ≠ gbD))))))) (zX HOI.o) (fun k_ hk_ => (⟨hk_, hk_.2.2.2.2.2.1⟩ : _ ∧ k_ ≠ gA))) hk (fun _ h => h.2)) (fun _ h => h.1)); replace HOJ := aM (Kd.N_mono (Kd.N_keep (Kd.N_mono (ok := fun k_ => (((w.heap.size ≤ k_)) ∧ (some k_ ≠ (.slice Ao18 tG.length co18 : Value).ownBlock ∧ (some k_ ≠ (.slice Ao20 tF.length co20 : Value).ownBlock ∧ (k_ ≠ gbE ∧ (k_ ≠ gbC ∧ (k_ ≠ gA ∧ k_ ≠ gbD))))))) (zX HOJ.o) (fun k_ hk_ => (⟨hk_, hk_.2.2.2.2.2.1⟩ : _ ∧ k_ ≠ gA))) hk (fun _ h => h.2)) (fun _ h => h.1)); replace HOK := aM (Kd.R_mono (Kd.R_keep (IsS98.apart (show IsS98 w _ gA tM tZ tA0 from zI3 HIA.o NBA_E.o NBA_C.o NBA_D.o) (zR HOK.o) (by decide)) hk (fun _ h => h.2)) (fun _ h => h.1)); replace BKD := zBK hk BKD NBD_A; replace HB := aM hb; replace HIA := aM hi
     clear hi hb hk
     refine hK.out _ _ (zc4 BKD.o) fun hHeld => ?_; clear hK K
     refine nZ 17 ?_
     refine oN 7 6 (fB 9 255) HT_.o fun K hK => ?_
     refine box_step ?hg (N := 6) ?hd (cs := #[.int .i64 0, .int .i64 0, .int .i64 0]) (t := 46) ?hr ?_; (case hd => rfl); (case hg => rfl); (case hr => first | (go_simp; done) | (go_simp; rfl))
     intro gbB hg w25 hbox hb
     replace HOI := aM (Kd.N_below (Kd.N_elderB (zX HOI.o) gbB (Nat.le_of_eq hg.symm)) hb); replace HOJ := aM (Kd.N_below (Kd.N_elderB (zX HOJ.o) gbB (Nat.le_of_eq hg.symm)) hb); replace HOK := aM (Kd.R_below (Kd.R_elderB (zR HOK.o) gbB (Nat.le_of_eq hg.symm)) hb); have BKB := aM hbox; have GWB := aM ((zg (zL4 HB.o (IsS98.ge HIA.o) GEE.o GEC.o GED.o) hg : w.heap.size ≤ gbB)); have GEB := GWB; replace HB := zLB (zL4 HB.o (IsS98.ge HIA.o) GEE.o GEC.o GED.o) hb; have NBE_B := aM (zN BKE.o hg : gbE ≠ gbB); have NBB_E := aM (zM BKE.o hg : gbB ≠ gbE); replace BKE := zBB BKE hb; have NBC_B := aM (zN BKC.o hg : gbC ≠ gbB); have NBB_C := aM (zM BKC.o hg : gbB ≠ gbC); replace BKC := zBB BKC hb; have NBD_B := aM (zN BKD.o hg : gbD ≠ gbB); have NBB_D := aM (zM BKD.o hg : gbB ≠ gbD); replace BKD := zBB BKD hb; have NBA_B := aM ((zNI (IsS98.lt (zI3 HIA.o NBA_E.o NBA_C.o NBA_D.o : IsS98 w _ gA tM tA1 tA2)) hg : gA ≠ gbB)); have NBB_A := aM ((zMI (IsS98.lt (zI3 HIA.o NBA_E.o NBA_C.o NBA_D.o : IsS98 w _ gA tM tA1 tA2)) hg : gbB ≠ gA)); replace HIA := aM (IsS98.below (zI3 HIA.o NBA_E.o NBA_C.o NBA_D.o) hb)
     clear hb hbox hg
     refine hK.out _ _ (zc4 BKD.o) fun hHeld => ?_; clear hK K
     refine nZ 6 ?_
     exact norm_ (by simp only [putAll, Act.put, List.setIfInBounds_toArray, List.set_cons_zero, List.set_cons_succ]) (hCont (gbB) _ ⟨hHeld, (zXm HOI.o (fun _ hk => ⟨hk.1.1, ⟨hk.1.2.1, ⟨hk.1.2.2.1, ⟨hk.1.2.2.2.1, ⟨hk.1.2.2.2.2.1, ⟨hk.1.2.2.2.2.2.1, ⟨hk.1.2.2.2.2.2.2, hk.2⟩⟩⟩⟩⟩⟩⟩)), (zXm HOJ.o (fun _ hk => ⟨hk.1.1, ⟨hk.1.2.1, ⟨hk.1.2.2.1, ⟨hk.1.2.2.2.1, ⟨hk.1.2.2.2.2.1, ⟨hk.1.2.2.2.2.2.1, ⟨hk.1.2.2.2.2.2.2, hk.2⟩⟩⟩⟩⟩⟩⟩)), (zRm HOK.o (fun _ hk => ⟨hk.1.1, ⟨hk.1.2, hk.2⟩⟩)), (zB BKE.o), (zB BKC.o), (zB BKD.o), (zB BKB.o), GWB.o, GEB.o, NBA_B.o, NBB_A.o, NBE_B.o, NBB_E.o, NBC_B.o, NBB_C.o, NBD_B.o, NBB_D.o, (zI4 HIA.o NBA_E.o NBA_C.o NBA_D.o NBA_B.o), (zL5 HB.o (IsS98.ge HIA.o) GEE.o GEC.o GED.o GEB.o)⟩)
    ·skip
     refine box_step ?hg (N := 6) ?hd (cs := #[.int .i64 0, .int .i64 0, .int .i64 0]) (t := 46) ?hr ?_; (case hd => rfl); (case hg => rfl); (case hr => first | (go_simp; done) | (go_simp; rfl))
     intro gbB hg w24 hbox hb
     replace HOI := aM (Kd.N_below (Kd.N_elderB (zX HOI.o) gbB (Nat.le_of_eq hg.symm)) hb); replace HOJ := aM (Kd.N_below (Kd.N_elderB (zX HOJ.o) gbB (Nat.le_of_eq hg.symm)) hb); replace HOK := aM (Kd.R_below (Kd.R_elderB (zR HOK.o) gbB (Nat.le_of_eq hg.symm)) hb); have BKB := aM hbox; have GWB := aM ((zg (zL4 HB.o (IsS98.ge HIA.o) GEE.o GEC.o GED.o) hg : w.heap.size ≤ gbB)); have GEB := GWB; replace HB := zLB (zL4 HB.o (IsS98.ge HIA.o) GEE.o GEC.o GED.o) hb; have NBE_B := aM (zN BKE.o hg : gbE ≠ gbB); have NBB_E := aM (zM BKE.o hg : gbB ≠ gbE); replace BKE := zBB BKE hb; have NBC_B := aM (zN BKC.o hg : gbC ≠ gbB); have NBB_C := aM (zM BKC.o hg : gbB ≠ gbC); replace BKC := zBB BKC hb; have NBD_B := aM (zN BKD.o hg : gbD ≠ gbB); have NBB_D := aM (zM BKD.o hg : gbB ≠ gbD); replace BKD := zBB BKD hb; have NBA_B := aM ((zNI (IsS98.lt (zI3 HIA.o NBA_E.o NBA_C.o NBA_D.o : IsS98 w _ gA tM tZ tA0)) hg : gA ≠ gbB)); have NBB_A := aM ((zMI (IsS98.lt (zI3 HIA.o NBA_E.o NBA_C.o NBA_D.o : IsS98 w _ gA tM tZ tA0)) hg : gbB ≠ gA)); replace HIA := aM (IsS98.below (zI3 HIA.o NBA_E.o NBA_C.o NBA_D.o) hb)
     clear hb hbox hg
     refine hK.out _ _ (zc4 BKD.o) fun hHeld => ?_; clear hK K
     refine nZ 6 ?_
     refine oN 6 17 (fB 9 255) HT_.o fun K hK => ?_
     refine gS Try.func82 #[.pointer (some ⟨gA, 0, none⟩), .int .i64 tL, .int .i64 (wrap64 (1 + tV))] ?_
     with_reducible refine (spec_l8Timer.calls gA tM tZ tA0 tL (wrap64 (1 + tV)) tQ tT tU tA1 tA2 w _ ?side1 ?side2 A5.o).mono ?_
     (case side1 => exact zI4 HIA.o NBA_E.o NBA_C.o NBA_D.o NBA_B.o)
     (case side2 => exact zL5 HB.o (IsS98.ge HIA.o) GEE.o GEC.o GED.o GEB.o)
     rintro e w25 ⟨rfl, hi, hb, hk⟩
     refine ⟨_, rfl, ?_⟩
     replace BKE := zBK hk BKE NBE_A; replace BKC := zBK hk BKC NBC_A; replace HOI := aM (Kd.N_mono (Kd.N_keep (Kd.N_mono (ok := fun k_ => ((((w.heap.size ≤ k_)) ∧ (some k_ ≠ (.slice Ao19 tH.length co19 : Value).ownBlock ∧ (some k_ ≠ (.slice Ao20 tF.length co20 : Value).ownBlock ∧ (k_ ≠ gbE ∧ (k_ ≠ gbC ∧ (k_ ≠ gA ∧ k_ ≠ gbD)))))) ∧ k_ ≠ gbB)) (zX HOI.o) (fun k_ hk_ => (⟨hk_, hk_.1.2.2.2.2.2.1⟩ : _ ∧ k_ ≠ gA))) hk (fun _ h => h.2)) (fun _ h => h.1)); replace HOJ := aM (Kd.N_mono (Kd.N_keep (Kd.N_mono (ok := fun k_ => ((((w.heap.size ≤ k_)) ∧ (some k_ ≠ (.slice Ao18 tG.length co18 : Value).ownBlock ∧ (some k_ ≠ (.slice Ao20 tF.length co20 : Value).ownBlock ∧ (k_ ≠ gbE ∧ (k_ ≠ gbC ∧ (k_ ≠ gA ∧ k_ ≠ gbD)))))) ∧ k_ ≠ gbB)) (zX HOJ.o) (fun k_ hk_ => (⟨hk_, hk_.1.2.2.2.2.2.1⟩ : _ ∧ k_ ≠ gA))) hk (fun _ h => h.2)) (fun _ h => h.1)); replace HOK := aM (Kd.R_mono (Kd.R_keep (IsS98.apart (show IsS98 w _ gA tM tZ tA0 from zI4 HIA.o NBA_E.o NBA_C.o NBA_D.o NBA_B.o) (zR HOK.o) (by decide)) hk (fun _ h => h.2)) (fun _ h => h.1)); replace BKD := zBK hk BKD NBD_A; replace BKB := zBK hk BKB NBB_A; replace HB := aM hb; replace HIA := aM hi
     clear hi hb hk
     refine hK.out _ _ (zc4 BKD.o) fun hHeld => ?_; clear hK K
     refine nZ 17 ?_
     exact norm_ (by simp only [putAll, Act.put, List.setIfInBounds_toArray, List.set_cons_zero, List.set_cons_succ]) (hCont (gbB) _ ⟨hHeld, (zXm HOI.o (fun _ hk => ⟨hk.1.1, ⟨hk.1.2.1, ⟨hk.1.2.2.1, ⟨hk.1.2.2.2.1, ⟨hk.1.2.2.2.2.1, ⟨hk.1.2.2.2.2.2.1, ⟨hk.1.2.2.2.2.2.2, hk.2⟩⟩⟩⟩⟩⟩⟩)), (zXm HOJ.o (fun _ hk => ⟨hk.1.1, ⟨hk.1.2.1, ⟨hk.1.2.2.1, ⟨hk.1.2.2.2.1, ⟨hk.1.2.2.2.2.1, ⟨hk.1.2.2.2.2.2.1, ⟨hk.1.2.2.2.2.2.2, hk.2⟩⟩⟩⟩⟩⟩⟩)), (zRm HOK.o (fun _ hk => ⟨hk.1.1, ⟨hk.1.2, hk.2⟩⟩)), (zB BKE.o), (zB BKC.o), (zB BKD.o), (zB BKB.o), GWB.o, GEB.o, NBA_B.o, NBB_A.o, NBE_B.o, NBB_E.o, NBC_B.o, NBB_C.o, NBD_B.o, NBB_D.o, (zI4 HIA.o NBA_E.o NBA_C.o NBA_D.o NBA_B.o), (zL5 HB.o (IsS98.ge HIA.o) GEE.o GEC.o GED.o GEB.o)⟩)
   ·skip
    refine box_step ?hg (N := 6) ?hd (cs := #[.int .i64 0, .int .i64 0, .int .i64 0]) (t := 46) ?hr ?_; (case hd => rfl); (case hg => rfl); (case hr => first | (go_simp; done) | (go_simp; rfl))
    intro gbB hg w23 hbox hb
    replace HOI := aM (Kd.N_below (Kd.N_elderB (zX HOI.o) gbB (Nat.le_of_eq hg.symm)) hb); replace HOJ := aM (Kd.N_below (Kd.N_elderB (zX HOJ.o) gbB (Nat.le_of_eq hg.symm)) hb); replace HOK := aM (Kd.R_below (Kd.R_elderB (zR HOK.o) gbB (Nat.le_of_eq hg.symm)) hb); have BKB := aM hbox; have GWB := aM ((zg (zL4 HB.o (IsS98.ge HIA.o) GEE.o GEC.o GED.o) hg : w.heap.size ≤ gbB)); have GEB := GWB; replace HB := zLB (zL4 HB.o (IsS98.ge HIA.o) GEE.o GEC.o GED.o) hb; have NBE_B := aM (zN BKE.o hg : gbE ≠ gbB); have NBB_E := aM (zM BKE.o hg : gbB ≠ gbE); replace BKE := zBB BKE hb; have NBC_B := aM (zN BKC.o hg : gbC ≠ gbB); have NBB_C := aM (zM BKC.o hg : gbB ≠ gbC); replace BKC := zBB BKC hb; have NBD_B := aM (zN BKD.o hg : gbD ≠ gbB); have NBB_D := aM (zM BKD.o hg : gbB ≠ gbD); replace BKD := zBB BKD hb; have NBA_B := aM ((zNI (IsS98.lt (zI3 HIA.o NBA_E.o NBA_C.o NBA_D.o : IsS98 w _ gA tM tW tX)) hg : gA ≠ gbB)); have NBB_A := aM ((zMI (IsS98.lt (zI3 HIA.o NBA_E.o NBA_C.o NBA_D.o : IsS98 w _ gA tM tW tX)) hg : gbB ≠ gA)); replace HIA := aM (IsS98.below (zI3 HIA.o NBA_E.o NBA_C.o NBA_D.o) hb)
    clear hb hbox hg
    refine hK.out _ _ (zc4 BKD.o) fun hHeld => ?_; clear hK K
    refine nZ 6 ?_
    refine oN 4 15 (fB 9 159) HT_.o fun K hK => ?_
    refine gS Try.func83 #[.pointer (some ⟨gA, 0, none⟩), .int .i64 9] ?_
    with_reducible refine (spec_l1Below.calls gA tM tW tX 9 tV tZ tA0 w _ ?side1 ?side2 A4.o).mono ?_
    (case side1 => exact zI4 HIA.o NBA_E.o NBA_C.o NBA_D.o NBA_B.o)
    (case side2 => exact zL5 HB.o (IsS98.ge HIA.o) GEE.o GEC.o GED.o GEB.o)
    rintro e w24 ⟨rfl, hi, hb, hk⟩
    refine ⟨_, rfl, ?_⟩
    replace BKE := zBK hk BKE NBE_A; replace BKC := zBK hk BKC NBC_A; replace HOI := aM (Kd.N_mono (Kd.N_keep (Kd.N_mono (ok := fun k_ => ((((w.heap.size ≤ k_)) ∧ (some k_ ≠ (.slice Ao19 tH.length co19 : Value).ownBlock ∧ (some k_ ≠ (.slice Ao20 tF.length co20 : Value).ownBlock ∧ (k_ ≠ gbE ∧ (k_ ≠ gbC ∧ (k_ ≠ gA ∧ k_ ≠ gbD)))))) ∧ k_ ≠ gbB)) (zX HOI.o) (fun k_ hk_ => (⟨hk_, hk_.1.2.2.2.2.2.1⟩ : _ ∧ k_ ≠ gA))) hk (fun _ h => h.2)) (fun _ h => h.1)); replace HOJ := aM (Kd.N_mono (Kd.N_keep (Kd.N_mono (ok := fun k_ => ((((w.heap.size ≤ k_)) ∧ (some k_ ≠ (.slice Ao18 tG.length co18 : Value).ownBlock ∧ (some k_ ≠ (.slice Ao20 tF.length co20 : Value).ownBlock ∧ (k_ ≠ gbE ∧ (k_ ≠ gbC ∧ (k_ ≠ gA ∧ k_ ≠ gbD)))))) ∧ k_ ≠ gbB)) (zX HOJ.o) (fun k_ hk_ => (⟨hk_, hk_.1.2.2.2.2.2.1⟩ : _ ∧ k_ ≠ gA))) hk (fun _ h => h.2)) (fun _ h => h.1)); replace HOK := aM (Kd.R_mono (Kd.R_keep (IsS98.apart (show IsS98 w _ gA tM tW tX from zI4 HIA.o NBA_E.o NBA_C.o NBA_D.o NBA_B.o) (zR HOK.o) (by decide)) hk (fun _ h => h.2)) (fun _ h => h.1)); replace BKD := zBK hk BKD NBD_A; replace BKB := zBK hk BKB NBB_A; replace HB := aM hb; replace HIA := aM hi
    clear hi hb hk
    refine hK.out _ _ (zc4 BKD.o) fun hHeld => ?_; clear hK K
    refine nZ 15 ?_
    refine pY 5 16 (fB 9 191) HT_.o ?_
    refine oN 6 17 (fB 9 255) HT_.o fun K hK => ?_
    refine gS Try.func82 #[.pointer (some ⟨gA, 0, none⟩), .int .i64 tL, .int .i64 (wrap64 (1 + tV))] ?_
    with_reducible refine (spec_l8Timer.calls gA tM tZ tA0 tL (wrap64 (1 + tV)) tQ tT tU tA1 tA2 w _ ?side1 ?side2 A5.o).mono ?_
    (case side1 => exact zI4 HIA.o NBA_E.o NBA_C.o NBA_D.o NBA_B.o)
    (case side2 => exact zL5 HB.o (IsS98.ge HIA.o) GEE.o GEC.o GED.o GEB.o)
    rintro e w25 ⟨rfl, hi, hb, hk⟩
    refine ⟨_, rfl, ?_⟩
    replace BKE := zBK hk BKE NBE_A; replace BKC := zBK hk BKC NBC_A; replace HOI := aM (Kd.N_mono (Kd.N_keep (Kd.N_mono (ok := fun k_ => ((((w.heap.size ≤ k_)) ∧ (some k_ ≠ (.slice Ao19 tH.length co19 : Value).ownBlock ∧ (some k_ ≠ (.slice Ao20 tF.length co20 : Value).ownBlock ∧ (k_ ≠ gbE ∧ (k_ ≠ gbC ∧ (k_ ≠ gA ∧ k_ ≠ gbD)))))) ∧ k_ ≠ gbB)) (zX HOI.o) (fun k_ hk_ => (⟨hk_, hk_.1.2.2.2.2.2.1⟩ : _ ∧ k_ ≠ gA))) hk (fun _ h => h.2)) (fun _ h => h.1)); replace HOJ := aM (Kd.N_mono (Kd.N_keep (Kd.N_mono (ok := fun k_ => ((((w.heap.size ≤ k_)) ∧ (some k_ ≠ (.slice Ao18 tG.length co18 : Value).ownBlock ∧ (some k_ ≠ (.slice Ao20 tF.length co20 : Value).ownBlock ∧ (k_ ≠ gbE ∧ (k_ ≠ gbC ∧ (k_ ≠ gA ∧ k_ ≠ gbD)))))) ∧ k_ ≠ gbB)) (zX HOJ.o) (fun k_ hk_ => (⟨hk_, hk_.1.2.2.2.2.2.1⟩ : _ ∧ k_ ≠ gA))) hk (fun _ h => h.2)) (fun _ h => h.1)); replace HOK := aM (Kd.R_mono (Kd.R_keep (IsS98.apart (show IsS98 w _ gA tM tZ tA0 from zI4 HIA.o NBA_E.o NBA_C.o NBA_D.o NBA_B.o) (zR HOK.o) (by decide)) hk (fun _ h => h.2)) (fun _ h => h.1)); replace BKD := zBK hk BKD NBD_A; replace BKB := zBK hk BKB NBB_A; replace HB := aM hb; replace HIA := aM hi
    clear hi hb hk
    refine hK.out _ _ (zc4 BKD.o) fun hHeld => ?_; clear hK K
    refine nZ 17 ?_
    exact norm_ (by simp only [putAll, Act.put, List.setIfInBounds_toArray, List.set_cons_zero, List.set_cons_succ]) (hCont (gbB) _ ⟨hHeld, (zXm HOI.o (fun _ hk => ⟨hk.1.1, ⟨hk.1.2.1, ⟨hk.1.2.2.1, ⟨hk.1.2.2.2.1, ⟨hk.1.2.2.2.2.1, ⟨hk.1.2.2.2.2.2.1, ⟨hk.1.2.2.2.2.2.2, hk.2⟩⟩⟩⟩⟩⟩⟩)), (zXm HOJ.o (fun _ hk => ⟨hk.1.1, ⟨hk.1.2.1, ⟨hk.1.2.2.1, ⟨hk.1.2.2.2.1, ⟨hk.1.2.2.2.2.1, ⟨hk.1.2.2.2.2.2.1, ⟨hk.1.2.2.2.2.2.2, hk.2⟩⟩⟩⟩⟩⟩⟩)), (zRm HOK.o (fun _ hk => ⟨hk.1.1, ⟨hk.1.2, hk.2⟩⟩)), (zB BKE.o), (zB BKC.o), (zB BKD.o), (zB BKB.o), GWB.o, GEB.o, NBA_B.o, NBB_A.o, NBE_B.o, NBB_E.o, NBC_B.o, NBB_C.o, NBD_B.o, NBB_D.o, (zI4 HIA.o NBA_E.o NBA_C.o NBA_D.o NBA_B.o), (zL5 HB.o (IsS98.ge HIA.o) GEE.o GEC.o GED.o GEB.o)⟩)
  rintro gbB w26 ⟨hS_, h0_, h1_, h2_, h3_, h4_, h5_, h6_, h7_, h8_, h9_, h10_, h11_, h12_, h13_, h14_, h15_, h16_, h17_, h18_⟩
  have n0_ : Aside0 (Kd.N (Kd.slice 46 k46) 23 w26 w.heap.size (fun k_ => (w.heap.size ≤ k_) ∧ some k_ ≠ (.slice Ao19 tH.length co19 : Value).ownBlock ∧ some k_ ≠ (.slice Ao20 tF.length co20 : Value).ownBlock ∧ k_ ≠ gbE ∧ k_ ≠ gbC ∧ k_ ≠ gA ∧ k_ ≠ gbD ∧ k_ ≠ gbB) (.slice Ao18 tG.length co18) tG) := ⟨h0_⟩
  have n1_ : Aside0 (Kd.N (Kd.slice 46 k46) 23 w26 w.heap.size (fun k_ => (w.heap.size ≤ k_) ∧ some k_ ≠ (.slice Ao18 tG.length co18 : Value).ownBlock ∧ some k_ ≠ (.slice Ao20 tF.length co20 : Value).ownBlock ∧ k_ ≠ gbE ∧ k_ ≠ gbC ∧ k_ ≠ gA ∧ k_ ≠ gbD ∧ k_ ≠ gbB) (.slice Ao19 tH.length co19) tH) := ⟨h1_⟩
  have n2_ : Aside0 (Kd.R k46 46 w26 w.heap.size (fun k_ => (w.heap.size ≤ k_) ∧ k_ ≠ gbC ∧ k_ ≠ gbB) (.slice Ao20 tF.length co20) tF) := ⟨h2_⟩
  have n3_ : Aside0 (w26.heap[gbE]? = some (.cells #[.int .i64 0, .slice none 0 0, .slice none 0 0, .slice none 0 0] 25 (0, 0))) := ⟨h3_⟩
  have n4_ : Aside0 (w26.heap[gbC]? = some (.cells #[.int .i64 0, .int .i64 0, .int .i64 0] 46 (0, 0))) := ⟨h4_⟩
  have n5_ : Aside0 (w26.heap[gbD]? = some (.cells #[.int .i64 tL, .slice Ao18 tG.length co18, .slice Ao19 tH.length co19, .slice Ao20 tF.length co20] 25 (0, 0))) := ⟨h5_⟩
  have n6_ : Aside0 (w26.heap[gbB]? = some (.cells #[.int .i64 0, .int .i64 0, .int .i64 0] 46 (0, 0))) := ⟨h6_⟩
  have n7_ : Aside0 (w.heap.size ≤ gbB) := ⟨h7_⟩
  have n8_ : Aside0 (w.heap.size ≤ gbB) := ⟨h8_⟩
  have n9_ : Aside0 (gA ≠ gbB) := ⟨h9_⟩
  have n10_ : Aside0 (gbB ≠ gA) := ⟨h10_⟩
  have n11_ : Aside0 (gbE ≠ gbB) := ⟨h11_⟩
  have n12_ : Aside0 (gbB ≠ gbE) := ⟨h12_⟩
  have n13_ : Aside0 (gbC ≠ gbB) := ⟨h13_⟩
  have n14_ : Aside0 (gbB ≠ gbC) := ⟨h14_⟩
  have n15_ : Aside0 (gbD ≠ gbB) := ⟨h15_⟩
  have n16_ : Aside0 (gbB ≠ gbD) := ⟨h16_⟩
  have n17_ : Aside0 (IsS98 w w26 gA tM tA1 tA2) := ⟨h17_⟩
  have n18_ : Aside0 (Below w.heap.size w w26) := ⟨h18_⟩
  clear HOI
  clear HOJ
  clear HOK
  clear BKE BKC BKD
  clear HIA
  clear HB
  clear h0_ h1_ h2_ h3_ h4_ h5_ h6_ h7_ h8_ h9_ h10_ h11_ h12_ h13_ h14_ h15_ h16_ h17_ h18_
  have HOI := n0_
  have HOJ := n1_
  have HOK := n2_
  have BKE := n3_
  have BKC := n4_
  have BKD := n5_
  have BKB := n6_
  have GWB := n7_
  have GEB := n8_
  have NBA_B := n9_
  have NBB_A := n10_
  have NBE_B := n11_
  have NBB_E := n12_
  have NBC_B := n13_
  have NBB_C := n14_
  have NBD_B := n15_
  have NBB_D := n16_
  have HIA := n17_
  have HB := n18_
  clear n0_ n1_ n2_ n3_ n4_ n5_ n6_ n7_ n8_ n9_ n10_ n11_ n12_ n13_ n14_ n15_ n16_ n17_ n18_
  have hHeld : w26.cell? ⟨gbD, 0, none⟩ = some (.int .i64 tL) ∧ w26.cell? ⟨gbD, 1, none⟩ = some (.slice Ao18 tG.length co18) ∧ w26.cell? ⟨gbD, 2, none⟩ = some (.slice Ao19 tH.length co19) ∧ w26.cell? ⟨gbD, 3, none⟩ = some (.slice Ao20 tF.length co20) := hS_
  refine norm_ (a' := ?_) ?_ ?_
  rotate_left
  ·simp only [putAll, Act.put, List.setIfInBounds_toArray, List.set_cons_zero, List.set_cons_succ]
   rfl
  refine one_ (i := 8) (N := none) (fB 9 511) rfl rfl (one_of HT_.o (by kernel_rfl)) (by decide) (fun K hK => ?_)
  have hs27 : w26.cell? ⟨gbB, 0, none⟩ = some (.int .i64 0) := (bC BKB.o 0).trans rfl
  have hfs27 := blk_frozen BKB.o 0
  have hns27_0 := NBE_B.o
  have hns27_1 := NBC_B.o
  have hns27_2 := NBD_B.o
  have hms27_0 := NBB_E.o
  have hms27_1 := NBB_C.o
  have hms27_2 := NBB_D.o
  have hs28 : w26.cell? ⟨gbB, 1, none⟩ = some (.int .i64 0) := (bC BKB.o 1).trans rfl
  have hfs28 := blk_frozen BKB.o 1
  have hns28_0 := NBE_B.o
  have hns28_1 := NBC_B.o
  have hns28_2 := NBD_B.o
  have hms28_0 := NBB_E.o
  have hms28_1 := NBB_C.o
  have hms28_2 := NBB_D.o
  have hs29 : w26.cell? ⟨gbB, 2, none⟩ = some (.int .i64 0) := (bC BKB.o 2).trans rfl
  have hfs29 := blk_frozen BKB.o 2
  have hns29_0 := NBE_B.o
  have hns29_1 := NBC_B.o
  have hns29_2 := NBD_B.o
  have hms29_0 := NBB_E.o
  have hms29_1 := NBB_C.o
  have hms29_2 := NBB_D.o
  refine skip_ (w1 := ?_) (by rfl) rfl ?_ ?_
  rotate_left
  ·go_simp
   rfl
  refine hK.out _ _ ⟨((cell_far (p := ⟨gbB, _, none⟩) NBD_B.o _).trans (((cell_far (p := ⟨gbB, _, none⟩) NBD_B.o _).trans (((cell_far (p := ⟨gbB, _, none⟩) NBD_B.o _).trans (hHeld.1)))))), ((cell_far (p := ⟨gbB, _, none⟩) NBD_B.o _).trans (((cell_far (p := ⟨gbB, _, none⟩) NBD_B.o _).trans (((cell_far (p := ⟨gbB, _, none⟩) NBD_B.o _).trans (hHeld.2.1)))))), ((cell_far (p := ⟨gbB, _, none⟩) NBD_B.o _).trans (((cell_far (p := ⟨gbB, _, none⟩) NBD_B.o _).trans (((cell_far (p := ⟨gbB, _, none⟩) NBD_B.o _).trans (hHeld.2.2.1)))))), ((cell_far (p := ⟨gbB, _, none⟩) NBD_B.o _).trans (((cell_far (p := ⟨gbB, _, none⟩) NBD_B.o _).trans (((cell_far (p := ⟨gbB, _, none⟩) NBD_B.o _).trans (hHeld.2.2.2))))))⟩ fun hHeld => ?_; clear hK K
  refine done_ (done_of HT_.o (by kernel_rfl)) ?_
  try go_wp2_with (first | ((with_reducible refine gC 83 rfl ?_); refine gL 19 Try.func83 #[.pointer (some ⟨gA, 0, none⟩), .int .i64 8] ?_; (with_reducible refine (spec_l1Below.calls gA tM tA1 tA2 8 tA6 tB2 tB3 w _ ?side1 ?side2 A6.o).mono ?_); (case side1 => exact zI4 HIA.o NBA_E.o NBA_C.o NBA_D.o NBA_B.o); (case side2 => exact zL5 HB.o (IsS98.ge HIA.o) GEE.o GEC.o GED.o GEB.o); rintro e w30 ⟨rfl, hi, hb, hk⟩; refine ⟨_, rfl, ?_⟩; replace BKE := aM (zQ2 (.cells #[.int .i64 0, .slice none 0 0, .slice none 0 0, .slice none 0 0] 25 (0, 0)) hk (by refine zB ?_; refine blk_far ?_ NBE_B.o _; refine zB ?_; refine blk_far ?_ NBE_B.o _; refine zB ?_; refine blk_far ?_ NBE_B.o _; exact zB BKE.o) NBE_A.o (by simp)); replace BKC := aM (zQ2 (.cells #[.int .i64 0, .int .i64 0, .int .i64 0] 46 (0, 0)) hk (by refine zB ?_; refine blk_far ?_ NBC_B.o _; refine zB ?_; refine blk_far ?_ NBC_B.o _; refine zB ?_; refine blk_far ?_ NBC_B.o _; exact zB BKC.o) NBC_A.o (by simp)); replace HOI := aM (Kd.N_mono (Kd.N_keep (Kd.N_mono (ok := fun k_ => (((w.heap.size ≤ k_)) ∧ (some k_ ≠ (.slice Ao19 tH.length co19 : Value).ownBlock ∧ (some k_ ≠ (.slice Ao20 tF.length co20 : Value).ownBlock ∧ (k_ ≠ gbE ∧ (k_ ≠ gbC ∧ (k_ ≠ gA ∧ (k_ ≠ gbD ∧ k_ ≠ gbB)))))))) (by refine zX ?_; exact (Kd.N_mono (Kd.N_far (p := ⟨gbB, 2, none⟩) (Kd.N_far (p := ⟨gbB, 1, none⟩) (Kd.N_far (p := ⟨gbB, 0, none⟩) (Kd.N_mono HOI.o (fun k_ hk => (⟨hk, hk.2.2.2.2.2.2.2⟩ : _ ∧ k_ ≠ gbB))) (fun _ hk => hk.2) (.int .i64 tQ)) (fun _ hk => hk.2) (.int .i64 tT)) (fun _ hk => hk.2) (.int .i64 tU)) (fun _ h_ => h_.1))) (fun k_ hk_ => (⟨hk_, hk_.2.2.2.2.2.1⟩ : _ ∧ k_ ≠ gA))) hk (fun _ h => h.2)) (fun _ h => h.1)); replace HOJ := aM (Kd.N_mono (Kd.N_keep (Kd.N_mono (ok := fun k_ => (((w.heap.size ≤ k_)) ∧ (some k_ ≠ (.slice Ao18 tG.length co18 : Value).ownBlock ∧ (some k_ ≠ (.slice Ao20 tF.length co20 : Value).ownBlock ∧ (k_ ≠ gbE ∧ (k_ ≠ gbC ∧ (k_ ≠ gA ∧ (k_ ≠ gbD ∧ k_ ≠ gbB)))))))) (by refine zX ?_; exact (Kd.N_mono (Kd.N_far (p := ⟨gbB, 2, none⟩) (Kd.N_far (p := ⟨gbB, 1, none⟩) (Kd.N_far (p := ⟨gbB, 0, none⟩) (Kd.N_mono HOJ.o (fun k_ hk => (⟨hk, hk.2.2.2.2.2.2.2⟩ : _ ∧ k_ ≠ gbB))) (fun _ hk => hk.2) (.int .i64 tQ)) (fun _ hk => hk.2) (.int .i64 tT)) (fun _ hk => hk.2) (.int .i64 tU)) (fun _ h_ => h_.1))) (fun k_ hk_ => (⟨hk_, hk_.2.2.2.2.2.1⟩ : _ ∧ k_ ≠ gA))) hk (fun _ h => h.2)) (fun _ h => h.1)); replace HOK := aM (Kd.R_mono (Kd.R_keep (IsS98.apart (show IsS98 w _ gA tM tA1 tA2 from zI4 HIA.o NBA_E.o NBA_C.o NBA_D.o NBA_B.o) (by refine zR ?_; exact (Kd.R_mono (Kd.R_far (p := ⟨gbB, 2, none⟩) (Kd.R_far (p := ⟨gbB, 1, none⟩) (Kd.R_far (p := ⟨gbB, 0, none⟩) (Kd.R_mono HOK.o (fun k_ hk => (⟨hk, hk.2.2⟩ : _ ∧ k_ ≠ gbB))) (fun _ hk => hk.2) (.int .i64 tQ)) (fun _ hk => hk.2) (.int .i64 tT)) (fun _ hk => hk.2) (.int .i64 tU)) (fun _ h_ => h_.1))) (by decide)) hk (fun _ h => h.2)) (fun _ h => h.1)); replace BKD := aM (zQ2 (.cells #[.int .i64 tL, .slice Ao18 tG.length co18, .slice Ao19 tH.length co19, .slice Ao20 tF.length co20] 25 (0, 0)) hk (by refine zB ?_; refine blk_far ?_ NBD_B.o _; refine zB ?_; refine blk_far ?_ NBD_B.o _; refine zB ?_; refine blk_far ?_ NBD_B.o _; exact zB BKD.o) NBD_A.o (by simp)); replace BKB := aM (zQ2 (.cells #[.int .i64 tQ, .int .i64 tT, .int .i64 tU] 46 (0, 0)) hk (by refine zB ?_; refine blk_put (cs := #[.int .i64 tQ, .int .i64 tT, .int .i64 0]) ?_ 2 _ rfl; refine zB ?_; refine blk_put (cs := #[.int .i64 tQ, .int .i64 0, .int .i64 0]) ?_ 1 _ rfl; refine zB ?_; refine blk_put (cs := #[.int .i64 0, .int .i64 0, .int .i64 0]) ?_ 0 _ rfl; exact zB BKB.o) NBB_A.o (by simp)); replace HB := aM hb; replace HIA := aM hi; clear hi hb hk) | ((with_reducible refine gC 84 rfl ?_); refine gL 23 Try.func84 #[.pointer (some ⟨gA, 0, none⟩)] ?_; (with_reducible refine (spec_l1Raw.calls gA tM tB2 tB3 tA5 tE6 tE7 w _ ?side1 ?side2 A8.o).mono ?_); (case side1 => exact zI4 HIA.o NBA_E.o NBA_C.o NBA_D.o NBA_B.o); (case side2 => exact zL5 HB.o (IsS98.ge HIA.o) GEE.o GEC.o GED.o GEB.o); rintro e w31 ⟨rfl, hi, hb, hk⟩; refine ⟨_, rfl, ?_⟩; replace BKE := zBK hk BKE NBE_A; replace BKC := zBK hk BKC NBC_A; replace HOI := aM (Kd.N_mono (Kd.N_keep (Kd.N_mono (ok := fun k_ => (((w.heap.size ≤ k_)) ∧ (some k_ ≠ (.slice Ao19 tH.length co19 : Value).ownBlock ∧ (some k_ ≠ (.slice Ao20 tF.length co20 : Value).ownBlock ∧ (k_ ≠ gbE ∧ (k_ ≠ gbC ∧ (k_ ≠ gA ∧ (k_ ≠ gbD ∧ k_ ≠ gbB)))))))) (zX HOI.o) (fun k_ hk_ => (⟨hk_, hk_.2.2.2.2.2.1⟩ : _ ∧ k_ ≠ gA))) hk (fun _ h => h.2)) (fun _ h => h.1)); replace HOJ := aM (Kd.N_mono (Kd.N_keep (Kd.N_mono (ok := fun k_ => (((w.heap.size ≤ k_)) ∧ (some k_ ≠ (.slice Ao18 tG.length co18 : Value).ownBlock ∧ (some k_ ≠ (.slice Ao20 tF.length co20 : Value).ownBlock ∧ (k_ ≠ gbE ∧ (k_ ≠ gbC ∧ (k_ ≠ gA ∧ (k_ ≠ gbD ∧ k_ ≠ gbB)))))))) (zX HOJ.o) (fun k_ hk_ => (⟨hk_, hk_.2.2.2.2.2.1⟩ : _ ∧ k_ ≠ gA))) hk (fun _ h => h.2)) (fun _ h => h.1)); replace HOK := aM (Kd.R_mono (Kd.R_keep (IsS98.apart (show IsS98 w _ gA tM tB2 tB3 from zI4 HIA.o NBA_E.o NBA_C.o NBA_D.o NBA_B.o) (zR HOK.o) (by decide)) hk (fun _ h => h.2)) (fun _ h => h.1)); replace BKD := zBK hk BKD NBD_A; replace BKB := zBK hk BKB NBB_A; replace HB := aM hb; replace HIA := aM hi; clear hi hb hk; have hnb32 := NBB_E.o; have hnc32 := NBE_B.o; have hnb33 := NBB_C.o; have hnc33 := NBC_B.o; have hnb34 := NBB_D.o; have hnc34 := NBD_B.o; have hnb35 := NBB_A.o; have hnc35 := NBA_B.o; have hcz36_0 : w31.cell? ⟨gbB, 0, none⟩ = some (.int .i64 tQ) := (bC BKB.o 0).trans rfl; have hcz36_1 : w31.cell? ⟨gbB, 1, none⟩ = some (.int .i64 tT) := (bC BKB.o 1).trans rfl; have hcz36_2 : w31.cell? ⟨gbB, 2, none⟩ = some (.int .i64 tU) := (bC BKB.o 2).trans rfl; have hfz36_0 := blk_frozen BKB.o 0; have hfz36_1 := blk_frozen BKB.o 1; have hfz36_2 := blk_frozen BKB.o 2))
  have n0_ : Aside0 (Kd.N (Kd.slice 46 k46) 23 (w31.setCell ⟨gbB, 2, none⟩ (.int .i64 tA5)) w.heap.size (fun k_ => (w.heap.size ≤ k_) ∧ some k_ ≠ (.slice Ao19 tH.length co19 : Value).ownBlock ∧ some k_ ≠ (.slice Ao20 tF.length co20 : Value).ownBlock ∧ k_ ≠ gbE ∧ k_ ≠ gbC ∧ k_ ≠ gA ∧ k_ ≠ gbD ∧ k_ ≠ gbB) (.slice Ao18 tG.length co18) tG) := ⟨by refine zX ?_; exact Kd.N_mono (Kd.N_far (p := ⟨gbB, 2, none⟩) (Kd.N_mono HOI.o (fun k_ hk => (⟨hk, hk.2.2.2.2.2.2.2⟩ : _ ∧ k_ ≠ gbB))) (fun _ hk => hk.2) (.int .i64 tA5)) (fun _ hk => ⟨hk.1.1, ⟨hk.1.2.1, ⟨hk.1.2.2.1, ⟨hk.1.2.2.2.1, ⟨hk.1.2.2.2.2.1, ⟨hk.1.2.2.2.2.2.1, ⟨hk.1.2.2.2.2.2.2.1, hk.1.2.2.2.2.2.2.2⟩⟩⟩⟩⟩⟩⟩)⟩
  have n1_ : Aside0 (Kd.N (Kd.slice 46 k46) 23 (w31.setCell ⟨gbB, 2, none⟩ (.int .i64 tA5)) w.heap.size (fun k_ => (w.heap.size ≤ k_) ∧ some k_ ≠ (.slice Ao18 tG.length co18 : Value).ownBlock ∧ some k_ ≠ (.slice Ao20 tF.length co20 : Value).ownBlock ∧ k_ ≠ gbE ∧ k_ ≠ gbC ∧ k_ ≠ gA ∧ k_ ≠ gbD ∧ k_ ≠ gbB) (.slice Ao19 tH.length co19) tH) := ⟨by refine zX ?_; exact Kd.N_mono (Kd.N_far (p := ⟨gbB, 2, none⟩) (Kd.N_mono HOJ.o (fun k_ hk => (⟨hk, hk.2.2.2.2.2.2.2⟩ : _ ∧ k_ ≠ gbB))) (fun _ hk => hk.2) (.int .i64 tA5)) (fun _ hk => ⟨hk.1.1, ⟨hk.1.2.1, ⟨hk.1.2.2.1, ⟨hk.1.2.2.2.1, ⟨hk.1.2.2.2.2.1, ⟨hk.1.2.2.2.2.2.1, ⟨hk.1.2.2.2.2.2.2.1, hk.1.2.2.2.2.2.2.2⟩⟩⟩⟩⟩⟩⟩)⟩
  have n2_ : Aside0 (Kd.R k46 46 (w31.setCell ⟨gbB, 2, none⟩ (.int .i64 tA5)) w.heap.size (fun k_ => (w.heap.size ≤ k_) ∧ k_ ≠ gbC ∧ k_ ≠ gbB) (.slice Ao20 tF.length co20) tF) := ⟨by refine zR ?_; exact Kd.R_mono (Kd.R_far (p := ⟨gbB, 2, none⟩) (Kd.R_mono HOK.o (fun k_ hk => (⟨hk, hk.2.2⟩ : _ ∧ k_ ≠ gbB))) (fun _ hk => hk.2) (.int .i64 tA5)) (fun _ hk => ⟨hk.1.1, ⟨hk.1.2.1, hk.1.2.2⟩⟩)⟩
  have n3_ : Aside0 ((w31.setCell ⟨gbB, 2, none⟩ (.int .i64 tA5)).heap[gbE]? = some (.cells #[.int .i64 0, .slice none 0 0, .slice none 0 0, .slice none 0 0] 25 (0, 0))) := ⟨by refine zB ?_; refine blk_far ?_ NBE_B.o _; exact zB BKE.o⟩
  have n4_ : Aside0 ((w31.setCell ⟨gbB, 2, none⟩ (.int .i64 tA5)).heap[gbC]? = some (.cells #[.int .i64 0, .int .i64 0, .int .i64 0] 46 (0, 0))) := ⟨by refine zB ?_; refine blk_far ?_ NBC_B.o _; exact zB BKC.o⟩
  have n5_ : Aside0 ((w31.setCell ⟨gbB, 2, none⟩ (.int .i64 tA5)).heap[gbD]? = some (.cells #[.int .i64 tL, .slice Ao18 tG.length co18, .slice Ao19 tH.length co19, .slice Ao20 tF.length co20] 25 (0, 0))) := ⟨by refine zB ?_; refine blk_far ?_ NBD_B.o _; exact zB BKD.o⟩
  have n6_ : Aside0 ((w31.setCell ⟨gbB, 2, none⟩ (.int .i64 tA5)).heap[gbB]? = some (.cells #[.int .i64 tQ, .int .i64 tT, .int .i64 tA5] 46 (0, 0))) := ⟨by refine zB ?_; refine blk_put (cs := #[.int .i64 tQ, .int .i64 tT, .int .i64 tU]) ?_ 2 _ rfl; exact zB BKB.o⟩
  have n7_ : Aside0 (IsS98 w (w31.setCell ⟨gbB, 2, none⟩ (.int .i64 tA5)) gA tM tE6 tE7) := ⟨zI4 HIA.o NBA_E.o NBA_C.o NBA_D.o NBA_B.o⟩
  have n8_ : Aside0 (Below w.heap.size w (w31.setCell ⟨gbB, 2, none⟩ (.int .i64 tA5))) := ⟨zL5 HB.o (IsS98.ge HIA.o) GEE.o GEC.o GED.o GEB.o⟩
  (try clear HOI)
  (try clear HOJ)
  (try clear HOK)
  (try clear BKE)
  (try clear BKC)
  (try clear BKD)
  (try clear BKB)
  (try clear HIA)
  (try clear HB)
  generalize (w31.setCell ⟨gbB, 2, none⟩ (.int .i64 tA5)) = w37 at n0_ n1_ n2_ n3_ n4_ n5_ n6_ n7_ n8_ ⊢
  have HOI := n0_
  have HOJ := n1_
  have HOK := n2_
  have BKE := n3_
  have BKC := n4_
  have BKD := n5_
  have BKB := n6_
  have HIA := n7_
  have HB := n8_
  clear n0_ n1_ n2_ n3_ n4_ n5_ n6_ n7_ n8_
  replace HOI := zXD HOI; replace HOJ := zXD HOJ; replace HOK := zRD HOK; replace BKE := zBD BKE; replace BKC := zBD BKC; replace BKD := zBD BKD; replace BKB := zBD BKB; replace HIA := aM (IsS98.drew HIA.o); replace HB := zLD HB
  refine start_ (n := 4) (S := fun w' => w'.cell? ⟨gbD, 0, none⟩ = some (.int .i64 tL) ∧ w'.cell? ⟨gbD, 1, none⟩ = some (.slice Ao18 tG.length co18) ∧ w'.cell? ⟨gbD, 2, none⟩ = some (.slice Ao19 tH.length co19) ∧ w'.cell? ⟨gbD, 3, none⟩ = some (.slice Ao20 tF.length co20) ∧ w'.cell? ⟨gbB, 0, none⟩ = some (.int .i64 tQ) ∧ w'.cell? ⟨gbB, 1, none⟩ = some (.int .i64 tT) ∧ w'.cell? ⟨gbB, 2, none⟩ = some (.int .i64 tA5)) (ds := []) #[false, false, false, false] (by kernel_rfl) rfl rfl ⟨(bC BKD.o 0).trans rfl, (bC BKD.o 1).trans rfl, (bC BKD.o 2).trans rfl, (bC BKD.o 3).trans rfl, (bC BKB.o 0).trans rfl, (bC BKB.o 1).trans rfl, (bC BKB.o 2).trans rfl⟩ (fun hHeld => ?_)
  generalize w37.drew = w38 at HOI HOJ HOK BKE BKC BKD BKB HIA HB hHeld ⊢
  refine take_ (i := 0) (N := some 37) (v := ?_) (a' := ?_) (fB 4 1) rfl rfl (by kernel_rfl) (fun _ _ _ h => h) (Or.inl ⟨by rfl, ?_⟩) hHeld ?_ ?_
  rotate_left
  ·rintro w' ⟨s0, s1, s2, s3, s4, s5, s6⟩; go_simp; with_reducible rfl
  rotate_left
  ·exact zP
  refine take_ (i := 1) (N := some 38) (v := ?_) (a' := ?_) (fB 4 3) rfl rfl (by kernel_rfl) (fun _ _ _ h => h) (Or.inl ⟨by rfl, ?_⟩) hHeld ?_ ?_
  rotate_left
  ·rintro w' ⟨s0, s1, s2, s3, s4, s5, s6⟩; go_simp; with_reducible rfl
  rotate_left
  ·exact zP
  refine one_ (i := 2) (N := none) (fB 4 7) rfl rfl (by kernel_rfl) (by decide) (fun K hK => ?_)
  have hs39 : w38.cell? ⟨gbE, 0, none⟩ = some (.int .i64 0) := (bC BKE.o 0).trans rfl
  have hfs39 := blk_frozen BKE.o 0
  have hns39_1 := NBC_E.o
  have hns39_2 := NBD_E.o
  have hns39_3 := NBB_E.o
  have hms39_1 := NBE_C.o
  have hms39_2 := NBE_D.o
  have hms39_3 := NBE_B.o
  have hs40 : w38.cell? ⟨gbE, 1, none⟩ = some (.slice none 0 0) := (bC BKE.o 1).trans rfl
  have hfs40 := blk_frozen BKE.o 1
  have hns40_1 := NBC_E.o
  have hns40_2 := NBD_E.o
  have hns40_3 := NBB_E.o
  have hms40_1 := NBE_C.o
  have hms40_2 := NBE_D.o
  have hms40_3 := NBE_B.o
  have hs41 : w38.cell? ⟨gbE, 2, none⟩ = some (.slice none 0 0) := (bC BKE.o 2).trans rfl
  have hfs41 := blk_frozen BKE.o 2
  have hns41_1 := NBC_E.o
  have hns41_2 := NBD_E.o
  have hns41_3 := NBB_E.o
  have hms41_1 := NBE_C.o
  have hms41_2 := NBE_D.o
  have hms41_3 := NBE_B.o
  have hs42 : w38.cell? ⟨gbE, 3, none⟩ = some (.slice none 0 0) := (bC BKE.o 3).trans rfl
  have hfs42 := blk_frozen BKE.o 3
  have hns42_1 := NBC_E.o
  have hns42_2 := NBD_E.o
  have hns42_3 := NBB_E.o
  have hms42_1 := NBE_C.o
  have hms42_2 := NBE_D.o
  have hms42_3 := NBE_B.o
  refine skip_ (w1 := ?_) (by rfl) rfl ?_ ?_
  rotate_left
  ·go_simp
   rfl
  refine hK.out _ _ ⟨zcf4 NBD_E.o hHeld.1, zcf4 NBD_E.o hHeld.2.1, zcf4 NBD_E.o hHeld.2.2.1, zcf4 NBD_E.o hHeld.2.2.2.1, zcf4 NBB_E.o hHeld.2.2.2.2.1, zcf4 NBB_E.o hHeld.2.2.2.2.2.1, zcf4 NBB_E.o hHeld.2.2.2.2.2.2⟩ fun hHeld => ?_; clear hK K
  refine one_ (i := 3) (N := none) (fB 4 15) rfl rfl (by kernel_rfl) (by decide) (fun K hK => ?_)
  have hs43 : w38.cell? ⟨gbC, 0, none⟩ = some (.int .i64 0) := (bC BKC.o 0).trans rfl
  have hfs43 := blk_frozen BKC.o 0
  have hns43_0 := NBE_C.o
  have hns43_2 := NBD_C.o
  have hns43_3 := NBB_C.o
  have hms43_0 := NBC_E.o
  have hms43_2 := NBC_D.o
  have hms43_3 := NBC_B.o
  have hs44 : w38.cell? ⟨gbC, 1, none⟩ = some (.int .i64 0) := (bC BKC.o 1).trans rfl
  have hfs44 := blk_frozen BKC.o 1
  have hns44_0 := NBE_C.o
  have hns44_2 := NBD_C.o
  have hns44_3 := NBB_C.o
  have hms44_0 := NBC_E.o
  have hms44_2 := NBC_D.o
  have hms44_3 := NBC_B.o
  have hs45 : w38.cell? ⟨gbC, 2, none⟩ = some (.int .i64 0) := (bC BKC.o 2).trans rfl
  have hfs45 := blk_frozen BKC.o 2
  have hns45_0 := NBE_C.o
  have hns45_2 := NBD_C.o
  have hns45_3 := NBB_C.o
  have hms45_0 := NBC_E.o
  have hms45_2 := NBC_D.o
  have hms45_3 := NBC_B.o
  refine skip_ (w1 := ?_) (by rfl) rfl ?_ ?_
  rotate_left
  ·go_simp
   rfl
  refine hK.out _ _ ⟨((cell_far (p := ⟨gbC, _, none⟩) NBD_C.o _).trans (((cell_far (p := ⟨gbC, _, none⟩) NBD_C.o _).trans (((cell_far (p := ⟨gbC, _, none⟩) NBD_C.o _).trans (hHeld.1)))))), ((cell_far (p := ⟨gbC, _, none⟩) NBD_C.o _).trans (((cell_far (p := ⟨gbC, _, none⟩) NBD_C.o _).trans (((cell_far (p := ⟨gbC, _, none⟩) NBD_C.o _).trans (hHeld.2.1)))))), ((cell_far (p := ⟨gbC, _, none⟩) NBD_C.o _).trans (((cell_far (p := ⟨gbC, _, none⟩) NBD_C.o _).trans (((cell_far (p := ⟨gbC, _, none⟩) NBD_C.o _).trans (hHeld.2.2.1)))))), ((cell_far (p := ⟨gbC, _, none⟩) NBD_C.o _).trans (((cell_far (p := ⟨gbC, _, none⟩) NBD_C.o _).trans (((cell_far (p := ⟨gbC, _, none⟩) NBD_C.o _).trans (hHeld.2.2.2.1)))))), ((cell_far (p := ⟨gbC, _, none⟩) NBB_C.o _).trans (((cell_far (p := ⟨gbC, _, none⟩) NBB_C.o _).trans (((cell_far (p := ⟨gbC, _, none⟩) NBB_C.o _).trans (hHeld.2.2.2.2.1)))))), ((cell_far (p := ⟨gbC, _, none⟩) NBB_C.o _).trans (((cell_far (p := ⟨gbC, _, none⟩) NBB_C.o _).trans (((cell_far (p := ⟨gbC, _, none⟩) NBB_C.o _).trans (hHeld.2.2.2.2.2.1)))))), ((cell_far (p := ⟨gbC, _, none⟩) NBB_C.o _).trans (((cell_far (p := ⟨gbC, _, none⟩) NBB_C.o _).trans (((cell_far (p := ⟨gbC, _, none⟩) NBB_C.o _).trans (hHeld.2.2.2.2.2.2))))))⟩ fun hHeld => ?_; clear hK K
  refine done_ (by kernel_rfl) ?_
  try go_wp2
  refine bodyPost_ret (results_cc rfl _ _ gbE gbC 25 46 #[.int .i64 tL, .slice Ao18 tG.length co18, .slice Ao19 tH.length co19, .slice Ao20 tF.length co20] #[.int .i64 tQ, .int .i64 tT, .int .i64 tA5] (0, 0) (0, 0) _ _ rfl (by refine zB ?_; refine blk_far ?_ NBE_C.o _; refine zB ?_; refine blk_far ?_ NBE_C.o _; refine zB ?_; refine blk_far ?_ NBE_C.o _; refine zB ?_; refine zp4 (cs := #[.int .i64 0, .slice none 0 0, .slice none 0 0, .slice none 0 0]) ?_; exact zB BKE.o) Try.underlying25 rfl (by kernel_rfl) rfl (by refine zB ?_; refine blk_put (cs := #[.int .i64 tQ, .int .i64 tT, .int .i64 0]) ?_ 2 _ rfl; refine zB ?_; refine blk_put (cs := #[.int .i64 tQ, .int .i64 0, .int .i64 0]) ?_ 1 _ rfl; refine zB ?_; refine blk_put (cs := #[.int .i64 0, .int .i64 0, .int .i64 0]) ?_ 0 _ rfl; refine zB ?_; refine zr4 ?_ NBC_E.o; exact zB BKC.o) Try.underlying46 rfl (by kernel_rfl)) rfl ?_
  exact ⟨_, _, _, zW, by refine zX ?_; exact Kd.N_mono (Kd.N_far (p := ⟨gbC, 2, none⟩) (Kd.N_far (p := ⟨gbC, 1, none⟩) (Kd.N_far (p := ⟨gbC, 0, none⟩) (zNF4 (Kd.N_mono (Kd.N_mono HOI.o (fun k_ hk => (⟨hk, hk.2.2.2.1⟩ : _ ∧ k_ ≠ gbE))) (fun k_ hk => (⟨hk, hk.1.2.2.2.2.1⟩ : _ ∧ k_ ≠ gbC))) gbE (fun _ hk => hk.1.2) (.int .i64 tL) (.slice Ao18 tG.length co18) (.slice Ao19 tH.length co19) (.slice Ao20 tF.length co20)) (fun _ hk => hk.2) (.int .i64 tQ)) (fun _ hk => hk.2) (.int .i64 tT)) (fun _ hk => hk.2) (.int .i64 tA5)) (fun _ hk => ⟨hk.1.1.1, ⟨hk.1.1.2.1, hk.1.1.2.2.1⟩⟩), by refine zX ?_; exact Kd.N_mono (Kd.N_far (p := ⟨gbC, 2, none⟩) (Kd.N_far (p := ⟨gbC, 1, none⟩) (Kd.N_far (p := ⟨gbC, 0, none⟩) (zNF4 (Kd.N_mono (Kd.N_mono HOJ.o (fun k_ hk => (⟨hk, hk.2.2.2.1⟩ : _ ∧ k_ ≠ gbE))) (fun k_ hk => (⟨hk, hk.1.2.2.2.2.1⟩ : _ ∧ k_ ≠ gbC))) gbE (fun _ hk => hk.1.2) (.int .i64 tL) (.slice Ao18 tG.length co18) (.slice Ao19 tH.length co19) (.slice Ao20 tF.length co20)) (fun _ hk => hk.2) (.int .i64 tQ)) (fun _ hk => hk.2) (.int .i64 tT)) (fun _ hk => hk.2) (.int .i64 tA5)) (fun _ hk => ⟨hk.1.1.1, ⟨hk.1.1.2.1, hk.1.1.2.2.1⟩⟩), by refine zR ?_; exact Kd.R_mono (Kd.R_far (p := ⟨gbC, 2, none⟩) (Kd.R_far (p := ⟨gbC, 1, none⟩) (Kd.R_far (p := ⟨gbC, 0, none⟩) (zRF4 (Kd.R_mono (Kd.R_types HOK.o BKE.o (by decide)) (fun k_ hk => (⟨hk, hk.1.2.1⟩ : _ ∧ k_ ≠ gbC))) gbE (fun _ hk => hk.1.2) (.int .i64 tL) (.slice Ao18 tG.length co18) (.slice Ao19 tH.length co19) (.slice Ao20 tF.length co20)) (fun _ hk => hk.2) (.int .i64 tQ)) (fun _ hk => hk.2) (.int .i64 tT)) (fun _ hk => hk.2) (.int .i64 tA5)) (fun _ hk => hk.1.1.1), zL5 HB.o (IsS98.ge HIA.o) GEE.o GEC.o GED.o GEB.o⟩
 ·rw [if_neg c7] at H
  obtain ⟨c7b0, c7b1⟩ := zf c7
  by_cases c46 : tA6 = 1
  ·rw [if_pos c46] at H
   obtain ⟨c46b0, c46b1⟩ := zt c46
   clear c46
   generalize hyA9 : (([0, 1000] : List Int)) = yA9 at H; (try rw [Option.bind_some] at H); have NyA9 := aM hyA9.symm; clear hyA9
   obtain ⟨⟨tA4, tE8, tE9⟩, A47, H⟩ := zO H; try dsimp only at H
   simp only [Option.some.injEq, Prod.mk.injEq] at H
   obtain ⟨rfl, rfl, rfl, rfl, rfl, rfl, rfl⟩ := H
   go_enter Try.func46, Try.ntmps46
   try go_wp2_with (first | ((with_reducible refine gD 2 rfl ?_); refine bE 2 #[.int .i64 0, .slice none 0 0, .slice none 0 0, .slice none 0 0] 25 ?_; intro gbE hg w48 hbox hb; have BKE := aM hbox; have GWE := aM (zg (zL HB.o) hg : w.heap.size ≤ gbE); have GEE := GWE; replace HB := zLB (zL HB.o) hb; clear hb hbox hg) | ((with_reducible refine gD 3 rfl ?_); refine bE 3 #[.int .i64 0, .int .i64 0, .int .i64 0] 46 ?_; intro gbC hg w49 hbox hb; have BKC := aM hbox; have GWC := aM (zg (zL1 HB.o GEE.o) hg : w.heap.size ≤ gbC); have GEC := GWC; replace HB := zLB (zL1 HB.o GEE.o) hb; have NBE_C := aM (zN BKE.o hg : gbE ≠ gbC); have NBC_E := aM (zM BKE.o hg : gbC ≠ gbE); replace BKE := zBB BKE hb; clear hb hbox hg) | ((with_reducible refine gC 80 rfl ?_); refine gL 8 Try.func80 #[.slice A0 l0.length c0] ?_; (with_reducible refine (spec_l1New.calls k _ _ l0 tM tB8 tB9 w _ ?side1 ?side2 ?side3 A2.o).mono ?_); (case side1 => exact zL2 HB.o GEE.o GEC.o); (case side2 => exact HR0.o); (case side3 => exact HC0.o); rintro e w50 ⟨gA, rfl, hi, hb, hb2⟩; refine ⟨_, rfl, ?_⟩; replace HB := aM hb; have HIA := aM hi; have NBA_E := aM (IsS98.ne_blk hi (bB (g := gbE) (o := .cells #[.int .i64 0, .slice none 0 0, .slice none 0 0, .slice none 0 0] 25 (0, 0)) (zB BKE.o) hb2) (by decide)); have NBE_A := aM (Ne.symm (IsS98.ne_blk hi (bB (g := gbE) (o := .cells #[.int .i64 0, .slice none 0 0, .slice none 0 0, .slice none 0 0] 25 (0, 0)) (zB BKE.o) hb2) (by decide))); replace BKE := zBB BKE hb2; have NBA_C := aM (IsS98.ne_blk hi (bB (g := gbC) (o := .cells #[.int .i64 0, .int .i64 0, .int .i64 0] 46 (0, 0)) (zB BKC.o) hb2) (by decide)); have NBC_A := aM (Ne.symm (IsS98.ne_blk hi (bB (g := gbC) (o := .cells #[.int .i64 0, .int .i64 0, .int .i64 0] 46 (0, 0)) (zB BKC.o) hb2) (by decide))); replace BKC := zBB BKC hb2; clear hi hb hb2) | ((with_reducible refine gC 81 rfl ?_); refine gL 10 Try.func81 #[.pointer (some ⟨gA, 0, none⟩)] ?_; (with_reducible refine (spec_l8Any.calls k gA tM tB8 tB9 tL tG tH tF tW tX w _ ?side1 ?side2 A3.o).mono ?_); (case side1 => exact zI2 HIA.o NBA_E.o NBA_C.o); (case side2 => exact zL3 HB.o (IsS98.ge HIA.o) GEE.o GEC.o); rintro e w51 ⟨vC0, vC1, vB6, rfl, ho0, ho1, ho2, hi, hb, hk⟩; refine ⟨_, rfl, ?_⟩; have HOI := aM (Kd.N_lower (Kd.N_mono (ok' := fun k_ => (w.heap.size ≤ k_) ∧ some k_ ≠ (vC1 : Value).ownBlock ∧ some k_ ≠ (vB6 : Value).ownBlock ∧ k_ ≠ gbE ∧ k_ ≠ gbC ∧ k_ ≠ gA) ho0 (fun k_ hk_ => ⟨(Nat.le_trans (below_size (zL3 HB.o (IsS98.ge HIA.o) GEE.o GEC.o)) hk_.1), hk_.2.1, hk_.2.2, (Kd.freshB (g := gbE) (o := .cells #[.int .i64 0, .slice none 0 0, .slice none 0 0, .slice none 0 0] 25 (0, 0)) (zB BKE.o) k_ hk_.1), (Kd.freshB (g := gbC) (o := .cells #[.int .i64 0, .int .i64 0, .int .i64 0] 46 (0, 0)) (zB BKC.o) k_ hk_.1), (IsS98.fresh (zI2 HIA.o NBA_E.o NBA_C.o) k_ hk_.1)⟩)) (below_size (zL3 HB.o (IsS98.ge HIA.o) GEE.o GEC.o))); have HOJ := aM (Kd.N_lower (Kd.N_mono (ok' := fun k_ => (w.heap.size ≤ k_) ∧ some k_ ≠ (vC0 : Value).ownBlock ∧ some k_ ≠ (vB6 : Value).ownBlock ∧ k_ ≠ gbE ∧ k_ ≠ gbC ∧ k_ ≠ gA) ho1 (fun k_ hk_ => ⟨(Nat.le_trans (below_size (zL3 HB.o (IsS98.ge HIA.o) GEE.o GEC.o)) hk_.1), hk_.2.1, hk_.2.2, (Kd.freshB (g := gbE) (o := .cells #[.int .i64 0, .slice none 0 0, .slice none 0 0, .slice none 0 0] 25 (0, 0)) (zB BKE.o) k_ hk_.1), (Kd.freshB (g := gbC) (o := .cells #[.int .i64 0, .int .i64 0, .int .i64 0] 46 (0, 0)) (zB BKC.o) k_ hk_.1), (IsS98.fresh (zI2 HIA.o NBA_E.o NBA_C.o) k_ hk_.1)⟩)) (below_size (zL3 HB.o (IsS98.ge HIA.o) GEE.o GEC.o))); replace BKE := zBK hk BKE NBE_A; have HOK := aM (Kd.R_lower (Kd.R_newB (Kd.R_newM (M := fun k_ => (w.heap.size ≤ k_)) (Kd.R_mono (ok' := fun k_ => True) ho2 (fun _ hk_ => trivial)) (below_size (zL3 HB.o (IsS98.ge HIA.o) GEE.o GEC.o)) (fun k_ h_ => h_)) (g := gbC) (o := .cells #[.int .i64 0, .int .i64 0, .int .i64 0] 46 (0, 0)) (zB BKC.o)) (below_size (zL3 HB.o (IsS98.ge HIA.o) GEE.o GEC.o))); replace BKC := zBK hk BKC NBC_A; replace HB := aM hb; replace HIA := aM hi; clear ho0 hi hb hk; (try clear ho1); (try clear ho2)) | ((with_reducible refine gD 5 rfl ?_); refine bE 5 #[.int .i64 0, .slice none 0 0, .slice none 0 0, .slice none 0 0] 25 ?_; intro gbD hg w52 hbox hb; replace HOI := aM (Kd.N_below (Kd.N_elderB (zX HOI.o) gbD (Nat.le_of_eq hg.symm)) hb); replace HOJ := aM (Kd.N_below (Kd.N_elderB (zX HOJ.o) gbD (Nat.le_of_eq hg.symm)) hb); replace HOK := zRB HOK hb; have BKD := aM hbox; have GWD := aM ((zg (zL3 HB.o (IsS98.ge HIA.o) GEE.o GEC.o) hg : w.heap.size ≤ gbD)); have GED := GWD; replace HB := zLB (zL3 HB.o (IsS98.ge HIA.o) GEE.o GEC.o) hb; have NBE_D := aM (zN BKE.o hg : gbE ≠ gbD); have NBD_E := aM (zM BKE.o hg : gbD ≠ gbE); replace BKE := zBB BKE hb; have NBC_D := aM (zN BKC.o hg : gbC ≠ gbD); have NBD_C := aM (zM BKC.o hg : gbD ≠ gbC); replace BKC := zBB BKC hb; have NBA_D := aM ((zNI (IsS98.lt (zI2 HIA.o NBA_E.o NBA_C.o : IsS98 w _ gA tM tW tX)) hg : gA ≠ gbD)); have NBD_A := aM ((zMI (IsS98.lt (zI2 HIA.o NBA_E.o NBA_C.o : IsS98 w _ gA tM tW tX)) hg : gbD ≠ gA)); replace HIA := aM (IsS98.below (zI2 HIA.o NBA_E.o NBA_C.o) hb); clear hb hbox hg; have hnb53 := NBD_E.o; have hnc53 := NBE_D.o; have hnb54 := NBD_C.o; have hnc54 := NBC_D.o; have hnb55 := NBD_A.o; have hnc55 := NBA_D.o; have hcz56 := zc4 BKD.o; have hfz56 := zf4 BKD.o; obtain ⟨Ao57, co57, eo57⟩ := Kd.N_slice HOI.o; subst eo57; obtain ⟨Ao58, co58, eo58⟩ := Kd.N_slice HOJ.o; subst eo58; obtain ⟨Ao59, co59, eo59⟩ := Kd.R_slice HOK.o; subst eo59))
   have n0_ : Aside0 (Kd.N (Kd.slice 46 k46) 23 ((((w52.setCell ⟨gbD, 0, none⟩ (.int .i64 tL)).setCell ⟨gbD, 1, none⟩ (.slice Ao57 tG.length co57)).setCell ⟨gbD, 2, none⟩ (.slice Ao58 tH.length co58)).setCell ⟨gbD, 3, none⟩ (.slice Ao59 tF.length co59)) w.heap.size (fun k_ => (w.heap.size ≤ k_) ∧ some k_ ≠ (.slice Ao58 tH.length co58 : Value).ownBlock ∧ some k_ ≠ (.slice Ao59 tF.length co59 : Value).ownBlock ∧ k_ ≠ gbE ∧ k_ ≠ gbC ∧ k_ ≠ gA ∧ k_ ≠ gbD) (.slice Ao57 tG.length co57) tG) := ⟨by refine zX ?_; exact Kd.N_mono (zNF4 (Kd.N_mono HOI.o (fun k_ hk => (⟨hk, hk.2⟩ : _ ∧ k_ ≠ gbD))) gbD (fun _ hk => hk.2) (.int .i64 tL) (.slice Ao57 tG.length co57) (.slice Ao58 tH.length co58) (.slice Ao59 tF.length co59)) (fun _ hk => ⟨hk.1.1.1, ⟨hk.1.1.2.1, ⟨hk.1.1.2.2.1, ⟨hk.1.1.2.2.2.1, ⟨hk.1.1.2.2.2.2.1, ⟨hk.1.1.2.2.2.2.2, hk.1.2⟩⟩⟩⟩⟩⟩)⟩
   have n1_ : Aside0 (Kd.N (Kd.slice 46 k46) 23 ((((w52.setCell ⟨gbD, 0, none⟩ (.int .i64 tL)).setCell ⟨gbD, 1, none⟩ (.slice Ao57 tG.length co57)).setCell ⟨gbD, 2, none⟩ (.slice Ao58 tH.length co58)).setCell ⟨gbD, 3, none⟩ (.slice Ao59 tF.length co59)) w.heap.size (fun k_ => (w.heap.size ≤ k_) ∧ some k_ ≠ (.slice Ao57 tG.length co57 : Value).ownBlock ∧ some k_ ≠ (.slice Ao59 tF.length co59 : Value).ownBlock ∧ k_ ≠ gbE ∧ k_ ≠ gbC ∧ k_ ≠ gA ∧ k_ ≠ gbD) (.slice Ao58 tH.length co58) tH) := ⟨by refine zX ?_; exact Kd.N_mono (zNF4 (Kd.N_mono HOJ.o (fun k_ hk => (⟨hk, hk.2⟩ : _ ∧ k_ ≠ gbD))) gbD (fun _ hk => hk.2) (.int .i64 tL) (.slice Ao57 tG.length co57) (.slice Ao58 tH.length co58) (.slice Ao59 tF.length co59)) (fun _ hk => ⟨hk.1.1.1, ⟨hk.1.1.2.1, ⟨hk.1.1.2.2.1, ⟨hk.1.1.2.2.2.1, ⟨hk.1.1.2.2.2.2.1, ⟨hk.1.1.2.2.2.2.2, hk.1.2⟩⟩⟩⟩⟩⟩)⟩
   have n2_ : Aside0 (Kd.R k46 46 ((((w52.setCell ⟨gbD, 0, none⟩ (.int .i64 tL)).setCell ⟨gbD, 1, none⟩ (.slice Ao57 tG.length co57)).setCell ⟨gbD, 2, none⟩ (.slice Ao58 tH.length co58)).setCell ⟨gbD, 3, none⟩ (.slice Ao59 tF.length co59)) w.heap.size (fun k_ => (w.heap.size ≤ k_) ∧ k_ ≠ gbC) (.slice Ao59 tF.length co59) tF) := ⟨by refine zR ?_; exact Kd.R_mono (zRF4 (Kd.R_types HOK.o BKD.o (by decide)) gbD (fun _ hk => hk.2) (.int .i64 tL) (.slice Ao57 tG.length co57) (.slice Ao58 tH.length co58) (.slice Ao59 tF.length co59)) (fun _ hk => ⟨hk.1.1.1, hk.1.2⟩)⟩
   have n3_ : Aside0 (((((w52.setCell ⟨gbD, 0, none⟩ (.int .i64 tL)).setCell ⟨gbD, 1, none⟩ (.slice Ao57 tG.length co57)).setCell ⟨gbD, 2, none⟩ (.slice Ao58 tH.length co58)).setCell ⟨gbD, 3, none⟩ (.slice Ao59 tF.length co59)).heap[gbE]? = some (.cells #[.int .i64 0, .slice none 0 0, .slice none 0 0, .slice none 0 0] 25 (0, 0))) := ⟨by refine zB ?_; refine zr4 ?_ NBE_D.o; exact zB BKE.o⟩
   have n4_ : Aside0 (((((w52.setCell ⟨gbD, 0, none⟩ (.int .i64 tL)).setCell ⟨gbD, 1, none⟩ (.slice Ao57 tG.length co57)).setCell ⟨gbD, 2, none⟩ (.slice Ao58 tH.length co58)).setCell ⟨gbD, 3, none⟩ (.slice Ao59 tF.length co59)).heap[gbC]? = some (.cells #[.int .i64 0, .int .i64 0, .int .i64 0] 46 (0, 0))) := ⟨by refine zB ?_; refine zr4 ?_ NBC_D.o; exact zB BKC.o⟩
   have n5_ : Aside0 (((((w52.setCell ⟨gbD, 0, none⟩ (.int .i64 tL)).setCell ⟨gbD, 1, none⟩ (.slice Ao57 tG.length co57)).setCell ⟨gbD, 2, none⟩ (.slice Ao58 tH.length co58)).setCell ⟨gbD, 3, none⟩ (.slice Ao59 tF.length co59)).heap[gbD]? = some (.cells #[.int .i64 tL, .slice Ao57 tG.length co57, .slice Ao58 tH.length co58, .slice Ao59 tF.length co59] 25 (0, 0))) := ⟨by refine zB ?_; refine zp4 (cs := #[.int .i64 0, .slice none 0 0, .slice none 0 0, .slice none 0 0]) ?_; exact zB BKD.o⟩
   have n6_ : Aside0 (IsS98 w ((((w52.setCell ⟨gbD, 0, none⟩ (.int .i64 tL)).setCell ⟨gbD, 1, none⟩ (.slice Ao57 tG.length co57)).setCell ⟨gbD, 2, none⟩ (.slice Ao58 tH.length co58)).setCell ⟨gbD, 3, none⟩ (.slice Ao59 tF.length co59)) gA tM tW tX) := ⟨zI3 HIA.o NBA_E.o NBA_C.o NBA_D.o⟩
   have n7_ : Aside0 (Below w.heap.size w ((((w52.setCell ⟨gbD, 0, none⟩ (.int .i64 tL)).setCell ⟨gbD, 1, none⟩ (.slice Ao57 tG.length co57)).setCell ⟨gbD, 2, none⟩ (.slice Ao58 tH.length co58)).setCell ⟨gbD, 3, none⟩ (.slice Ao59 tF.length co59))) := ⟨zL4 HB.o (IsS98.ge HIA.o) GEE.o GEC.o GED.o⟩
   (try clear HOI)
   (try clear HOJ)
   (try clear HOK)
   (try clear BKE)
   (try clear BKC)
   (try clear BKD)
   (try clear HIA)
   (try clear HB)
   generalize ((((w52.setCell ⟨gbD, 0, none⟩ (.int .i64 tL)).setCell ⟨gbD, 1, none⟩ (.slice Ao57 tG.length co57)).setCell ⟨gbD, 2, none⟩ (.slice Ao58 tH.length co58)).setCell ⟨gbD, 3, none⟩ (.slice Ao59 tF.length co59)) = w60 at n0_ n1_ n2_ n3_ n4_ n5_ n6_ n7_ ⊢
   have HOI := n0_
   have HOJ := n1_
   have HOK := n2_
   have BKE := n3_
   have BKC := n4_
   have BKD := n5_
   have HIA := n6_
   have HB := n7_
   clear n0_ n1_ n2_ n3_ n4_ n5_ n6_ n7_
   replace HOI := zXD HOI; replace HOJ := zXD HOJ; replace HOK := zRD HOK; replace BKE := zBD BKE; replace BKC := zBD BKC; replace BKD := zBD BKD; replace HIA := aM (IsS98.drew HIA.o); replace HB := zLD HB
   refine start_ (n := 9) (S := fun w' => zs4 w' gbD (.int .i64 tL) (.slice Ao57 tG.length co57) (.slice Ao58 tH.length co58) (.slice Ao59 tF.length co59)) (ds := []) (fB 9 0) (by kernel_rfl) rfl rfl (zc4 BKD.o) (fun hHeld => ?_); refine with_tabW spec_DrawPut.tab3 spec_DrawPut.bits3 (fun HT_ HW_ => ?_)
   generalize w60.drew = w61 at HOI HOJ HOK BKE BKC BKD HIA HB hHeld ⊢
   refine pY 0 11 (fB 9 1) HT_.o ?_
   refine pY 1 12 (fB 9 3) HT_.o ?_
   refine pY 3 14 (fB 9 11) HT_.o ?_
   refine tY 2 13 (fB 9 15) HT_.o HW_.o hHeld ?_
   refine join_ (σ := Nat) 1 #[true, true, true, true, true, true, true, true, false] (fun s_ => [(15, .int .i64 tV), (17, .agg #[.int .i64 tQ, .int .i64 tT, .int .i64 tU]), (6, .pointer (some ⟨s_, 0, none⟩)), (16, .int .i64 (wrap64 (1 + tV)))]) (fun s_ w' => (w'.cell? ⟨gbD, 0, none⟩ = some (.int .i64 tL) ∧ w'.cell? ⟨gbD, 1, none⟩ = some (.slice Ao57 tG.length co57) ∧ w'.cell? ⟨gbD, 2, none⟩ = some (.slice Ao58 tH.length co58) ∧ w'.cell? ⟨gbD, 3, none⟩ = some (.slice Ao59 tF.length co59)) ∧ (Kd.N (Kd.slice 46 k46) 23 w' w.heap.size (fun k_ => (w.heap.size ≤ k_) ∧ some k_ ≠ (.slice Ao58 tH.length co58 : Value).ownBlock ∧ some k_ ≠ (.slice Ao59 tF.length co59 : Value).ownBlock ∧ k_ ≠ gbE ∧ k_ ≠ gbC ∧ k_ ≠ gA ∧ k_ ≠ gbD ∧ k_ ≠ s_) (.slice Ao57 tG.length co57) tG) ∧ (Kd.N (Kd.slice 46 k46) 23 w' w.heap.size (fun k_ => (w.heap.size ≤ k_) ∧ some k_ ≠ (.slice Ao57 tG.length co57 : Value).ownBlock ∧ some k_ ≠ (.slice Ao59 tF.length co59 : Value).ownBlock ∧ k_ ≠ gbE ∧ k_ ≠ gbC ∧ k_ ≠ gA ∧ k_ ≠ gbD ∧ k_ ≠ s_) (.slice Ao58 tH.length co58) tH) ∧ (Kd.R k46 46 w' w.heap.size (fun k_ => (w.heap.size ≤ k_) ∧ k_ ≠ gbC ∧ k_ ≠ s_) (.slice Ao59 tF.length co59) tF) ∧ (w'.heap[gbE]? = some (.cells #[.int .i64 0, .slice none 0 0, .slice none 0 0, .slice none 0 0] 25 (0, 0))) ∧ (w'.heap[gbC]? = some (.cells #[.int .i64 0, .int .i64 0, .int .i64 0] 46 (0, 0))) ∧ (w'.heap[gbD]? = some (.cells #[.int .i64 tL, .slice Ao57 tG.length co57, .slice Ao58 tH.length co58, .slice Ao59 tF.length co59] 25 (0, 0))) ∧ (w'.heap[s_]? = some (.cells #[.int .i64 0, .int .i64 0, .int .i64 0] 46 (0, 0))) ∧ (w.heap.size ≤ s_) ∧ (w.heap.size ≤ s_) ∧ (gA ≠ s_) ∧ (s_ ≠ gA) ∧ (gbE ≠ s_) ∧ (s_ ≠ gbE) ∧ (gbC ≠ s_) ∧ (s_ ≠ gbC) ∧ (gbD ≠ s_) ∧ (s_ ≠ gbD) ∧ (IsS98 w w' gA tM tA1 tA2) ∧ (Below w.heap.size w w')) ?_ ?_
   rotate_left
   ·intro hCont
    refine two_ (i := 4) (j := 7) (Ni := some 15) (Nj := some 6) #[true, true, true, true, true, false, false, false, false] #[true, true, true, true, false, false, false, true, false] rfl rfl rfl rfl (two_of HT_.o (by kernel_rfl)) (by decide) (by decide) (fun K hK => ?_) (fun K hK => ?_)
    ·skip
     refine gS Try.func83 #[.pointer (some ⟨gA, 0, none⟩), .int .i64 9] ?_
     with_reducible refine (spec_l1Below.calls gA tM tW tX 9 tV tZ tA0 w _ ?side1 ?side2 A4.o).mono ?_
     (case side1 => exact zI3 HIA.o NBA_E.o NBA_C.o NBA_D.o)
     (case side2 => exact zL4 HB.o (IsS98.ge HIA.o) GEE.o GEC.o GED.o)
     rintro e w62 ⟨rfl, hi, hb, hk⟩
     refine ⟨_, rfl, ?_⟩
     replace BKE := zBK hk BKE NBE_A; replace BKC := zBK hk BKC NBC_A; replace HOI := aM (Kd.N_mono (Kd.N_keep (Kd.N_mono (ok := fun k_ => (((w.heap.size ≤ k_)) ∧ (some k_ ≠ (.slice Ao58 tH.length co58 : Value).ownBlock ∧ (some k_ ≠ (.slice Ao59 tF.length co59 : Value).ownBlock ∧ (k_ ≠ gbE ∧ (k_ ≠ gbC ∧ (k_ ≠ gA ∧ k_ ≠ gbD))))))) (zX HOI.o) (fun k_ hk_ => (⟨hk_, hk_.2.2.2.2.2.1⟩ : _ ∧ k_ ≠ gA))) hk (fun _ h => h.2)) (fun _ h => h.1)); replace HOJ := aM (Kd.N_mono (Kd.N_keep (Kd.N_mono (ok := fun k_ => (((w.heap.size ≤ k_)) ∧ (some k_ ≠ (.slice Ao57 tG.length co57 : Value).ownBlock ∧ (some k_ ≠ (.slice Ao59 tF.length co59 : Value).ownBlock ∧ (k_ ≠ gbE ∧ (k_ ≠ gbC ∧ (k_ ≠ gA ∧ k_ ≠ gbD))))))) (zX HOJ.o) (fun k_ hk_ => (⟨hk_, hk_.2.2.2.2.2.1⟩ : _ ∧ k_ ≠ gA))) hk (fun _ h => h.2)) (fun _ h => h.1)); replace HOK := aM (Kd.R_mono (Kd.R_keep (IsS98.apart (show IsS98 w _ gA tM tW tX from zI3 HIA.o NBA_E.o NBA_C.o NBA_D.o) (zR HOK.o) (by decide)) hk (fun _ h => h.2)) (fun _ h => h.1)); replace BKD := zBK hk BKD NBD_A; replace HB := aM hb; replace HIA := aM hi
     clear hi hb hk
     refine hK.out _ _ (zc4 BKD.o) fun hHeld => ?_; clear hK K
     refine nZ 15 ?_
     refine pY 5 16 (fB 9 63) HT_.o ?_
     refine two_ (i := 6) (j := 7) (Ni := some 17) (Nj := some 6) #[true, true, true, true, true, true, true, false, false] #[true, true, true, true, true, true, false, true, false] rfl rfl rfl rfl (two_of HT_.o (by kernel_rfl)) (by decide) (by decide) (fun K hK => ?_) (fun K hK => ?_)
     ·skip
      refine gS Try.func82 #[.pointer (some ⟨gA, 0, none⟩), .int .i64 tL, .int .i64 (wrap64 (1 + tV))] ?_
      with_reducible refine (spec_l8Timer.calls gA tM tZ tA0 tL (wrap64 (1 + tV)) tQ tT tU tA1 tA2 w _ ?side1 ?side2 A5.o).mono ?_
      (case side1 => exact zI3 HIA.o NBA_E.o NBA_C.o NBA_D.o)
      (case side2 => exact zL4 HB.o (IsS98.ge HIA.o) GEE.o GEC.o GED.o)
      rintro e w63 ⟨rfl, hi, hb, hk⟩
      refine ⟨_, rfl, ?_⟩
      replace BKE := zBK hk BKE NBE_A; replace BKC := zBK hk BKC NBC_A; replace HOI := aM (Kd.N_mono (Kd.N_keep (Kd.N_mono (ok := fun k_ => (((w.heap.size ≤ k_)) ∧ (some k_ ≠ (.slice Ao58 tH.length co58 : Value).ownBlock ∧ (some k_ ≠ (.slice Ao59 tF.length co59 : Value).ownBlock ∧ (k_ ≠ gbE ∧ (k_ ≠ gbC ∧ (k_ ≠ gA ∧ k_ ≠ gbD))))))) (zX HOI.o) (fun k_ hk_ => (⟨hk_, hk_.2.2.2.2.2.1⟩ : _ ∧ k_ ≠ gA))) hk (fun _ h => h.2)) (fun _ h => h.1)); replace HOJ := aM (Kd.N_mono (Kd.N_keep (Kd.N_mono (ok := fun k_ => (((w.heap.size ≤ k_)) ∧ (some k_ ≠ (.slice Ao57 tG.length co57 : Value).ownBlock ∧ (some k_ ≠ (.slice Ao59 tF.length co59 : Value).ownBlock ∧ (k_ ≠ gbE ∧ (k_ ≠ gbC ∧ (k_ ≠ gA ∧ k_ ≠ gbD))))))) (zX HOJ.o) (fun k_ hk_ => (⟨hk_, hk_.2.2.2.2.2.1⟩ : _ ∧ k_ ≠ gA))) hk (fun _ h => h.2)) (fun _ h => h.1)); replace HOK := aM (Kd.R_mono (Kd.R_keep (IsS98.apart (show IsS98 w _ gA tM tZ tA0 from zI3 HIA.o NBA_E.o NBA_C.o NBA_D.o) (zR HOK.o) (by decide)) hk (fun _ h => h.2)) (fun _ h => h.1)); replace BKD := zBK hk BKD NBD_A; replace HB := aM hb; replace HIA := aM hi
      clear hi hb hk
      refine hK.out _ _ (zc4 BKD.o) fun hHeld => ?_; clear hK K
      refine nZ 17 ?_
      refine oN 7 6 (fB 9 255) HT_.o fun K hK => ?_
      refine box_step ?hg (N := 6) ?hd (cs := #[.int .i64 0, .int .i64 0, .int .i64 0]) (t := 46) ?hr ?_; (case hd => rfl); (case hg => rfl); (case hr => first | (go_simp; done) | (go_simp; rfl))
      intro gbB hg w64 hbox hb
      replace HOI := aM (Kd.N_below (Kd.N_elderB (zX HOI.o) gbB (Nat.le_of_eq hg.symm)) hb); replace HOJ := aM (Kd.N_below (Kd.N_elderB (zX HOJ.o) gbB (Nat.le_of_eq hg.symm)) hb); replace HOK := aM (Kd.R_below (Kd.R_elderB (zR HOK.o) gbB (Nat.le_of_eq hg.symm)) hb); have BKB := aM hbox; have GWB := aM ((zg (zL4 HB.o (IsS98.ge HIA.o) GEE.o GEC.o GED.o) hg : w.heap.size ≤ gbB)); have GEB := GWB; replace HB := zLB (zL4 HB.o (IsS98.ge HIA.o) GEE.o GEC.o GED.o) hb; have NBE_B := aM (zN BKE.o hg : gbE ≠ gbB); have NBB_E := aM (zM BKE.o hg : gbB ≠ gbE); replace BKE := zBB BKE hb; have NBC_B := aM (zN BKC.o hg : gbC ≠ gbB); have NBB_C := aM (zM BKC.o hg : gbB ≠ gbC); replace BKC := zBB BKC hb; have NBD_B := aM (zN BKD.o hg : gbD ≠ gbB); have NBB_D := aM (zM BKD.o hg : gbB ≠ gbD); replace BKD := zBB BKD hb; have NBA_B := aM ((zNI (IsS98.lt (zI3 HIA.o NBA_E.o NBA_C.o NBA_D.o : IsS98 w _ gA tM tA1 tA2)) hg : gA ≠ gbB)); have NBB_A := aM ((zMI (IsS98.lt (zI3 HIA.o NBA_E.o NBA_C.o NBA_D.o : IsS98 w _ gA tM tA1 tA2)) hg : gbB ≠ gA)); replace HIA := aM (IsS98.below (zI3 HIA.o NBA_E.o NBA_C.o NBA_D.o) hb)
      clear hb hbox hg
      refine hK.out _ _ (zc4 BKD.o) fun hHeld => ?_; clear hK K
      refine nZ 6 ?_
      exact norm_ (by simp only [putAll, Act.put, List.setIfInBounds_toArray, List.set_cons_zero, List.set_cons_succ]) (hCont (gbB) _ ⟨hHeld, (zXm HOI.o (fun _ hk => ⟨hk.1.1, ⟨hk.1.2.1, ⟨hk.1.2.2.1, ⟨hk.1.2.2.2.1, ⟨hk.1.2.2.2.2.1, ⟨hk.1.2.2.2.2.2.1, ⟨hk.1.2.2.2.2.2.2, hk.2⟩⟩⟩⟩⟩⟩⟩)), (zXm HOJ.o (fun _ hk => ⟨hk.1.1, ⟨hk.1.2.1, ⟨hk.1.2.2.1, ⟨hk.1.2.2.2.1, ⟨hk.1.2.2.2.2.1, ⟨hk.1.2.2.2.2.2.1, ⟨hk.1.2.2.2.2.2.2, hk.2⟩⟩⟩⟩⟩⟩⟩)), (zRm HOK.o (fun _ hk => ⟨hk.1.1, ⟨hk.1.2, hk.2⟩⟩)), (zB BKE.o), (zB BKC.o), (zB BKD.o), (zB BKB.o), GWB.o, GEB.o, NBA_B.o, NBB_A.o, NBE_B.o, NBB_E.o, NBC_B.o, NBB_C.o, NBD_B.o, NBB_D.o, (zI4 HIA.o NBA_E.o NBA_C.o NBA_D.o NBA_B.o), (zL5 HB.o (IsS98.ge HIA.o) GEE.o GEC.o GED.o GEB.o)⟩)
     ·skip
      refine box_step ?hg (N := 6) ?hd (cs := #[.int .i64 0, .int .i64 0, .int .i64 0]) (t := 46) ?hr ?_; (case hd => rfl); (case hg => rfl); (case hr => first | (go_simp; done) | (go_simp; rfl))
      intro gbB hg w63 hbox hb
      replace HOI := aM (Kd.N_below (Kd.N_elderB (zX HOI.o) gbB (Nat.le_of_eq hg.symm)) hb); replace HOJ := aM (Kd.N_below (Kd.N_elderB (zX HOJ.o) gbB (Nat.le_of_eq hg.symm)) hb); replace HOK := aM (Kd.R_below (Kd.R_elderB (zR HOK.o) gbB (Nat.le_of_eq hg.symm)) hb); have BKB := aM hbox; have GWB := aM ((zg (zL4 HB.o (IsS98.ge HIA.o) GEE.o GEC.o GED.o) hg : w.heap.size ≤ gbB)); have GEB := GWB; replace HB := zLB (zL4 HB.o (IsS98.ge HIA.o) GEE.o GEC.o GED.o) hb; have NBE_B := aM (zN BKE.o hg : gbE ≠ gbB); have NBB_E := aM (zM BKE.o hg : gbB ≠ gbE); replace BKE := zBB BKE hb; have NBC_B := aM (zN BKC.o hg : gbC ≠ gbB); have NBB_C := aM (zM BKC.o hg : gbB ≠ gbC); replace BKC := zBB BKC hb; have NBD_B := aM (zN BKD.o hg : gbD ≠ gbB); have NBB_D := aM (zM BKD.o hg : gbB ≠ gbD); replace BKD := zBB BKD hb; have NBA_B := aM ((zNI (IsS98.lt (zI3 HIA.o NBA_E.o NBA_C.o NBA_D.o : IsS98 w _ gA tM tZ tA0)) hg : gA ≠ gbB)); have NBB_A := aM ((zMI (IsS98.lt (zI3 HIA.o NBA_E.o NBA_C.o NBA_D.o : IsS98 w _ gA tM tZ tA0)) hg : gbB ≠ gA)); replace HIA := aM (IsS98.below (zI3 HIA.o NBA_E.o NBA_C.o NBA_D.o) hb)
      clear hb hbox hg
      refine hK.out _ _ (zc4 BKD.o) fun hHeld => ?_; clear hK K
      refine nZ 6 ?_
      refine oN 6 17 (fB 9 255) HT_.o fun K hK => ?_
      refine gS Try.func82 #[.pointer (some ⟨gA, 0, none⟩), .int .i64 tL, .int .i64 (wrap64 (1 + tV))] ?_
      with_reducible refine (spec_l8Timer.calls gA tM tZ tA0 tL (wrap64 (1 + tV)) tQ tT tU tA1 tA2 w _ ?side1 ?side2 A5.o).mono ?_
      (case side1 => exact zI4 HIA.o NBA_E.o NBA_C.o NBA_D.o NBA_B.o)
      (case side2 => exact zL5 HB.o (IsS98.ge HIA.o) GEE.o GEC.o GED.o GEB.o)
      rintro e w64 ⟨rfl, hi, hb, hk⟩
      refine ⟨_, rfl, ?_⟩
      replace BKE := zBK hk BKE NBE_A; replace BKC := zBK hk BKC NBC_A; replace HOI := aM (Kd.N_mono (Kd.N_keep (Kd.N_mono (ok := fun k_ => ((((w.heap.size ≤ k_)) ∧ (some k_ ≠ (.slice Ao58 tH.length co58 : Value).ownBlock ∧ (some k_ ≠ (.slice Ao59 tF.length co59 : Value).ownBlock ∧ (k_ ≠ gbE ∧ (k_ ≠ gbC ∧ (k_ ≠ gA ∧ k_ ≠ gbD)))))) ∧ k_ ≠ gbB)) (zX HOI.o) (fun k_ hk_ => (⟨hk_, hk_.1.2.2.2.2.2.1⟩ : _ ∧ k_ ≠ gA))) hk (fun _ h => h.2)) (fun _ h => h.1)); replace HOJ := aM (Kd.N_mono (Kd.N_keep (Kd.N_mono (ok := fun k_ => ((((w.heap.size ≤ k_)) ∧ (some k_ ≠ (.slice Ao57 tG.length co57 : Value).ownBlock ∧ (some k_ ≠ (.slice Ao59 tF.length co59 : Value).ownBlock ∧ (k_ ≠ gbE ∧ (k_ ≠ gbC ∧ (k_ ≠ gA ∧ k_ ≠ gbD)))))) ∧ k_ ≠ gbB)) (zX HOJ.o) (fun k_ hk_ => (⟨hk_, hk_.1.2.2.2.2.2.1⟩ : _ ∧ k_ ≠ gA))) hk (fun _ h => h.2)) (fun _ h => h.1)); replace HOK := aM (Kd.R_mono (Kd.R_keep (IsS98.apart (show IsS98 w _ gA tM tZ tA0 from zI4 HIA.o NBA_E.o NBA_C.o NBA_D.o NBA_B.o) (zR HOK.o) (by decide)) hk (fun _ h => h.2)) (fun _ h => h.1)); replace BKD := zBK hk BKD NBD_A; replace BKB := zBK hk BKB NBB_A; replace HB := aM hb; replace HIA := aM hi
      clear hi hb hk
      refine hK.out _ _ (zc4 BKD.o) fun hHeld => ?_; clear hK K
      refine nZ 17 ?_
      exact norm_ (by simp only [putAll, Act.put, List.setIfInBounds_toArray, List.set_cons_zero, List.set_cons_succ]) (hCont (gbB) _ ⟨hHeld, (zXm HOI.o (fun _ hk => ⟨hk.1.1, ⟨hk.1.2.1, ⟨hk.1.2.2.1, ⟨hk.1.2.2.2.1, ⟨hk.1.2.2.2.2.1, ⟨hk.1.2.2.2.2.2.1, ⟨hk.1.2.2.2.2.2.2, hk.2⟩⟩⟩⟩⟩⟩⟩)), (zXm HOJ.o (fun _ hk => ⟨hk.1.1, ⟨hk.1.2.1, ⟨hk.1.2.2.1, ⟨hk.1.2.2.2.1, ⟨hk.1.2.2.2.2.1, ⟨hk.1.2.2.2.2.2.1, ⟨hk.1.2.2.2.2.2.2, hk.2⟩⟩⟩⟩⟩⟩⟩)), (zRm HOK.o (fun _ hk => ⟨hk.1.1, ⟨hk.1.2, hk.2⟩⟩)), (zB BKE.o), (zB BKC.o), (zB BKD.o), (zB BKB.o), GWB.o, GEB.o, NBA_B.o, NBB_A.o, NBE_B.o, NBB_E.o, NBC_B.o, NBB_C.o, NBD_B.o, NBB_D.o, (zI4 HIA.o NBA_E.o NBA_C.o NBA_D.o NBA_B.o), (zL5 HB.o (IsS98.ge HIA.o) GEE.o GEC.o GED.o GEB.o)⟩)
    ·skip
     refine box_step ?hg (N := 6) ?hd (cs := #[.int .i64 0, .int .i64 0, .int .i64 0]) (t := 46) ?hr ?_; (case hd => rfl); (case hg => rfl); (case hr => first | (go_simp; done) | (go_simp; rfl))
     intro gbB hg w62 hbox hb
     replace HOI := aM (Kd.N_below (Kd.N_elderB (zX HOI.o) gbB (Nat.le_of_eq hg.symm)) hb); replace HOJ := aM (Kd.N_below (Kd.N_elderB (zX HOJ.o) gbB (Nat.le_of_eq hg.symm)) hb); replace HOK := aM (Kd.R_below (Kd.R_elderB (zR HOK.o) gbB (Nat.le_of_eq hg.symm)) hb); have BKB := aM hbox; have GWB := aM ((zg (zL4 HB.o (IsS98.ge HIA.o) GEE.o GEC.o GED.o) hg : w.heap.size ≤ gbB)); have GEB := GWB; replace HB := zLB (zL4 HB.o (IsS98.ge HIA.o) GEE.o GEC.o GED.o) hb; have NBE_B := aM (zN BKE.o hg : gbE ≠ gbB); have NBB_E := aM (zM BKE.o hg : gbB ≠ gbE); replace BKE := zBB BKE hb; have NBC_B := aM (zN BKC.o hg : gbC ≠ gbB); have NBB_C := aM (zM BKC.o hg : gbB ≠ gbC); replace BKC := zBB BKC hb; have NBD_B := aM (zN BKD.o hg : gbD ≠ gbB); have NBB_D := aM (zM BKD.o hg : gbB ≠ gbD); replace BKD := zBB BKD hb; have NBA_B := aM ((zNI (IsS98.lt (zI3 HIA.o NBA_E.o NBA_C.o NBA_D.o : IsS98 w _ gA tM tW tX)) hg : gA ≠ gbB)); have NBB_A := aM ((zMI (IsS98.lt (zI3 HIA.o NBA_E.o NBA_C.o NBA_D.o : IsS98 w _ gA tM tW tX)) hg : gbB ≠ gA)); replace HIA := aM (IsS98.below (zI3 HIA.o NBA_E.o NBA_C.o NBA_D.o) hb)
     clear hb hbox hg
     refine hK.out _ _ (zc4 BKD.o) fun hHeld => ?_; clear hK K
     refine nZ 6 ?_
     refine oN 4 15 (fB 9 159) HT_.o fun K hK => ?_
     refine gS Try.func83 #[.pointer (some ⟨gA, 0, none⟩), .int .i64 9] ?_
     with_reducible refine (spec_l1Below.calls gA tM tW tX 9 tV tZ tA0 w _ ?side1 ?side2 A4.o).mono ?_
     (case side1 => exact zI4 HIA.o NBA_E.o NBA_C.o NBA_D.o NBA_B.o)
     (case side2 => exact zL5 HB.o (IsS98.ge HIA.o) GEE.o GEC.o GED.o GEB.o)
     rintro e w63 ⟨rfl, hi, hb, hk⟩
     refine ⟨_, rfl, ?_⟩
     replace BKE := zBK hk BKE NBE_A; replace BKC := zBK hk BKC NBC_A; replace HOI := aM (Kd.N_mono (Kd.N_keep (Kd.N_mono (ok := fun k_ => ((((w.heap.size ≤ k_)) ∧ (some k_ ≠ (.slice Ao58 tH.length co58 : Value).ownBlock ∧ (some k_ ≠ (.slice Ao59 tF.length co59 : Value).ownBlock ∧ (k_ ≠ gbE ∧ (k_ ≠ gbC ∧ (k_ ≠ gA ∧ k_ ≠ gbD)))))) ∧ k_ ≠ gbB)) (zX HOI.o) (fun k_ hk_ => (⟨hk_, hk_.1.2.2.2.2.2.1⟩ : _ ∧ k_ ≠ gA))) hk (fun _ h => h.2)) (fun _ h => h.1)); replace HOJ := aM (Kd.N_mono (Kd.N_keep (Kd.N_mono (ok := fun k_ => ((((w.heap.size ≤ k_)) ∧ (some k_ ≠ (.slice Ao57 tG.length co57 : Value).ownBlock ∧ (some k_ ≠ (.slice Ao59 tF.length co59 : Value).ownBlock ∧ (k_ ≠ gbE ∧ (k_ ≠ gbC ∧ (k_ ≠ gA ∧ k_ ≠ gbD)))))) ∧ k_ ≠ gbB)) (zX HOJ.o) (fun k_ hk_ => (⟨hk_, hk_.1.2.2.2.2.2.1⟩ : _ ∧ k_ ≠ gA))) hk (fun _ h => h.2)) (fun _ h => h.1)); replace HOK := aM (Kd.R_mono (Kd.R_keep (IsS98.apart (show IsS98 w _ gA tM tW tX from zI4 HIA.o NBA_E.o NBA_C.o NBA_D.o NBA_B.o) (zR HOK.o) (by decide)) hk (fun _ h => h.2)) (fun _ h => h.1)); replace BKD := zBK hk BKD NBD_A; replace BKB := zBK hk BKB NBB_A; replace HB := aM hb; replace HIA := aM hi
     clear hi hb hk
     refine hK.out _ _ (zc4 BKD.o) fun hHeld => ?_; clear hK K
     refine nZ 15 ?_
     refine pY 5 16 (fB 9 191) HT_.o ?_
     refine oN 6 17 (fB 9 255) HT_.o fun K hK => ?_
     refine gS Try.func82 #[.pointer (some ⟨gA, 0, none⟩), .int .i64 tL, .int .i64 (wrap64 (1 + tV))] ?_
     with_reducible refine (spec_l8Timer.calls gA tM tZ tA0 tL (wrap64 (1 + tV)) tQ tT tU tA1 tA2 w _ ?side1 ?side2 A5.o).mono ?_
     (case side1 => exact zI4 HIA.o NBA_E.o NBA_C.o NBA_D.o NBA_B.o)
     (case side2 => exact zL5 HB.o (IsS98.ge HIA.o) GEE.o GEC.o GED.o GEB.o)
     rintro e w64 ⟨rfl, hi, hb, hk⟩
     refine ⟨_, rfl, ?_⟩
     replace BKE := zBK hk BKE NBE_A; replace BKC := zBK hk BKC NBC_A; replace HOI := aM (Kd.N_mono (Kd.N_keep (Kd.N_mono (ok := fun k_ => ((((w.heap.size ≤ k_)) ∧ (some k_ ≠ (.slice Ao58 tH.length co58 : Value).ownBlock ∧ (some k_ ≠ (.slice Ao59 tF.length co59 : Value).ownBlock ∧ (k_ ≠ gbE ∧ (k_ ≠ gbC ∧ (k_ ≠ gA ∧ k_ ≠ gbD)))))) ∧ k_ ≠ gbB)) (zX HOI.o) (fun k_ hk_ => (⟨hk_, hk_.1.2.2.2.2.2.1⟩ : _ ∧ k_ ≠ gA))) hk (fun _ h => h.2)) (fun _ h => h.1)); replace HOJ := aM (Kd.N_mono (Kd.N_keep (Kd.N_mono (ok := fun k_ => ((((w.heap.size ≤ k_)) ∧ (some k_ ≠ (.slice Ao57 tG.length co57 : Value).ownBlock ∧ (some k_ ≠ (.slice Ao59 tF.length co59 : Value).ownBlock ∧ (k_ ≠ gbE ∧ (k_ ≠ gbC ∧ (k_ ≠ gA ∧ k_ ≠ gbD)))))) ∧ k_ ≠ gbB)) (zX HOJ.o) (fun k_ hk_ => (⟨hk_, hk_.1.2.2.2.2.2.1⟩ : _ ∧ k_ ≠ gA))) hk (fun _ h => h.2)) (fun _ h => h.1)); replace HOK := aM (Kd.R_mono (Kd.R_keep (IsS98.apart (show IsS98 w _ gA tM tZ tA0 from zI4 HIA.o NBA_E.o NBA_C.o NBA_D.o NBA_B.o) (zR HOK.o) (by decide)) hk (fun _ h => h.2)) (fun _ h => h.1)); replace BKD := zBK hk BKD NBD_A; replace BKB := zBK hk BKB NBB_A; replace HB := aM hb; replace HIA := aM hi
     clear hi hb hk
     refine hK.out _ _ (zc4 BKD.o) fun hHeld => ?_; clear hK K
     refine nZ 17 ?_
     exact norm_ (by simp only [putAll, Act.put, List.setIfInBounds_toArray, List.set_cons_zero, List.set_cons_succ]) (hCont (gbB) _ ⟨hHeld, (zXm HOI.o (fun _ hk => ⟨hk.1.1, ⟨hk.1.2.1, ⟨hk.1.2.2.1, ⟨hk.1.2.2.2.1, ⟨hk.1.2.2.2.2.1, ⟨hk.1.2.2.2.2.2.1, ⟨hk.1.2.2.2.2.2.2, hk.2⟩⟩⟩⟩⟩⟩⟩)), (zXm HOJ.o (fun _ hk => ⟨hk.1.1, ⟨hk.1.2.1, ⟨hk.1.2.2.1, ⟨hk.1.2.2.2.1, ⟨hk.1.2.2.2.2.1, ⟨hk.1.2.2.2.2.2.1, ⟨hk.1.2.2.2.2.2.2, hk.2⟩⟩⟩⟩⟩⟩⟩)), (zRm HOK.o (fun _ hk => ⟨hk.1.1, ⟨hk.1.2, hk.2⟩⟩)), (zB BKE.o), (zB BKC.o), (zB BKD.o), (zB BKB.o), GWB.o, GEB.o, NBA_B.o, NBB_A.o, NBE_B.o, NBB_E.o, NBC_B.o, NBB_C.o, NBD_B.o, NBB_D.o, (zI4 HIA.o NBA_E.o NBA_C.o NBA_D.o NBA_B.o), (zL5 HB.o (IsS98.ge HIA.o) GEE.o GEC.o GED.o GEB.o)⟩)
   rintro gbB w65 ⟨hS_, h0_, h1_, h2_, h3_, h4_, h5_, h6_, h7_, h8_, h9_, h10_, h11_, h12_, h13_, h14_, h15_, h16_, h17_, h18_⟩
   have n0_ : Aside0 (Kd.N (Kd.slice 46 k46) 23 w65 w.heap.size (fun k_ => (w.heap.size ≤ k_) ∧ some k_ ≠ (.slice Ao58 tH.length co58 : Value).ownBlock ∧ some k_ ≠ (.slice Ao59 tF.length co59 : Value).ownBlock ∧ k_ ≠ gbE ∧ k_ ≠ gbC ∧ k_ ≠ gA ∧ k_ ≠ gbD ∧ k_ ≠ gbB) (.slice Ao57 tG.length co57) tG) := ⟨h0_⟩
   have n1_ : Aside0 (Kd.N (Kd.slice 46 k46) 23 w65 w.heap.size (fun k_ => (w.heap.size ≤ k_) ∧ some k_ ≠ (.slice Ao57 tG.length co57 : Value).ownBlock ∧ some k_ ≠ (.slice Ao59 tF.length co59 : Value).ownBlock ∧ k_ ≠ gbE ∧ k_ ≠ gbC ∧ k_ ≠ gA ∧ k_ ≠ gbD ∧ k_ ≠ gbB) (.slice Ao58 tH.length co58) tH) := ⟨h1_⟩
   have n2_ : Aside0 (Kd.R k46 46 w65 w.heap.size (fun k_ => (w.heap.size ≤ k_) ∧ k_ ≠ gbC ∧ k_ ≠ gbB) (.slice Ao59 tF.length co59) tF) := ⟨h2_⟩
   have n3_ : Aside0 (w65.heap[gbE]? = some (.cells #[.int .i64 0, .slice none 0 0, .slice none 0 0, .slice none 0 0] 25 (0, 0))) := ⟨h3_⟩
   have n4_ : Aside0 (w65.heap[gbC]? = some (.cells #[.int .i64 0, .int .i64 0, .int .i64 0] 46 (0, 0))) := ⟨h4_⟩
   have n5_ : Aside0 (w65.heap[gbD]? = some (.cells #[.int .i64 tL, .slice Ao57 tG.length co57, .slice Ao58 tH.length co58, .slice Ao59 tF.length co59] 25 (0, 0))) := ⟨h5_⟩
   have n6_ : Aside0 (w65.heap[gbB]? = some (.cells #[.int .i64 0, .int .i64 0, .int .i64 0] 46 (0, 0))) := ⟨h6_⟩
   have n7_ : Aside0 (w.heap.size ≤ gbB) := ⟨h7_⟩
   have n8_ : Aside0 (w.heap.size ≤ gbB) := ⟨h8_⟩
   have n9_ : Aside0 (gA ≠ gbB) := ⟨h9_⟩
   have n10_ : Aside0 (gbB ≠ gA) := ⟨h10_⟩
   have n11_ : Aside0 (gbE ≠ gbB) := ⟨h11_⟩
   have n12_ : Aside0 (gbB ≠ gbE) := ⟨h12_⟩
   have n13_ : Aside0 (gbC ≠ gbB) := ⟨h13_⟩
   have n14_ : Aside0 (gbB ≠ gbC) := ⟨h14_⟩
   have n15_ : Aside0 (gbD ≠ gbB) := ⟨h15_⟩
   have n16_ : Aside0 (gbB ≠ gbD) := ⟨h16_⟩
   have n17_ : Aside0 (IsS98 w w65 gA tM tA1 tA2) := ⟨h17_⟩
   have n18_ : Aside0 (Below w.heap.size w w65) := ⟨h18_⟩
   clear HOI
   clear HOJ
   clear HOK
   clear BKE BKC BKD
   clear HIA
   clear HB
   clear h0_ h1_ h2_ h3_ h4_ h5_ h6_ h7_ h8_ h9_ h10_ h11_ h12_ h13_ h14_ h15_ h16_ h17_ h18_
   have HOI := n0_
   have HOJ := n1_
   have HOK := n2_
   have BKE := n3_
   have BKC := n4_
   have BKD := n5_
   have BKB := n6_
   have GWB := n7_
   have GEB := n8_
   have NBA_B := n9_
   have NBB_A := n10_
   have NBE_B := n11_
   have NBB_E := n12_
   have NBC_B := n13_
   have NBB_C := n14_
   have NBD_B := n15_
   have NBB_D := n16_
   have HIA := n17_
   have HB := n18_
   clear n0_ n1_ n2_ n3_ n4_ n5_ n6_ n7_ n8_ n9_ n10_ n11_ n12_ n13_ n14_ n15_ n16_ n17_ n18_
   have hHeld : w65.cell? ⟨gbD, 0, none⟩ = some (.int .i64 tL) ∧ w65.cell? ⟨gbD, 1, none⟩ = some (.slice Ao57 tG.length co57) ∧ w65.cell? ⟨gbD, 2, none⟩ = some (.slice Ao58 tH.length co58) ∧ w65.cell? ⟨gbD, 3, none⟩ = some (.slice Ao59 tF.length co59) := hS_
   refine norm_ (a' := ?_) ?_ ?_
   rotate_left
   ·simp only [putAll, Act.put, List.setIfInBounds_toArray, List.set_cons_zero, List.set_cons_succ]
    rfl
   refine one_ (i := 8) (N := none) (fB 9 511) rfl rfl (one_of HT_.o (by kernel_rfl)) (by decide) (fun K hK => ?_)
   have hs66 : w65.cell? ⟨gbB, 0, none⟩ = some (.int .i64 0) := (bC BKB.o 0).trans rfl
   have hfs66 := blk_frozen BKB.o 0
   have hns66_0 := NBE_B.o
   have hns66_1 := NBC_B.o
   have hns66_2 := NBD_B.o
   have hms66_0 := NBB_E.o
   have hms66_1 := NBB_C.o
   have hms66_2 := NBB_D.o
   have hs67 : w65.cell? ⟨gbB, 1, none⟩ = some (.int .i64 0) := (bC BKB.o 1).trans rfl
   have hfs67 := blk_frozen BKB.o 1
   have hns67_0 := NBE_B.o
   have hns67_1 := NBC_B.o
   have hns67_2 := NBD_B.o
   have hms67_0 := NBB_E.o
   have hms67_1 := NBB_C.o
   have hms67_2 := NBB_D.o
   have hs68 : w65.cell? ⟨gbB, 2, none⟩ = some (.int .i64 0) := (bC BKB.o 2).trans rfl
   have hfs68 := blk_frozen BKB.o 2
   have hns68_0 := NBE_B.o
   have hns68_1 := NBC_B.o
   have hns68_2 := NBD_B.o
   have hms68_0 := NBB_E.o
   have hms68_1 := NBB_C.o
   have hms68_2 := NBB_D.o
   refine skip_ (w1 := ?_) (by rfl) rfl ?_ ?_
   rotate_left
   ·go_simp
    rfl
   refine hK.out _ _ ⟨((cell_far (p := ⟨gbB, _, none⟩) NBD_B.o _).trans (((cell_far (p := ⟨gbB, _, none⟩) NBD_B.o _).trans (((cell_far (p := ⟨gbB, _, none⟩) NBD_B.o _).trans (hHeld.1)))))), ((cell_far (p := ⟨gbB, _, none⟩) NBD_B.o _).trans (((cell_far (p := ⟨gbB, _, none⟩) NBD_B.o _).trans (((cell_far (p := ⟨gbB, _, none⟩) NBD_B.o _).trans (hHeld.2.1)))))), ((cell_far (p := ⟨gbB, _, none⟩) NBD_B.o _).trans (((cell_far (p := ⟨gbB, _, none⟩) NBD_B.o _).trans (((cell_far (p := ⟨gbB, _, none⟩) NBD_B.o _).trans (hHeld.2.2.1)))))), ((cell_far (p := ⟨gbB, _, none⟩) NBD_B.o _).trans (((cell_far (p := ⟨gbB, _, none⟩) NBD_B.o _).trans (((cell_far (p := ⟨gbB, _, none⟩) NBD_B.o _).trans (hHeld.2.2.2))))))⟩ fun hHeld => ?_; clear hK K
   refine done_ (done_of HT_.o (by kernel_rfl)) ?_
   try go_wp2_with (first | ((with_reducible refine gC 83 rfl ?_); refine gL 19 Try.func83 #[.pointer (some ⟨gA, 0, none⟩), .int .i64 8] ?_; (with_reducible refine (spec_l1Below.calls gA tM tA1 tA2 8 tA6 tB2 tB3 w _ ?side1 ?side2 A6.o).mono ?_); (case side1 => exact zI4 HIA.o NBA_E.o NBA_C.o NBA_D.o NBA_B.o); (case side2 => exact zL5 HB.o (IsS98.ge HIA.o) GEE.o GEC.o GED.o GEB.o); rintro e w69 ⟨rfl, hi, hb, hk⟩; refine ⟨_, rfl, ?_⟩; replace BKE := aM (zQ2 (.cells #[.int .i64 0, .slice none 0 0, .slice none 0 0, .slice none 0 0] 25 (0, 0)) hk (by refine zB ?_; refine blk_far ?_ NBE_B.o _; refine zB ?_; refine blk_far ?_ NBE_B.o _; refine zB ?_; refine blk_far ?_ NBE_B.o _; exact zB BKE.o) NBE_A.o (by simp)); replace BKC := aM (zQ2 (.cells #[.int .i64 0, .int .i64 0, .int .i64 0] 46 (0, 0)) hk (by refine zB ?_; refine blk_far ?_ NBC_B.o _; refine zB ?_; refine blk_far ?_ NBC_B.o _; refine zB ?_; refine blk_far ?_ NBC_B.o _; exact zB BKC.o) NBC_A.o (by simp)); replace HOI := aM (Kd.N_mono (Kd.N_keep (Kd.N_mono (ok := fun k_ => (((w.heap.size ≤ k_)) ∧ (some k_ ≠ (.slice Ao58 tH.length co58 : Value).ownBlock ∧ (some k_ ≠ (.slice Ao59 tF.length co59 : Value).ownBlock ∧ (k_ ≠ gbE ∧ (k_ ≠ gbC ∧ (k_ ≠ gA ∧ (k_ ≠ gbD ∧ k_ ≠ gbB)))))))) (by refine zX ?_; exact (Kd.N_mono (Kd.N_far (p := ⟨gbB, 2, none⟩) (Kd.N_far (p := ⟨gbB, 1, none⟩) (Kd.N_far (p := ⟨gbB, 0, none⟩) (Kd.N_mono HOI.o (fun k_ hk => (⟨hk, hk.2.2.2.2.2.2.2⟩ : _ ∧ k_ ≠ gbB))) (fun _ hk => hk.2) (.int .i64 tQ)) (fun _ hk => hk.2) (.int .i64 tT)) (fun _ hk => hk.2) (.int .i64 tU)) (fun _ h_ => h_.1))) (fun k_ hk_ => (⟨hk_, hk_.2.2.2.2.2.1⟩ : _ ∧ k_ ≠ gA))) hk (fun _ h => h.2)) (fun _ h => h.1)); replace HOJ := aM (Kd.N_mono (Kd.N_keep (Kd.N_mono (ok := fun k_ => (((w.heap.size ≤ k_)) ∧ (some k_ ≠ (.slice Ao57 tG.length co57 : Value).ownBlock ∧ (some k_ ≠ (.slice Ao59 tF.length co59 : Value).ownBlock ∧ (k_ ≠ gbE ∧ (k_ ≠ gbC ∧ (k_ ≠ gA ∧ (k_ ≠ gbD ∧ k_ ≠ gbB)))))))) (by refine zX ?_; exact (Kd.N_mono (Kd.N_far (p := ⟨gbB, 2, none⟩) (Kd.N_far (p := ⟨gbB, 1, none⟩) (Kd.N_far (p := ⟨gbB, 0, none⟩) (Kd.N_mono HOJ.o (fun k_ hk => (⟨hk, hk.2.2.2.2.2.2.2⟩ : _ ∧ k_ ≠ gbB))) (fun _ hk => hk.2) (.int .i64 tQ)) (fun _ hk => hk.2) (.int .i64 tT)) (fun _ hk => hk.2) (.int .i64 tU)) (fun _ h_ => h_.1))) (fun k_ hk_ => (⟨hk_, hk_.2.2.2.2.2.1⟩ : _ ∧ k_ ≠ gA))) hk (fun _ h => h.2)) (fun _ h => h.1)); replace HOK := aM (Kd.R_mono (Kd.R_keep (IsS98.apart (show IsS98 w _ gA tM tA1 tA2 from zI4 HIA.o NBA_E.o NBA_C.o NBA_D.o NBA_B.o) (by refine zR ?_; exact (Kd.R_mono (Kd.R_far (p := ⟨gbB, 2, none⟩) (Kd.R_far (p := ⟨gbB, 1, none⟩) (Kd.R_far (p := ⟨gbB, 0, none⟩) (Kd.R_mono HOK.o (fun k_ hk => (⟨hk, hk.2.2⟩ : _ ∧ k_ ≠ gbB))) (fun _ hk => hk.2) (.int .i64 tQ)) (fun _ hk => hk.2) (.int .i64 tT)) (fun _ hk => hk.2) (.int .i64 tU)) (fun _ h_ => h_.1))) (by decide)) hk (fun _ h => h.2)) (fun _ h => h.1)); replace BKD := aM (zQ2 (.cells #[.int .i64 tL, .slice Ao57 tG.length co57, .slice Ao58 tH.length co58, .slice Ao59 tF.length co59] 25 (0, 0)) hk (by refine zB ?_; refine blk_far ?_ NBD_B.o _; refine zB ?_; refine blk_far ?_ NBD_B.o _; refine zB ?_; refine blk_far ?_ NBD_B.o _; exact zB BKD.o) NBD_A.o (by simp)); replace BKB := aM (zQ2 (.cells #[.int .i64 tQ, .int .i64 tT, .int .i64 tU] 46 (0, 0)) hk (by refine zB ?_; refine blk_put (cs := #[.int .i64 tQ, .int .i64 tT, .int .i64 0]) ?_ 2 _ rfl; refine zB ?_; refine blk_put (cs := #[.int .i64 tQ, .int .i64 0, .int .i64 0]) ?_ 1 _ rfl; refine zB ?_; refine blk_put (cs := #[.int .i64 0, .int .i64 0, .int .i64 0]) ?_ 0 _ rfl; exact zB BKB.o) NBB_A.o (by simp)); replace HB := aM hb; replace HIA := aM hi; clear hi hb hk) | ((with_reducible refine gD 28 rfl ?_); refine Kd.R_lit (Kd.int .i64) _ 3 ?hg (N := 28) ?hd (xs := ([0, 1000] : List Int)) (inner := [.int .i64 0, .int .i64 1000]) (ok := fun _ => True) (okp := fun _ => True) ?hr ?hp (fun _ hk => hk) trivial (Below.refl _ _) (Nat.le_refl _) (by simp) ?_; (case hd => rfl); (case hg => rfl); (case hr => first | (go_simp; done) | (go_simp; rfl)); (case hp => exact zhp); intro vH0 w70 ho71 hb hg_ hnew_; clear hg_ hnew_; (first | rw [← NyA9.o] at ho71 | (simp only [Int.reduceToNat] at ho71; rw [← NyA9.o] at ho71)); replace HOI := aM (Kd.N_elder' (zX HOI.o) (Kd.R_base ho71) hb); replace HOJ := aM (Kd.N_elder' (zX HOJ.o) (Kd.R_base ho71) hb); replace HOK := zRB HOK hb; have HOB4 := aM (Kd.R_lower (Kd.R_newM (M := fun k_ => (w.heap.size ≤ k_)) ho71 (below_size (zL5 HB.o (IsS98.ge HIA.o) GEE.o GEC.o GED.o GEB.o)) (fun k_ h_ => h_)) (below_size (zL5 HB.o (IsS98.ge HIA.o) GEE.o GEC.o GED.o GEB.o))); replace BKE := zBB BKE hb; replace BKC := zBB BKC hb; replace BKD := zBB BKD hb; replace BKB := zBB BKB hb; replace HB := zLB (zL5 HB.o (IsS98.ge HIA.o) GEE.o GEC.o GED.o GEB.o) hb; replace HIA := aM (IsS98.below (zI4 HIA.o NBA_E.o NBA_C.o NBA_D.o NBA_B.o) hb); clear hb ho71; obtain ⟨Ao72, co72, eo72⟩ := Kd.R_slice HOB4.o; subst eo72) | ((with_reducible refine gC 85 rfl ?_); refine gL 29 Try.func85 #[.pointer (some ⟨gA, 0, none⟩), .slice Ao72 yA9.length co72] ?_; (with_reducible refine (spec_l1Int.calls gA tM tB2 tB3 _ _ yA9 tA4 tE8 tE9 w _ ?side1 ?side2 ?side3 ?side4 ?side5 A47.o).mono ?_); (case side1 => exact zI4 HIA.o NBA_E.o NBA_C.o NBA_D.o NBA_B.o); (case side2 => exact zL5 HB.o (IsS98.ge HIA.o) GEE.o GEC.o GED.o GEB.o); (case side3 => exact zC (Kd.R_reads' HOB4.o).2.2); (case side4 => exact (Kd.R_reads' HOB4.o).2.1); (case side5 => exact far_slice (IsS98.own_ne HIA.o HOB4.o (by decide))); rintro e w73 ⟨rfl, hi, hb, hk⟩; refine ⟨_, rfl, ?_⟩; replace BKE := zBK hk BKE NBE_A; replace BKC := zBK hk BKC NBC_A; replace HOI := aM (Kd.N_mono (Kd.N_keep (Kd.N_mono (ok := fun k_ => ((((w.heap.size ≤ k_)) ∧ (some k_ ≠ (.slice Ao58 tH.length co58 : Value).ownBlock ∧ (some k_ ≠ (.slice Ao59 tF.length co59 : Value).ownBlock ∧ (k_ ≠ gbE ∧ (k_ ≠ gbC ∧ (k_ ≠ gA ∧ (k_ ≠ gbD ∧ k_ ≠ gbB))))))) ∧ some k_ ≠ (.slice Ao72 yA9.length co72 : Value).ownBlock)) (zX HOI.o) (fun k_ hk_ => (⟨hk_, hk_.1.2.2.2.2.2.1⟩ : _ ∧ k_ ≠ gA))) hk (fun _ h => h.2)) (fun _ h => h.1)); replace HOJ := aM (Kd.N_mono (Kd.N_keep (Kd.N_mono (ok := fun k_ => ((((w.heap.size ≤ k_)) ∧ (some k_ ≠ (.slice Ao57 tG.length co57 : Value).ownBlock ∧ (some k_ ≠ (.slice Ao59 tF.length co59 : Value).ownBlock ∧ (k_ ≠ gbE ∧ (k_ ≠ gbC ∧ (k_ ≠ gA ∧ (k_ ≠ gbD ∧ k_ ≠ gbB))))))) ∧ some k_ ≠ (.slice Ao72 yA9.length co72 : Value).ownBlock)) (zX HOJ.o) (fun k_ hk_ => (⟨hk_, hk_.1.2.2.2.2.2.1⟩ : _ ∧ k_ ≠ gA))) hk (fun _ h => h.2)) (fun _ h => h.1)); replace HOK := aM (Kd.R_mono (Kd.R_keep (IsS98.apart (show IsS98 w _ gA tM tB2 tB3 from zI4 HIA.o NBA_E.o NBA_C.o NBA_D.o NBA_B.o) (zR HOK.o) (by decide)) hk (fun _ h => h.2)) (fun _ h => h.1)); replace BKD := zBK hk BKD NBD_A; replace BKB := zBK hk BKB NBB_A; replace HOB4 := aM (Kd.R_mono (Kd.R_keep (IsS98.apart (show IsS98 w _ gA tM tB2 tB3 from zI4 HIA.o NBA_E.o NBA_C.o NBA_D.o NBA_B.o) (zR HOB4.o) (by decide)) hk (fun _ h => h.2)) (fun _ h => h.1)); replace HB := aM hb; replace HIA := aM hi; clear hi hb hk; have hnb74 := NBB_E.o; have hnc74 := NBE_B.o; have hnb75 := NBB_C.o; have hnc75 := NBC_B.o; have hnb76 := NBB_D.o; have hnc76 := NBD_B.o; have hnb77 := NBB_A.o; have hnc77 := NBA_B.o; have hcz78_0 : w73.cell? ⟨gbB, 0, none⟩ = some (.int .i64 tQ) := (bC BKB.o 0).trans rfl; have hcz78_1 : w73.cell? ⟨gbB, 1, none⟩ = some (.int .i64 tT) := (bC BKB.o 1).trans rfl; have hcz78_2 : w73.cell? ⟨gbB, 2, none⟩ = some (.int .i64 tU) := (bC BKB.o 2).trans rfl; have hfz78_0 := blk_frozen BKB.o 0; have hfz78_1 := blk_frozen BKB.o 1; have hfz78_2 := blk_frozen BKB.o 2))
   have n0_ : Aside0 (Kd.N (Kd.slice 46 k46) 23 (w73.setCell ⟨gbB, 1, none⟩ (.int .i64 tA4)) w.heap.size (fun k_ => (w.heap.size ≤ k_) ∧ some k_ ≠ (.slice Ao58 tH.length co58 : Value).ownBlock ∧ some k_ ≠ (.slice Ao59 tF.length co59 : Value).ownBlock ∧ some k_ ≠ (.slice Ao72 yA9.length co72 : Value).ownBlock ∧ k_ ≠ gbE ∧ k_ ≠ gbC ∧ k_ ≠ gA ∧ k_ ≠ gbD ∧ k_ ≠ gbB) (.slice Ao57 tG.length co57) tG) := ⟨by refine zX ?_; exact Kd.N_mono (Kd.N_far (p := ⟨gbB, 1, none⟩) (Kd.N_mono HOI.o (fun k_ hk => (⟨hk, hk.1.2.2.2.2.2.2.2⟩ : _ ∧ k_ ≠ gbB))) (fun _ hk => hk.2) (.int .i64 tA4)) (fun _ hk => ⟨hk.1.1.1, ⟨hk.1.1.2.1, ⟨hk.1.1.2.2.1, ⟨hk.1.2, ⟨hk.1.1.2.2.2.1, ⟨hk.1.1.2.2.2.2.1, ⟨hk.1.1.2.2.2.2.2.1, ⟨hk.1.1.2.2.2.2.2.2.1, hk.1.1.2.2.2.2.2.2.2⟩⟩⟩⟩⟩⟩⟩⟩)⟩
   have n1_ : Aside0 (Kd.N (Kd.slice 46 k46) 23 (w73.setCell ⟨gbB, 1, none⟩ (.int .i64 tA4)) w.heap.size (fun k_ => (w.heap.size ≤ k_) ∧ some k_ ≠ (.slice Ao57 tG.length co57 : Value).ownBlock ∧ some k_ ≠ (.slice Ao59 tF.length co59 : Value).ownBlock ∧ some k_ ≠ (.slice Ao72 yA9.length co72 : Value).ownBlock ∧ k_ ≠ gbE ∧ k_ ≠ gbC ∧ k_ ≠ gA ∧ k_ ≠ gbD ∧ k_ ≠ gbB) (.slice Ao58 tH.length co58) tH) := ⟨by refine zX ?_; exact Kd.N_mono (Kd.N_far (p := ⟨gbB, 1, none⟩) (Kd.N_mono HOJ.o (fun k_ hk => (⟨hk, hk.1.2.2.2.2.2.2.2⟩ : _ ∧ k_ ≠ gbB))) (fun _ hk => hk.2) (.int .i64 tA4)) (fun _ hk => ⟨hk.1.1.1, ⟨hk.1.1.2.1, ⟨hk.1.1.2.2.1, ⟨hk.1.2, ⟨hk.1.1.2.2.2.1, ⟨hk.1.1.2.2.2.2.1, ⟨hk.1.1.2.2.2.2.2.1, ⟨hk.1.1.2.2.2.2.2.2.1, hk.1.1.2.2.2.2.2.2.2⟩⟩⟩⟩⟩⟩⟩⟩)⟩
   have n2_ : Aside0 (Kd.R k46 46 (w73.setCell ⟨gbB, 1, none⟩ (.int .i64 tA4)) w.heap.size (fun k_ => (w.heap.size ≤ k_) ∧ k_ ≠ gbC ∧ k_ ≠ gbB) (.slice Ao59 tF.length co59) tF) := ⟨by refine zR ?_; exact Kd.R_mono (Kd.R_far (p := ⟨gbB, 1, none⟩) (Kd.R_mono HOK.o (fun k_ hk => (⟨hk, hk.2.2⟩ : _ ∧ k_ ≠ gbB))) (fun _ hk => hk.2) (.int .i64 tA4)) (fun _ hk => ⟨hk.1.1, ⟨hk.1.2.1, hk.1.2.2⟩⟩)⟩
   have n3_ : Aside0 (Kd.R (Kd.int .i64) 3 (w73.setCell ⟨gbB, 1, none⟩ (.int .i64 tA4)) w.heap.size (fun k_ => (w.heap.size ≤ k_)) (.slice Ao72 yA9.length co72) yA9) := ⟨by refine zR ?_; exact Kd.R_mono (Kd.R_far (p := ⟨gbB, 1, none⟩) (Kd.R_types HOB4.o BKB.o (by decide)) (fun _ hk => hk.2) (.int .i64 tA4)) (fun _ hk => hk.1.1)⟩
   have n4_ : Aside0 ((w73.setCell ⟨gbB, 1, none⟩ (.int .i64 tA4)).heap[gbE]? = some (.cells #[.int .i64 0, .slice none 0 0, .slice none 0 0, .slice none 0 0] 25 (0, 0))) := ⟨by refine zB ?_; refine blk_far ?_ NBE_B.o _; exact zB BKE.o⟩
   have n5_ : Aside0 ((w73.setCell ⟨gbB, 1, none⟩ (.int .i64 tA4)).heap[gbC]? = some (.cells #[.int .i64 0, .int .i64 0, .int .i64 0] 46 (0, 0))) := ⟨by refine zB ?_; refine blk_far ?_ NBC_B.o _; exact zB BKC.o⟩
   have n6_ : Aside0 ((w73.setCell ⟨gbB, 1, none⟩ (.int .i64 tA4)).heap[gbD]? = some (.cells #[.int .i64 tL, .slice Ao57 tG.length co57, .slice Ao58 tH.length co58, .slice Ao59 tF.length co59] 25 (0, 0))) := ⟨by refine zB ?_; refine blk_far ?_ NBD_B.o _; exact zB BKD.o⟩
   have n7_ : Aside0 ((w73.setCell ⟨gbB, 1, none⟩ (.int .i64 tA4)).heap[gbB]? = some (.cells #[.int .i64 tQ, .int .i64 tA4, .int .i64 tU] 46 (0, 0))) := ⟨by refine zB ?_; refine blk_put (cs := #[.int .i64 tQ, .int .i64 tT, .int .i64 tU]) ?_ 1 _ rfl; exact zB BKB.o⟩
   have n8_ : Aside0 (IsS98 w (w73.setCell ⟨gbB, 1, none⟩ (.int .i64 tA4)) gA tM tE8 tE9) := ⟨zI4 HIA.o NBA_E.o NBA_C.o NBA_D.o NBA_B.o⟩
   have n9_ : Aside0 (Below w.heap.size w (w73.setCell ⟨gbB, 1, none⟩ (.int .i64 tA4))) := ⟨zL5 HB.o (IsS98.ge HIA.o) GEE.o GEC.o GED.o GEB.o⟩
   (try clear HOI)
   (try clear HOJ)
   (try clear HOK)
   (try clear HOB4)
   (try clear BKE)
   (try clear BKC)
   (try clear BKD)
   (try clear BKB)
   (try clear HIA)
   (try clear HB)
   generalize (w73.setCell ⟨gbB, 1, none⟩ (.int .i64 tA4)) = w79 at n0_ n1_ n2_ n3_ n4_ n5_ n6_ n7_ n8_ n9_ ⊢
   have HOI := n0_
   have HOJ := n1_
   have HOK := n2_
   have HOB4 := n3_
   have BKE := n4_
   have BKC := n5_
   have BKD := n6_
   have BKB := n7_
   have HIA := n8_
   have HB := n9_
   clear n0_ n1_ n2_ n3_ n4_ n5_ n6_ n7_ n8_ n9_
   replace HOI := zXD HOI; replace HOJ := zXD HOJ; replace HOK := zRD HOK; replace HOB4 := zRD HOB4; replace BKE := zBD BKE; replace BKC := zBD BKC; replace BKD := zBD BKD; replace BKB := zBD BKB; replace HIA := aM (IsS98.drew HIA.o); replace HB := zLD HB
   refine start_ (n := 4) (S := fun w' => w'.cell? ⟨gbD, 0, none⟩ = some (.int .i64 tL) ∧ w'.cell? ⟨gbD, 1, none⟩ = some (.slice Ao57 tG.length co57) ∧ w'.cell? ⟨gbD, 2, none⟩ = some (.slice Ao58 tH.length co58) ∧ w'.cell? ⟨gbD, 3, none⟩ = some (.slice Ao59 tF.length co59) ∧ w'.cell? ⟨gbB, 0, none⟩ = some (.int .i64 tQ) ∧ w'.cell? ⟨gbB, 1, none⟩ = some (.int .i64 tA4) ∧ w'.cell? ⟨gbB, 2, none⟩ = some (.int .i64 tU)) (ds := []) #[false, false, false, false] (by kernel_rfl) rfl rfl ⟨(bC BKD.o 0).trans rfl, (bC BKD.o 1).trans rfl, (bC BKD.o 2).trans rfl, (bC BKD.o 3).trans rfl, (bC BKB.o 0).trans rfl, (bC BKB.o 1).trans rfl, (bC BKB.o 2).trans rfl⟩ (fun hHeld => ?_)
   generalize w79.drew = w80 at HOI HOJ HOK HOB4 BKE BKC BKD BKB HIA HB hHeld ⊢
   refine take_ (i := 0) (N := some 37) (v := ?_) (a' := ?_) (fB 4 1) rfl rfl (by kernel_rfl) (fun _ _ _ h => h) (Or.inl ⟨by rfl, ?_⟩) hHeld ?_ ?_
   rotate_left
   ·rintro w' ⟨s0, s1, s2, s3, s4, s5, s6⟩; go_simp; with_reducible rfl
   rotate_left
   ·exact zP
   refine take_ (i := 1) (N := some 38) (v := ?_) (a' := ?_) (fB 4 3) rfl rfl (by kernel_rfl) (fun _ _ _ h => h) (Or.inl ⟨by rfl, ?_⟩) hHeld ?_ ?_
   rotate_left
   ·rintro w' ⟨s0, s1, s2, s3, s4, s5, s6⟩; go_simp; with_reducible rfl
   rotate_left
   ·exact zP
   refine one_ (i := 2) (N := none) (fB 4 7) rfl rfl (by kernel_rfl) (by decide) (fun K hK => ?_)
   have hs81 : w80.cell? ⟨gbE, 0, none⟩ = some (.int .i64 0) := (bC BKE.o 0).trans rfl
   have hfs81 := blk_frozen BKE.o 0
   have hns81_1 := NBC_E.o
   have hns81_2 := NBD_E.o
   have hns81_3 := NBB_E.o
   have hms81_1 := NBE_C.o
   have hms81_2 := NBE_D.o
   have hms81_3 := NBE_B.o
   have hs82 : w80.cell? ⟨gbE, 1, none⟩ = some (.slice none 0 0) := (bC BKE.o 1).trans rfl
   have hfs82 := blk_frozen BKE.o 1
   have hns82_1 := NBC_E.o
   have hns82_2 := NBD_E.o
   have hns82_3 := NBB_E.o
   have hms82_1 := NBE_C.o
   have hms82_2 := NBE_D.o
   have hms82_3 := NBE_B.o
   have hs83 : w80.cell? ⟨gbE, 2, none⟩ = some (.slice none 0 0) := (bC BKE.o 2).trans rfl
   have hfs83 := blk_frozen BKE.o 2
   have hns83_1 := NBC_E.o
   have hns83_2 := NBD_E.o
   have hns83_3 := NBB_E.o
   have hms83_1 := NBE_C.o
   have hms83_2 := NBE_D.o
   have hms83_3 := NBE_B.o
   have hs84 : w80.cell? ⟨gbE, 3, none⟩ = some (.slice none 0 0) := (bC BKE.o 3).trans rfl
   have hfs84 := blk_frozen BKE.o 3
   have hns84_1 := NBC_E.o
   have hns84_2 := NBD_E.o
   have hns84_3 := NBB_E.o
   have hms84_1 := NBE_C.o
   have hms84_2 := NBE_D.o
   have hms84_3 := NBE_B.o
   refine skip_ (w1 := ?_) (by rfl) rfl ?_ ?_
   rotate_left
   ·go_simp
    rfl
   refine hK.out _ _ ⟨zcf4 NBD_E.o hHeld.1, zcf4 NBD_E.o hHeld.2.1, zcf4 NBD_E.o hHeld.2.2.1, zcf4 NBD_E.o hHeld.2.2.2.1, zcf4 NBB_E.o hHeld.2.2.2.2.1, zcf4 NBB_E.o hHeld.2.2.2.2.2.1, zcf4 NBB_E.o hHeld.2.2.2.2.2.2⟩ fun hHeld => ?_; clear hK K
   refine one_ (i := 3) (N := none) (fB 4 15) rfl rfl (by kernel_rfl) (by decide) (fun K hK => ?_)
   have hs85 : w80.cell? ⟨gbC, 0, none⟩ = some (.int .i64 0) := (bC BKC.o 0).trans rfl
   have hfs85 := blk_frozen BKC.o 0
   have hns85_0 := NBE_C.o
   have hns85_2 := NBD_C.o
   have hns85_3 := NBB_C.o
   have hms85_0 := NBC_E.o
   have hms85_2 := NBC_D.o
   have hms85_3 := NBC_B.o
   have hs86 : w80.cell? ⟨gbC, 1, none⟩ = some (.int .i64 0) := (bC BKC.o 1).trans rfl
   have hfs86 := blk_frozen BKC.o 1
   have hns86_0 := NBE_C.o
   have hns86_2 := NBD_C.o
   have hns86_3 := NBB_C.o
   have hms86_0 := NBC_E.o
   have hms86_2 := NBC_D.o
   have hms86_3 := NBC_B.o
   have hs87 : w80.cell? ⟨gbC, 2, none⟩ = some (.int .i64 0) := (bC BKC.o 2).trans rfl
   have hfs87 := blk_frozen BKC.o 2
   have hns87_0 := NBE_C.o
   have hns87_2 := NBD_C.o
   have hns87_3 := NBB_C.o
   have hms87_0 := NBC_E.o
   have hms87_2 := NBC_D.o
   have hms87_3 := NBC_B.o
   refine skip_ (w1 := ?_) (by rfl) rfl ?_ ?_
   rotate_left
   ·go_simp
    rfl
   refine hK.out _ _ ⟨((cell_far (p := ⟨gbC, _, none⟩) NBD_C.o _).trans (((cell_far (p := ⟨gbC, _, none⟩) NBD_C.o _).trans (((cell_far (p := ⟨gbC, _, none⟩) NBD_C.o _).trans (hHeld.1)))))), ((cell_far (p := ⟨gbC, _, none⟩) NBD_C.o _).trans (((cell_far (p := ⟨gbC, _, none⟩) NBD_C.o _).trans (((cell_far (p := ⟨gbC, _, none⟩) NBD_C.o _).trans (hHeld.2.1)))))), ((cell_far (p := ⟨gbC, _, none⟩) NBD_C.o _).trans (((cell_far (p := ⟨gbC, _, none⟩) NBD_C.o _).trans (((cell_far (p := ⟨gbC, _, none⟩) NBD_C.o _).trans (hHeld.2.2.1)))))), ((cell_far (p := ⟨gbC, _, none⟩) NBD_C.o _).trans (((cell_far (p := ⟨gbC, _, none⟩) NBD_C.o _).trans (((cell_far (p := ⟨gbC, _, none⟩) NBD_C.o _).trans (hHeld.2.2.2.1)))))), ((cell_far (p := ⟨gbC, _, none⟩) NBB_C.o _).trans (((cell_far (p := ⟨gbC, _, none⟩) NBB_C.o _).trans (((cell_far (p := ⟨gbC, _, none⟩) NBB_C.o _).trans (hHeld.2.2.2.2.1)))))), ((cell_far (p := ⟨gbC, _, none⟩) NBB_C.o _).trans (((cell_far (p := ⟨gbC, _, none⟩) NBB_C.o _).trans (((cell_far (p := ⟨gbC, _, none⟩) NBB_C.o _).trans (hHeld.2.2.2.2.2.1)))))), ((cell_far (p := ⟨gbC, _, none⟩) NBB_C.o _).trans (((cell_far (p := ⟨gbC, _, none⟩) NBB_C.o _).trans (((cell_far (p := ⟨gbC, _, none⟩) NBB_C.o _).trans (hHeld.2.2.2.2.2.2))))))⟩ fun hHeld => ?_; clear hK K
   refine done_ (by kernel_rfl) ?_
   try go_wp2
   refine bodyPost_ret (results_cc rfl _ _ gbE gbC 25 46 #[.int .i64 tL, .slice Ao57 tG.length co57, .slice Ao58 tH.length co58, .slice Ao59 tF.length co59] #[.int .i64 tQ, .int .i64 tA4, .int .i64 tU] (0, 0) (0, 0) _ _ rfl (by refine zB ?_; refine blk_far ?_ NBE_C.o _; refine zB ?_; refine blk_far ?_ NBE_C.o _; refine zB ?_; refine blk_far ?_ NBE_C.o _; refine zB ?_; refine zp4 (cs := #[.int .i64 0, .slice none 0 0, .slice none 0 0, .slice none 0 0]) ?_; exact zB BKE.o) Try.underlying25 rfl (by kernel_rfl) rfl (by refine zB ?_; refine blk_put (cs := #[.int .i64 tQ, .int .i64 tA4, .int .i64 0]) ?_ 2 _ rfl; refine zB ?_; refine blk_put (cs := #[.int .i64 tQ, .int .i64 0, .int .i64 0]) ?_ 1 _ rfl; refine zB ?_; refine blk_put (cs := #[.int .i64 0, .int .i64 0, .int .i64 0]) ?_ 0 _ rfl; refine zB ?_; refine zr4 ?_ NBC_E.o; exact zB BKC.o) Try.underlying46 rfl (by kernel_rfl)) rfl ?_
   exact ⟨_, _, _, zW, by refine zX ?_; exact Kd.N_mono (Kd.N_far (p := ⟨gbC, 2, none⟩) (Kd.N_far (p := ⟨gbC, 1, none⟩) (Kd.N_far (p := ⟨gbC, 0, none⟩) (zNF4 (Kd.N_mono (Kd.N_mono HOI.o (fun k_ hk => (⟨hk, hk.2.2.2.2.1⟩ : _ ∧ k_ ≠ gbE))) (fun k_ hk => (⟨hk, hk.1.2.2.2.2.2.1⟩ : _ ∧ k_ ≠ gbC))) gbE (fun _ hk => hk.1.2) (.int .i64 tL) (.slice Ao57 tG.length co57) (.slice Ao58 tH.length co58) (.slice Ao59 tF.length co59)) (fun _ hk => hk.2) (.int .i64 tQ)) (fun _ hk => hk.2) (.int .i64 tA4)) (fun _ hk => hk.2) (.int .i64 tU)) (fun _ hk => ⟨hk.1.1.1, ⟨hk.1.1.2.1, hk.1.1.2.2.1⟩⟩), by refine zX ?_; exact Kd.N_mono (Kd.N_far (p := ⟨gbC, 2, none⟩) (Kd.N_far (p := ⟨gbC, 1, none⟩) (Kd.N_far (p := ⟨gbC, 0, none⟩) (zNF4 (Kd.N_mono (Kd.N_mono HOJ.o (fun k_ hk => (⟨hk, hk.2.2.2.2.1⟩ : _ ∧ k_ ≠ gbE))) (fun k_ hk => (⟨hk, hk.1.2.2.2.2.2.1⟩ : _ ∧ k_ ≠ gbC))) gbE (fun _ hk => hk.1.2) (.int .i64 tL) (.slice Ao57 tG.length co57) (.slice Ao58 tH.length co58) (.slice Ao59 tF.length co59)) (fun _ hk => hk.2) (.int .i64 tQ)) (fun _ hk => hk.2) (.int .i64 tA4)) (fun _ hk => hk.2) (.int .i64 tU)) (fun _ hk => ⟨hk.1.1.1, ⟨hk.1.1.2.1, hk.1.1.2.2.1⟩⟩), by refine zR ?_; exact Kd.R_mono (Kd.R_far (p := ⟨gbC, 2, none⟩) (Kd.R_far (p := ⟨gbC, 1, none⟩) (Kd.R_far (p := ⟨gbC, 0, none⟩) (zRF4 (Kd.R_mono (Kd.R_types HOK.o BKE.o (by decide)) (fun k_ hk => (⟨hk, hk.1.2.1⟩ : _ ∧ k_ ≠ gbC))) gbE (fun _ hk => hk.1.2) (.int .i64 tL) (.slice Ao57 tG.length co57) (.slice Ao58 tH.length co58) (.slice Ao59 tF.length co59)) (fun _ hk => hk.2) (.int .i64 tQ)) (fun _ hk => hk.2) (.int .i64 tA4)) (fun _ hk => hk.2) (.int .i64 tU)) (fun _ hk => hk.1.1.1), zL5 HB.o (IsS98.ge HIA.o) GEE.o GEC.o GED.o GEB.o⟩
  ·rw [if_neg c46] at H
   obtain ⟨c46b0, c46b1⟩ := zf c46
   by_cases c88 : tA6 = 2
   ·rw [if_pos c88] at H
    obtain ⟨c88b0, c88b1⟩ := zt c88
    clear c88
    generalize hyB0 : (([0, (-1)] : List Int)) = yB0 at H; (try rw [Option.bind_some] at H); have NyB0 := aM hyB0.symm; clear hyB0
    obtain ⟨⟨tA3, tF0, tF1⟩, A89, H⟩ := zO H; try dsimp only at H
    simp only [Option.some.injEq, Prod.mk.injEq] at H
    obtain ⟨rfl, rfl, rfl, rfl, rfl, rfl, rfl⟩ := H
    go_enter Try.func46, Try.ntmps46
    try go_wp2_with (first | ((with_reducible refine gD 2 rfl ?_); refine bE 2 #[.int .i64 0, .slice none 0 0, .slice none 0 0, .slice none 0 0] 25 ?_; intro gbE hg w90 hbox hb; have BKE := aM hbox; have GWE := aM (zg (zL HB.o) hg : w.heap.size ≤ gbE); have GEE := GWE; replace HB := zLB (zL HB.o) hb; clear hb hbox hg) | ((with_reducible refine gD 3 rfl ?_); refine bE 3 #[.int .i64 0, .int .i64 0, .int .i64 0] 46 ?_; intro gbC hg w91 hbox hb; have BKC := aM hbox; have GWC := aM (zg (zL1 HB.o GEE.o) hg : w.heap.size ≤ gbC); have GEC := GWC; replace HB := zLB (zL1 HB.o GEE.o) hb; have NBE_C := aM (zN BKE.o hg : gbE ≠ gbC); have NBC_E := aM (zM BKE.o hg : gbC ≠ gbE); replace BKE := zBB BKE hb; clear hb hbox hg) | ((with_reducible refine gC 80 rfl ?_); refine gL 8 Try.func80 #[.slice A0 l0.length c0] ?_; (with_reducible refine (spec_l1New.calls k _ _ l0 tM tB8 tB9 w _ ?side1 ?side2 ?side3 A2.o).mono ?_); (case side1 => exact zL2 HB.o GEE.o GEC.o); (case side2 => exact HR0.o); (case side3 => exact HC0.o); rintro e w92 ⟨gA, rfl, hi, hb, hb2⟩; refine ⟨_, rfl, ?_⟩; replace HB := aM hb; have HIA := aM hi; have NBA_E := aM (IsS98.ne_blk hi (bB (g := gbE) (o := .cells #[.int .i64 0, .slice none 0 0, .slice none 0 0, .slice none 0 0] 25 (0, 0)) (zB BKE.o) hb2) (by decide)); have NBE_A := aM (Ne.symm (IsS98.ne_blk hi (bB (g := gbE) (o := .cells #[.int .i64 0, .slice none 0 0, .slice none 0 0, .slice none 0 0] 25 (0, 0)) (zB BKE.o) hb2) (by decide))); replace BKE := zBB BKE hb2; have NBA_C := aM (IsS98.ne_blk hi (bB (g := gbC) (o := .cells #[.int .i64 0, .int .i64 0, .int .i64 0] 46 (0, 0)) (zB BKC.o) hb2) (by decide)); have NBC_A := aM (Ne.symm (IsS98.ne_blk hi (bB (g := gbC) (o := .cells #[.int .i64 0, .int .i64 0, .int .i64 0] 46 (0, 0)) (zB BKC.o) hb2) (by decide))); replace BKC := zBB BKC hb2; clear hi hb hb2) | ((with_reducible refine gC 81 rfl ?_); refine gL 10 Try.func81 #[.pointer (some ⟨gA, 0, none⟩)] ?_; (with_reducible refine (spec_l8Any.calls k gA tM tB8 tB9 tL tG tH tF tW tX w _ ?side1 ?side2 A3.o).mono ?_); (case side1 => exact zI2 HIA.o NBA_E.o NBA_C.o); (case side2 => exact zL3 HB.o (IsS98.ge HIA.o) GEE.o GEC.o); rintro e w93 ⟨vC0, vC1, vB6, rfl, ho0, ho1, ho2, hi, hb, hk⟩; refine ⟨_, rfl, ?_⟩; have HOI := aM (Kd.N_lower (Kd.N_mono (ok' := fun k_ => (w.heap.size ≤ k_) ∧ some k_ ≠ (vC1 : Value).ownBlock ∧ some k_ ≠ (vB6 : Value).ownBlock ∧ k_ ≠ gbE ∧ k_ ≠ gbC ∧ k_ ≠ gA) ho0 (fun k_ hk_ => ⟨(Nat.le_trans (below_size (zL3 HB.o (IsS98.ge HIA.o) GEE.o GEC.o)) hk_.1), hk_.2.1, hk_.2.2, (Kd.freshB (g := gbE) (o := .cells #[.int .i64 0, .slice none 0 0, .slice none 0 0, .slice none 0 0] 25 (0, 0)) (zB BKE.o) k_ hk_.1), (Kd.freshB (g := gbC) (o := .cells #[.int .i64 0, .int .i64 0, .int .i64 0] 46 (0, 0)) (zB BKC.o) k_ hk_.1), (IsS98.fresh (zI2 HIA.o NBA_E.o NBA_C.o) k_ hk_.1)⟩)) (below_size (zL3 HB.o (IsS98.ge HIA.o) GEE.o GEC.o))); have HOJ := aM (Kd.N_lower (Kd.N_mono (ok' := fun k_ => (w.heap.size ≤ k_) ∧ some k_ ≠ (vC0 : Value).ownBlock ∧ some k_ ≠ (vB6 : Value).ownBlock ∧ k_ ≠ gbE ∧ k_ ≠ gbC ∧ k_ ≠ gA) ho1 (fun k_ hk_ => ⟨(Nat.le_trans (below_size (zL3 HB.o (IsS98.ge HIA.o) GEE.o GEC.o)) hk_.1), hk_.2.1, hk_.2.2, (Kd.freshB (g := gbE) (o := .cells #[.int .i64 0, .slice none 0 0, .slice none 0 0, .slice none 0 0] 25 (0, 0)) (zB BKE.o) k_ hk_.1), (Kd.freshB (g := gbC) (o := .cells #[.int .i64 0, .int .i64 0, .int .i64 0] 46 (0, 0)) (zB BKC.o) k_ hk_.1), (IsS98.fresh (zI2 HIA.o NBA_E.o NBA_C.o) k_ hk_.1)⟩)) (below_size (zL3 HB.o (IsS98.ge HIA.o) GEE.o GEC.o))); replace BKE := zBK hk BKE NBE_A; have HOK := aM (Kd.R_lower (Kd.R_newB (Kd.R_newM (M := fun k_ => (w.heap.size ≤ k_)) (Kd.R_mono (ok' := fun k_ => True) ho2 (fun _ hk_ => trivial)) (below_size (zL3 HB.o (IsS98.ge HIA.o) GEE.o GEC.o)) (fun k_ h_ => h_)) (g := gbC) (o := .cells #[.int .i64 0, .int .i64 0, .int .i64 0] 46 (0, 0)) (zB BKC.o)) (below_size (zL3 HB.o (IsS98.ge HIA.o) GEE.o GEC.o))); replace BKC := zBK hk BKC NBC_A; replace HB := aM hb; replace HIA := aM hi; clear ho0 hi hb hk; (try clear ho1); (try clear ho2)) | ((with_reducible refine gD 5 rfl ?_); refine bE 5 #[.int .i64 0, .slice none 0 0, .slice none 0 0, .slice none 0 0] 25 ?_; intro gbD hg w94 hbox hb; replace HOI := aM (Kd.N_below (Kd.N_elderB (zX HOI.o) gbD (Nat.le_of_eq hg.symm)) hb); replace HOJ := aM (Kd.N_below (Kd.N_elderB (zX HOJ.o) gbD (Nat.le_of_eq hg.symm)) hb); replace HOK := zRB HOK hb; have BKD := aM hbox; have GWD := aM ((zg (zL3 HB.o (IsS98.ge HIA.o) GEE.o GEC.o) hg : w.heap.size ≤ gbD)); have GED := GWD; replace HB := zLB (zL3 HB.o (IsS98.ge HIA.o) GEE.o GEC.o) hb; have NBE_D := aM (zN BKE.o hg : gbE ≠ gbD); have NBD_E := aM (zM BKE.o hg : gbD ≠ gbE); replace BKE := zBB BKE hb; have NBC_D := aM (zN BKC.o hg : gbC ≠ gbD); have NBD_C := aM (zM BKC.o hg : gbD ≠ gbC); replace BKC := zBB BKC hb; have NBA_D := aM ((zNI (IsS98.lt (zI2 HIA.o NBA_E.o NBA_C.o : IsS98 w _ gA tM tW tX)) hg : gA ≠ gbD)); have NBD_A := aM ((zMI (IsS98.lt (zI2 HIA.o NBA_E.o NBA_C.o : IsS98 w _ gA tM tW tX)) hg : gbD ≠ gA)); replace HIA := aM (IsS98.below (zI2 HIA.o NBA_E.o NBA_C.o) hb); clear hb hbox hg; have hnb95 := NBD_E.o; have hnc95 := NBE_D.o; have hnb96 := NBD_C.o; have hnc96 := NBC_D.o; have hnb97 := NBD_A.o; have hnc97 := NBA_D.o; have hcz98 := zc4 BKD.o; have hfz98 := zf4 BKD.o; obtain ⟨Ao99, co99, eo99⟩ := Kd.N_slice HOI.o; subst eo99; obtain ⟨AoP, coP, eoP⟩ := Kd.N_slice HOJ.o; subst eoP; obtain ⟨AoN, coN, eoN⟩ := Kd.R_slice HOK.o; subst eoN))
    have n0_ : Aside0 (Kd.N (Kd.slice 46 k46) 23 ((((w94.setCell ⟨gbD, 0, none⟩ (.int .i64 tL)).setCell ⟨gbD, 1, none⟩ (.slice Ao99 tG.length co99)).setCell ⟨gbD, 2, none⟩ (.slice AoP tH.length coP)).setCell ⟨gbD, 3, none⟩ (.slice AoN tF.length coN)) w.heap.size (fun k_ => (w.heap.size ≤ k_) ∧ some k_ ≠ (.slice AoP tH.length coP : Value).ownBlock ∧ some k_ ≠ (.slice AoN tF.length coN : Value).ownBlock ∧ k_ ≠ gbE ∧ k_ ≠ gbC ∧ k_ ≠ gA ∧ k_ ≠ gbD) (.slice Ao99 tG.length co99) tG) := ⟨by refine zX ?_; exact Kd.N_mono (zNF4 (Kd.N_mono HOI.o (fun k_ hk => (⟨hk, hk.2⟩ : _ ∧ k_ ≠ gbD))) gbD (fun _ hk => hk.2) (.int .i64 tL) (.slice Ao99 tG.length co99) (.slice AoP tH.length coP) (.slice AoN tF.length coN)) (fun _ hk => ⟨hk.1.1.1, ⟨hk.1.1.2.1, ⟨hk.1.1.2.2.1, ⟨hk.1.1.2.2.2.1, ⟨hk.1.1.2.2.2.2.1, ⟨hk.1.1.2.2.2.2.2, hk.1.2⟩⟩⟩⟩⟩⟩)⟩
    have n1_ : Aside0 (Kd.N (Kd.slice 46 k46) 23 ((((w94.setCell ⟨gbD, 0, none⟩ (.int .i64 tL)).setCell ⟨gbD, 1, none⟩ (.slice Ao99 tG.length co99)).setCell ⟨gbD, 2, none⟩ (.slice AoP tH.length coP)).setCell ⟨gbD, 3, none⟩ (.slice AoN tF.length coN)) w.heap.size (fun k_ => (w.heap.size ≤ k_) ∧ some k_ ≠ (.slice Ao99 tG.length co99 : Value).ownBlock ∧ some k_ ≠ (.slice AoN tF.length coN : Value).ownBlock ∧ k_ ≠ gbE ∧ k_ ≠ gbC ∧ k_ ≠ gA ∧ k_ ≠ gbD) (.slice AoP tH.length coP) tH) := ⟨by refine zX ?_; exact Kd.N_mono (zNF4 (Kd.N_mono HOJ.o (fun k_ hk => (⟨hk, hk.2⟩ : _ ∧ k_ ≠ gbD))) gbD (fun _ hk => hk.2) (.int .i64 tL) (.slice Ao99 tG.length co99) (.slice AoP tH.length coP) (.slice AoN tF.length coN)) (fun _ hk => ⟨hk.1.1.1, ⟨hk.1.1.2.1, ⟨hk.1.1.2.2.1, ⟨hk.1.1.2.2.2.1, ⟨hk.1.1.2.2.2.2.1, ⟨hk.1.1.2.2.2.2.2, hk.1.2⟩⟩⟩⟩⟩⟩)⟩
    have n2_ : Aside0 (Kd.R k46 46 ((((w94.setCell ⟨gbD, 0, none⟩ (.int .i64 tL)).setCell ⟨gbD, 1, none⟩ (.slice Ao99 tG.length co99)).setCell ⟨gbD, 2, none⟩ (.slice AoP tH.length coP)).setCell ⟨gbD, 3, none⟩ (.slice AoN tF.length coN)) w.heap.size (fun k_ => (w.heap.size ≤ k_) ∧ k_ ≠ gbC) (.slice AoN tF.length coN) tF) := ⟨by refine zR ?_; exact Kd.R_mono (zRF4 (Kd.R_types HOK.o BKD.o (by decide)) gbD (fun _ hk => hk.2) (.int .i64 tL) (.slice Ao99 tG.length co99) (.slice AoP tH.length coP) (.slice AoN tF.length coN)) (fun _ hk => ⟨hk.1.1.1, hk.1.2⟩)⟩
    have n3_ : Aside0 (((((w94.setCell ⟨gbD, 0, none⟩ (.int .i64 tL)).setCell ⟨gbD, 1, none⟩ (.slice Ao99 tG.length co99)).setCell ⟨gbD, 2, none⟩ (.slice AoP tH.length coP)).setCell ⟨gbD, 3, none⟩ (.slice AoN tF.length coN)).heap[gbE]? = some (.cells #[.int .i64 0, .slice none 0 0, .slice none 0 0, .slice none 0 0] 25 (0, 0))) := ⟨by refine zB ?_; refine zr4 ?_ NBE_D.o; exact zB BKE.o⟩
    have n4_ : Aside0 (((((w94.setCell ⟨gbD, 0, none⟩ (.int .i64 tL)).setCell ⟨gbD, 1, none⟩ (.slice Ao99 tG.length co99)).setCell ⟨gbD, 2, none⟩ (.slice AoP tH.length coP)).setCell ⟨gbD, 3, none⟩ (.slice AoN tF.length coN)).heap[gbC]? = some (.cells #[.int .i64 0, .int .i64 0, .int .i64 0] 46 (0, 0))) := ⟨by refine zB ?_; refine zr4 ?_ NBC_D.o; exact zB BKC.o⟩
    have n5_ : Aside0 (((((w94.setCell ⟨gbD, 0, none⟩ (.int .i64 tL)).setCell ⟨gbD, 1, none⟩ (.slice Ao99 tG.length co99)).setCell ⟨gbD, 2, none⟩ (.slice AoP tH.length coP)).setCell ⟨gbD, 3, none⟩ (.slice AoN tF.length coN)).heap[gbD]? = some (.cells #[.int .i64 tL, .slice Ao99 tG.length co99, .slice AoP tH.length coP, .slice AoN tF.length coN] 25 (0, 0))) := ⟨by refine zB ?_; refine zp4 (cs := #[.int .i64 0, .slice none 0 0, .slice none 0 0, .slice none 0 0]) ?_; exact zB BKD.o⟩
    have n6_ : Aside0 (IsS98 w ((((w94.setCell ⟨gbD, 0, none⟩ (.int .i64 tL)).setCell ⟨gbD, 1, none⟩ (.slice Ao99 tG.length co99)).setCell ⟨gbD, 2, none⟩ (.slice AoP tH.length coP)).setCell ⟨gbD, 3, none⟩ (.slice AoN tF.length coN)) gA tM tW tX) := ⟨zI3 HIA.o NBA_E.o NBA_C.o NBA_D.o⟩
    have n7_ : Aside0 (Below w.heap.size w ((((w94.setCell ⟨gbD, 0, none⟩ (.int .i64 tL)).setCell ⟨gbD, 1, none⟩ (.slice Ao99 tG.length co99)).setCell ⟨gbD, 2, none⟩ (.slice AoP tH.length coP)).setCell ⟨gbD, 3, none⟩ (.slice AoN tF.length coN))) := ⟨zL4 HB.o (IsS98.ge HIA.o) GEE.o GEC.o GED.o⟩
    (try clear HOI)
    (try clear HOJ)
    (try clear HOK)
    (try clear BKE)
    (try clear BKC)
    (try clear BKD)
    (try clear HIA)
    (try clear HB)
    generalize ((((w94.setCell ⟨gbD, 0, none⟩ (.int .i64 tL)).setCell ⟨gbD, 1, none⟩ (.slice Ao99 tG.length co99)).setCell ⟨gbD, 2, none⟩ (.slice AoP tH.length coP)).setCell ⟨gbD, 3, none⟩ (.slice AoN tF.length coN)) = wF6 at n0_ n1_ n2_ n3_ n4_ n5_ n6_ n7_ ⊢
    have HOI := n0_
    have HOJ := n1_
    have HOK := n2_
    have BKE := n3_
    have BKC := n4_
    have BKD := n5_
    have HIA := n6_
    have HB := n7_
    clear n0_ n1_ n2_ n3_ n4_ n5_ n6_ n7_
    replace HOI := zXD HOI; replace HOJ := zXD HOJ; replace HOK := zRD HOK; replace BKE := zBD BKE; replace BKC := zBD BKC; replace BKD := zBD BKD; replace HIA := aM (IsS98.drew HIA.o); replace HB := zLD HB
    refine start_ (n := 9) (S := fun w' => zs4 w' gbD (.int .i64 tL) (.slice Ao99 tG.length co99) (.slice AoP tH.length coP) (.slice AoN tF.length coN)) (ds := []) (fB 9 0) (by kernel_rfl) rfl rfl (zc4 BKD.o) (fun hHeld => ?_); refine with_tabW spec_DrawPut.tab3 spec_DrawPut.bits3 (fun HT_ HW_ => ?_)
    generalize wF6.drew = wH1 at HOI HOJ HOK BKE BKC BKD HIA HB hHeld ⊢
    refine pY 0 11 (fB 9 1) HT_.o ?_
    refine pY 1 12 (fB 9 3) HT_.o ?_
    refine pY 3 14 (fB 9 11) HT_.o ?_
    refine tY 2 13 (fB 9 15) HT_.o HW_.o hHeld ?_
    refine join_ (σ := Nat) 1 #[true, true, true, true, true, true, true, true, false] (fun s_ => [(15, .int .i64 tV), (17, .agg #[.int .i64 tQ, .int .i64 tT, .int .i64 tU]), (6, .pointer (some ⟨s_, 0, none⟩)), (16, .int .i64 (wrap64 (1 + tV)))]) (fun s_ w' => (w'.cell? ⟨gbD, 0, none⟩ = some (.int .i64 tL) ∧ w'.cell? ⟨gbD, 1, none⟩ = some (.slice Ao99 tG.length co99) ∧ w'.cell? ⟨gbD, 2, none⟩ = some (.slice AoP tH.length coP) ∧ w'.cell? ⟨gbD, 3, none⟩ = some (.slice AoN tF.length coN)) ∧ (Kd.N (Kd.slice 46 k46) 23 w' w.heap.size (fun k_ => (w.heap.size ≤ k_) ∧ some k_ ≠ (.slice AoP tH.length coP : Value).ownBlock ∧ some k_ ≠ (.slice AoN tF.length coN : Value).ownBlock ∧ k_ ≠ gbE ∧ k_ ≠ gbC ∧ k_ ≠ gA ∧ k_ ≠ gbD ∧ k_ ≠ s_) (.slice Ao99 tG.length co99) tG) ∧ (Kd.N (Kd.slice 46 k46) 23 w' w.heap.size (fun k_ => (w.heap.size ≤ k_) ∧ some k_ ≠ (.slice Ao99 tG.length co99 : Value).ownBlock ∧ some k_ ≠ (.slice AoN tF.length coN : Value).ownBlock ∧ k_ ≠ gbE ∧ k_ ≠ gbC ∧ k_ ≠ gA ∧ k_ ≠ gbD ∧ k_ ≠ s_) (.slice AoP tH.length coP) tH) ∧ (Kd.R k46 46 w' w.heap.size (fun k_ => (w.heap.size ≤ k_) ∧ k_ ≠ gbC ∧ k_ ≠ s_) (.slice AoN tF.length coN) tF) ∧ (w'.heap[gbE]? = some (.cells #[.int .i64 0, .slice none 0 0, .slice none 0 0, .slice none 0 0] 25 (0, 0))) ∧ (w'.heap[gbC]? = some (.cells #[.int .i64 0, .int .i64 0, .int .i64 0] 46 (0, 0))) ∧ (w'.heap[gbD]? = some (.cells #[.int .i64 tL, .slice Ao99 tG.length co99, .slice AoP tH.length coP, .slice AoN tF.length coN] 25 (0, 0))) ∧ (w'.heap[s_]? = some (.cells #[.int .i64 0, .int .i64 0, .int .i64 0] 46 (0, 0))) ∧ (w.heap.size ≤ s_) ∧ (w.heap.size ≤ s_) ∧ (gA ≠ s_) ∧ (s_ ≠ gA) ∧ (gbE ≠ s_) ∧ (s_ ≠ gbE) ∧ (gbC ≠ s_) ∧ (s_ ≠ gbC) ∧ (gbD ≠ s_) ∧ (s_ ≠ gbD) ∧ (IsS98 w w' gA tM tA1 tA2) ∧ (Below w.heap.size w w')) ?_ ?_
    rotate_left
    ·intro hCont
     refine two_ (i := 4) (j := 7) (Ni := some 15) (Nj := some 6) #[true, true, true, true, true, false, false, false, false] #[true, true, true, true, false, false, false, true, false] rfl rfl rfl rfl (two_of HT_.o (by kernel_rfl)) (by decide) (by decide) (fun K hK => ?_) (fun K hK => ?_)
     ·skip
      refine gS Try.func83 #[.pointer (some ⟨gA, 0, none⟩), .int .i64 9] ?_
      with_reducible refine (spec_l1Below.calls gA tM tW tX 9 tV tZ tA0 w _ ?side1 ?side2 A4.o).mono ?_
      (case side1 => exact zI3 HIA.o NBA_E.o NBA_C.o NBA_D.o)
      (case side2 => exact zL4 HB.o (IsS98.ge HIA.o) GEE.o GEC.o GED.o)
      rintro e wF7 ⟨rfl, hi, hb, hk⟩
      refine ⟨_, rfl, ?_⟩
      replace BKE := zBK hk BKE NBE_A; replace BKC := zBK hk BKC NBC_A; replace HOI := aM (Kd.N_mono (Kd.N_keep (Kd.N_mono (ok := fun k_ => (((w.heap.size ≤ k_)) ∧ (some k_ ≠ (.slice AoP tH.length coP : Value).ownBlock ∧ (some k_ ≠ (.slice AoN tF.length coN : Value).ownBlock ∧ (k_ ≠ gbE ∧ (k_ ≠ gbC ∧ (k_ ≠ gA ∧ k_ ≠ gbD))))))) (zX HOI.o) (fun k_ hk_ => (⟨hk_, hk_.2.2.2.2.2.1⟩ : _ ∧ k_ ≠ gA))) hk (fun _ h => h.2)) (fun _ h => h.1)); replace HOJ := aM (Kd.N_mono (Kd.N_keep (Kd.N_mono (ok := fun k_ => (((w.heap.size ≤ k_)) ∧ (some k_ ≠ (.slice Ao99 tG.length co99 : Value).ownBlock ∧ (some k_ ≠ (.slice AoN tF.length coN : Value).ownBlock ∧ (k_ ≠ gbE ∧ (k_ ≠ gbC ∧ (k_ ≠ gA ∧ k_ ≠ gbD))))))) (zX HOJ.o) (fun k_ hk_ => (⟨hk_, hk_.2.2.2.2.2.1⟩ : _ ∧ k_ ≠ gA))) hk (fun _ h => h.2)) (fun _ h => h.1)); replace HOK := aM (Kd.R_mono (Kd.R_keep (IsS98.apart (show IsS98 w _ gA tM tW tX from zI3 HIA.o NBA_E.o NBA_C.o NBA_D.o) (zR HOK.o) (by decide)) hk (fun _ h => h.2)) (fun _ h => h.1)); replace BKD := zBK hk BKD NBD_A; replace HB := aM hb; replace HIA := aM hi
      clear hi hb hk
      refine hK.out _ _ (zc4 BKD.o) fun hHeld => ?_; clear hK K
      refine nZ 15 ?_
      refine pY 5 16 (fB 9 63) HT_.o ?_
      refine two_ (i := 6) (j := 7) (Ni := some 17) (Nj := some 6) #[true, true, true, true, true, true, true, false, false] #[true, true, true, true, true, true, false, true, false] rfl rfl rfl rfl (two_of HT_.o (by kernel_rfl)) (by decide) (by decide) (fun K hK => ?_) (fun K hK => ?_)
      ·skip
       refine gS Try.func82 #[.pointer (some ⟨gA, 0, none⟩), .int .i64 tL, .int .i64 (wrap64 (1 + tV))] ?_
       with_reducible refine (spec_l8Timer.calls gA tM tZ tA0 tL (wrap64 (1 + tV)) tQ tT tU tA1 tA2 w _ ?side1 ?side2 A5.o).mono ?_
       (case side1 => exact zI3 HIA.o NBA_E.o NBA_C.o NBA_D.o)
       (case side2 => exact zL4 HB.o (IsS98.ge HIA.o) GEE.o GEC.o GED.o)
       rintro e wF2 ⟨rfl, hi, hb, hk⟩
       refine ⟨_, rfl, ?_⟩
       replace BKE := zBK hk BKE NBE_A; replace BKC := zBK hk BKC NBC_A; replace HOI := aM (Kd.N_mono (Kd.N_keep (Kd.N_mono (ok := fun k_ => (((w.heap.size ≤ k_)) ∧ (some k_ ≠ (.slice AoP tH.length coP : Value).ownBlock ∧ (some k_ ≠ (.slice AoN tF.length coN : Value).ownBlock ∧ (k_ ≠ gbE ∧ (k_ ≠ gbC ∧ (k_ ≠ gA ∧ k_ ≠ gbD))))))) (zX HOI.o) (fun k_ hk_ => (⟨hk_, hk_.2.2.2.2.2.1⟩ : _ ∧ k_ ≠ gA))) hk (fun _ h => h.2)) (fun _ h => h.1)); replace HOJ := aM (Kd.N_mono (Kd.N_keep (Kd.N_mono (ok := fun k_ => (((w.heap.size ≤ k_)) ∧ (some k_ ≠ (.slice Ao99 tG.length co99 : Value).ownBlock ∧ (some k_ ≠ (.slice AoN tF.length coN : Value).ownBlock ∧ (k_ ≠ gbE ∧ (k_ ≠ gbC ∧ (k_ ≠ gA ∧ k_ ≠ gbD))))))) (zX HOJ.o) (fun k_ hk_ => (⟨hk_, hk_.2.2.2.2.2.1⟩ : _ ∧ k_ ≠ gA))) hk (fun _ h => h.2)) (fun _ h => h.1)); replace HOK := aM (Kd.R_mono (Kd.R_keep (IsS98.apart (show IsS98 w _ gA tM tZ tA0 from zI3 HIA.o NBA_E.o NBA_C.o NBA_D.o) (zR HOK.o) (by decide)) hk (fun _ h => h.2)) (fun _ h => h.1)); replace BKD := zBK hk BKD NBD_A; replace HB := aM hb; replace HIA := aM hi
       clear hi hb hk
       refine hK.out _ _ (zc4 BKD.o) fun hHeld => ?_; clear hK K
       refine nZ 17 ?_
       refine oN 7 6 (fB 9 255) HT_.o fun K hK => ?_
       refine box_step ?hg (N := 6) ?hd (cs := #[.int .i64 0, .int .i64 0, .int .i64 0]) (t := 46) ?hr ?_; (case hd => rfl); (case hg => rfl); (case hr => first | (go_simp; done) | (go_simp; rfl))
       intro gbB hg wF3 hbox hb
       replace HOI := aM (Kd.N_below (Kd.N_elderB (zX HOI.o) gbB (Nat.le_of_eq hg.symm)) hb); replace HOJ := aM (Kd.N_below (Kd.N_elderB (zX HOJ.o) gbB (Nat.le_of_eq hg.symm)) hb); replace HOK := aM (Kd.R_below (Kd.R_elderB (zR HOK.o) gbB (Nat.le_of_eq hg.symm)) hb); have BKB := aM hbox; have GWB := aM ((zg (zL4 HB.o (IsS98.ge HIA.o) GEE.o GEC.o GED.o) hg : w.heap.size ≤ gbB)); have GEB := GWB; replace HB := zLB (zL4 HB.o (IsS98.ge HIA.o) GEE.o GEC.o GED.o) hb; have NBE_B := aM (zN BKE.o hg : gbE ≠ gbB); have NBB_E := aM (zM BKE.o hg : gbB ≠ gbE); replace BKE := zBB BKE hb; have NBC_B := aM (zN BKC.o hg : gbC ≠ gbB); have NBB_C := aM (zM BKC.o hg : gbB ≠ gbC); replace BKC := zBB BKC hb; have NBD_B := aM (zN BKD.o hg : gbD ≠ gbB); have NBB_D := aM (zM BKD.o hg : gbB ≠ gbD); replace BKD := zBB BKD hb; have NBA_B := aM ((zNI (IsS98.lt (zI3 HIA.o NBA_E.o NBA_C.o NBA_D.o : IsS98 w _ gA tM tA1 tA2)) hg : gA ≠ gbB)); have NBB_A := aM ((zMI (IsS98.lt (zI3 HIA.o NBA_E.o NBA_C.o NBA_D.o : IsS98 w _ gA tM tA1 tA2)) hg : gbB ≠ gA)); replace HIA := aM (IsS98.below (zI3 HIA.o NBA_E.o NBA_C.o NBA_D.o) hb)
       clear hb hbox hg
       refine hK.out _ _ (zc4 BKD.o) fun hHeld => ?_; clear hK K
       refine nZ 6 ?_
       exact norm_ (by simp only [putAll, Act.put, List.setIfInBounds_toArray, List.set_cons_zero, List.set_cons_succ]) (hCont (gbB) _ ⟨hHeld, (zXm HOI.o (fun _ hk => ⟨hk.1.1, ⟨hk.1.2.1, ⟨hk.1.2.2.1, ⟨hk.1.2.2.2.1, ⟨hk.1.2.2.2.2.1, ⟨hk.1.2.2.2.2.2.1, ⟨hk.1.2.2.2.2.2.2, hk.2⟩⟩⟩⟩⟩⟩⟩)), (zXm HOJ.o (fun _ hk => ⟨hk.1.1, ⟨hk.1.2.1, ⟨hk.1.2.2.1, ⟨hk.1.2.2.2.1, ⟨hk.1.2.2.2.2.1, ⟨hk.1.2.2.2.2.2.1, ⟨hk.1.2.2.2.2.2.2, hk.2⟩⟩⟩⟩⟩⟩⟩)), (zRm HOK.o (fun _ hk => ⟨hk.1.1, ⟨hk.1.2, hk.2⟩⟩)), (zB BKE.o), (zB BKC.o), (zB BKD.o), (zB BKB.o), GWB.o, GEB.o, NBA_B.o, NBB_A.o, NBE_B.o, NBB_E.o, NBC_B.o, NBB_C.o, NBD_B.o, NBB_D.o, (zI4 HIA.o NBA_E.o NBA_C.o NBA_D.o NBA_B.o), (zL5 HB.o (IsS98.ge HIA.o) GEE.o GEC.o GED.o GEB.o)⟩)
      ·skip
       refine box_step ?hg (N := 6) ?hd (cs := #[.int .i64 0, .int .i64 0, .int .i64 0]) (t := 46) ?hr ?_; (case hd => rfl); (case hg => rfl); (case hr => first | (go_simp; done) | (go_simp; rfl))
       intro gbB hg wF2 hbox hb
       replace HOI := aM (Kd.N_below (Kd.N_elderB (zX HOI.o) gbB (Nat.le_of_eq hg.symm)) hb); replace HOJ := aM (Kd.N_below (Kd.N_elderB (zX HOJ.o) gbB (Nat.le_of_eq hg.symm)) hb); replace HOK := aM (Kd.R_below (Kd.R_elderB (zR HOK.o) gbB (Nat.le_of_eq hg.symm)) hb); have BKB := aM hbox; have GWB := aM ((zg (zL4 HB.o (IsS98.ge HIA.o) GEE.o GEC.o GED.o) hg : w.heap.size ≤ gbB)); have GEB := GWB; replace HB := zLB (zL4 HB.o (IsS98.ge HIA.o) GEE.o GEC.o GED.o) hb; have NBE_B := aM (zN BKE.o hg : gbE ≠ gbB); have NBB_E := aM (zM BKE.o hg : gbB ≠ gbE); replace BKE := zBB BKE hb; have NBC_B := aM (zN BKC.o hg : gbC ≠ gbB); have NBB_C := aM (zM BKC.o hg : gbB ≠ gbC); replace BKC := zBB BKC hb; have NBD_B := aM (zN BKD.o hg : gbD ≠ gbB); have NBB_D := aM (zM BKD.o hg : gbB ≠ gbD); replace BKD := zBB BKD hb; have NBA_B := aM ((zNI (IsS98.lt (zI3 HIA.o NBA_E.o NBA_C.o NBA_D.o : IsS98 w _ gA tM tZ tA0)) hg : gA ≠ gbB)); have NBB_A := aM ((zMI (IsS98.lt (zI3 HIA.o NBA_E.o NBA_C.o NBA_D.o : IsS98 w _ gA tM tZ tA0)) hg : gbB ≠ gA)); replace HIA := aM (IsS98.below (zI3 HIA.o NBA_E.o NBA_C.o NBA_D.o) hb)
       clear hb hbox hg
       refine hK.out _ _ (zc4 BKD.o) fun hHeld => ?_; clear hK K
       refine nZ 6 ?_
       refine oN 6 17 (fB 9 255) HT_.o fun K hK => ?_
       refine gS Try.func82 #[.pointer (some ⟨gA, 0, none⟩), .int .i64 tL, .int .i64 (wrap64 (1 + tV))] ?_
       with_reducible refine (spec_l8Timer.calls gA tM tZ tA0 tL (wrap64 (1 + tV)) tQ tT tU tA1 tA2 w _ ?side1 ?side2 A5.o).mono ?_
       (case side1 => exact zI4 HIA.o NBA_E.o NBA_C.o NBA_D.o NBA_B.o)
       (case side2 => exact zL5 HB.o (IsS98.ge HIA.o) GEE.o GEC.o GED.o GEB.o)
       rintro e wF3 ⟨rfl, hi, hb, hk⟩
       refine ⟨_, rfl, ?_⟩
       replace BKE := zBK hk BKE NBE_A; replace BKC := zBK hk BKC NBC_A; replace HOI := aM (Kd.N_mono (Kd.N_keep (Kd.N_mono (ok := fun k_ => ((((w.heap.size ≤ k_)) ∧ (some k_ ≠ (.slice AoP tH.length coP : Value).ownBlock ∧ (some k_ ≠ (.slice AoN tF.length coN : Value).ownBlock ∧ (k_ ≠ gbE ∧ (k_ ≠ gbC ∧ (k_ ≠ gA ∧ k_ ≠ gbD)))))) ∧ k_ ≠ gbB)) (zX HOI.o) (fun k_ hk_ => (⟨hk_, hk_.1.2.2.2.2.2.1⟩ : _ ∧ k_ ≠ gA))) hk (fun _ h => h.2)) (fun _ h => h.1)); replace HOJ := aM (Kd.N_mono (Kd.N_keep (Kd.N_mono (ok := fun k_ => ((((w.heap.size ≤ k_)) ∧ (some k_ ≠ (.slice Ao99 tG.length co99 : Value).ownBlock ∧ (some k_ ≠ (.slice AoN tF.length coN : Value).ownBlock ∧ (k_ ≠ gbE ∧ (k_ ≠ gbC ∧ (k_ ≠ gA ∧ k_ ≠ gbD)))))) ∧ k_ ≠ gbB)) (zX HOJ.o) (fun k_ hk_ => (⟨hk_, hk_.1.2.2.2.2.2.1⟩ : _ ∧ k_ ≠ gA))) hk (fun _ h => h.2)) (fun _ h => h.1)); replace HOK := aM (Kd.R_mono (Kd.R_keep (IsS98.apart (show IsS98 w _ gA tM tZ tA0 from zI4 HIA.o NBA_E.o NBA_C.o NBA_D.o NBA_B.o) (zR HOK.o) (by decide)) hk (fun _ h => h.2)) (fun _ h => h.1)); replace BKD := zBK hk BKD NBD_A; replace BKB := zBK hk BKB NBB_A; replace HB := aM hb; replace HIA := aM hi
       clear hi hb hk
       refine hK.out _ _ (zc4 BKD.o) fun hHeld => ?_; clear hK K
       refine nZ 17 ?_
       exact norm_ (by simp only [putAll, Act.put, List.setIfInBounds_toArray, List.set_cons_zero, List.set_cons_succ]) (hCont (gbB) _ ⟨hHeld, (zXm HOI.o (fun _ hk => ⟨hk.1.1, ⟨hk.1.2.1, ⟨hk.1.2.2.1, ⟨hk.1.2.2.2.1, ⟨hk.1.2.2.2.2.1, ⟨hk.1.2.2.2.2.2.1, ⟨hk.1.2.2.2.2.2.2, hk.2⟩⟩⟩⟩⟩⟩⟩)), (zXm HOJ.o (fun _ hk => ⟨hk.1.1, ⟨hk.1.2.1, ⟨hk.1.2.2.1, ⟨hk.1.2.2.2.1, ⟨hk.1.2.2.2.2.1, ⟨hk.1.2.2.2.2.2.1, ⟨hk.1.2.2.2.2.2.2, hk.2⟩⟩⟩⟩⟩⟩⟩)), (zRm HOK.o (fun _ hk => ⟨hk.1.1, ⟨hk.1.2, hk.2⟩⟩)), (zB BKE.o), (zB BKC.o), (zB BKD.o), (zB BKB.o), GWB.o, GEB.o, NBA_B.o, NBB_A.o, NBE_B.o, NBB_E.o, NBC_B.o, NBB_C.o, NBD_B.o, NBB_D.o, (zI4 HIA.o NBA_E.o NBA_C.o NBA_D.o NBA_B.o), (zL5 HB.o (IsS98.ge HIA.o) GEE.o GEC.o GED.o GEB.o)⟩)
     ·skip
      refine box_step ?hg (N := 6) ?hd (cs := #[.int .i64 0, .int .i64 0, .int .i64 0]) (t := 46) ?hr ?_; (case hd => rfl); (case hg => rfl); (case hr => first | (go_simp; done) | (go_simp; rfl))
      intro gbB hg wF7 hbox hb
      replace HOI := aM (Kd.N_below (Kd.N_elderB (zX HOI.o) gbB (Nat.le_of_eq hg.symm)) hb); replace HOJ := aM (Kd.N_below (Kd.N_elderB (zX HOJ.o) gbB (Nat.le_of_eq hg.symm)) hb); replace HOK := aM (Kd.R_below (Kd.R_elderB (zR HOK.o) gbB (Nat.le_of_eq hg.symm)) hb); have BKB := aM hbox; have GWB := aM ((zg (zL4 HB.o (IsS98.ge HIA.o) GEE.o GEC.o GED.o) hg : w.heap.size ≤ gbB)); have GEB := GWB; replace HB := zLB (zL4 HB.o (IsS98.ge HIA.o) GEE.o GEC.o GED.o) hb; have NBE_B := aM (zN BKE.o hg : gbE ≠ gbB); have NBB_E := aM (zM BKE.o hg : gbB ≠ gbE); replace BKE := zBB BKE hb; have NBC_B := aM (zN BKC.o hg : gbC ≠ gbB); have NBB_C := aM (zM BKC.o hg : gbB ≠ gbC); replace BKC := zBB BKC hb; have NBD_B := aM (zN BKD.o hg : gbD ≠ gbB); have NBB_D := aM (zM BKD.o hg : gbB ≠ gbD); replace BKD := zBB BKD hb; have NBA_B := aM ((zNI (IsS98.lt (zI3 HIA.o NBA_E.o NBA_C.o NBA_D.o : IsS98 w _ gA tM tW tX)) hg : gA ≠ gbB)); have NBB_A := aM ((zMI (IsS98.lt (zI3 HIA.o NBA_E.o NBA_C.o NBA_D.o : IsS98 w _ gA tM tW tX)) hg : gbB ≠ gA)); replace HIA := aM (IsS98.below (zI3 HIA.o NBA_E.o NBA_C.o NBA_D.o) hb)
      clear hb hbox hg
      refine hK.out _ _ (zc4 BKD.o) fun hHeld => ?_; clear hK K
      refine nZ 6 ?_
      refine oN 4 15 (fB 9 159) HT_.o fun K hK => ?_
      refine gS Try.func83 #[.pointer (some ⟨gA, 0, none⟩), .int .i64 9] ?_
      with_reducible refine (spec_l1Below.calls gA tM tW tX 9 tV tZ tA0 w _ ?side1 ?side2 A4.o).mono ?_
      (case side1 => exact zI4 HIA.o NBA_E.o NBA_C.o NBA_D.o NBA_B.o)
      (case side2 => exact zL5 HB.o (IsS98.ge HIA.o) GEE.o GEC.o GED.o GEB.o)
      rintro e wF2 ⟨rfl, hi, hb, hk⟩
      refine ⟨_, rfl, ?_⟩
      replace BKE := zBK hk BKE NBE_A; replace BKC := zBK hk BKC NBC_A; replace HOI := aM (Kd.N_mono (Kd.N_keep (Kd.N_mono (ok := fun k_ => ((((w.heap.size ≤ k_)) ∧ (some k_ ≠ (.slice AoP tH.length coP : Value).ownBlock ∧ (some k_ ≠ (.slice AoN tF.length coN : Value).ownBlock ∧ (k_ ≠ gbE ∧ (k_ ≠ gbC ∧ (k_ ≠ gA ∧ k_ ≠ gbD)))))) ∧ k_ ≠ gbB)) (zX HOI.o) (fun k_ hk_ => (⟨hk_, hk_.1.2.2.2.2.2.1⟩ : _ ∧ k_ ≠ gA))) hk (fun _ h => h.2)) (fun _ h => h.1)); replace HOJ := aM (Kd.N_mono (Kd.N_keep (Kd.N_mono (ok := fun k_ => ((((w.heap.size ≤ k_)) ∧ (some k_ ≠ (.slice Ao99 tG.length co99 : Value).ownBlock ∧ (some k_ ≠ (.slice AoN tF.length coN : Value).ownBlock ∧ (k_ ≠ gbE ∧ (k_ ≠ gbC ∧ (k_ ≠ gA ∧ k_ ≠ gbD)))))) ∧ k_ ≠ gbB)) (zX HOJ.o) (fun k_ hk_ => (⟨hk_, hk_.1.2.2.2.2.2.1⟩ : _ ∧ k_ ≠ gA))) hk (fun _ h => h.2)) (fun _ h => h.1)); replace HOK := aM (Kd.R_mono (Kd.R_keep (IsS98.apart (show IsS98 w _ gA tM tW tX from zI4 HIA.o NBA_E.o NBA_C.o NBA_D.o NBA_B.o) (zR HOK.o) (by decide)) hk (fun _ h => h.2)) (fun _ h => h.1)); replace BKD := zBK hk BKD NBD_A; replace BKB := zBK hk BKB NBB_A; replace HB := aM hb; replace HIA := aM hi
      clear hi hb hk
      refine hK.out _ _ (zc4 BKD.o) fun hHeld => ?_; clear hK K
      refine nZ 15 ?_
      refine pY 5 16 (fB 9 191) HT_.o ?_
      refine oN 6 17 (fB 9 255) HT_.o fun K hK => ?_
      refine gS Try.func82 #[.pointer (some ⟨gA, 0, none⟩), .int .i64 tL, .int .i64 (wrap64 (1 + tV))] ?_
      with_reducible refine (spec_l8Timer.calls gA tM tZ tA0 tL (wrap64 (1 + tV)) tQ tT tU tA1 tA2 w _ ?side1 ?side2 A5.o).mono ?_
      (case side1 => exact zI4 HIA.o NBA_E.o NBA_C.o NBA_D.o NBA_B.o)
      (case side2 => exact zL5 HB.o (IsS98.ge HIA.o) GEE.o GEC.o GED.o GEB.o)
      rintro e wF3 ⟨rfl, hi, hb, hk⟩
      refine ⟨_, rfl, ?_⟩
      replace BKE := zBK hk BKE NBE_A; replace BKC := zBK hk BKC NBC_A; replace HOI := aM (Kd.N_mono (Kd.N_keep (Kd.N_mono (ok := fun k_ => ((((w.heap.size ≤ k_)) ∧ (some k_ ≠ (.slice AoP tH.length coP : Value).ownBlock ∧ (some k_ ≠ (.slice AoN tF.length coN : Value).ownBlock ∧ (k_ ≠ gbE ∧ (k_ ≠ gbC ∧ (k_ ≠ gA ∧ k_ ≠ gbD)))))) ∧ k_ ≠ gbB)) (zX HOI.o) (fun k_ hk_ => (⟨hk_, hk_.1.2.2.2.2.2.1⟩ : _ ∧ k_ ≠ gA))) hk (fun _ h => h.2)) (fun _ h => h.1)); replace HOJ := aM (Kd.N_mono (Kd.N_keep (Kd.N_mono (ok := fun k_ => ((((w.heap.size ≤ k_)) ∧ (some k_ ≠ (.slice Ao99 tG.length co99 : Value).ownBlock ∧ (some k_ ≠ (.slice AoN tF.length coN : Value).ownBlock ∧ (k_ ≠ gbE ∧ (k_ ≠ gbC ∧ (k_ ≠ gA ∧ k_ ≠ gbD)))))) ∧ k_ ≠ gbB)) (zX HOJ.o) (fun k_ hk_ => (⟨hk_, hk_.1.2.2.2.2.2.1⟩ : _ ∧ k_ ≠ gA))) hk (fun _ h => h.2)) (fun _ h => h.1)); replace HOK := aM (Kd.R_mono (Kd.R_keep (IsS98.apart (show IsS98 w _ gA tM tZ tA0 from zI4 HIA.o NBA_E.o NBA_C.o NBA_D.o NBA_B.o) (zR HOK.o) (by decide)) hk (fun _ h => h.2)) (fun _ h => h.1)); replace BKD := zBK hk BKD NBD_A; replace BKB := zBK hk BKB NBB_A; replace HB := aM hb; replace HIA := aM hi
      clear hi hb hk
      refine hK.out _ _ (zc4 BKD.o) fun hHeld => ?_; clear hK K
      refine nZ 17 ?_
      exact norm_ (by simp only [putAll, Act.put, List.setIfInBounds_toArray, List.set_cons_zero, List.set_cons_succ]) (hCont (gbB) _ ⟨hHeld, (zXm HOI.o (fun _ hk => ⟨hk.1.1, ⟨hk.1.2.1, ⟨hk.1.2.2.1, ⟨hk.1.2.2.2.1, ⟨hk.1.2.2.2.2.1, ⟨hk.1.2.2.2.2.2.1, ⟨hk.1.2.2.2.2.2.2, hk.2⟩⟩⟩⟩⟩⟩⟩)), (zXm HOJ.o (fun _ hk => ⟨hk.1.1, ⟨hk.1.2.1, ⟨hk.1.2.2.1, ⟨hk.1.2.2.2.1, ⟨hk.1.2.2.2.2.1, ⟨hk.1.2.2.2.2.2.1, ⟨hk.1.2.2.2.2.2.2, hk.2⟩⟩⟩⟩⟩⟩⟩)), (zRm HOK.o (fun _ hk => ⟨hk.1.1, ⟨hk.1.2, hk.2⟩⟩)), (zB BKE.o), (zB BKC.o), (zB BKD.o), (zB BKB.o), GWB.o, GEB.o, NBA_B.o, NBB_A.o, NBE_B.o, NBB_E.o, NBC_B.o, NBB_C.o, NBD_B.o, NBB_D.o, (zI4 HIA.o NBA_E.o NBA_C.o NBA_D.o NBA_B.o), (zL5 HB.o (IsS98.ge HIA.o) GEE.o GEC.o GED.o GEB.o)⟩)
    rintro gbB wY ⟨hS_, h0_, h1_, h2_, h3_, h4_, h5_, h6_, h7_, h8_, h9_, h10_, h11_, h12_, h13_, h14_, h15_, h16_, h17_, h18_⟩
    have n0_ : Aside0 (Kd.N (Kd.slice 46 k46) 23 wY w.heap.size (fun k_ => (w.heap.size ≤ k_) ∧ some k_ ≠ (.slice AoP tH.length coP : Value).ownBlock ∧ some k_ ≠ (.slice AoN tF.length coN : Value).ownBlock ∧ k_ ≠ gbE ∧ k_ ≠ gbC ∧ k_ ≠ gA ∧ k_ ≠ gbD ∧ k_ ≠ gbB) (.slice Ao99 tG.length co99) tG) := ⟨h0_⟩
    have n1_ : Aside0 (Kd.N (Kd.slice 46 k46) 23 wY w.heap.size (fun k_ => (w.heap.size ≤ k_) ∧ some k_ ≠ (.slice Ao99 tG.length co99 : Value).ownBlock ∧ some k_ ≠ (.slice AoN tF.length coN : Value).ownBlock ∧ k_ ≠ gbE ∧ k_ ≠ gbC ∧ k_ ≠ gA ∧ k_ ≠ gbD ∧ k_ ≠ gbB) (.slice AoP tH.length coP) tH) := ⟨h1_⟩
    have n2_ : Aside0 (Kd.R k46 46 wY w.heap.size (fun k_ => (w.heap.size ≤ k_) ∧ k_ ≠ gbC ∧ k_ ≠ gbB) (.slice AoN tF.length coN) tF) := ⟨h2_⟩
    have n3_ : Aside0 (wY.heap[gbE]? = some (.cells #[.int .i64 0, .slice none 0 0, .slice none 0 0, .slice none 0 0] 25 (0, 0))) := ⟨h3_⟩
    have n4_ : Aside0 (wY.heap[gbC]? = some (.cells #[.int .i64 0, .int .i64 0, .int .i64 0] 46 (0, 0))) := ⟨h4_⟩
    have n5_ : Aside0 (wY.heap[gbD]? = some (.cells #[.int .i64 tL, .slice Ao99 tG.length co99, .slice AoP tH.length coP, .slice AoN tF.length coN] 25 (0, 0))) := ⟨h5_⟩
    have n6_ : Aside0 (wY.heap[gbB]? = some (.cells #[.int .i64 0, .int .i64 0, .int .i64 0] 46 (0, 0))) := ⟨h6_⟩
    have n7_ : Aside0 (w.heap.size ≤ gbB) := ⟨h7_⟩
    have n8_ : Aside0 (w.heap.size ≤ gbB) := ⟨h8_⟩
    have n9_ : Aside0 (gA ≠ gbB) := ⟨h9_⟩
    have n10_ : Aside0 (gbB ≠ gA) := ⟨h10_⟩
    have n11_ : Aside0 (gbE ≠ gbB) := ⟨h11_⟩
    have n12_ : Aside0 (gbB ≠ gbE) := ⟨h12_⟩
    have n13_ : Aside0 (gbC ≠ gbB) := ⟨h13_⟩
    have n14_ : Aside0 (gbB ≠ gbC) := ⟨h14_⟩
    have n15_ : Aside0 (gbD ≠ gbB) := ⟨h15_⟩
    have n16_ : Aside0 (gbB ≠ gbD) := ⟨h16_⟩
    have n17_ : Aside0 (IsS98 w wY gA tM tA1 tA2) := ⟨h17_⟩
    have n18_ : Aside0 (Below w.heap.size w wY) := ⟨h18_⟩
    clear HOI
    clear HOJ
    clear HOK
    clear BKE BKC BKD
    clear HIA
    clear HB
    clear h0_ h1_ h2_ h3_ h4_ h5_ h6_ h7_ h8_ h9_ h10_ h11_ h12_ h13_ h14_ h15_ h16_ h17_ h18_
    have HOI := n0_
    have HOJ := n1_
    have HOK := n2_
    have BKE := n3_
    have BKC := n4_
    have BKD := n5_
    have BKB := n6_
    have GWB := n7_
    have GEB := n8_
    have NBA_B := n9_
    have NBB_A := n10_
    have NBE_B := n11_
    have NBB_E := n12_
    have NBC_B := n13_
    have NBB_C := n14_
    have NBD_B := n15_
    have NBB_D := n16_
    have HIA := n17_
    have HB := n18_
    clear n0_ n1_ n2_ n3_ n4_ n5_ n6_ n7_ n8_ n9_ n10_ n11_ n12_ n13_ n14_ n15_ n16_ n17_ n18_
    have hHeld : wY.cell? ⟨gbD, 0, none⟩ = some (.int .i64 tL) ∧ wY.cell? ⟨gbD, 1, none⟩ = some (.slice Ao99 tG.length co99) ∧ wY.cell? ⟨gbD, 2, none⟩ = some (.slice AoP tH.length coP) ∧ wY.cell? ⟨gbD, 3, none⟩ = some (.slice AoN tF.length coN) := hS_
    refine norm_ (a' := ?_) ?_ ?_
    rotate_left
    ·simp only [putAll, Act.put, List.setIfInBounds_toArray, List.set_cons_zero, List.set_cons_succ]
     rfl
    refine one_ (i := 8) (N := none) (fB 9 511) rfl rfl (one_of HT_.o (by kernel_rfl)) (by decide) (fun K hK => ?_)
    have hsC2 : wY.cell? ⟨gbB, 0, none⟩ = some (.int .i64 0) := (bC BKB.o 0).trans rfl
    have hfsC2 := blk_frozen BKB.o 0
    have hnsC2_0 := NBE_B.o
    have hnsC2_1 := NBC_B.o
    have hnsC2_2 := NBD_B.o
    have hmsC2_0 := NBB_E.o
    have hmsC2_1 := NBB_C.o
    have hmsC2_2 := NBB_D.o
    have hsC3 : wY.cell? ⟨gbB, 1, none⟩ = some (.int .i64 0) := (bC BKB.o 1).trans rfl
    have hfsC3 := blk_frozen BKB.o 1
    have hnsC3_0 := NBE_B.o
    have hnsC3_1 := NBC_B.o
    have hnsC3_2 := NBD_B.o
    have hmsC3_0 := NBB_E.o
    have hmsC3_1 := NBB_C.o
    have hmsC3_2 := NBB_D.o
    have hsC4 : wY.cell? ⟨gbB, 2, none⟩ = some (.int .i64 0) := (bC BKB.o 2).trans rfl
    have hfsC4 := blk_frozen BKB.o 2
    have hnsC4_0 := NBE_B.o
    have hnsC4_1 := NBC_B.o
    have hnsC4_2 := NBD_B.o
    have hmsC4_0 := NBB_E.o
    have hmsC4_1 := NBB_C.o
    have hmsC4_2 := NBB_D.o
    refine skip_ (w1 := ?_) (by rfl) rfl ?_ ?_
    rotate_left
    ·go_simp
     rfl
    refine hK.out _ _ ⟨((cell_far (p := ⟨gbB, _, none⟩) NBD_B.o _).trans (((cell_far (p := ⟨gbB, _, none⟩) NBD_B.o _).trans (((cell_far (p := ⟨gbB, _, none⟩) NBD_B.o _).trans (hHeld.1)))))), ((cell_far (p := ⟨gbB, _, none⟩) NBD_B.o _).trans (((cell_far (p := ⟨gbB, _, none⟩) NBD_B.o _).trans (((cell_far (p := ⟨gbB, _, none⟩) NBD_B.o _).trans (hHeld.2.1)))))), ((cell_far (p := ⟨gbB, _, none⟩) NBD_B.o _).trans (((cell_far (p := ⟨gbB, _, none⟩) NBD_B.o _).trans (((cell_far (p := ⟨gbB, _, none⟩) NBD_B.o _).trans (hHeld.2.2.1)))))), ((cell_far (p := ⟨gbB, _, none⟩) NBD_B.o _).trans (((cell_far (p := ⟨gbB, _, none⟩) NBD_B.o _).trans (((cell_far (p := ⟨gbB, _, none⟩) NBD_B.o _).trans (hHeld.2.2.2))))))⟩ fun hHeld => ?_; clear hK K
    refine done_ (done_of HT_.o (by kernel_rfl)) ?_
    try go_wp2_with (first | ((with_reducible refine gC 83 rfl ?_); refine gL 19 Try.func83 #[.pointer (some ⟨gA, 0, none⟩), .int .i64 8] ?_; (with_reducible refine (spec_l1Below.calls gA tM tA1 tA2 8 tA6 tB2 tB3 w _ ?side1 ?side2 A6.o).mono ?_); (case side1 => exact zI4 HIA.o NBA_E.o NBA_C.o NBA_D.o NBA_B.o); (case side2 => exact zL5 HB.o (IsS98.ge HIA.o) GEE.o GEC.o GED.o GEB.o); rintro e wH2 ⟨rfl, hi, hb, hk⟩; refine ⟨_, rfl, ?_⟩; replace BKE := aM (zQ2 (.cells #[.int .i64 0, .slice none 0 0, .slice none 0 0, .slice none 0 0] 25 (0, 0)) hk (by refine zB ?_; refine blk_far ?_ NBE_B.o _; refine zB ?_; refine blk_far ?_ NBE_B.o _; refine zB ?_; refine blk_far ?_ NBE_B.o _; exact zB BKE.o) NBE_A.o (by simp)); replace BKC := aM (zQ2 (.cells #[.int .i64 0, .int .i64 0, .int .i64 0] 46 (0, 0)) hk (by refine zB ?_; refine blk_far ?_ NBC_B.o _; refine zB ?_; refine blk_far ?_ NBC_B.o _; refine zB ?_; refine blk_far ?_ NBC_B.o _; exact zB BKC.o) NBC_A.o (by simp)); replace HOI := aM (Kd.N_mono (Kd.N_keep (Kd.N_mono (ok := fun k_ => (((w.heap.size ≤ k_)) ∧ (some k_ ≠ (.slice AoP tH.length coP : Value).ownBlock ∧ (some k_ ≠ (.slice AoN tF.length coN : Value).ownBlock ∧ (k_ ≠ gbE ∧ (k_ ≠ gbC ∧ (k_ ≠ gA ∧ (k_ ≠ gbD ∧ k_ ≠ gbB)))))))) (by refine zX ?_; exact (Kd.N_mono (Kd.N_far (p := ⟨gbB, 2, none⟩) (Kd.N_far (p := ⟨gbB, 1, none⟩) (Kd.N_far (p := ⟨gbB, 0, none⟩) (Kd.N_mono HOI.o (fun k_ hk => (⟨hk, hk.2.2.2.2.2.2.2⟩ : _ ∧ k_ ≠ gbB))) (fun _ hk => hk.2) (.int .i64 tQ)) (fun _ hk => hk.2) (.int .i64 tT)) (fun _ hk => hk.2) (.int .i64 tU)) (fun _ h_ => h_.1))) (fun k_ hk_ => (⟨hk_, hk_.2.2.2.2.2.1⟩ : _ ∧ k_ ≠ gA))) hk (fun _ h => h.2)) (fun _ h => h.1)); replace HOJ := aM (Kd.N_mono (Kd.N_keep (Kd.N_mono (ok := fun k_ => (((w.heap.size ≤ k_)) ∧ (some k_ ≠ (.slice Ao99 tG.length co99 : Value).ownBlock ∧ (some k_ ≠ (.slice AoN tF.length coN : Value).ownBlock ∧ (k_ ≠ gbE ∧ (k_ ≠ gbC ∧ (k_ ≠ gA ∧ (k_ ≠ gbD ∧ k_ ≠ gbB)))))))) (by refine zX ?_; exact (Kd.N_mono (Kd.N_far (p := ⟨gbB, 2, none⟩) (Kd.N_far (p := ⟨gbB, 1, none⟩) (Kd.N_far (p := ⟨gbB, 0, none⟩) (Kd.N_mono HOJ.o (fun k_ hk => (⟨hk, hk.2.2.2.2.2.2.2⟩ : _ ∧ k_ ≠ gbB))) (fun _ hk => hk.2) (.int .i64 tQ)) (fun _ hk => hk.2) (.int .i64 tT)) (fun _ hk => hk.2) (.int .i64 tU)) (fun _ h_ => h_.1))) (fun k_ hk_ => (⟨hk_, hk_.2.2.2.2.2.1⟩ : _ ∧ k_ ≠ gA))) hk (fun _ h => h.2)) (fun _ h => h.1)); replace HOK := aM (Kd.R_mono (Kd.R_keep (IsS98.apart (show IsS98 w _ gA tM tA1 tA2 from zI4 HIA.o NBA_E.o NBA_C.o NBA_D.o NBA_B.o) (by refine zR ?_; exact (Kd.R_mono (Kd.R_far (p := ⟨gbB, 2, none⟩) (Kd.R_far (p := ⟨gbB, 1, none⟩) (Kd.R_far (p := ⟨gbB, 0, none⟩) (Kd.R_mono HOK.o (fun k_ hk => (⟨hk, hk.2.2⟩ : _ ∧ k_ ≠ gbB))) (fun _ hk => hk.2) (.int .i64 tQ)) (fun _ hk => hk.2) (.int .i64 tT)) (fun _ hk => hk.2) (.int .i64 tU)) (fun _ h_ => h_.1))) (by decide)) hk (fun _ h => h.2)) (fun _ h => h.1)); replace BKD := aM (zQ2 (.cells #[.int .i64 tL, .slice Ao99 tG.length co99, .slice AoP tH.length coP, .slice AoN tF.length coN] 25 (0, 0)) hk (by refine zB ?_; refine blk_far ?_ NBD_B.o _; refine zB ?_; refine blk_far ?_ NBD_B.o _; refine zB ?_; refine blk_far ?_ NBD_B.o _; exact zB BKD.o) NBD_A.o (by simp)); replace BKB := aM (zQ2 (.cells #[.int .i64 tQ, .int .i64 tT, .int .i64 tU] 46 (0, 0)) hk (by refine zB ?_; refine blk_put (cs := #[.int .i64 tQ, .int .i64 tT, .int .i64 0]) ?_ 2 _ rfl; refine zB ?_; refine blk_put (cs := #[.int .i64 tQ, .int .i64 0, .int .i64 0]) ?_ 1 _ rfl; refine zB ?_; refine blk_put (cs := #[.int .i64 0, .int .i64 0, .int .i64 0]) ?_ 0 _ rfl; exact zB BKB.o) NBB_A.o (by simp)); replace HB := aM hb; replace HIA := aM hi; clear hi hb hk) | ((with_reducible refine gD 34 rfl ?_); refine Kd.R_lit (Kd.int .i64) _ 3 ?hg (N := 34) ?hd (xs := ([0, (-1)] : List Int)) (inner := [.int .i64 0, .int .i64 (-1)]) (ok := fun _ => True) (okp := fun _ => True) ?hr ?hp (fun _ hk => hk) trivial (Below.refl _ _) (Nat.le_refl _) (by simp) ?_; (case hd => rfl); (case hg => rfl); (case hr => first | (go_simp; done) | (go_simp; rfl)); (case hp => exact zhp); intro vH3 wH4 hoC5 hb hg_ hnew_; clear hg_ hnew_; (first | rw [← NyB0.o] at hoC5 | (simp only [Int.reduceToNat] at hoC5; rw [← NyB0.o] at hoC5)); replace HOI := aM (Kd.N_elder' (zX HOI.o) (Kd.R_base hoC5) hb); replace HOJ := aM (Kd.N_elder' (zX HOJ.o) (Kd.R_base hoC5) hb); replace HOK := zRB HOK hb; have HOB5 := aM (Kd.R_lower (Kd.R_newM (M := fun k_ => (w.heap.size ≤ k_)) hoC5 (below_size (zL5 HB.o (IsS98.ge HIA.o) GEE.o GEC.o GED.o GEB.o)) (fun k_ h_ => h_)) (below_size (zL5 HB.o (IsS98.ge HIA.o) GEE.o GEC.o GED.o GEB.o))); replace BKE := zBB BKE hb; replace BKC := zBB BKC hb; replace BKD := zBB BKD hb; replace BKB := zBB BKB hb; replace HB := zLB (zL5 HB.o (IsS98.ge HIA.o) GEE.o GEC.o GED.o GEB.o) hb; replace HIA := aM (IsS98.below (zI4 HIA.o NBA_E.o NBA_C.o NBA_D.o NBA_B.o) hb); clear hb hoC5; obtain ⟨AoA8, coA8, eoA8⟩ := Kd.R_slice HOB5.o; subst eoA8) | ((with_reducible refine gC 85 rfl ?_); refine gL 35 Try.func85 #[.pointer (some ⟨gA, 0, none⟩), .slice AoA8 yB0.length coA8] ?_; (with_reducible refine (spec_l1Int.calls gA tM tB2 tB3 _ _ yB0 tA3 tF0 tF1 w _ ?side1 ?side2 ?side3 ?side4 ?side5 A89.o).mono ?_); (case side1 => exact zI4 HIA.o NBA_E.o NBA_C.o NBA_D.o NBA_B.o); (case side2 => exact zL5 HB.o (IsS98.ge HIA.o) GEE.o GEC.o GED.o GEB.o); (case side3 => exact zC (Kd.R_reads' HOB5.o).2.2); (case side4 => exact (Kd.R_reads' HOB5.o).2.1); (case side5 => exact far_slice (IsS98.own_ne HIA.o HOB5.o (by decide))); rintro e wB1 ⟨rfl, hi, hb, hk⟩; refine ⟨_, rfl, ?_⟩; replace BKE := zBK hk BKE NBE_A; replace BKC := zBK hk BKC NBC_A; replace HOI := aM (Kd.N_mono (Kd.N_keep (Kd.N_mono (ok := fun k_ => ((((w.heap.size ≤ k_)) ∧ (some k_ ≠ (.slice AoP tH.length coP : Value).ownBlock ∧ (some k_ ≠ (.slice AoN tF.length coN : Value).ownBlock ∧ (k_ ≠ gbE ∧ (k_ ≠ gbC ∧ (k_ ≠ gA ∧ (k_ ≠ gbD ∧ k_ ≠ gbB))))))) ∧ some k_ ≠ (.slice AoA8 yB0.length coA8 : Value).ownBlock)) (zX HOI.o) (fun k_ hk_ => (⟨hk_, hk_.1.2.2.2.2.2.1⟩ : _ ∧ k_ ≠ gA))) hk (fun _ h => h.2)) (fun _ h => h.1)); replace HOJ := aM (Kd.N_mono (Kd.N_keep (Kd.N_mono (ok := fun k_ => ((((w.heap.size ≤ k_)) ∧ (some k_ ≠ (.slice Ao99 tG.length co99 : Value).ownBlock ∧ (some k_ ≠ (.slice AoN tF.length coN : Value).ownBlock ∧ (k_ ≠ gbE ∧ (k_ ≠ gbC ∧ (k_ ≠ gA ∧ (k_ ≠ gbD ∧ k_ ≠ gbB))))))) ∧ some k_ ≠ (.slice AoA8 yB0.length coA8 : Value).ownBlock)) (zX HOJ.o) (fun k_ hk_ => (⟨hk_, hk_.1.2.2.2.2.2.1⟩ : _ ∧ k_ ≠ gA))) hk (fun _ h => h.2)) (fun _ h => h.1)); replace HOK := aM (Kd.R_mono (Kd.R_keep (IsS98.apart (show IsS98 w _ gA tM tB2 tB3 from zI4 HIA.o NBA_E.o NBA_C.o NBA_D.o NBA_B.o) (zR HOK.o) (by decide)) hk (fun _ h => h.2)) (fun _ h => h.1)); replace BKD := zBK hk BKD NBD_A; replace BKB := zBK hk BKB NBB_A; replace HOB5 := aM (Kd.R_mono (Kd.R_keep (IsS98.apart (show IsS98 w _ gA tM tB2 tB3 from zI4 HIA.o NBA_E.o NBA_C.o NBA_D.o NBA_B.o) (zR HOB5.o) (by decide)) hk (fun _ h => h.2)) (fun _ h => h.1)); replace HB := aM hb; replace HIA := aM hi; clear hi hb hk; have hnbF8 := NBB_E.o; have hncF8 := NBE_B.o; have hnbF9 := NBB_C.o; have hncF9 := NBC_B.o; have hnbG0 := NBB_D.o; have hncG0 := NBD_B.o; have hnbG1 := NBB_A.o; have hncG1 := NBA_B.o; have hczE5_0 : wB1.cell? ⟨gbB, 0, none⟩ = some (.int .i64 tQ) := (bC BKB.o 0).trans rfl; have hczE5_1 : wB1.cell? ⟨gbB, 1, none⟩ = some (.int .i64 tT) := (bC BKB.o 1).trans rfl; have hczE5_2 : wB1.cell? ⟨gbB, 2, none⟩ = some (.int .i64 tU) := (bC BKB.o 2).trans rfl; have hfzE5_0 := blk_frozen BKB.o 0; have hfzE5_1 := blk_frozen BKB.o 1; have hfzE5_2 := blk_frozen BKB.o 2))
    have n0_ : Aside0 (Kd.N (Kd.slice 46 k46) 23 (wB1.setCell ⟨gbB, 0, none⟩ (.int .i64 tA3)) w.heap.size (fun k_ => (w.heap.size ≤ k_) ∧ some k_ ≠ (.slice AoP tH.length coP : Value).ownBlock ∧ some k_ ≠ (.slice AoN tF.length coN : Value).ownBlock ∧ some k_ ≠ (.slice AoA8 yB0.length coA8 : Value).ownBlock ∧ k_ ≠ gbE ∧ k_ ≠ gbC ∧ k_ ≠ gA ∧ k_ ≠ gbD ∧ k_ ≠ gbB) (.slice Ao99 tG.length co99) tG) := ⟨by refine zX ?_; exact Kd.N_mono (Kd.N_far (p := ⟨gbB, 0, none⟩) (Kd.N_mono HOI.o (fun k_ hk => (⟨hk, hk.1.2.2.2.2.2.2.2⟩ : _ ∧ k_ ≠ gbB))) (fun _ hk => hk.2) (.int .i64 tA3)) (fun _ hk => ⟨hk.1.1.1, ⟨hk.1.1.2.1, ⟨hk.1.1.2.2.1, ⟨hk.1.2, ⟨hk.1.1.2.2.2.1, ⟨hk.1.1.2.2.2.2.1, ⟨hk.1.1.2.2.2.2.2.1, ⟨hk.1.1.2.2.2.2.2.2.1, hk.1.1.2.2.2.2.2.2.2⟩⟩⟩⟩⟩⟩⟩⟩)⟩
    have n1_ : Aside0 (Kd.N (Kd.slice 46 k46) 23 (wB1.setCell ⟨gbB, 0, none⟩ (.int .i64 tA3)) w.heap.size (fun k_ => (w.heap.size ≤ k_) ∧ some k_ ≠ (.slice Ao99 tG.length co99 : Value).ownBlock ∧ some k_ ≠ (.slice AoN tF.length coN : Value).ownBlock ∧ some k_ ≠ (.slice AoA8 yB0.length coA8 : Value).ownBlock ∧ k_ ≠ gbE ∧ k_ ≠ gbC ∧ k_ ≠ gA ∧ k_ ≠ gbD ∧ k_ ≠ gbB) (.slice AoP tH.length coP) tH) := ⟨by refine zX ?_; exact Kd.N_mono (Kd.N_far (p := ⟨gbB, 0, none⟩) (Kd.N_mono HOJ.o (fun k_ hk => (⟨hk, hk.1.2.2.2.2.2.2.2⟩ : _ ∧ k_ ≠ gbB))) (fun _ hk => hk.2) (.int .i64 tA3)) (fun _ hk => ⟨hk.1.1.1, ⟨hk.1.1.2.1, ⟨hk.1.1.2.2.1, ⟨hk.1.2, ⟨hk.1.1.2.2.2.1, ⟨hk.1.1.2.2.2.2.1, ⟨hk.1.1.2.2.2.2.2.1, ⟨hk.1.1.2.2.2.2.2.2.1, hk.1.1.2.2.2.2.2.2.2⟩⟩⟩⟩⟩⟩⟩⟩)⟩
    have n2_ : Aside0 (Kd.R k46 46 (wB1.setCell ⟨gbB, 0, none⟩ (.int .i64 tA3)) w.heap.size (fun k_ => (w.heap.size ≤ k_) ∧ k_ ≠ gbC ∧ k_ ≠ gbB) (.slice AoN tF.length coN) tF) := ⟨by refine zR ?_; exact Kd.R_mono (Kd.R_far (p := ⟨gbB, 0, none⟩) (Kd.R_mono HOK.o (fun k_ hk => (⟨hk, hk.2.2⟩ : _ ∧ k_ ≠ gbB))) (fun _ hk => hk.2) (.int .i64 tA3)) (fun _ hk => ⟨hk.1.1, ⟨hk.1.2.1, hk.1.2.2⟩⟩)⟩
    have n3_ : Aside0 (Kd.R (Kd.int .i64) 3 (wB1.setCell ⟨gbB, 0, none⟩ (.int .i64 tA3)) w.heap.size (fun k_ => (w.heap.size ≤ k_)) (.slice AoA8 yB0.length coA8) yB0) := ⟨by refine zR ?_; exact Kd.R_mono (Kd.R_far (p := ⟨gbB, 0, none⟩) (Kd.R_types HOB5.o BKB.o (by decide)) (fun _ hk => hk.2) (.int .i64 tA3)) (fun _ hk => hk.1.1)⟩
    have n4_ : Aside0 ((wB1.setCell ⟨gbB, 0, none⟩ (.int .i64 tA3)).heap[gbE]? = some (.cells #[.int .i64 0, .slice none 0 0, .slice none 0 0, .slice none 0 0] 25 (0, 0))) := ⟨by refine zB ?_; refine blk_far ?_ NBE_B.o _; exact zB BKE.o⟩
    have n5_ : Aside0 ((wB1.setCell ⟨gbB, 0, none⟩ (.int .i64 tA3)).heap[gbC]? = some (.cells #[.int .i64 0, .int .i64 0, .int .i64 0] 46 (0, 0))) := ⟨by refine zB ?_; refine blk_far ?_ NBC_B.o _; exact zB BKC.o⟩
    have n6_ : Aside0 ((wB1.setCell ⟨gbB, 0, none⟩ (.int .i64 tA3)).heap[gbD]? = some (.cells #[.int .i64 tL, .slice Ao99 tG.length co99, .slice AoP tH.length coP, .slice AoN tF.length coN] 25 (0, 0))) := ⟨by refine zB ?_; refine blk_far ?_ NBD_B.o _; exact zB BKD.o⟩
    have n7_ : Aside0 ((wB1.setCell ⟨gbB, 0, none⟩ (.int .i64 tA3)).heap[gbB]? = some (.cells #[.int .i64 tA3, .int .i64 tT, .int .i64 tU] 46 (0, 0))) := ⟨by refine zB ?_; refine blk_put (cs := #[.int .i64 tQ, .int .i64 tT, .int .i64 tU]) ?_ 0 _ rfl; exact zB BKB.o⟩
    have n8_ : Aside0 (IsS98 w (wB1.setCell ⟨gbB, 0, none⟩ (.int .i64 tA3)) gA tM tF0 tF1) := ⟨zI4 HIA.o NBA_E.o NBA_C.o NBA_D.o NBA_B.o⟩
    have n9_ : Aside0 (Below w.heap.size w (wB1.setCell ⟨gbB, 0, none⟩ (.int .i64 tA3))) := ⟨zL5 HB.o (IsS98.ge HIA.o) GEE.o GEC.o GED.o GEB.o⟩
    (try clear HOI)
    (try clear HOJ)
    (try clear HOK)
    (try clear HOB5)
    (try clear BKE)
    (try clear BKC)
    (try clear BKD)
    (try clear BKB)
    (try clear HIA)
    (try clear HB)
    generalize (wB1.setCell ⟨gbB, 0, none⟩ (.int .i64 tA3)) = wG2 at n0_ n1_ n2_ n3_ n4_ n5_ n6_ n7_ n8_ n9_ ⊢
    have HOI := n0_
    have HOJ := n1_
    have HOK := n2_
    have HOB5 := n3_
    have BKE := n4_
    have BKC := n5_
    have BKD := n6_
    have BKB := n7_
    have HIA := n8_
    have HB := n9_
    clear n0_ n1_ n2_ n3_ n4_ n5_ n6_ n7_ n8_ n9_
    replace HOI := zXD HOI; replace HOJ := zXD HOJ; replace HOK := zRD HOK; replace HOB5 := zRD HOB5; replace BKE := zBD BKE; replace BKC := zBD BKC; replace BKD := zBD BKD; replace BKB := zBD BKB; replace HIA := aM (IsS98.drew HIA.o); replace HB := zLD HB
    refine start_ (n := 4) (S := fun w' => w'.cell? ⟨gbD, 0, none⟩ = some (.int .i64 tL) ∧ w'.cell? ⟨gbD, 1, none⟩ = some (.slice Ao99 tG.length co99) ∧ w'.cell? ⟨gbD, 2, none⟩ = some (.slice AoP tH.length coP) ∧ w'.cell? ⟨gbD, 3, none⟩ = some (.slice AoN tF.length coN) ∧ w'.cell? ⟨gbB, 0, none⟩ = some (.int .i64 tA3) ∧ w'.cell? ⟨gbB, 1, none⟩ = some (.int .i64 tT) ∧ w'.cell? ⟨gbB, 2, none⟩ = some (.int .i64 tU)) (ds := []) #[false, false, false, false] (by kernel_rfl) rfl rfl ⟨(bC BKD.o 0).trans rfl, (bC BKD.o 1).trans rfl, (bC BKD.o 2).trans rfl, (bC BKD.o 3).trans rfl, (bC BKB.o 0).trans rfl, (bC BKB.o 1).trans rfl, (bC BKB.o 2).trans rfl⟩ (fun hHeld => ?_)
    generalize wG2.drew = wC6 at HOI HOJ HOK HOB5 BKE BKC BKD BKB HIA HB hHeld ⊢
    refine take_ (i := 0) (N := some 37) (v := ?_) (a' := ?_) (fB 4 1) rfl rfl (by kernel_rfl) (fun _ _ _ h => h) (Or.inl ⟨by rfl, ?_⟩) hHeld ?_ ?_
    rotate_left
    ·rintro w' ⟨s0, s1, s2, s3, s4, s5, s6⟩; go_simp; with_reducible rfl
    rotate_left
    ·exact zP
    refine take_ (i := 1) (N := some 38) (v := ?_) (a' := ?_) (fB 4 3) rfl rfl (by kernel_rfl) (fun _ _ _ h => h) (Or.inl ⟨by rfl, ?_⟩) hHeld ?_ ?_
    rotate_left
    ·rintro w' ⟨s0, s1, s2, s3, s4, s5, s6⟩; go_simp; with_reducible rfl
    rotate_left
    ·exact zP
    refine one_ (i := 2) (N := none) (fB 4 7) rfl rfl (by kernel_rfl) (by decide) (fun K hK => ?_)
    have hsC7 : wC6.cell? ⟨gbE, 0, none⟩ = some (.int .i64 0) := (bC BKE.o 0).trans rfl
    have hfsC7 := blk_frozen BKE.o 0
    have hnsC7_1 := NBC_E.o
    have hnsC7_2 := NBD_E.o
    have hnsC7_3 := NBB_E.o
    have hmsC7_1 := NBE_C.o
    have hmsC7_2 := NBE_D.o
    have hmsC7_3 := NBE_B.o
    have hsC8 : wC6.cell? ⟨gbE, 1, none⟩ = some (.slice none 0 0) := (bC BKE.o 1).trans rfl
    have hfsC8 := blk_frozen BKE.o 1
    have hnsC8_1 := NBC_E.o
    have hnsC8_2 := NBD_E.o
    have hnsC8_3 := NBB_E.o
    have hmsC8_1 := NBE_C.o
    have hmsC8_2 := NBE_D.o
    have hmsC8_3 := NBE_B.o
    have hsC9 : wC6.cell? ⟨gbE, 2, none⟩ = some (.slice none 0 0) := (bC BKE.o 2).trans rfl
    have hfsC9 := blk_frozen BKE.o 2
    have hnsC9_1 := NBC_E.o
    have hnsC9_2 := NBD_E.o
    have hnsC9_3 := NBB_E.o
    have hmsC9_1 := NBE_C.o
    have hmsC9_2 := NBE_D.o
    have hmsC9_3 := NBE_B.o
    have hsD0 : wC6.cell? ⟨gbE, 3, none⟩ = some (.slice none 0 0) := (bC BKE.o 3).trans rfl
    have hfsD0 := blk_frozen BKE.o 3
    have hnsD0_1 := NBC_E.o
    have hnsD0_2 := NBD_E.o
    have hnsD0_3 := NBB_E.o
    have hmsD0_1 := NBE_C.o
    have hmsD0_2 := NBE_D.o
    have hmsD0_3 := NBE_B.o
    refine skip_ (w1 := ?_) (by rfl) rfl ?_ ?_
    rotate_left
    ·go_simp
     rfl
    refine hK.out _ _ ⟨zcf4 NBD_E.o hHeld.1, zcf4 NBD_E.o hHeld.2.1, zcf4 NBD_E.o hHeld.2.2.1, zcf4 NBD_E.o hHeld.2.2.2.1, zcf4 NBB_E.o hHeld.2.2.2.2.1, zcf4 NBB_E.o hHeld.2.2.2.2.2.1, zcf4 NBB_E.o hHeld.2.2.2.2.2.2⟩ fun hHeld => ?_; clear hK K
    refine one_ (i := 3) (N := none) (fB 4 15) rfl rfl (by kernel_rfl) (by decide) (fun K hK => ?_)
    have hsD1 : wC6.cell? ⟨gbC, 0, none⟩ = some (.int .i64 0) := (bC BKC.o 0).trans rfl
    have hfsD1 := blk_frozen BKC.o 0
    have hnsD1_0 := NBE_C.o
    have hnsD1_2 := NBD_C.o
    have hnsD1_3 := NBB_C.o
    have hmsD1_0 := NBC_E.o
    have hmsD1_2 := NBC_D.o
    have hmsD1_3 := NBC_B.o
    have hsD2 : wC6.cell? ⟨gbC, 1, none⟩ = some (.int .i64 0) := (bC BKC.o 1).trans rfl
    have hfsD2 := blk_frozen BKC.o 1
    have hnsD2_0 := NBE_C.o
    have hnsD2_2 := NBD_C.o
    have hnsD2_3 := NBB_C.o
    have hmsD2_0 := NBC_E.o
    have hmsD2_2 := NBC_D.o
    have hmsD2_3 := NBC_B.o
    have hsD3 : wC6.cell? ⟨gbC, 2, none⟩ = some (.int .i64 0) := (bC BKC.o 2).trans rfl
    have hfsD3 := blk_frozen BKC.o 2
    have hnsD3_0 := NBE_C.o
    have hnsD3_2 := NBD_C.o
    have hnsD3_3 := NBB_C.o
    have hmsD3_0 := NBC_E.o
    have hmsD3_2 := NBC_D.o
    have hmsD3_3 := NBC_B.o
    refine skip_ (w1 := ?_) (by rfl) rfl ?_ ?_
    rotate_left
    ·go_simp
     rfl
    refine hK.out _ _ ⟨((cell_far (p := ⟨gbC, _, none⟩) NBD_C.o _).trans (((cell_far (p := ⟨gbC, _, none⟩) NBD_C.o _).trans (((cell_far (p := ⟨gbC, _, none⟩) NBD_C.o _).trans (hHeld.1)))))), ((cell_far (p := ⟨gbC, _, none⟩) NBD_C.o _).trans (((cell_far (p := ⟨gbC, _, none⟩) NBD_C.o _).trans (((cell_far (p := ⟨gbC, _, none⟩) NBD_C.o _).trans (hHeld.2.1)))))), ((cell_far (p := ⟨gbC, _, none⟩) NBD_C.o _).trans (((cell_far (p := ⟨gbC, _, none⟩) NBD_C.o _).trans (((cell_far (p := ⟨gbC, _, none⟩) NBD_C.o _).trans (hHeld.2.2.1)))))), ((cell_far (p := ⟨gbC, _, none⟩) NBD_C.o _).trans (((cell_far (p := ⟨gbC, _, none⟩) NBD_C.o _).trans (((cell_far (p := ⟨gbC, _, none⟩) NBD_C.o _).trans (hHeld.2.2.2.1)))))), ((cell_far (p := ⟨gbC, _, none⟩) NBB_C.o _).trans (((cell_far (p := ⟨gbC, _, none⟩) NBB_C.o _).trans (((cell_far (p := ⟨gbC, _, none⟩) NBB_C.o _).trans (hHeld.2.2.2.2.1)))))), ((cell_far (p := ⟨gbC, _, none⟩) NBB_C.o _).trans (((cell_far (p := ⟨gbC, _, none⟩) NBB_C.o _).trans (((cell_far (p := ⟨gbC, _, none⟩) NBB_C.o _).trans (hHeld.2.2.2.2.2.1)))))), ((cell_far (p := ⟨gbC, _, none⟩) NBB_C.o _).trans (((cell_far (p := ⟨gbC, _, none⟩) NBB_C.o _).trans (((cell_far (p := ⟨gbC, _, none⟩) NBB_C.o _).trans (hHeld.2.2.2.2.2.2))))))⟩ fun hHeld => ?_; clear hK K
    refine done_ (by kernel_rfl) ?_
    try go_wp2
    refine bodyPost_ret (results_cc rfl _ _ gbE gbC 25 46 #[.int .i64 tL, .slice Ao99 tG.length co99, .slice AoP tH.length coP, .slice AoN tF.length coN] #[.int .i64 tA3, .int .i64 tT, .int .i64 tU] (0, 0) (0, 0) _ _ rfl (by refine zB ?_; refine blk_far ?_ NBE_C.o _; refine zB ?_; refine blk_far ?_ NBE_C.o _; refine zB ?_; refine blk_far ?_ NBE_C.o _; refine zB ?_; refine zp4 (cs := #[.int .i64 0, .slice none 0 0, .slice none 0 0, .slice none 0 0]) ?_; exact zB BKE.o) Try.underlying25 rfl (by kernel_rfl) rfl (by refine zB ?_; refine blk_put (cs := #[.int .i64 tA3, .int .i64 tT, .int .i64 0]) ?_ 2 _ rfl; refine zB ?_; refine blk_put (cs := #[.int .i64 tA3, .int .i64 0, .int .i64 0]) ?_ 1 _ rfl; refine zB ?_; refine blk_put (cs := #[.int .i64 0, .int .i64 0, .int .i64 0]) ?_ 0 _ rfl; refine zB ?_; refine zr4 ?_ NBC_E.o; exact zB BKC.o) Try.underlying46 rfl (by kernel_rfl)) rfl ?_
    exact ⟨_, _, _, zW, by refine zX ?_; exact Kd.N_mono (Kd.N_far (p := ⟨gbC, 2, none⟩) (Kd.N_far (p := ⟨gbC, 1, none⟩) (Kd.N_far (p := ⟨gbC, 0, none⟩) (zNF4 (Kd.N_mono (Kd.N_mono HOI.o (fun k_ hk => (⟨hk, hk.2.2.2.2.1⟩ : _ ∧ k_ ≠ gbE))) (fun k_ hk => (⟨hk, hk.1.2.2.2.2.2.1⟩ : _ ∧ k_ ≠ gbC))) gbE (fun _ hk => hk.1.2) (.int .i64 tL) (.slice Ao99 tG.length co99) (.slice AoP tH.length coP) (.slice AoN tF.length coN)) (fun _ hk => hk.2) (.int .i64 tA3)) (fun _ hk => hk.2) (.int .i64 tT)) (fun _ hk => hk.2) (.int .i64 tU)) (fun _ hk => ⟨hk.1.1.1, ⟨hk.1.1.2.1, hk.1.1.2.2.1⟩⟩), by refine zX ?_; exact Kd.N_mono (Kd.N_far (p := ⟨gbC, 2, none⟩) (Kd.N_far (p := ⟨gbC, 1, none⟩) (Kd.N_far (p := ⟨gbC, 0, none⟩) (zNF4 (Kd.N_mono (Kd.N_mono HOJ.o (fun k_ hk => (⟨hk, hk.2.2.2.2.1⟩ : _ ∧ k_ ≠ gbE))) (fun k_ hk => (⟨hk, hk.1.2.2.2.2.2.1⟩ : _ ∧ k_ ≠ gbC))) gbE (fun _ hk => hk.1.2) (.int .i64 tL) (.slice Ao99 tG.length co99) (.slice AoP tH.length coP) (.slice AoN tF.length coN)) (fun _ hk => hk.2) (.int .i64 tA3)) (fun _ hk => hk.2) (.int .i64 tT)) (fun _ hk => hk.2) (.int .i64 tU)) (fun _ hk => ⟨hk.1.1.1, ⟨hk.1.1.2.1, hk.1.1.2.2.1⟩⟩), by refine zR ?_; exact Kd.R_mono (Kd.R_far (p := ⟨gbC, 2, none⟩) (Kd.R_far (p := ⟨gbC, 1, none⟩) (Kd.R_far (p := ⟨gbC, 0, none⟩) (zRF4 (Kd.R_mono (Kd.R_types HOK.o BKE.o (by decide)) (fun k_ hk => (⟨hk, hk.1.2.1⟩ : _ ∧ k_ ≠ gbC))) gbE (fun _ hk => hk.1.2) (.int .i64 tL) (.slice Ao99 tG.length co99) (.slice AoP tH.length coP) (.slice AoN tF.length coN)) (fun _ hk => hk.2) (.int .i64 tA3)) (fun _ hk => hk.2) (.int .i64 tT)) (fun _ hk => hk.2) (.int .i64 tU)) (fun _ hk => hk.1.1.1), zL5 HB.o (IsS98.ge HIA.o) GEE.o GEC.o GED.o GEB.o⟩
   ·rw [if_neg c88] at H
    obtain ⟨c88b0, c88b1⟩ := zf c88
    simp only [Option.some.injEq, Prod.mk.injEq] at H
    obtain ⟨rfl, rfl, rfl, rfl, rfl, rfl, rfl⟩ := H
    go_enter Try.func46, Try.ntmps46
    try go_wp2_with (first | ((with_reducible refine gD 2 rfl ?_); refine bE 2 #[.int .i64 0, .slice none 0 0, .slice none 0 0, .slice none 0 0] 25 ?_; intro gbE hg wH5 hbox hb; have BKE := aM hbox; have GWE := aM (zg (zL HB.o) hg : w.heap.size ≤ gbE); have GEE := GWE; replace HB := zLB (zL HB.o) hb; clear hb hbox hg) | ((with_reducible refine gD 3 rfl ?_); refine bE 3 #[.int .i64 0, .int .i64 0, .int .i64 0] 46 ?_; intro gbC hg wH6 hbox hb; have BKC := aM hbox; have GWC := aM (zg (zL1 HB.o GEE.o) hg : w.heap.size ≤ gbC); have GEC := GWC; replace HB := zLB (zL1 HB.o GEE.o) hb; have NBE_C := aM (zN BKE.o hg : gbE ≠ gbC); have NBC_E := aM (zM BKE.o hg : gbC ≠ gbE); replace BKE := zBB BKE hb; clear hb hbox hg) | ((with_reducible refine gC 80 rfl ?_); refine gL 8 Try.func80 #[.slice A0 l0.length c0] ?_; (with_reducible refine (spec_l1New.calls k _ _ l0 tM tB8 tB9 w _ ?side1 ?side2 ?side3 A2.o).mono ?_); (case side1 => exact zL2 HB.o GEE.o GEC.o); (case side2 => exact HR0.o); (case side3 => exact HC0.o); rintro e wH7 ⟨gA, rfl, hi, hb, hb2⟩; refine ⟨_, rfl, ?_⟩; replace HB := aM hb; have HIA := aM hi; have NBA_E := aM (IsS98.ne_blk hi (bB (g := gbE) (o := .cells #[.int .i64 0, .slice none 0 0, .slice none 0 0, .slice none 0 0] 25 (0, 0)) (zB BKE.o) hb2) (by decide)); have NBE_A := aM (Ne.symm (IsS98.ne_blk hi (bB (g := gbE) (o := .cells #[.int .i64 0, .slice none 0 0, .slice none 0 0, .slice none 0 0] 25 (0, 0)) (zB BKE.o) hb2) (by decide))); replace BKE := zBB BKE hb2; have NBA_C := aM (IsS98.ne_blk hi (bB (g := gbC) (o := .cells #[.int .i64 0, .int .i64 0, .int .i64 0] 46 (0, 0)) (zB BKC.o) hb2) (by decide)); have NBC_A := aM (Ne.symm (IsS98.ne_blk hi (bB (g := gbC) (o := .cells #[.int .i64 0, .int .i64 0, .int .i64 0] 46 (0, 0)) (zB BKC.o) hb2) (by decide))); replace BKC := zBB BKC hb2; clear hi hb hb2) | ((with_reducible refine gC 81 rfl ?_); refine gL 10 Try.func81 #[.pointer (some ⟨gA, 0, none⟩)] ?_; (with_reducible refine (spec_l8Any.calls k gA tM tB8 tB9 tL tG tH tF tW tX w _ ?side1 ?side2 A3.o).mono ?_); (case side1 => exact zI2 HIA.o NBA_E.o NBA_C.o); (case side2 => exact zL3 HB.o (IsS98.ge HIA.o) GEE.o GEC.o); rintro e wH8 ⟨vC0, vC1, vB6, rfl, ho0, ho1, ho2, hi, hb, hk⟩; refine ⟨_, rfl, ?_⟩; have HOI := aM (Kd.N_lower (Kd.N_mono (ok' := fun k_ => (w.heap.size ≤ k_) ∧ some k_ ≠ (vC1 : Value).ownBlock ∧ some k_ ≠ (vB6 : Value).ownBlock ∧ k_ ≠ gbE ∧ k_ ≠ gbC ∧ k_ ≠ gA) ho0 (fun k_ hk_ => ⟨(Nat.le_trans (below_size (zL3 HB.o (IsS98.ge HIA.o) GEE.o GEC.o)) hk_.1), hk_.2.1, hk_.2.2, (Kd.freshB (g := gbE) (o := .cells #[.int .i64 0, .slice none 0 0, .slice none 0 0, .slice none 0 0] 25 (0, 0)) (zB BKE.o) k_ hk_.1), (Kd.freshB (g := gbC) (o := .cells #[.int .i64 0, .int .i64 0, .int .i64 0] 46 (0, 0)) (zB BKC.o) k_ hk_.1), (IsS98.fresh (zI2 HIA.o NBA_E.o NBA_C.o) k_ hk_.1)⟩)) (below_size (zL3 HB.o (IsS98.ge HIA.o) GEE.o GEC.o))); have HOJ := aM (Kd.N_lower (Kd.N_mono (ok' := fun k_ => (w.heap.size ≤ k_) ∧ some k_ ≠ (vC0 : Value).ownBlock ∧ some k_ ≠ (vB6 : Value).ownBlock ∧ k_ ≠ gbE ∧ k_ ≠ gbC ∧ k_ ≠ gA) ho1 (fun k_ hk_ => ⟨(Nat.le_trans (below_size (zL3 HB.o (IsS98.ge HIA.o) GEE.o GEC.o)) hk_.1), hk_.2.1, hk_.2.2, (Kd.freshB (g := gbE) (o := .cells #[.int .i64 0, .slice none 0 0, .slice none 0 0, .slice none 0 0] 25 (0, 0)) (zB BKE.o) k_ hk_.1), (Kd.freshB (g := gbC) (o := .cells #[.int .i64 0, .int .i64 0, .int .i64 0] 46 (0, 0)) (zB BKC.o) k_ hk_.1), (IsS98.fresh (zI2 HIA.o NBA_E.o NBA_C.o) k_ hk_.1)⟩)) (below_size (zL3 HB.o (IsS98.ge HIA.o) GEE.o GEC.o))); replace BKE := zBK hk BKE NBE_A; have HOK := aM (Kd.R_lower (Kd.R_newB (Kd.R_newM (M := fun k_ => (w.heap.size ≤ k_)) (Kd.R_mono (ok' := fun k_ => True) ho2 (fun _ hk_ => trivial)) (below_size (zL3 HB.o (IsS98.ge HIA.o) GEE.o GEC.o)) (fun k_ h_ => h_)) (g := gbC) (o := .cells #[.int .i64 0, .int .i64 0, .int .i64 0] 46 (0, 0)) (zB BKC.o)) (below_size (zL3 HB.o (IsS98.ge HIA.o) GEE.o GEC.o))); replace BKC := zBK hk BKC NBC_A; replace HB := aM hb; replace HIA := aM hi; clear ho0 hi hb hk; (try clear ho1); (try clear ho2)) | ((with_reducible refine gD 5 rfl ?_); refine bE 5 #[.int .i64 0, .slice none 0 0, .slice none 0 0, .slice none 0 0] 25 ?_; intro gbD hg wB7 hbox hb; replace HOI := aM (Kd.N_below (Kd.N_elderB (zX HOI.o) gbD (Nat.le_of_eq hg.symm)) hb); replace HOJ := aM (Kd.N_below (Kd.N_elderB (zX HOJ.o) gbD (Nat.le_of_eq hg.symm)) hb); replace HOK := zRB HOK hb; have BKD := aM hbox; have GWD := aM ((zg (zL3 HB.o (IsS98.ge HIA.o) GEE.o GEC.o) hg : w.heap.size ≤ gbD)); have GED := GWD; replace HB := zLB (zL3 HB.o (IsS98.ge HIA.o) GEE.o GEC.o) hb; have NBE_D := aM (zN BKE.o hg : gbE ≠ gbD); have NBD_E := aM (zM BKE.o hg : gbD ≠ gbE); replace BKE := zBB BKE hb; have NBC_D := aM (zN BKC.o hg : gbC ≠ gbD); have NBD_C := aM (zM BKC.o hg : gbD ≠ gbC); replace BKC := zBB BKC hb; have NBA_D := aM ((zNI (IsS98.lt (zI2 HIA.o NBA_E.o NBA_C.o : IsS98 w _ gA tM tW tX)) hg : gA ≠ gbD)); have NBD_A := aM ((zMI (IsS98.lt (zI2 HIA.o NBA_E.o NBA_C.o : IsS98 w _ gA tM tW tX)) hg : gbD ≠ gA)); replace HIA := aM (IsS98.below (zI2 HIA.o NBA_E.o NBA_C.o) hb); clear hb hbox hg; have hnbG3 := NBD_E.o; have hncG3 := NBE_D.o; have hnbG4 := NBD_C.o; have hncG4 := NBC_D.o; have hnbG5 := NBD_A.o; have hncG5 := NBA_D.o; have hczG6 := zc4 BKD.o; have hfzG6 := zf4 BKD.o; obtain ⟨AoR, coR, eoR⟩ := Kd.N_slice HOI.o; subst eoR; obtain ⟨AoS, coS, eoS⟩ := Kd.N_slice HOJ.o; subst eoS; obtain ⟨AoO, coO, eoO⟩ := Kd.R_slice HOK.o; subst eoO))
    have n0_ : Aside0 (Kd.N (Kd.slice 46 k46) 23 ((((wB7.setCell ⟨gbD, 0, none⟩ (.int .i64 tL)).setCell ⟨gbD, 1, none⟩ (.slice AoR tG.length coR)).setCell ⟨gbD, 2, none⟩ (.slice AoS tH.length coS)).setCell ⟨gbD, 3, none⟩ (.slice AoO tF.length coO)) w.heap.size (fun k_ => (w.heap.size ≤ k_) ∧ some k_ ≠ (.slice AoS tH.length coS : Value).ownBlock ∧ some k_ ≠ (.slice AoO tF.length coO : Value).ownBlock ∧ k_ ≠ gbE ∧ k_ ≠ gbC ∧ k_ ≠ gA ∧ k_ ≠ gbD) (.slice AoR tG.length coR) tG) := ⟨by refine zX ?_; exact Kd.N_mono (zNF4 (Kd.N_mono HOI.o (fun k_ hk => (⟨hk, hk.2⟩ : _ ∧ k_ ≠ gbD))) gbD (fun _ hk => hk.2) (.int .i64 tL) (.slice AoR tG.length coR) (.slice AoS tH.length coS) (.slice AoO tF.length coO)) (fun _ hk => ⟨hk.1.1.1, ⟨hk.1.1.2.1, ⟨hk.1.1.2.2.1, ⟨hk.1.1.2.2.2.1, ⟨hk.1.1.2.2.2.2.1, ⟨hk.1.1.2.2.2.2.2, hk.1.2⟩⟩⟩⟩⟩⟩)⟩
    have n1_ : Aside0 (Kd.N (Kd.slice 46 k46) 23 ((((wB7.setCell ⟨gbD, 0, none⟩ (.int .i64 tL)).setCell ⟨gbD, 1, none⟩ (.slice AoR tG.length coR)).setCell ⟨gbD, 2, none⟩ (.slice AoS tH.length coS)).setCell ⟨gbD, 3, none⟩ (.slice AoO tF.length coO)) w.heap.size (fun k_ => (w.heap.size ≤ k_) ∧ some k_ ≠ (.slice AoR tG.length coR : Value).ownBlock ∧ some k_ ≠ (.slice AoO tF.length coO : Value).ownBlock ∧ k_ ≠ gbE ∧ k_ ≠ gbC ∧ k_ ≠ gA ∧ k_ ≠ gbD) (.slice AoS tH.length coS) tH) := ⟨by refine zX ?_; exact Kd.N_mono (zNF4 (Kd.N_mono HOJ.o (fun k_ hk => (⟨hk, hk.2⟩ : _ ∧ k_ ≠ gbD))) gbD (fun _ hk => hk.2) (.int .i64 tL) (.slice AoR tG.length coR) (.slice AoS tH.length coS) (.slice AoO tF.length coO)) (fun _ hk => ⟨hk.1.1.1, ⟨hk.1.1.2.1, ⟨hk.1.1.2.2.1, ⟨hk.1.1.2.2.2.1, ⟨hk.1.1.2.2.2.2.1, ⟨hk.1.1.2.2.2.2.2, hk.1.2⟩⟩⟩⟩⟩⟩)⟩
    have n2_ : Aside0 (Kd.R k46 46 ((((wB7.setCell ⟨gbD, 0, none⟩ (.int .i64 tL)).setCell ⟨gbD, 1, none⟩ (.slice AoR tG.length coR)).setCell ⟨gbD, 2, none⟩ (.slice AoS tH.length coS)).setCell ⟨gbD, 3, none⟩ (.slice AoO tF.length coO)) w.heap.size (fun k_ => (w.heap.size ≤ k_) ∧ k_ ≠ gbC) (.slice AoO tF.length coO) tF) := ⟨by refine zR ?_; exact Kd.R_mono (zRF4 (Kd.R_types HOK.o BKD.o (by decide)) gbD (fun _ hk => hk.2) (.int .i64 tL) (.slice AoR tG.length coR) (.slice AoS tH.length coS) (.slice AoO tF.length coO)) (fun _ hk => ⟨hk.1.1.1, hk.1.2⟩)⟩
    have n3_ : Aside0 (((((wB7.setCell ⟨gbD, 0, none⟩ (.int .i64 tL)).setCell ⟨gbD, 1, none⟩ (.slice AoR tG.length coR)).setCell ⟨gbD, 2, none⟩ (.slice AoS tH.length coS)).setCell ⟨gbD, 3, none⟩ (.slice AoO tF.length coO)).heap[gbE]? = some (.cells #[.int .i64 0, .slice none 0 0, .slice none 0 0, .slice none 0 0] 25 (0, 0))) := ⟨by refine zB ?_; refine zr4 ?_ NBE_D.o; exact zB BKE.o⟩
    have n4_ : Aside0 (((((wB7.setCell ⟨gbD, 0, none⟩ (.int .i64 tL)).setCell ⟨gbD, 1, none⟩ (.slice AoR tG.length coR)).setCell ⟨gbD, 2, none⟩ (.slice AoS tH.length coS)).setCell ⟨gbD, 3, none⟩ (.slice AoO tF.length coO)).heap[gbC]? = some (.cells #[.int .i64 0, .int .i64 0, .int .i64 0] 46 (0, 0))) := ⟨by refine zB ?_; refine zr4 ?_ NBC_D.o; exact zB BKC.o⟩
    have n5_ : Aside0 (((((wB7.setCell ⟨gbD, 0, none⟩ (.int .i64 tL)).setCell ⟨gbD, 1, none⟩ (.slice AoR tG.length coR)).setCell ⟨gbD, 2, none⟩ (.slice AoS tH.length coS)).setCell ⟨gbD, 3, none⟩ (.slice AoO tF.length coO)).heap[gbD]? = some (.cells #[.int .i64 tL, .slice AoR tG.length coR, .slice AoS tH.length coS, .slice AoO tF.length coO] 25 (0, 0))) := ⟨by refine zB ?_; refine zp4 (cs := #[.int .i64 0, .slice none 0 0, .slice none 0 0, .slice none 0 0]) ?_; exact zB BKD.o⟩
    have n6_ : Aside0 (IsS98 w ((((wB7.setCell ⟨gbD, 0, none⟩ (.int .i64 tL)).setCell ⟨gbD, 1, none⟩ (.slice AoR tG.length coR)).setCell ⟨gbD, 2, none⟩ (.slice AoS tH.length coS)).setCell ⟨gbD, 3, none⟩ (.slice AoO tF.length coO)) gA tM tW tX) := ⟨zI3 HIA.o NBA_E.o NBA_C.o NBA_D.o⟩
    have n7_ : Aside0 (Below w.heap.size w ((((wB7.setCell ⟨gbD, 0, none⟩ (.int .i64 tL)).setCell ⟨gbD, 1, none⟩ (.slice AoR tG.length coR)).setCell ⟨gbD, 2, none⟩ (.slice AoS tH.length coS)).setCell ⟨gbD, 3, none⟩ (.slice AoO tF.length coO))) := ⟨zL4 HB.o (IsS98.ge HIA.o) GEE.o GEC.o GED.o⟩
    (try clear HOI)
    (try clear HOJ)
    (try clear HOK)
    (try clear BKE)
    (try clear BKC)
    (try clear BKD)
    (try clear HIA)
    (try clear HB)
    generalize ((((wB7.setCell ⟨gbD, 0, none⟩ (.int .i64 tL)).setCell ⟨gbD, 1, none⟩ (.slice AoR tG.length coR)).setCell ⟨gbD, 2, none⟩ (.slice AoS tH.length coS)).setCell ⟨gbD, 3, none⟩ (.slice AoO tF.length coO)) = wG7 at n0_ n1_ n2_ n3_ n4_ n5_ n6_ n7_ ⊢
    have HOI := n0_
    have HOJ := n1_
    have HOK := n2_
    have BKE := n3_
    have BKC := n4_
    have BKD := n5_
    have HIA := n6_
    have HB := n7_
    clear n0_ n1_ n2_ n3_ n4_ n5_ n6_ n7_
    replace HOI := zXD HOI; replace HOJ := zXD HOJ; replace HOK := zRD HOK; replace BKE := zBD BKE; replace BKC := zBD BKC; replace BKD := zBD BKD; replace HIA := aM (IsS98.drew HIA.o); replace HB := zLD HB
    refine start_ (n := 9) (S := fun w' => zs4 w' gbD (.int .i64 tL) (.slice AoR tG.length coR) (.slice AoS tH.length coS) (.slice AoO tF.length coO)) (ds := []) (fB 9 0) (by kernel_rfl) rfl rfl (zc4 BKD.o) (fun hHeld => ?_); refine with_tabW spec_DrawPut.tab3 spec_DrawPut.bits3 (fun HT_ HW_ => ?_)
    generalize wG7.drew = wH9 at HOI HOJ HOK BKE BKC BKD HIA HB hHeld ⊢
    refine pY 0 11 (fB 9 1) HT_.o ?_
    refine pY 1 12 (fB 9 3) HT_.o ?_
    refine pY 3 14 (fB 9 11) HT_.o ?_
    refine tY 2 13 (fB 9 15) HT_.o HW_.o hHeld ?_
    refine join_ (σ := Nat) 1 #[true, true, true, true, true, true, true, true, false] (fun s_ => [(15, .int .i64 tV), (17, .agg #[.int .i64 tQ, .int .i64 tT, .int .i64 tU]), (6, .pointer (some ⟨s_, 0, none⟩)), (16, .int .i64 (wrap64 (1 + tV)))]) (fun s_ w' => (w'.cell? ⟨gbD, 0, none⟩ = some (.int .i64 tL) ∧ w'.cell? ⟨gbD, 1, none⟩ = some (.slice AoR tG.length coR) ∧ w'.cell? ⟨gbD, 2, none⟩ = some (.slice AoS tH.length coS) ∧ w'.cell? ⟨gbD, 3, none⟩ = some (.slice AoO tF.length coO)) ∧ (Kd.N (Kd.slice 46 k46) 23 w' w.heap.size (fun k_ => (w.heap.size ≤ k_) ∧ some k_ ≠ (.slice AoS tH.length coS : Value).ownBlock ∧ some k_ ≠ (.slice AoO tF.length coO : Value).ownBlock ∧ k_ ≠ gbE ∧ k_ ≠ gbC ∧ k_ ≠ gA ∧ k_ ≠ gbD ∧ k_ ≠ s_) (.slice AoR tG.length coR) tG) ∧ (Kd.N (Kd.slice 46 k46) 23 w' w.heap.size (fun k_ => (w.heap.size ≤ k_) ∧ some k_ ≠ (.slice AoR tG.length coR : Value).ownBlock ∧ some k_ ≠ (.slice AoO tF.length coO : Value).ownBlock ∧ k_ ≠ gbE ∧ k_ ≠ gbC ∧ k_ ≠ gA ∧ k_ ≠ gbD ∧ k_ ≠ s_) (.slice AoS tH.length coS) tH) ∧ (Kd.R k46 46 w' w.heap.size (fun k_ => (w.heap.size ≤ k_) ∧ k_ ≠ gbC ∧ k_ ≠ s_) (.slice AoO tF.length coO) tF) ∧ (w'.heap[gbE]? = some (.cells #[.int .i64 0, .slice none 0 0, .slice none 0 0, .slice none 0 0] 25 (0, 0))) ∧ (w'.heap[gbC]? = some (.cells #[.int .i64 0, .int .i64 0, .int .i64 0] 46 (0, 0))) ∧ (w'.heap[gbD]? = some (.cells #[.int .i64 tL, .slice AoR tG.length coR, .slice AoS tH.length coS, .slice AoO tF.length coO] 25 (0, 0))) ∧ (w'.heap[s_]? = some (.cells #[.int .i64 0, .int .i64 0, .int .i64 0] 46 (0, 0))) ∧ (w.heap.size ≤ s_) ∧ (w.heap.size ≤ s_) ∧ (gA ≠ s_) ∧ (s_ ≠ gA) ∧ (gbE ≠ s_) ∧ (s_ ≠ gbE) ∧ (gbC ≠ s_) ∧ (s_ ≠ gbC) ∧ (gbD ≠ s_) ∧ (s_ ≠ gbD) ∧ (IsS98 w w' gA tM tA1 tA2) ∧ (Below w.heap.size w w')) ?_ ?_
    rotate_left
    ·intro hCont
     refine two_ (i := 4) (j := 7) (Ni := some 15) (Nj := some 6) #[true, true, true, true, true, false, false, false, false] #[true, true, true, true, false, false, false, true, false] rfl rfl rfl rfl (two_of HT_.o (by kernel_rfl)) (by decide) (by decide) (fun K hK => ?_) (fun K hK => ?_)
     ·skip
      refine gS Try.func83 #[.pointer (some ⟨gA, 0, none⟩), .int .i64 9] ?_
      with_reducible refine (spec_l1Below.calls gA tM tW tX 9 tV tZ tA0 w _ ?side1 ?side2 A4.o).mono ?_
      (case side1 => exact zI3 HIA.o NBA_E.o NBA_C.o NBA_D.o)
      (case side2 => exact zL4 HB.o (IsS98.ge HIA.o) GEE.o GEC.o GED.o)
      rintro e wG8 ⟨rfl, hi, hb, hk⟩
      refine ⟨_, rfl, ?_⟩
      replace BKE := zBK hk BKE NBE_A; replace BKC := zBK hk BKC NBC_A; replace HOI := aM (Kd.N_mono (Kd.N_keep (Kd.N_mono (ok := fun k_ => (((w.heap.size ≤ k_)) ∧ (some k_ ≠ (.slice AoS tH.length coS : Value).ownBlock ∧ (some k_ ≠ (.slice AoO tF.length coO : Value).ownBlock ∧ (k_ ≠ gbE ∧ (k_ ≠ gbC ∧ (k_ ≠ gA ∧ k_ ≠ gbD))))))) (zX HOI.o) (fun k_ hk_ => (⟨hk_, hk_.2.2.2.2.2.1⟩ : _ ∧ k_ ≠ gA))) hk (fun _ h => h.2)) (fun _ h => h.1)); replace HOJ := aM (Kd.N_mono (Kd.N_keep (Kd.N_mono (ok := fun k_ => (((w.heap.size ≤ k_)) ∧ (some k_ ≠ (.slice AoR tG.length coR : Value).ownBlock ∧ (some k_ ≠ (.slice AoO tF.length coO : Value).ownBlock ∧ (k_ ≠ gbE ∧ (k_ ≠ gbC ∧ (k_ ≠ gA ∧ k_ ≠ gbD))))))) (zX HOJ.o) (fun k_ hk_ => (⟨hk_, hk_.2.2.2.2.2.1⟩ : _ ∧ k_ ≠ gA))) hk (fun _ h => h.2)) (fun _ h => h.1)); replace HOK := aM (Kd.R_mono (Kd.R_keep (IsS98.apart (show IsS98 w _ gA tM tW tX from zI3 HIA.o NBA_E.o NBA_C.o NBA_D.o) (zR HOK.o) (by decide)) hk (fun _ h => h.2)) (fun _ h => h.1)); replace BKD := zBK hk BKD NBD_A; replace HB := aM hb; replace HIA := aM hi
      clear hi hb hk
      refine hK.out _ _ (zc4 BKD.o) fun hHeld => ?_; clear hK K
      refine nZ 15 ?_
      refine pY 5 16 (fB 9 63) HT_.o ?_
      refine two_ (i := 6) (j := 7) (Ni := some 17) (Nj := some 6) #[true, true, true, true, true, true, true, false, false] #[true, true, true, true, true, true, false, true, false] rfl rfl rfl rfl (two_of HT_.o (by kernel_rfl)) (by decide) (by decide) (fun K hK => ?_) (fun K hK => ?_)
      ·skip
       refine gS Try.func82 #[.pointer (some ⟨gA, 0, none⟩), .int .i64 tL, .int .i64 (wrap64 (1 + tV))] ?_
       with_reducible refine (spec_l8Timer.calls gA tM tZ tA0 tL (wrap64 (1 + tV)) tQ tT tU tA1 tA2 w _ ?side1 ?side2 A5.o).mono ?_
       (case side1 => exact zI3 HIA.o NBA_E.o NBA_C.o NBA_D.o)
       (case side2 => exact zL4 HB.o (IsS98.ge HIA.o) GEE.o GEC.o GED.o)
       rintro e wF4 ⟨rfl, hi, hb, hk⟩
       refine ⟨_, rfl, ?_⟩
       replace BKE := zBK hk BKE NBE_A; replace BKC := zBK hk BKC NBC_A; replace HOI := aM (Kd.N_mono (Kd.N_keep (Kd.N_mono (ok := fun k_ => (((w.heap.size ≤ k_)) ∧ (some k_ ≠ (.slice AoS tH.length coS : Value).ownBlock ∧ (some k_ ≠ (.slice AoO tF.length coO : Value).ownBlock ∧ (k_ ≠ gbE ∧ (k_ ≠ gbC ∧ (k_ ≠ gA ∧ k_ ≠ gbD))))))) (zX HOI.o) (fun k_ hk_ => (⟨hk_, hk_.2.2.2.2.2.1⟩ : _ ∧ k_ ≠ gA))) hk (fun _ h => h.2)) (fun _ h => h.1)); replace HOJ := aM (Kd.N_mono (Kd.N_keep (Kd.N_mono (ok := fun k_ => (((w.heap.size ≤ k_)) ∧ (some k_ ≠ (.slice AoR tG.length coR : Value).ownBlock ∧ (some k_ ≠ (.slice AoO tF.length coO : Value).ownBlock ∧ (k_ ≠ gbE ∧ (k_ ≠ gbC ∧ (k_ ≠ gA ∧ k_ ≠ gbD))))))) (zX HOJ.o) (fun k_ hk_ => (⟨hk_, hk_.2.2.2.2.2.1⟩ : _ ∧ k_ ≠ gA))) hk (fun _ h => h.2)) (fun _ h => h.1)); replace HOK := aM (Kd.R_mono (Kd.R_keep (IsS98.apart (show IsS98 w _ gA tM tZ tA0 from zI3 HIA.o NBA_E.o NBA_C.o NBA_D.o) (zR HOK.o) (by decide)) hk (fun _ h => h.2)) (fun _ h => h.1)); replace BKD := zBK hk BKD NBD_A; replace HB := aM hb; replace HIA := aM hi
       clear hi hb hk
       refine hK.out _ _ (zc4 BKD.o) fun hHeld => ?_; clear hK K
       refine nZ 17 ?_
       refine oN 7 6 (fB 9 255) HT_.o fun K hK => ?_
       refine box_step ?hg (N := 6) ?hd (cs := #[.int .i64 0, .int .i64 0, .int .i64 0]) (t := 46) ?hr ?_; (case hd => rfl); (case hg => rfl); (case hr => first | (go_simp; done) | (go_simp; rfl))
       intro gbB hg wF5 hbox hb
       replace HOI := aM (Kd.N_below (Kd.N_elderB (zX HOI.o) gbB (Nat.le_of_eq hg.symm)) hb); replace HOJ := aM (Kd.N_below (Kd.N_elderB (zX HOJ.o) gbB (Nat.le_of_eq hg.symm)) hb); replace HOK := aM (Kd.R_below (Kd.R_elderB (zR HOK.o) gbB (Nat.le_of_eq hg.symm)) hb); have BKB := aM hbox; have GWB := aM ((zg (zL4 HB.o (IsS98.ge HIA.o) GEE.o GEC.o GED.o) hg : w.heap.size ≤ gbB)); have GEB := GWB; replace HB := zLB (zL4 HB.o (IsS98.ge HIA.o) GEE.o GEC.o GED.o) hb; have NBE_B := aM (zN BKE.o hg : gbE ≠ gbB); have NBB_E := aM (zM BKE.o hg : gbB ≠ gbE); replace BKE := zBB BKE hb; have NBC_B := aM (zN BKC.o hg : gbC ≠ gbB); have NBB_C := aM (zM BKC.o hg : gbB ≠ gbC); replace BKC := zBB BKC hb; have NBD_B := aM (zN BKD.o hg : gbD ≠ gbB); have NBB_D := aM (zM BKD.o hg : gbB ≠ gbD); replace BKD := zBB BKD hb; have NBA_B := aM ((zNI (IsS98.lt (zI3 HIA.o NBA_E.o NBA_C.o NBA_D.o : IsS98 w _ gA tM tA1 tA2)) hg : gA ≠ gbB)); have NBB_A := aM ((zMI (IsS98.lt (zI3 HIA.o NBA_E.o NBA_C.o NBA_D.o : IsS98 w _ gA tM tA1 tA2)) hg : gbB ≠ gA)); replace HIA := aM (IsS98.below (zI3 HIA.o NBA_E.o NBA_C.o NBA_D.o) hb)
       clear hb hbox hg
       refine hK.out _ _ (zc4 BKD.o) fun hHeld => ?_; clear hK K
       refine nZ 6 ?_
       exact norm_ (by simp only [putAll, Act.put, List.setIfInBounds_toArray, List.set_cons_zero, List.set_cons_succ]) (hCont (gbB) _ ⟨hHeld, (zXm HOI.o (fun _ hk => ⟨hk.1.1, ⟨hk.1.2.1, ⟨hk.1.2.2.1, ⟨hk.1.2.2.2.1, ⟨hk.1.2.2.2.2.1, ⟨hk.1.2.2.2.2.2.1, ⟨hk.1.2.2.2.2.2.2, hk.2⟩⟩⟩⟩⟩⟩⟩)), (zXm HOJ.o (fun _ hk => ⟨hk.1.1, ⟨hk.1.2.1, ⟨hk.1.2.2.1, ⟨hk.1.2.2.2.1, ⟨hk.1.2.2.2.2.1, ⟨hk.1.2.2.2.2.2.1, ⟨hk.1.2.2.2.2.2.2, hk.2⟩⟩⟩⟩⟩⟩⟩)), (zRm HOK.o (fun _ hk => ⟨hk.1.1, ⟨hk.1.2, hk.2⟩⟩)), (zB BKE.o), (zB BKC.o), (zB BKD.o), (zB BKB.o), GWB.o, GEB.o, NBA_B.o, NBB_A.o, NBE_B.o, NBB_E.o, NBC_B.o, NBB_C.o, NBD_B.o, NBB_D.o, (zI4 HIA.o NBA_E.o NBA_C.o NBA_D.o NBA_B.o), (zL5 HB.o (IsS98.ge HIA.o) GEE.o GEC.o GED.o GEB.o)⟩)
      ·skip
       refine box_step ?hg (N := 6) ?hd (cs := #[.int .i64 0, .int .i64 0, .int .i64 0]) (t := 46) ?hr ?_; (case hd => rfl); (case hg => rfl); (case hr => first | (go_simp; done) | (go_simp; rfl))
       intro gbB hg wF4 hbox hb
       replace HOI := aM (Kd.N_below (Kd.N_elderB (zX HOI.o) gbB (Nat.le_of_eq hg.symm)) hb); replace HOJ := aM (Kd.N_below (Kd.N_elderB (zX HOJ.o) gbB (Nat.le_of_eq hg.symm)) hb); replace HOK := aM (Kd.R_below (Kd.R_elderB (zR HOK.o) gbB (Nat.le_of_eq hg.symm)) hb); have BKB := aM hbox; have GWB := aM ((zg (zL4 HB.o (IsS98.ge HIA.o) GEE.o GEC.o GED.o) hg : w.heap.size ≤ gbB)); have GEB := GWB; replace HB := zLB (zL4 HB.o (IsS98.ge HIA.o) GEE.o GEC.o GED.o) hb; have NBE_B := aM (zN BKE.o hg : gbE ≠ gbB); have NBB_E := aM (zM BKE.o hg : gbB ≠ gbE); replace BKE := zBB BKE hb; have NBC_B := aM (zN BKC.o hg : gbC ≠ gbB); have NBB_C := aM (zM BKC.o hg : gbB ≠ gbC); replace BKC := zBB BKC hb; have NBD_B := aM (zN BKD.o hg : gbD ≠ gbB); have NBB_D := aM (zM BKD.o hg : gbB ≠ gbD); replace BKD := zBB BKD hb; have NBA_B := aM ((zNI (IsS98.lt (zI3 HIA.o NBA_E.o NBA_C.o NBA_D.o : IsS98 w _ gA tM tZ tA0)) hg : gA ≠ gbB)); have NBB_A := aM ((zMI (IsS98.lt (zI3 HIA.o NBA_E.o NBA_C.o NBA_D.o : IsS98 w _ gA tM tZ tA0)) hg : gbB ≠ gA)); replace HIA := aM (IsS98.below (zI3 HIA.o NBA_E.o NBA_C.o NBA_D.o) hb)
       clear hb hbox hg
       refine hK.out _ _ (zc4 BKD.o) fun hHeld => ?_; clear hK K
       refine nZ 6 ?_
       refine oN 6 17 (fB 9 255) HT_.o fun K hK => ?_
       refine gS Try.func82 #[.pointer (some ⟨gA, 0, none⟩), .int .i64 tL, .int .i64 (wrap64 (1 + tV))] ?_
       with_reducible refine (spec_l8Timer.calls gA tM tZ tA0 tL (wrap64 (1 + tV)) tQ tT tU tA1 tA2 w _ ?side1 ?side2 A5.o).mono ?_
       (case side1 => exact zI4 HIA.o NBA_E.o NBA_C.o NBA_D.o NBA_B.o)
       (case side2 => exact zL5 HB.o (IsS98.ge HIA.o) GEE.o GEC.o GED.o GEB.o)
       rintro e wF5 ⟨rfl, hi, hb, hk⟩
       refine ⟨_, rfl, ?_⟩
       replace BKE := zBK hk BKE NBE_A; replace BKC := zBK hk BKC NBC_A; replace HOI := aM (Kd.N_mono (Kd.N_keep (Kd.N_mono (ok := fun k_ => ((((w.heap.size ≤ k_)) ∧ (some k_ ≠ (.slice AoS tH.length coS : Value).ownBlock ∧ (some k_ ≠ (.slice AoO tF.length coO : Value).ownBlock ∧ (k_ ≠ gbE ∧ (k_ ≠ gbC ∧ (k_ ≠ gA ∧ k_ ≠ gbD)))))) ∧ k_ ≠ gbB)) (zX HOI.o) (fun k_ hk_ => (⟨hk_, hk_.1.2.2.2.2.2.1⟩ : _ ∧ k_ ≠ gA))) hk (fun _ h => h.2)) (fun _ h => h.1)); replace HOJ := aM (Kd.N_mono (Kd.N_keep (Kd.N_mono (ok := fun k_ => ((((w.heap.size ≤ k_)) ∧ (some k_ ≠ (.slice AoR tG.length coR : Value).ownBlock ∧ (some k_ ≠ (.slice AoO tF.length coO : Value).ownBlock ∧ (k_ ≠ gbE ∧ (k_ ≠ gbC ∧ (k_ ≠ gA ∧ k_ ≠ gbD)))))) ∧ k_ ≠ gbB)) (zX HOJ.o) (fun k_ hk_ => (⟨hk_, hk_.1.2.2.2.2.2.1⟩ : _ ∧ k_ ≠ gA))) hk (fun _ h => h.2)) (fun _ h => h.1)); replace HOK := aM (Kd.R_mono (Kd.R_keep (IsS98.apart (show IsS98 w _ gA tM tZ tA0 from zI4 HIA.o NBA_E.o NBA_C.o NBA_D.o NBA_B.o) (zR HOK.o) (by decide)) hk (fun _ h => h.2)) (fun _ h => h.1)); replace BKD := zBK hk BKD NBD_A; replace BKB := zBK hk BKB NBB_A; replace HB := aM hb; replace HIA := aM hi
       clear hi hb hk
       refine hK.out _ _ (zc4 BKD.o) fun hHeld => ?_; clear hK K
       refine nZ 17 ?_
       exact norm_ (by simp only [putAll, Act.put, List.setIfInBounds_toArray, List.set_cons_zero, List.set_cons_succ]) (hCont (gbB) _ ⟨hHeld, (zXm HOI.o (fun _ hk => ⟨hk.1.1, ⟨hk.1.2.1, ⟨hk.1.2.2.1, ⟨hk.1.2.2.2.1, ⟨hk.1.2.2.2.2.1, ⟨hk.1.2.2.2.2.2.1, ⟨hk.1.2.2.2.2.2.2, hk.2⟩⟩⟩⟩⟩⟩⟩)), (zXm HOJ.o (fun _ hk => ⟨hk.1.1, ⟨hk.1.2.1, ⟨hk.1.2.2.1, ⟨hk.1.2.2.2.1, ⟨hk.1.2.2.2.2.1, ⟨hk.1.2.2.2.2.2.1, ⟨hk.1.2.2.2.2.2.2, hk.2⟩⟩⟩⟩⟩⟩⟩)), (zRm HOK.o (fun _ hk => ⟨hk.1.1, ⟨hk.1.2, hk.2⟩⟩)), (zB BKE.o), (zB BKC.o), (zB BKD.o), (zB BKB.o), GWB.o, GEB.o, NBA_B.o, NBB_A.o, NBE_B.o, NBB_E.o, NBC_B.o, NBB_C.o, NBD_B.o, NBB_D.o, (zI4 HIA.o NBA_E.o NBA_C.o NBA_D.o NBA_B.o), (zL5 HB.o (IsS98.ge HIA.o) GEE.o GEC.o GED.o GEB.o)⟩)
     ·skip
      refine box_step ?hg (N := 6) ?hd (cs := #[.int .i64 0, .int .i64 0, .int .i64 0]) (t := 46) ?hr ?_; (case hd => rfl); (case hg => rfl); (case hr => first | (go_simp; done) | (go_simp; rfl))
      intro gbB hg wG8 hbox hb
      replace HOI := aM (Kd.N_below (Kd.N_elderB (zX HOI.o) gbB (Nat.le_of_eq hg.symm)) hb); replace HOJ := aM (Kd.N_below (Kd.N_elderB (zX HOJ.o) gbB (Nat.le_of_eq hg.symm)) hb); replace HOK := aM (Kd.R_below (Kd.R_elderB (zR HOK.o) gbB (Nat.le_of_eq hg.symm)) hb); have BKB := aM hbox; have GWB := aM ((zg (zL4 HB.o (IsS98.ge HIA.o) GEE.o GEC.o GED.o) hg : w.heap.size ≤ gbB)); have GEB := GWB; replace HB := zLB (zL4 HB.o (IsS98.ge HIA.o) GEE.o GEC.o GED.o) hb; have NBE_B := aM (zN BKE.o hg : gbE ≠ gbB); have NBB_E := aM (zM BKE.o hg : gbB ≠ gbE); replace BKE := zBB BKE hb; have NBC_B := aM (zN BKC.o hg : gbC ≠ gbB); have NBB_C := aM (zM BKC.o hg : gbB ≠ gbC); replace BKC := zBB BKC hb; have NBD_B := aM (zN BKD.o hg : gbD ≠ gbB); have NBB_D := aM (zM BKD.o hg : gbB ≠ gbD); replace BKD := zBB BKD hb; have NBA_B := aM ((zNI (IsS98.lt (zI3 HIA.o NBA_E.o NBA_C.o NBA_D.o : IsS98 w _ gA tM tW tX)) hg : gA ≠ gbB)); have NBB_A := aM ((zMI (IsS98.lt (zI3 HIA.o NBA_E.o NBA_C.o NBA_D.o : IsS98 w _ gA tM tW tX)) hg : gbB ≠ gA)); replace HIA := aM (IsS98.below (zI3 HIA.o NBA_E.o NBA_C.o NBA_D.o) hb)
      clear hb hbox hg
      refine hK.out _ _ (zc4 BKD.o) fun hHeld => ?_; clear hK K
      refine nZ 6 ?_
      refine oN 4 15 (fB 9 159) HT_.o fun K hK => ?_
      refine gS Try.func83 #[.pointer (some ⟨gA, 0, none⟩), .int .i64 9] ?_
      with_reducible refine (spec_l1Below.calls gA tM tW tX 9 tV tZ tA0 w _ ?side1 ?side2 A4.o).mono ?_
      (case side1 => exact zI4 HIA.o NBA_E.o NBA_C.o NBA_D.o NBA_B.o)
      (case side2 => exact zL5 HB.o (IsS98.ge HIA.o) GEE.o GEC.o GED.o GEB.o)
      rintro e wF4 ⟨rfl, hi, hb, hk⟩
      refine ⟨_, rfl, ?_⟩
      replace BKE := zBK hk BKE NBE_A; replace BKC := zBK hk BKC NBC_A; replace HOI := aM (Kd.N_mono (Kd.N_keep (Kd.N_mono (ok := fun k_ => ((((w.heap.size ≤ k_)) ∧ (some k_ ≠ (.slice AoS tH.length coS : Value).ownBlock ∧ (some k_ ≠ (.slice AoO tF.length coO : Value).ownBlock ∧ (k_ ≠ gbE ∧ (k_ ≠ gbC ∧ (k_ ≠ gA ∧ k_ ≠ gbD)))))) ∧ k_ ≠ gbB)) (zX HOI.o) (fun k_ hk_ => (⟨hk_, hk_.1.2.2.2.2.2.1⟩ : _ ∧ k_ ≠ gA))) hk (fun _ h => h.2)) (fun _ h => h.1)); replace HOJ := aM (Kd.N_mono (Kd.N_keep (Kd.N_mono (ok := fun k_ => ((((w.heap.size ≤ k_)) ∧ (some k_ ≠ (.slice AoR tG.length coR : Value).ownBlock ∧ (some k_ ≠ (.slice AoO tF.length coO : Value).ownBlock ∧ (k_ ≠ gbE ∧ (k_ ≠ gbC ∧ (k_ ≠ gA ∧ k_ ≠ gbD)))))) ∧ k_ ≠ gbB)) (zX HOJ.o) (fun k_ hk_ => (⟨hk_, hk_.1.2.2.2.2.2.1⟩ : _ ∧ k_ ≠ gA))) hk (fun _ h => h.2)) (fun _ h => h.1)); replace HOK := aM (Kd.R_mono (Kd.R_keep (IsS98.apart (show IsS98 w _ gA tM tW tX from zI4 HIA.o NBA_E.o NBA_C.o NBA_D.o NBA_B.o) (zR HOK.o) (by decide)) hk (fun _ h => h.2)) (fun _ h => h.1)); replace BKD := zBK hk BKD NBD_A; replace BKB := zBK hk BKB NBB_A; replace HB := aM hb; replace HIA := aM hi
      clear hi hb hk
      refine hK.out _ _ (zc4 BKD.o) fun hHeld => ?_; clear hK K
      refine nZ 15 ?_
      refine pY 5 16 (fB 9 191) HT_.o ?_
      refine oN 6 17 (fB 9 255) HT_.o fun K hK => ?_
      refine gS Try.func82 #[.pointer (some ⟨gA, 0, none⟩), .int .i64 tL, .int .i64 (wrap64 (1 + tV))] ?_
      with_reducible refine (spec_l8Timer.calls gA tM tZ tA0 tL (wrap64 (1 + tV)) tQ tT tU tA1 tA2 w _ ?side1 ?side2 A5.o).mono ?_
      (case side1 => exact zI4 HIA.o NBA_E.o NBA_C.o NBA_D.o NBA_B.o)
      (case side2 => exact zL5 HB.o (IsS98.ge HIA.o) GEE.o GEC.o GED.o GEB.o)
      rintro e wF5 ⟨rfl, hi, hb, hk⟩
      refine ⟨_, rfl, ?_⟩
      replace BKE := zBK hk BKE NBE_A; replace BKC := zBK hk BKC NBC_A; replace HOI := aM (Kd.N_mono (Kd.N_keep (Kd.N_mono (ok := fun k_ => ((((w.heap.size ≤ k_)) ∧ (some k_ ≠ (.slice AoS tH.length coS : Value).ownBlock ∧ (some k_ ≠ (.slice AoO tF.length coO : Value).ownBlock ∧ (k_ ≠ gbE ∧ (k_ ≠ gbC ∧ (k_ ≠ gA ∧ k_ ≠ gbD)))))) ∧ k_ ≠ gbB)) (zX HOI.o) (fun k_ hk_ => (⟨hk_, hk_.1.2.2.2.2.2.1⟩ : _ ∧ k_ ≠ gA))) hk (fun _ h => h.2)) (fun _ h => h.1)); replace HOJ := aM (Kd.N_mono (Kd.N_keep (Kd.N_mono (ok := fun k_ => ((((w.heap.size ≤ k_)) ∧ (some k_ ≠ (.slice AoR tG.length coR : Value).ownBlock ∧ (some k_ ≠ (.slice AoO tF.length coO : Value).ownBlock ∧ (k_ ≠ gbE ∧ (k_ ≠ gbC ∧ (k_ ≠ gA ∧ k_ ≠ gbD)))))) ∧ k_ ≠ gbB)) (zX HOJ.o) (fun k_ hk_ => (⟨hk_, hk_.1.2.2.2.2.2.1⟩ : _ ∧ k_ ≠ gA))) hk (fun _ h => h.2)) (fun _ h => h.1)); replace HOK := aM (Kd.R_mono (Kd.R_keep (IsS98.apart (show IsS98 w _ gA tM tZ tA0 from zI4 HIA.o NBA_E.o NBA_C.o NBA_D.o NBA_B.o) (zR HOK.o) (by decide)) hk (fun _ h => h.2)) (fun _ h => h.1)); replace BKD := zBK hk BKD NBD_A; replace BKB := zBK hk BKB NBB_A; replace HB := aM hb; replace HIA := aM hi
      clear hi hb hk
      refine hK.out _ _ (zc4 BKD.o) fun hHeld => ?_; clear hK K
      refine nZ 17 ?_
      exact norm_ (by simp only [putAll, Act.put, List.setIfInBounds_toArray, List.set_cons_zero, List.set_cons_succ]) (hCont (gbB) _ ⟨hHeld, (zXm HOI.o (fun _ hk => ⟨hk.1.1, ⟨hk.1.2.1, ⟨hk.1.2.2.1, ⟨hk.1.2.2.2.1, ⟨hk.1.2.2.2.2.1, ⟨hk.1.2.2.2.2.2.1, ⟨hk.1.2.2.2.2.2.2, hk.2⟩⟩⟩⟩⟩⟩⟩)), (zXm HOJ.o (fun _ hk => ⟨hk.1.1, ⟨hk.1.2.1, ⟨hk.1.2.2.1, ⟨hk.1.2.2.2.1, ⟨hk.1.2.2.2.2.1, ⟨hk.1.2.2.2.2.2.1, ⟨hk.1.2.2.2.2.2.2, hk.2⟩⟩⟩⟩⟩⟩⟩)), (zRm HOK.o (fun _ hk => ⟨hk.1.1, ⟨hk.1.2, hk.2⟩⟩)), (zB BKE.o), (zB BKC.o), (zB BKD.o), (zB BKB.o), GWB.o, GEB.o, NBA_B.o, NBB_A.o, NBE_B.o, NBB_E.o, NBC_B.o, NBB_C.o, NBD_B.o, NBB_D.o, (zI4 HIA.o NBA_E.o NBA_C.o NBA_D.o NBA_B.o), (zL5 HB.o (IsS98.ge HIA.o) GEE.o GEC.o GED.o GEB.o)⟩)
    rintro gbB wA7 ⟨hS_, h0_, h1_, h2_, h3_, h4_, h5_, h6_, h7_, h8_, h9_, h10_, h11_, h12_, h13_, h14_, h15_, h16_, h17_, h18_⟩
    have n0_ : Aside0 (Kd.N (Kd.slice 46 k46) 23 wA7 w.heap.size (fun k_ => (w.heap.size ≤ k_) ∧ some k_ ≠ (.slice AoS tH.length coS : Value).ownBlock ∧ some k_ ≠ (.slice AoO tF.length coO : Value).ownBlock ∧ k_ ≠ gbE ∧ k_ ≠ gbC ∧ k_ ≠ gA ∧ k_ ≠ gbD ∧ k_ ≠ gbB) (.slice AoR tG.length coR) tG) := ⟨h0_⟩
    have n1_ : Aside0 (Kd.N (Kd.slice 46 k46) 23 wA7 w.heap.size (fun k_ => (w.heap.size ≤ k_) ∧ some k_ ≠ (.slice AoR tG.length coR : Value).ownBlock ∧ some k_ ≠ (.slice AoO tF.length coO : Value).ownBlock ∧ k_ ≠ gbE ∧ k_ ≠ gbC ∧ k_ ≠ gA ∧ k_ ≠ gbD ∧ k_ ≠ gbB) (.slice AoS tH.length coS) tH) := ⟨h1_⟩
    have n2_ : Aside0 (Kd.R k46 46 wA7 w.heap.size (fun k_ => (w.heap.size ≤ k_) ∧ k_ ≠ gbC ∧ k_ ≠ gbB) (.slice AoO tF.length coO) tF) := ⟨h2_⟩
    have n3_ : Aside0 (wA7.heap[gbE]? = some (.cells #[.int .i64 0, .slice none 0 0, .slice none 0 0, .slice none 0 0] 25 (0, 0))) := ⟨h3_⟩
    have n4_ : Aside0 (wA7.heap[gbC]? = some (.cells #[.int .i64 0, .int .i64 0, .int .i64 0] 46 (0, 0))) := ⟨h4_⟩
    have n5_ : Aside0 (wA7.heap[gbD]? = some (.cells #[.int .i64 tL, .slice AoR tG.length coR, .slice AoS tH.length coS, .slice AoO tF.length coO] 25 (0, 0))) := ⟨h5_⟩
    have n6_ : Aside0 (wA7.heap[gbB]? = some (.cells #[.int .i64 0, .int .i64 0, .int .i64 0] 46 (0, 0))) := ⟨h6_⟩
    have n7_ : Aside0 (w.heap.size ≤ gbB) := ⟨h7_⟩
    have n8_ : Aside0 (w.heap.size ≤ gbB) := ⟨h8_⟩
    have n9_ : Aside0 (gA ≠ gbB) := ⟨h9_⟩
    have n10_ : Aside0 (gbB ≠ gA) := ⟨h10_⟩
    have n11_ : Aside0 (gbE ≠ gbB) := ⟨h11_⟩
    have n12_ : Aside0 (gbB ≠ gbE) := ⟨h12_⟩
    have n13_ : Aside0 (gbC ≠ gbB) := ⟨h13_⟩
    have n14_ : Aside0 (gbB ≠ gbC) := ⟨h14_⟩
    have n15_ : Aside0 (gbD ≠ gbB) := ⟨h15_⟩
    have n16_ : Aside0 (gbB ≠ gbD) := ⟨h16_⟩
    have n17_ : Aside0 (IsS98 w wA7 gA tM tA1 tA2) := ⟨h17_⟩
    have n18_ : Aside0 (Below w.heap.size w wA7) := ⟨h18_⟩
    clear HOI
    clear HOJ
    clear HOK
    clear BKE BKC BKD
    clear HIA
    clear HB
    clear h0_ h1_ h2_ h3_ h4_ h5_ h6_ h7_ h8_ h9_ h10_ h11_ h12_ h13_ h14_ h15_ h16_ h17_ h18_
    have HOI := n0_
    have HOJ := n1_
    have HOK := n2_
    have BKE := n3_
    have BKC := n4_
    have BKD := n5_
    have BKB := n6_
    have GWB := n7_
    have GEB := n8_
    have NBA_B := n9_
    have NBB_A := n10_
    have NBE_B := n11_
    have NBB_E := n12_
    have NBC_B := n13_
    have NBB_C := n14_
    have NBD_B := n15_
    have NBB_D := n16_
    have HIA := n17_
    have HB := n18_
    clear n0_ n1_ n2_ n3_ n4_ n5_ n6_ n7_ n8_ n9_ n10_ n11_ n12_ n13_ n14_ n15_ n16_ n17_ n18_
    have hHeld : wA7.cell? ⟨gbD, 0, none⟩ = some (.int .i64 tL) ∧ wA7.cell? ⟨gbD, 1, none⟩ = some (.slice AoR tG.length coR) ∧ wA7.cell? ⟨gbD, 2, none⟩ = some (.slice AoS tH.length coS) ∧ wA7.cell? ⟨gbD, 3, none⟩ = some (.slice AoO tF.length coO) := hS_
    refine norm_ (a' := ?_) ?_ ?_
    rotate_left
    ·simp only [putAll, Act.put, List.setIfInBounds_toArray, List.set_cons_zero, List.set_cons_succ]
     rfl
    refine one_ (i := 8) (N := none) (fB 9 511) rfl rfl (one_of HT_.o (by kernel_rfl)) (by decide) (fun K hK => ?_)
    have hsD4 : wA7.cell? ⟨gbB, 0, none⟩ = some (.int .i64 0) := (bC BKB.o 0).trans rfl
    have hfsD4 := blk_frozen BKB.o 0
    have hnsD4_0 := NBE_B.o
    have hnsD4_1 := NBC_B.o
    have hnsD4_2 := NBD_B.o
    have hmsD4_0 := NBB_E.o
    have hmsD4_1 := NBB_C.o
    have hmsD4_2 := NBB_D.o
    have hsD5 : wA7.cell? ⟨gbB, 1, none⟩ = some (.int .i64 0) := (bC BKB.o 1).trans rfl
    have hfsD5 := blk_frozen BKB.o 1
    have hnsD5_0 := NBE_B.o
    have hnsD5_1 := NBC_B.o
    have hnsD5_2 := NBD_B.o
    have hmsD5_0 := NBB_E.o
    have hmsD5_1 := NBB_C.o
    have hmsD5_2 := NBB_D.o
    have hsD6 : wA7.cell? ⟨gbB, 2, none⟩ = some (.int .i64 0) := (bC BKB.o 2).trans rfl
    have hfsD6 := blk_frozen BKB.o 2
    have hnsD6_0 := NBE_B.o
    have hnsD6_1 := NBC_B.o
    have hnsD6_2 := NBD_B.o
    have hmsD6_0 := NBB_E.o
    have hmsD6_1 := NBB_C.o
    have hmsD6_2 := NBB_D.o
    refine skip_ (w1 := ?_) (by rfl) rfl ?_ ?_
    rotate_left
    ·go_simp
     rfl
    refine hK.out _ _ ⟨((cell_far (p := ⟨gbB, _, none⟩) NBD_B.o _).trans (((cell_far (p := ⟨gbB, _, none⟩) NBD_B.o _).trans (((cell_far (p := ⟨gbB, _, none⟩) NBD_B.o _).trans (hHeld.1)))))), ((cell_far (p := ⟨gbB, _, none⟩) NBD_B.o _).trans (((cell_far (p := ⟨gbB, _, none⟩) NBD_B.o _).trans (((cell_far (p := ⟨gbB, _, none⟩) NBD_B.o _).trans (hHeld.2.1)))))), ((cell_far (p := ⟨gbB, _, none⟩) NBD_B.o _).trans (((cell_far (p := ⟨gbB, _, none⟩) NBD_B.o _).trans (((cell_far (p := ⟨gbB, _, none⟩) NBD_B.o _).trans (hHeld.2.2.1)))))), ((cell_far (p := ⟨gbB, _, none⟩) NBD_B.o _).trans (((cell_far (p := ⟨gbB, _, none⟩) NBD_B.o _).trans (((cell_far (p := ⟨gbB, _, none⟩) NBD_B.o _).trans (hHeld.2.2.2))))))⟩ fun hHeld => ?_; clear hK K
    refine done_ (done_of HT_.o (by kernel_rfl)) ?_
    try go_wp2_with (first | ((with_reducible refine gC 83 rfl ?_); refine gL 19 Try.func83 #[.pointer (some ⟨gA, 0, none⟩), .int .i64 8] ?_; (with_reducible refine (spec_l1Below.calls gA tM tA1 tA2 8 tA6 tB2 tB3 w _ ?side1 ?side2 A6.o).mono ?_); (case side1 => exact zI4 HIA.o NBA_E.o NBA_C.o NBA_D.o NBA_B.o); (case side2 => exact zL5 HB.o (IsS98.ge HIA.o) GEE.o GEC.o GED.o GEB.o); rintro e wG9 ⟨rfl, hi, hb, hk⟩; refine ⟨_, rfl, ?_⟩; replace BKE := aM (zQ2 (.cells #[.int .i64 0, .slice none 0 0, .slice none 0 0, .slice none 0 0] 25 (0, 0)) hk (by refine zB ?_; refine blk_far ?_ NBE_B.o _; refine zB ?_; refine blk_far ?_ NBE_B.o _; refine zB ?_; refine blk_far ?_ NBE_B.o _; exact zB BKE.o) NBE_A.o (by simp)); replace BKC := aM (zQ2 (.cells #[.int .i64 0, .int .i64 0, .int .i64 0] 46 (0, 0)) hk (by refine zB ?_; refine blk_far ?_ NBC_B.o _; refine zB ?_; refine blk_far ?_ NBC_B.o _; refine zB ?_; refine blk_far ?_ NBC_B.o _; exact zB BKC.o) NBC_A.o (by simp)); replace HOI := aM (Kd.N_mono (Kd.N_keep (Kd.N_mono (ok := fun k_ => (((w.heap.size ≤ k_)) ∧ (some k_ ≠ (.slice AoS tH.length coS : Value).ownBlock ∧ (some k_ ≠ (.slice AoO tF.length coO : Value).ownBlock ∧ (k_ ≠ gbE ∧ (k_ ≠ gbC ∧ (k_ ≠ gA ∧ (k_ ≠ gbD ∧ k_ ≠ gbB)))))))) (by refine zX ?_; exact (Kd.N_mono (Kd.N_far (p := ⟨gbB, 2, none⟩) (Kd.N_far (p := ⟨gbB, 1, none⟩) (Kd.N_far (p := ⟨gbB, 0, none⟩) (Kd.N_mono HOI.o (fun k_ hk => (⟨hk, hk.2.2.2.2.2.2.2⟩ : _ ∧ k_ ≠ gbB))) (fun _ hk => hk.2) (.int .i64 tQ)) (fun _ hk => hk.2) (.int .i64 tT)) (fun _ hk => hk.2) (.int .i64 tU)) (fun _ h_ => h_.1))) (fun k_ hk_ => (⟨hk_, hk_.2.2.2.2.2.1⟩ : _ ∧ k_ ≠ gA))) hk (fun _ h => h.2)) (fun _ h => h.1)); replace HOJ := aM (Kd.N_mono (Kd.N_keep (Kd.N_mono (ok := fun k_ => (((w.heap.size ≤ k_)) ∧ (some k_ ≠ (.slice AoR tG.length coR : Value).ownBlock ∧ (some k_ ≠ (.slice AoO tF.length coO : Value).ownBlock ∧ (k_ ≠ gbE ∧ (k_ ≠ gbC ∧ (k_ ≠ gA ∧ (k_ ≠ gbD ∧ k_ ≠ gbB)))))))) (by refine zX ?_; exact (Kd.N_mono (Kd.N_far (p := ⟨gbB, 2, none⟩) (Kd.N_far (p := ⟨gbB, 1, none⟩) (Kd.N_far (p := ⟨gbB, 0, none⟩) (Kd.N_mono HOJ.o (fun k_ hk => (⟨hk, hk.2.2.2.2.2.2.2⟩ : _ ∧ k_ ≠ gbB))) (fun _ hk => hk.2) (.int .i64 tQ)) (fun _ hk => hk.2) (.int .i64 tT)) (fun _ hk => hk.2) (.int .i64 tU)) (fun _ h_ => h_.1))) (fun k_ hk_ => (⟨hk_, hk_.2.2.2.2.2.1⟩ : _ ∧ k_ ≠ gA))) hk (fun _ h => h.2)) (fun _ h => h.1)); replace HOK := aM (Kd.R_mono (Kd.R_keep (IsS98.apart (show IsS98 w _ gA tM tA1 tA2 from zI4 HIA.o NBA_E.o NBA_C.o NBA_D.o NBA_B.o) (by refine zR ?_; exact (Kd.R_mono (Kd.R_far (p := ⟨gbB, 2, none⟩) (Kd.R_far (p := ⟨gbB, 1, none⟩) (Kd.R_far (p := ⟨gbB, 0, none⟩) (Kd.R_mono HOK.o (fun k_ hk => (⟨hk, hk.2.2⟩ : _ ∧ k_ ≠ gbB))) (fun _ hk => hk.2) (.int .i64 tQ)) (fun _ hk => hk.2) (.int .i64 tT)) (fun _ hk => hk.2) (.int .i64 tU)) (fun _ h_ => h_.1))) (by decide)) hk (fun _ h => h.2)) (fun _ h => h.1)); replace BKD := aM (zQ2 (.cells #[.int .i64 tL, .slice AoR tG.length coR, .slice AoS tH.length coS, .slice AoO tF.length coO] 25 (0, 0)) hk (by refine zB ?_; refine blk_far ?_ NBD_B.o _; refine zB ?_; refine blk_far ?_ NBD_B.o _; refine zB ?_; refine blk_far ?_ NBD_B.o _; exact zB BKD.o) NBD_A.o (by simp)); replace BKB := aM (zQ2 (.cells #[.int .i64 tQ, .int .i64 tT, .int .i64 tU] 46 (0, 0)) hk (by refine zB ?_; refine blk_put (cs := #[.int .i64 tQ, .int .i64 tT, .int .i64 0]) ?_ 2 _ rfl; refine zB ?_; refine blk_put (cs := #[.int .i64 tQ, .int .i64 0, .int .i64 0]) ?_ 1 _ rfl; refine zB ?_; refine blk_put (cs := #[.int .i64 0, .int .i64 0, .int .i64 0]) ?_ 0 _ rfl; exact zB BKB.o) NBB_A.o (by simp)); replace HB := aM hb; replace HIA := aM hi; clear hi hb hk))
    replace HOI := zXD HOI; replace HOJ := zXD HOJ; replace HOK := zRD HOK; replace BKE := zBD BKE; replace BKC := zBD BKC; replace BKD := zBD BKD; replace BKB := zBD BKB; replace HIA := aM (IsS98.drew HIA.o); replace HB := zLD HB
    refine start_ (n := 4) (S := fun w' => w'.cell? ⟨gbD, 0, none⟩ = some (.int .i64 tL) ∧ w'.cell? ⟨gbD, 1, none⟩ = some (.slice AoR tG.length coR) ∧ w'.cell? ⟨gbD, 2, none⟩ = some (.slice AoS tH.length coS) ∧ w'.cell? ⟨gbD, 3, none⟩ = some (.slice AoO tF.length coO) ∧ w'.cell? ⟨gbB, 0, none⟩ = some (.int .i64 tQ) ∧ w'.cell? ⟨gbB, 1, none⟩ = some (.int .i64 tT) ∧ w'.cell? ⟨gbB, 2, none⟩ = some (.int .i64 tU)) (ds := []) #[false, false, false, false] (by kernel_rfl) rfl rfl ⟨(bC BKD.o 0).trans rfl, (bC BKD.o 1).trans rfl, (bC BKD.o 2).trans rfl, (bC BKD.o 3).trans rfl, (bC BKB.o 0).trans rfl, (bC BKB.o 1).trans rfl, (bC BKB.o 2).trans rfl⟩ (fun hHeld => ?_)
    generalize wG9.drew = wD7 at HOI HOJ HOK BKE BKC BKD BKB HIA HB hHeld ⊢
    refine take_ (i := 0) (N := some 37) (v := ?_) (a' := ?_) (fB 4 1) rfl rfl (by kernel_rfl) (fun _ _ _ h => h) (Or.inl ⟨by rfl, ?_⟩) hHeld ?_ ?_
    rotate_left
    ·rintro w' ⟨s0, s1, s2, s3, s4, s5, s6⟩; go_simp; with_reducible rfl
    rotate_left
    ·exact zP
    refine take_ (i := 1) (N := some 38) (v := ?_) (a' := ?_) (fB 4 3) rfl rfl (by kernel_rfl) (fun _ _ _ h => h) (Or.inl ⟨by rfl, ?_⟩) hHeld ?_ ?_
    rotate_left
    ·rintro w' ⟨s0, s1, s2, s3, s4, s5, s6⟩; go_simp; with_reducible rfl
    rotate_left
    ·exact zP
    refine one_ (i := 2) (N := none) (fB 4 7) rfl rfl (by kernel_rfl) (by decide) (fun K hK => ?_)
    have hsD8 : wD7.cell? ⟨gbE, 0, none⟩ = some (.int .i64 0) := (bC BKE.o 0).trans rfl
    have hfsD8 := blk_frozen BKE.o 0
    have hnsD8_1 := NBC_E.o
    have hnsD8_2 := NBD_E.o
    have hnsD8_3 := NBB_E.o
    have hmsD8_1 := NBE_C.o
    have hmsD8_2 := NBE_D.o
    have hmsD8_3 := NBE_B.o
    have hsD9 : wD7.cell? ⟨gbE, 1, none⟩ = some (.slice none 0 0) := (bC BKE.o 1).trans rfl
    have hfsD9 := blk_frozen BKE.o 1
    have hnsD9_1 := NBC_E.o
    have hnsD9_2 := NBD_E.o
    have hnsD9_3 := NBB_E.o
    have hmsD9_1 := NBE_C.o
    have hmsD9_2 := NBE_D.o
    have hmsD9_3 := NBE_B.o
    have hsE0 : wD7.cell? ⟨gbE, 2, none⟩ = some (.slice none 0 0) := (bC BKE.o 2).trans rfl
    have hfsE0 := blk_frozen BKE.o 2
    have hnsE0_1 := NBC_E.o
    have hnsE0_2 := NBD_E.o
    have hnsE0_3 := NBB_E.o
    have hmsE0_1 := NBE_C.o
    have hmsE0_2 := NBE_D.o
    have hmsE0_3 := NBE_B.o
    have hsE1 : wD7.cell? ⟨gbE, 3, none⟩ = some (.slice none 0 0) := (bC BKE.o 3).trans rfl
    have hfsE1 := blk_frozen BKE.o 3
    have hnsE1_1 := NBC_E.o
    have hnsE1_2 := NBD_E.o
    have hnsE1_3 := NBB_E.o
    have hmsE1_1 := NBE_C.o
    have hmsE1_2 := NBE_D.o
    have hmsE1_3 := NBE_B.o
    refine skip_ (w1 := ?_) (by rfl) rfl ?_ ?_
    rotate_left
    ·go_simp
     rfl
    refine hK.out _ _ ⟨zcf4 NBD_E.o hHeld.1, zcf4 NBD_E.o hHeld.2.1, zcf4 NBD_E.o hHeld.2.2.1, zcf4 NBD_E.o hHeld.2.2.2.1, zcf4 NBB_E.o hHeld.2.2.2.2.1, zcf4 NBB_E.o hHeld.2.2.2.2.2.1, zcf4 NBB_E.o hHeld.2.2.2.2.2.2⟩ fun hHeld => ?_; clear hK K
    refine one_ (i := 3) (N := none) (fB 4 15) rfl rfl (by kernel_rfl) (by decide) (fun K hK => ?_)
    have hsE2 : wD7.cell? ⟨gbC, 0, none⟩ = some (.int .i64 0) := (bC BKC.o 0).trans rfl
    have hfsE2 := blk_frozen BKC.o 0
    have hnsE2_0 := NBE_C.o
    have hnsE2_2 := NBD_C.o
    have hnsE2_3 := NBB_C.o
    have hmsE2_0 := NBC_E.o
    have hmsE2_2 := NBC_D.o
    have hmsE2_3 := NBC_B.o
    have hsE3 : wD7.cell? ⟨gbC, 1, none⟩ = some (.int .i64 0) := (bC BKC.o 1).trans rfl
    have hfsE3 := blk_frozen BKC.o 1
    have hnsE3_0 := NBE_C.o
    have hnsE3_2 := NBD_C.o
    have hnsE3_3 := NBB_C.o
    have hmsE3_0 := NBC_E.o
    have hmsE3_2 := NBC_D.o
    have hmsE3_3 := NBC_B.o
    have hsE4 : wD7.cell? ⟨gbC, 2, none⟩ = some (.int .i64 0) := (bC BKC.o 2).trans rfl
    have hfsE4 := blk_frozen BKC.o 2
    have hnsE4_0 := NBE_C.o
    have hnsE4_2 := NBD_C.o
    have hnsE4_3 := NBB_C.o
    have hmsE4_0 := NBC_E.o
    have hmsE4_2 := NBC_D.o
    have hmsE4_3 := NBC_B.o
    refine skip_ (w1 := ?_) (by rfl) rfl ?_ ?_
    rotate_left
    ·go_simp
     rfl
    refine hK.out _ _ ⟨((cell_far (p := ⟨gbC, _, none⟩) NBD_C.o _).trans (((cell_far (p := ⟨gbC, _, none⟩) NBD_C.o _).trans (((cell_far (p := ⟨gbC, _, none⟩) NBD_C.o _).trans (hHeld.1)))))), ((cell_far (p := ⟨gbC, _, none⟩) NBD_C.o _).trans (((cell_far (p := ⟨gbC, _, none⟩) NBD_C.o _).trans (((cell_far (p := ⟨gbC, _, none⟩) NBD_C.o _).trans (hHeld.2.1)))))), ((cell_far (p := ⟨gbC, _, none⟩) NBD_C.o _).trans (((cell_far (p := ⟨gbC, _, none⟩) NBD_C.o _).trans (((cell_far (p := ⟨gbC, _, none⟩) NBD_C.o _).trans (hHeld.2.2.1)))))), ((cell_far (p := ⟨gbC, _, none⟩) NBD_C.o _).trans (((cell_far (p := ⟨gbC, _, none⟩) NBD_C.o _).trans (((cell_far (p := ⟨gbC, _, none⟩) NBD_C.o _).trans (hHeld.2.2.2.1)))))), ((cell_far (p := ⟨gbC, _, none⟩) NBB_C.o _).trans (((cell_far (p := ⟨gbC, _, none⟩) NBB_C.o _).trans (((cell_far (p := ⟨gbC, _, none⟩) NBB_C.o _).trans (hHeld.2.2.2.2.1)))))), ((cell_far (p := ⟨gbC, _, none⟩) NBB_C.o _).trans (((cell_far (p := ⟨gbC, _, none⟩) NBB_C.o _).trans (((cell_far (p := ⟨gbC, _, none⟩) NBB_C.o _).trans (hHeld.2.2.2.2.2.1)))))), ((cell_far (p := ⟨gbC, _, none⟩) NBB_C.o _).trans (((cell_far (p := ⟨gbC, _, none⟩) NBB_C.o _).trans (((cell_far (p := ⟨gbC, _, none⟩) NBB_C.o _).trans (hHeld.2.2.2.2.2.2))))))⟩ fun hHeld => ?_; clear hK K
    refine done_ (by kernel_rfl) ?_
    try go_wp2
    refine bodyPost_ret (results_cc rfl _ _ gbE gbC 25 46 #[.int .i64 tL, .slice AoR tG.length coR, .slice AoS tH.length coS, .slice AoO tF.length coO] #[.int .i64 tQ, .int .i64 tT, .int .i64 tU] (0, 0) (0, 0) _ _ rfl (by refine zB ?_; refine blk_far ?_ NBE_C.o _; refine zB ?_; refine blk_far ?_ NBE_C.o _; refine zB ?_; refine blk_far ?_ NBE_C.o _; refine zB ?_; refine zp4 (cs := #[.int .i64 0, .slice none 0 0, .slice none 0 0, .slice none 0 0]) ?_; exact zB BKE.o) Try.underlying25 rfl (by kernel_rfl) rfl (by refine zB ?_; refine blk_put (cs := #[.int .i64 tQ, .int .i64 tT, .int .i64 0]) ?_ 2 _ rfl; refine zB ?_; refine blk_put (cs := #[.int .i64 tQ, .int .i64 0, .int .i64 0]) ?_ 1 _ rfl; refine zB ?_; refine blk_put (cs := #[.int .i64 0, .int .i64 0, .int .i64 0]) ?_ 0 _ rfl; refine zB ?_; refine zr4 ?_ NBC_E.o; exact zB BKC.o) Try.underlying46 rfl (by kernel_rfl)) rfl ?_
    exact ⟨_, _, _, zW, by refine zX ?_; exact Kd.N_mono (Kd.N_far (p := ⟨gbC, 2, none⟩) (Kd.N_far (p := ⟨gbC, 1, none⟩) (Kd.N_far (p := ⟨gbC, 0, none⟩) (zNF4 (Kd.N_mono (Kd.N_mono HOI.o (fun k_ hk => (⟨hk, hk.2.2.2.1⟩ : _ ∧ k_ ≠ gbE))) (fun k_ hk => (⟨hk, hk.1.2.2.2.2.1⟩ : _ ∧ k_ ≠ gbC))) gbE (fun _ hk => hk.1.2) (.int .i64 tL) (.slice AoR tG.length coR) (.slice AoS tH.length coS) (.slice AoO tF.length coO)) (fun _ hk => hk.2) (.int .i64 tQ)) (fun _ hk => hk.2) (.int .i64 tT)) (fun _ hk => hk.2) (.int .i64 tU)) (fun _ hk => ⟨hk.1.1.1, ⟨hk.1.1.2.1, hk.1.1.2.2.1⟩⟩), by refine zX ?_; exact Kd.N_mono (Kd.N_far (p := ⟨gbC, 2, none⟩) (Kd.N_far (p := ⟨gbC, 1, none⟩) (Kd.N_far (p := ⟨gbC, 0, none⟩) (zNF4 (Kd.N_mono (Kd.N_mono HOJ.o (fun k_ hk => (⟨hk, hk.2.2.2.1⟩ : _ ∧ k_ ≠ gbE))) (fun k_ hk => (⟨hk, hk.1.2.2.2.2.1⟩ : _ ∧ k_ ≠ gbC))) gbE (fun _ hk => hk.1.2) (.int .i64 tL) (.slice AoR tG.length coR) (.slice AoS tH.length coS) (.slice AoO tF.length coO)) (fun _ hk => hk.2) (.int .i64 tQ)) (fun _ hk => hk.2) (.int .i64 tT)) (fun _ hk => hk.2) (.int .i64 tU)) (fun _ hk => ⟨hk.1.1.1, ⟨hk.1.1.2.1, hk.1.1.2.2.1⟩⟩), by refine zR ?_; exact Kd.R_mono (Kd.R_far (p := ⟨gbC, 2, none⟩) (Kd.R_far (p := ⟨gbC, 1, none⟩) (Kd.R_far (p := ⟨gbC, 0, none⟩) (zRF4 (Kd.R_mono (Kd.R_types HOK.o BKE.o (by decide)) (fun k_ hk => (⟨hk, hk.1.2.1⟩ : _ ∧ k_ ≠ gbC))) gbE (fun _ hk => hk.1.2) (.int .i64 tL) (.slice AoR tG.length coR) (.slice AoS tH.length coS) (.slice AoO tF.length coO)) (fun _ hk => hk.2) (.int .i64 tQ)) (fun _ hk => hk.2) (.int .i64 tT)) (fun _ hk => hk.2) (.int .i64 tU)) (fun _ hk => hk.1.1.1), zL5 HB.o (IsS98.ge HIA.o) GEE.o GEC.o GED.o GEB.o⟩

end Go.Proofs.Ytggenhomnbnodaa.QFnWheels
