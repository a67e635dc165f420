/- What functions that the law reaches answer, with their walks. Conditions: those that each theorem names. -/
import Derived.Test.YtggenhomnbnodaaQFnWheelsx0
import Derived.Test.YtggenhomnbnodaaQFnWheelsx1
import Derived.Test.YtggenhomnbnodaaQFnWheelsx12
import Derived.Test.YtggenhomnbnodaaQFnWheelsx13
namespace Go.Proofs.Ytggenhomnbnodaa.QFnWheels
open Go.RowKit Go.Proofs.YtggenhomnbnodaaW.PrintWords Go.Proofs.YtggenhomnbnodaaW.PrintLast Go.Proofs.YtggenhomnbnodaaW.PrintMore
attribute [local go_sem] max2_int min2_int max_two min_two max_three min_three max_four min_four
set_option linter.unusedVariables false
set_option linter.unusedSimpArgs false

attribute [local go_sem high] eqA46
open Go.Proofs.YtggenhomnbnodaaW.PrintWords renaming blk_drewN → bN, blk_drew → bD, blk_alloc → bA, blk_cell → bC, blk_below → bB, below_set → bS
def spec_DrawCancel.f (k : Nat) (l0 : List Int) : Option (Int × (List (List (S46))) × (List (List (S46))) × (List (S46)) × Int) := (spec_l1New.f k l0).bind fun btR => ((spec_l8Any.f k btR.1 btR.2.1 btR.2.2).bind fun btO => ((spec_l1Below.f btR.1 btO.2.2.2.2.1 btO.2.2.2.2.2 9).bind fun btB6 => (some (btO.1, btO.2.1, btO.2.2.1, btO.2.2.2.1, btB6.1))))
set_option maxHeartbeats 8000000 in
set_option maxRecDepth 100000 in
theorem spec_DrawCancel.calls (k : Nat) (A0 : Option Addr) (c0 : Nat) (l0 : List Int) (r1 : Int) (r2 : List (List (S46))) (r3 : List (List (S46))) (r4 : List (S46)) (r5 : Int) (w : World) (hr0 : Kd.C (Kd.int .u8) w A0 l0.length l0) (hc0 : l0.length ≤ c0) (h : spec_DrawCancel.f k l0 = some (r1, r2, r3, r4, r5)) :
  Calls Try.prog 47 #[.slice A0 l0.length c0] w fun e w' => ∃ v1_ v2_ v3_ : Value, e = .returned (.tuple #[.agg #[.int .i64 r1, v1_, v2_, v3_], .int .i64 r5]) ∧ Kd.N (Kd.slice 46 k46) 23 w' w.heap.size (fun k_ => (w.heap.size ≤ k_) ∧ some k_ ≠ (v2_ : Value).ownBlock ∧ some k_ ≠ (v3_ : Value).ownBlock) v1_ r2 ∧ Kd.N (Kd.slice 46 k46) 23 w' w.heap.size (fun k_ => (w.heap.size ≤ k_) ∧ some k_ ≠ (v1_ : Value).ownBlock ∧ some k_ ≠ (v3_ : Value).ownBlock) v2_ r3 ∧ Kd.R k46 46 w' w.heap.size (fun k_ => (w.heap.size ≤ k_)) v3_ r4 ∧ Below w.heap.size w w' := by
 have hu25 := Try.underlying25
 have HR0 := aM hr0
 have HC0 := aM hc0
 clear hr0 hc0
 have HB := aM (Below.refl w.heap.size w)
 unfold spec_DrawCancel.f at h; have H := h
 clear h
 obtain ⟨⟨tR, tC1, tC2⟩, A2, H⟩ := zO H; try dsimp only at H
 obtain ⟨⟨tO, tA3, tA4, tA5, tB7, tB8⟩, A3, H⟩ := zO H; try dsimp only at H
 obtain ⟨⟨tB6, tD7, tD8⟩, A4, H⟩ := zO H; try dsimp only at H
 simp only [Option.some.injEq, Prod.mk.injEq] at H
 obtain ⟨rfl, rfl, rfl, rfl, rfl⟩ := H
 go_enter Try.func47, Try.ntmps47
 go_wp2_with (first | ((with_reducible refine gD 2 rfl ?_); refine bE 2 #[.int .i64 0, .slice none 0 0, .slice none 0 0, .slice none 0 0] 25 ?_; intro gbG hg w5 hbox hb; have BKG := aM hbox; have GWG := aM (zg (zL HB.o) hg : w.heap.size ≤ gbG); have GEG := GWG; replace HB := zLB (zL HB.o) hb; clear hb hbox hg) | ((with_reducible refine gC 80 rfl ?_); refine gL 6 Try.func80 #[.slice A0 l0.length c0] ?_; (with_reducible refine (spec_l1New.calls k _ _ l0 tR tC1 tC2 w _ ?side1 ?side2 ?side3 A2.o).mono ?_); (case side1 => exact zL1 HB.o GEG.o); (case side2 => exact HR0.o); (case side3 => exact HC0.o); rintro e w6 ⟨gJ, rfl, hi, hb, hb2⟩; refine ⟨_, rfl, ?_⟩; replace HB := aM hb; have HIJ := aM hi; have NBJ_G := aM (IsS98.ne_blk hi (bB (g := gbG) (o := .cells #[.int .i64 0, .slice none 0 0, .slice none 0 0, .slice none 0 0] 25 (0, 0)) (zB BKG.o) hb2) (by decide)); have NBG_J := aM (Ne.symm (IsS98.ne_blk hi (bB (g := gbG) (o := .cells #[.int .i64 0, .slice none 0 0, .slice none 0 0, .slice none 0 0] 25 (0, 0)) (zB BKG.o) hb2) (by decide))); replace BKG := zBB BKG hb2; clear hi hb hb2) | ((with_reducible refine gC 81 rfl ?_); refine gL 8 Try.func81 #[.pointer (some ⟨gJ, 0, none⟩)] ?_; (with_reducible refine (spec_l8Any.calls k gJ tR tC1 tC2 tO tA3 tA4 tA5 tB7 tB8 w _ ?side1 ?side2 A3.o).mono ?_); (case side1 => exact zI1 HIJ.o NBJ_G.o); (case side2 => exact zL2 HB.o (IsS98.ge HIJ.o) GEG.o); rintro e w7 ⟨vC3, vC4, vB2, rfl, ho0, ho1, ho2, hi, hb, hk⟩; refine ⟨_, rfl, ?_⟩; have HOB3 := aM (Kd.N_lower (Kd.N_mono (ok' := fun k_ => (w.heap.size ≤ k_) ∧ some k_ ≠ (vC4 : Value).ownBlock ∧ some k_ ≠ (vB2 : Value).ownBlock ∧ k_ ≠ gbG ∧ k_ ≠ gJ) ho0 (fun k_ hk_ => ⟨(Nat.le_trans (below_size (zL2 HB.o (IsS98.ge HIJ.o) GEG.o)) hk_.1), hk_.2.1, hk_.2.2, (Kd.freshB (g := gbG) (o := .cells #[.int .i64 0, .slice none 0 0, .slice none 0 0, .slice none 0 0] 25 (0, 0)) (zB BKG.o) k_ hk_.1), (IsS98.fresh (zI1 HIJ.o NBJ_G.o) k_ hk_.1)⟩)) (below_size (zL2 HB.o (IsS98.ge HIJ.o) GEG.o))); have HOB4 := aM (Kd.N_lower (Kd.N_mono (ok' := fun k_ => (w.heap.size ≤ k_) ∧ some k_ ≠ (vC3 : Value).ownBlock ∧ some k_ ≠ (vB2 : Value).ownBlock ∧ k_ ≠ gbG ∧ k_ ≠ gJ) ho1 (fun k_ hk_ => ⟨(Nat.le_trans (below_size (zL2 HB.o (IsS98.ge HIJ.o) GEG.o)) hk_.1), hk_.2.1, hk_.2.2, (Kd.freshB (g := gbG) (o := .cells #[.int .i64 0, .slice none 0 0, .slice none 0 0, .slice none 0 0] 25 (0, 0)) (zB BKG.o) k_ hk_.1), (IsS98.fresh (zI1 HIJ.o NBJ_G.o) k_ hk_.1)⟩)) (below_size (zL2 HB.o (IsS98.ge HIJ.o) GEG.o))); replace BKG := zBK hk BKG NBG_J; have HOB5 := aM (Kd.R_lower (Kd.R_newM (M := fun k_ => (w.heap.size ≤ k_)) (Kd.R_mono (ok' := fun k_ => True) ho2 (fun _ hk_ => trivial)) (below_size (zL2 HB.o (IsS98.ge HIJ.o) GEG.o)) (fun k_ h_ => h_)) (below_size (zL2 HB.o (IsS98.ge HIJ.o) GEG.o))); replace HB := aM hb; replace HIJ := aM hi; clear ho0 hi hb hk; (try clear ho1); (try clear ho2)) | ((with_reducible refine gC 83 rfl ?_); refine gL 10 Try.func83 #[.pointer (some ⟨gJ, 0, none⟩), .int .i64 9] ?_; (with_reducible refine (spec_l1Below.calls gJ tR tB7 tB8 9 tB6 tD7 tD8 w _ ?side1 ?side2 A4.o).mono ?_); (case side1 => exact zI1 HIJ.o NBJ_G.o); (case side2 => exact zL2 HB.o (IsS98.ge HIJ.o) GEG.o); rintro e w8 ⟨rfl, hi, hb, hk⟩; refine ⟨_, rfl, ?_⟩; replace BKG := zBK hk BKG NBG_J; replace HOB3 := aM (Kd.N_mono (Kd.N_keep (Kd.N_mono (ok := fun k_ => (((w.heap.size ≤ k_)) ∧ (some k_ ≠ (vC4 : Value).ownBlock ∧ (some k_ ≠ (vB2 : Value).ownBlock ∧ (k_ ≠ gbG ∧ k_ ≠ gJ))))) (zX HOB3.o) (fun k_ hk_ => (⟨hk_, hk_.2.2.2.2⟩ : _ ∧ k_ ≠ gJ))) hk (fun _ h => h.2)) (fun _ h => h.1)); replace HOB4 := aM (Kd.N_mono (Kd.N_keep (Kd.N_mono (ok := fun k_ => (((w.heap.size ≤ k_)) ∧ (some k_ ≠ (vC3 : Value).ownBlock ∧ (some k_ ≠ (vB2 : Value).ownBlock ∧ (k_ ≠ gbG ∧ k_ ≠ gJ))))) (zX HOB4.o) (fun k_ hk_ => (⟨hk_, hk_.2.2.2.2⟩ : _ ∧ k_ ≠ gJ))) hk (fun _ h => h.2)) (fun _ h => h.1)); replace HOB5 := aM (Kd.R_mono (Kd.R_keep (IsS98.apart (show IsS98 w _ gJ tR tB7 tB8 from zI1 HIJ.o NBJ_G.o) (zR HOB5.o) (by decide)) hk (fun _ h => h.2)) (fun _ h => h.1)); replace HB := aM hb; replace HIJ := aM hi; clear hi hb hk; have hnb9 := NBG_J.o; have hnc9 := NBJ_G.o; have hcz10 := zc4 BKG.o; have hfz10 := zf4 BKG.o; obtain ⟨Ao11, co11, eo11⟩ := Kd.N_slice HOB3.o; subst eo11; obtain ⟨Ao12, co12, eo12⟩ := Kd.N_slice HOB4.o; subst eo12; obtain ⟨Ao13, co13, eo13⟩ := Kd.R_slice HOB5.o; subst eo13))
 refine bodyPost_ret (results_ct rfl _ _ gbG 25 #[.int .i64 tO, .slice Ao11 tA3.length co11, .slice Ao12 tA4.length co12, .slice Ao13 tA5.length co13] (0, 0) _ rfl (by refine zB ?_; refine zp4 (cs := #[.int .i64 0, .slice none 0 0, .slice none 0 0, .slice none 0 0]) ?_; exact zB BKG.o) Try.underlying25 rfl (by kernel_rfl)) rfl ?_
 exact ⟨_, _, _, zW, by refine zX ?_; exact Kd.N_mono (zNF4 (Kd.N_mono HOB3.o (fun k_ hk => (⟨hk, hk.2.2.2.1⟩ : _ ∧ k_ ≠ gbG))) gbG (fun _ hk => hk.2) (.int .i64 tO) (.slice Ao11 tA3.length co11) (.slice Ao12 tA4.length co12) (.slice Ao13 tA5.length co13)) (fun _ hk => ⟨hk.1.1, ⟨hk.1.2.1, hk.1.2.2.1⟩⟩), by refine zX ?_; exact Kd.N_mono (zNF4 (Kd.N_mono HOB4.o (fun k_ hk => (⟨hk, hk.2.2.2.1⟩ : _ ∧ k_ ≠ gbG))) gbG (fun _ hk => hk.2) (.int .i64 tO) (.slice Ao11 tA3.length co11) (.slice Ao12 tA4.length co12) (.slice Ao13 tA5.length co13)) (fun _ hk => ⟨hk.1.1, ⟨hk.1.2.1, hk.1.2.2.1⟩⟩), by refine zR ?_; exact Kd.R_mono (zRF4 (Kd.R_types HOB5.o BKG.o (by decide)) gbG (fun _ hk => hk.2) (.int .i64 tO) (.slice Ao11 tA3.length co11) (.slice Ao12 tA4.length co12) (.slice Ao13 tA5.length co13)) (fun _ hk => hk.1.1), zL2 HB.o (IsS98.ge HIJ.o) GEG.o⟩

open Go.Proofs.YtggenhomnbnodaaW.PrintWords renaming blk_drewN → bN, blk_drew → bD, blk_alloc → bA, blk_cell → bC, blk_below → bB, below_set → bS
def spec_DrawWheelOk.f (k : Nat) (l0 : List Int) : Option (Int × (List (List (S46))) × (List (List (S46))) × (List (S46))) := (spec_l1New.f k l0).bind fun btW => ((spec_l8Any.f k btW.1 btW.2.1 btW.2.2).bind fun btP => (some (btP.1, btP.2.1, btP.2.2.1, btP.2.2.2.1)))
set_option maxHeartbeats 8000000 in
set_option maxRecDepth 100000 in
theorem spec_DrawWheelOk.calls (k : Nat) (A0 : Option Addr) (c0 : Nat) (l0 : List Int) (r1 : Int) (r2 : List (List (S46))) (r3 : List (List (S46))) (r4 : List (S46)) (w : World) (hr0 : Kd.C (Kd.int .u8) w A0 l0.length l0) (hc0 : l0.length ≤ c0) (h : spec_DrawWheelOk.f k l0 = some (r1, r2, r3, r4)) :
  Calls Try.prog 48 #[.slice A0 l0.length c0] w fun e w' => ∃ v1_ v2_ v3_ : Value, e = .returned (.agg #[.int .i64 r1, v1_, v2_, v3_]) ∧ Kd.N (Kd.slice 46 k46) 23 w' w.heap.size (fun k_ => (w.heap.size ≤ k_) ∧ some k_ ≠ (v2_ : Value).ownBlock ∧ some k_ ≠ (v3_ : Value).ownBlock) v1_ r2 ∧ Kd.N (Kd.slice 46 k46) 23 w' w.heap.size (fun k_ => (w.heap.size ≤ k_) ∧ some k_ ≠ (v1_ : Value).ownBlock ∧ some k_ ≠ (v3_ : Value).ownBlock) v2_ r3 ∧ Kd.R k46 46 w' w.heap.size (fun k_ => (w.heap.size ≤ k_)) v3_ r4 ∧ Below w.heap.size w w' := by
 have hu25 := Try.underlying25
 have HR0 := aM hr0
 have HC0 := aM hc0
 clear hr0 hc0
 have HB := aM (Below.refl w.heap.size w)
 unfold spec_DrawWheelOk.f at h; have H := h
 clear h
 obtain ⟨⟨tW, tC5, tC6⟩, A2, H⟩ := zO H; try dsimp only at H
 obtain ⟨⟨tP, tA6, tA7, tA8, tD9, tE0⟩, A3, H⟩ := zO H; try dsimp only at H
 simp only [Option.some.injEq, Prod.mk.injEq] at H
 obtain ⟨rfl, rfl, rfl, rfl⟩ := H
 go_enter Try.func48, Try.ntmps48
 go_wp2_with (first | ((with_reducible refine gD 2 rfl ?_); refine bE 2 #[.int .i64 0, .slice none 0 0, .slice none 0 0, .slice none 0 0] 25 ?_; intro gbH hg w4 hbox hb; have BKH := aM hbox; have GWH := aM (zg (zL HB.o) hg : w.heap.size ≤ gbH); have GEH := GWH; replace HB := zLB (zL HB.o) hb; clear hb hbox hg) | ((with_reducible refine gC 80 rfl ?_); refine gL 5 Try.func80 #[.slice A0 l0.length c0] ?_; (with_reducible refine (spec_l1New.calls k _ _ l0 tW tC5 tC6 w _ ?side1 ?side2 ?side3 A2.o).mono ?_); (case side1 => exact zL1 HB.o GEH.o); (case side2 => exact HR0.o); (case side3 => exact HC0.o); rintro e w5 ⟨gM, rfl, hi, hb, hb2⟩; refine ⟨_, rfl, ?_⟩; replace HB := aM hb; have HIM := aM hi; have NBM_H := aM (IsS98.ne_blk hi (bB (g := gbH) (o := .cells #[.int .i64 0, .slice none 0 0, .slice none 0 0, .slice none 0 0] 25 (0, 0)) (zB BKH.o) hb2) (by decide)); have NBH_M := aM (Ne.symm (IsS98.ne_blk hi (bB (g := gbH) (o := .cells #[.int .i64 0, .slice none 0 0, .slice none 0 0, .slice none 0 0] 25 (0, 0)) (zB BKH.o) hb2) (by decide))); replace BKH := zBB BKH hb2; clear hi hb hb2) | ((with_reducible refine gC 81 rfl ?_); refine gL 7 Try.func81 #[.pointer (some ⟨gM, 0, none⟩)] ?_; (with_reducible refine (spec_l8Any.calls k gM tW tC5 tC6 tP tA6 tA7 tA8 tD9 tE0 w _ ?side1 ?side2 A3.o).mono ?_); (case side1 => exact zI1 HIM.o NBM_H.o); (case side2 => exact zL2 HB.o (IsS98.ge HIM.o) GEH.o); rintro e w6 ⟨vE1, vE2, vC7, rfl, ho0, ho1, ho2, hi, hb, hk⟩; refine ⟨_, rfl, ?_⟩; have HOC8 := aM (Kd.N_lower (Kd.N_mono (ok' := fun k_ => (w.heap.size ≤ k_) ∧ some k_ ≠ (vE2 : Value).ownBlock ∧ some k_ ≠ (vC7 : Value).ownBlock ∧ k_ ≠ gbH ∧ k_ ≠ gM) ho0 (fun k_ hk_ => ⟨(Nat.le_trans (below_size (zL2 HB.o (IsS98.ge HIM.o) GEH.o)) hk_.1), hk_.2.1, hk_.2.2, (Kd.freshB (g := gbH) (o := .cells #[.int .i64 0, .slice none 0 0, .slice none 0 0, .slice none 0 0] 25 (0, 0)) (zB BKH.o) k_ hk_.1), (IsS98.fresh (zI1 HIM.o NBM_H.o) k_ hk_.1)⟩)) (below_size (zL2 HB.o (IsS98.ge HIM.o) GEH.o))); have HOC9 := aM (Kd.N_lower (Kd.N_mono (ok' := fun k_ => (w.heap.size ≤ k_) ∧ some k_ ≠ (vE1 : Value).ownBlock ∧ some k_ ≠ (vC7 : Value).ownBlock ∧ k_ ≠ gbH ∧ k_ ≠ gM) ho1 (fun k_ hk_ => ⟨(Nat.le_trans (below_size (zL2 HB.o (IsS98.ge HIM.o) GEH.o)) hk_.1), hk_.2.1, hk_.2.2, (Kd.freshB (g := gbH) (o := .cells #[.int .i64 0, .slice none 0 0, .slice none 0 0, .slice none 0 0] 25 (0, 0)) (zB BKH.o) k_ hk_.1), (IsS98.fresh (zI1 HIM.o NBM_H.o) k_ hk_.1)⟩)) (below_size (zL2 HB.o (IsS98.ge HIM.o) GEH.o))); replace BKH := zBK hk BKH NBH_M; have HOD0 := aM (Kd.R_lower (Kd.R_newM (M := fun k_ => (w.heap.size ≤ k_)) (Kd.R_mono (ok' := fun k_ => True) ho2 (fun _ hk_ => trivial)) (below_size (zL2 HB.o (IsS98.ge HIM.o) GEH.o)) (fun k_ h_ => h_)) (below_size (zL2 HB.o (IsS98.ge HIM.o) GEH.o))); replace HB := aM hb; replace HIM := aM hi; clear ho0 hi hb hk; (try clear ho1); (try clear ho2); have hnb7 := NBH_M.o; have hnc7 := NBM_H.o; have hcz8 := zc4 BKH.o; have hfz8 := zf4 BKH.o; obtain ⟨Ao9, co9, eo9⟩ := Kd.N_slice HOC8.o; subst eo9; obtain ⟨Ao10, co10, eo10⟩ := Kd.N_slice HOC9.o; subst eo10; obtain ⟨Ao11, co11, eo11⟩ := Kd.R_slice HOD0.o; subst eo11))
 refine bodyPost_ret (results_cell_row rfl _ _ gbH 25 #[.int .i64 tP, .slice Ao9 tA6.length co9, .slice Ao10 tA7.length co10, .slice Ao11 tA8.length co11] (0, 0) _ rfl (by refine zB ?_; refine zp4 (cs := #[.int .i64 0, .slice none 0 0, .slice none 0 0, .slice none 0 0]) ?_; exact zB BKH.o) Try.underlying25 rfl (by kernel_rfl)) rfl ?_
 exact ⟨_, _, _, zW, by refine zX ?_; exact Kd.N_mono (zNF4 (Kd.N_mono HOC8.o (fun k_ hk => (⟨hk, hk.2.2.2.1⟩ : _ ∧ k_ ≠ gbH))) gbH (fun _ hk => hk.2) (.int .i64 tP) (.slice Ao9 tA6.length co9) (.slice Ao10 tA7.length co10) (.slice Ao11 tA8.length co11)) (fun _ hk => ⟨hk.1.1, ⟨hk.1.2.1, hk.1.2.2.1⟩⟩), by refine zX ?_; exact Kd.N_mono (zNF4 (Kd.N_mono HOC9.o (fun k_ hk => (⟨hk, hk.2.2.2.1⟩ : _ ∧ k_ ≠ gbH))) gbH (fun _ hk => hk.2) (.int .i64 tP) (.slice Ao9 tA6.length co9) (.slice Ao10 tA7.length co10) (.slice Ao11 tA8.length co11)) (fun _ hk => ⟨hk.1.1, ⟨hk.1.2.1, hk.1.2.2.1⟩⟩), by refine zR ?_; exact Kd.R_mono (zRF4 (Kd.R_types HOD0.o BKH.o (by decide)) gbH (fun _ hk => hk.2) (.int .i64 tP) (.slice Ao9 tA6.length co9) (.slice Ao10 tA7.length co10) (.slice Ao11 tA8.length co11)) (fun _ hk => hk.1.1), zL2 HB.o (IsS98.ge HIM.o) GEH.o⟩

open Go.Proofs.YtggenhomnbnodaaW.PrintWords renaming blk_drewN → bN, blk_drew → bD, blk_alloc → bA, blk_cell → bC, blk_below → bB, below_set → bS
def spec_DrawTimers.f (k : Nat) (l0 : List Int) : Option (Int × (List (List (S46))) × (List (List (S46))) × (List (S46))) := (spec_l1New.f k l0).bind fun btX => ((spec_l8Any.f k btX.1 btX.2.1 btX.2.2).bind fun btQ => (some (btQ.1, btQ.2.1, btQ.2.2.1, btQ.2.2.2.1)))
set_option maxHeartbeats 8000000 in
set_option maxRecDepth 100000 in
theorem spec_DrawTimers.calls (k : Nat) (A0 : Option Addr) (c0 : Nat) (l0 : List Int) (r1 : Int) (r2 : List (List (S46))) (r3 : List (List (S46))) (r4 : List (S46)) (w : World) (hr0 : Kd.C (Kd.int .u8) w A0 l0.length l0) (hc0 : l0.length ≤ c0) (h : spec_DrawTimers.f k l0 = some (r1, r2, r3, r4)) :
  Calls Try.prog 49 #[.slice A0 l0.length c0] w fun e w' => ∃ v1_ v2_ v3_ : Value, e = .returned (.agg #[.int .i64 r1, v1_, v2_, v3_]) ∧ Kd.N (Kd.slice 46 k46) 23 w' w.heap.size (fun k_ => (w.heap.size ≤ k_) ∧ some k_ ≠ (v2_ : Value).ownBlock ∧ some k_ ≠ (v3_ : Value).ownBlock) v1_ r2 ∧ Kd.N (Kd.slice 46 k46) 23 w' w.heap.size (fun k_ => (w.heap.size ≤ k_) ∧ some k_ ≠ (v1_ : Value).ownBlock ∧ some k_ ≠ (v3_ : Value).ownBlock) v2_ r3 ∧ Kd.R k46 46 w' w.heap.size (fun k_ => (w.heap.size ≤ k_)) v3_ r4 ∧ Below w.heap.size w w' := by
 have hu25 := Try.underlying25
 have HR0 := aM hr0
 have HC0 := aM hc0
 clear hr0 hc0
 have HB := aM (Below.refl w.heap.size w)
 unfold spec_DrawTimers.f at h; have H := h
 clear h
 obtain ⟨⟨tX, tD1, tD2⟩, A2, H⟩ := zO H; try dsimp only at H
 obtain ⟨⟨tQ, tA9, tB0, tB1, tE3, tE4⟩, A3, H⟩ := zO H; try dsimp only at H
 simp only [Option.some.injEq, Prod.mk.injEq] at H
 obtain ⟨rfl, rfl, rfl, rfl⟩ := H
 go_enter Try.func49, Try.ntmps49
 go_wp2_with (first | ((with_reducible refine gD 2 rfl ?_); refine bE 2 #[.int .i64 0, .slice none 0 0, .slice none 0 0, .slice none 0 0] 25 ?_; intro gbI hg w4 hbox hb; have BKI := aM hbox; have GWI := aM (zg (zL HB.o) hg : w.heap.size ≤ gbI); have GEI := GWI; replace HB := zLB (zL HB.o) hb; clear hb hbox hg) | ((with_reducible refine gC 80 rfl ?_); refine gL 5 Try.func80 #[.slice A0 l0.length c0] ?_; (with_reducible refine (spec_l1New.calls k _ _ l0 tX tD1 tD2 w _ ?side1 ?side2 ?side3 A2.o).mono ?_); (case side1 => exact zL1 HB.o GEI.o); (case side2 => exact HR0.o); (case side3 => exact HC0.o); rintro e w5 ⟨gN, rfl, hi, hb, hb2⟩; refine ⟨_, rfl, ?_⟩; replace HB := aM hb; have HIN := aM hi; have NBN_I := aM (IsS98.ne_blk hi (bB (g := gbI) (o := .cells #[.int .i64 0, .slice none 0 0, .slice none 0 0, .slice none 0 0] 25 (0, 0)) (zB BKI.o) hb2) (by decide)); have NBI_N := aM (Ne.symm (IsS98.ne_blk hi (bB (g := gbI) (o := .cells #[.int .i64 0, .slice none 0 0, .slice none 0 0, .slice none 0 0] 25 (0, 0)) (zB BKI.o) hb2) (by decide))); replace BKI := zBB BKI hb2; clear hi hb hb2) | ((with_reducible refine gC 81 rfl ?_); refine gL 7 Try.func81 #[.pointer (some ⟨gN, 0, none⟩)] ?_; (with_reducible refine (spec_l8Any.calls k gN tX tD1 tD2 tQ tA9 tB0 tB1 tE3 tE4 w _ ?side1 ?side2 A3.o).mono ?_); (case side1 => exact zI1 HIN.o NBN_I.o); (case side2 => exact zL2 HB.o (IsS98.ge HIN.o) GEI.o); rintro e w6 ⟨vE5, vE6, vD3, rfl, ho0, ho1, ho2, hi, hb, hk⟩; refine ⟨_, rfl, ?_⟩; have HOD4 := aM (Kd.N_lower (Kd.N_mono (ok' := fun k_ => (w.heap.size ≤ k_) ∧ some k_ ≠ (vE6 : Value).ownBlock ∧ some k_ ≠ (vD3 : Value).ownBlock ∧ k_ ≠ gbI ∧ k_ ≠ gN) ho0 (fun k_ hk_ => ⟨(Nat.le_trans (below_size (zL2 HB.o (IsS98.ge HIN.o) GEI.o)) hk_.1), hk_.2.1, hk_.2.2, (Kd.freshB (g := gbI) (o := .cells #[.int .i64 0, .slice none 0 0, .slice none 0 0, .slice none 0 0] 25 (0, 0)) (zB BKI.o) k_ hk_.1), (IsS98.fresh (zI1 HIN.o NBN_I.o) k_ hk_.1)⟩)) (below_size (zL2 HB.o (IsS98.ge HIN.o) GEI.o))); have HOD5 := aM (Kd.N_lower (Kd.N_mono (ok' := fun k_ => (w.heap.size ≤ k_) ∧ some k_ ≠ (vE5 : Value).ownBlock ∧ some k_ ≠ (vD3 : Value).ownBlock ∧ k_ ≠ gbI ∧ k_ ≠ gN) ho1 (fun k_ hk_ => ⟨(Nat.le_trans (below_size (zL2 HB.o (IsS98.ge HIN.o) GEI.o)) hk_.1), hk_.2.1, hk_.2.2, (Kd.freshB (g := gbI) (o := .cells #[.int .i64 0, .slice none 0 0, .slice none 0 0, .slice none 0 0] 25 (0, 0)) (zB BKI.o) k_ hk_.1), (IsS98.fresh (zI1 HIN.o NBN_I.o) k_ hk_.1)⟩)) (below_size (zL2 HB.o (IsS98.ge HIN.o) GEI.o))); replace BKI := zBK hk BKI NBI_N; have HOD6 := aM (Kd.R_lower (Kd.R_newM (M := fun k_ => (w.heap.size ≤ k_)) (Kd.R_mono (ok' := fun k_ => True) ho2 (fun _ hk_ => trivial)) (below_size (zL2 HB.o (IsS98.ge HIN.o) GEI.o)) (fun k_ h_ => h_)) (below_size (zL2 HB.o (IsS98.ge HIN.o) GEI.o))); replace HB := aM hb; replace HIN := aM hi; clear ho0 hi hb hk; (try clear ho1); (try clear ho2); have hnb7 := NBI_N.o; have hnc7 := NBN_I.o; have hcz8 := zc4 BKI.o; have hfz8 := zf4 BKI.o; obtain ⟨Ao9, co9, eo9⟩ := Kd.N_slice HOD4.o; subst eo9; obtain ⟨Ao10, co10, eo10⟩ := Kd.N_slice HOD5.o; subst eo10; obtain ⟨Ao11, co11, eo11⟩ := Kd.R_slice HOD6.o; subst eo11))
 refine bodyPost_ret (results_cell_row rfl _ _ gbI 25 #[.int .i64 tQ, .slice Ao9 tA9.length co9, .slice Ao10 tB0.length co10, .slice Ao11 tB1.length co11] (0, 0) _ rfl (by refine zB ?_; refine zp4 (cs := #[.int .i64 0, .slice none 0 0, .slice none 0 0, .slice none 0 0]) ?_; exact zB BKI.o) Try.underlying25 rfl (by kernel_rfl)) rfl ?_
 exact ⟨_, _, _, zW, by refine zX ?_; exact Kd.N_mono (zNF4 (Kd.N_mono HOD4.o (fun k_ hk => (⟨hk, hk.2.2.2.1⟩ : _ ∧ k_ ≠ gbI))) gbI (fun _ hk => hk.2) (.int .i64 tQ) (.slice Ao9 tA9.length co9) (.slice Ao10 tB0.length co10) (.slice Ao11 tB1.length co11)) (fun _ hk => ⟨hk.1.1, ⟨hk.1.2.1, hk.1.2.2.1⟩⟩), by refine zX ?_; exact Kd.N_mono (zNF4 (Kd.N_mono HOD5.o (fun k_ hk => (⟨hk, hk.2.2.2.1⟩ : _ ∧ k_ ≠ gbI))) gbI (fun _ hk => hk.2) (.int .i64 tQ) (.slice Ao9 tA9.length co9) (.slice Ao10 tB0.length co10) (.slice Ao11 tB1.length co11)) (fun _ hk => ⟨hk.1.1, ⟨hk.1.2.1, hk.1.2.2.1⟩⟩), by refine zR ?_; exact Kd.R_mono (zRF4 (Kd.R_types HOD6.o BKI.o (by decide)) gbI (fun _ hk => hk.2) (.int .i64 tQ) (.slice Ao9 tA9.length co9) (.slice Ao10 tB0.length co10) (.slice Ao11 tB1.length co11)) (fun _ hk => hk.1.1), zL2 HB.o (IsS98.ge HIN.o) GEI.o⟩

open Go.Proofs.YtggenhomnbnodaaW.PrintWords renaming blk_drewN → bN, blk_drew → bD, blk_alloc → bA, blk_cell → bC, blk_below → bB, below_set → bS
def laws_sameTimers.l0 : Nat → List (S46) → List (S46) → Int → Option (Bool)
 | 0, _, _, _ => none
 | k + 1, x0, x1, x5 => if x5 < (x0.length : Int) then (if 0 ≤ x5 then (if x5 < (x1.length : Int) then (if (!(((rd_T46 x0 x5).f0) == ((rd_T46 x1 x5).f0)) || (!(((rd_T46 x0 x5).f1) == ((rd_T46 x1 x5).f1)) || (!(((rd_T46 x0 x5).f2) == ((rd_T46 x1 x5).f2))))) = true then (some false) else (laws_sameTimers.l0 k x0 x1 (wrap64 (x5 + 1)))) else (none)) else (none)) else (some true)
def laws_sameTimers.f (k : Nat) (l0 : List (S46)) (l1 : List (S46)) : Option (Bool) := if (l0.length : Int) = (l1.length : Int) then (laws_sameTimers.l0 k l0 l1 0) else (some false)
set_option maxHeartbeats 8000000 in
set_option maxRecDepth 100000 in
theorem laws_sameTimers.calls (k : Nat) (A0 : Option Addr) (c0 : Nat) (l0 : List (S46)) (A1 : Option Addr) (c1 : Nat) (l1 : List (S46)) (r : Bool) (w : World) (hr0 : Kd.C k46 w A0 l0.length l0) (hc0 : l0.length ≤ c0) (hr1 : Kd.C k46 w A1 l1.length l1) (hc1 : l1.length ≤ c1) (h : laws_sameTimers.f k l0 l1 = some r) :
  Calls Try.prog 51 #[.slice A0 l0.length c0, .slice A1 l1.length c1] w fun e w' => e = .returned (.bool r) ∧ Drawn0 w w' := by
 have hu46 := Try.underlying46
 have HR0 := aM hr0
 have HC0 := aM hc0
 clear hr0 hc0
 have HR1 := aM hr1
 have HC1 := aM hc1
 clear hr1 hc1
 unfold laws_sameTimers.f at h; have H := h
 clear h
 by_cases c3 : (l0.length : Int) = (l1.length : Int)
 ·rw [if_pos c3] at H
  obtain ⟨c3b0, c3b1⟩ := zt c3
  have c3b2 : (l0.length == l1.length) = true := by first | simpa using c3 | (simp at c3 ⊢; omega)
  clear c3
  have H' := aM H
  clear H
  go_enter Try.func51, Try.ntmps51
  go_wp2
  repeat (go_quiet (fail); try go_wp2)
  go_loopg [5] k (fun kq v5 w' => ∃ (x5_1 : Int), v5 = .int .i64 x5_1 ∧ Aside0 (laws_sameTimers.l0 kq l0 l1 x5_1 = some r) ∧ Aside0 (kq ≤ k) ∧ Drawn0 w w')
  case atStart => exact ⟨(0), zV, H', ⟨Nat.le_refl _⟩, zU⟩
  case round =>
   clear H'
   try clear c1
   try clear p2
   try clear c3
   try clear c3b0
   try clear c3b1
   try clear c3b2
   obtain ⟨x5_1, rfl, HA, HK1, ⟨m1, rfl⟩⟩ := hrel
   cases gk with
   | zero => exact absurd HA.o (by simp [laws_sameTimers.l0])
   | succ k1 =>
    have H := HA.o
    clear HA
    simp only [laws_sameTimers.l0] at H
    by_cases c4 : x5_1 < (l0.length : Int)
    ·rw [if_pos c4] at H
     have c4b0 := dT c4
     clear c4
     by_cases c5 : 0 ≤ x5_1
     ·rw [if_pos c5] at H
      have c5b0 := dT c5
      clear c5
      by_cases c6 : x5_1 < (l1.length : Int)
      ·rw [if_pos c6] at H
       have c6b0 := dT c6
       clear c6
       by_cases c7 : (!(((rd_T46 l0 x5_1).f0) == ((rd_T46 l1 x5_1).f0)) || (!(((rd_T46 l0 x5_1).f1) == ((rd_T46 l1 x5_1).f1)) || (!(((rd_T46 l0 x5_1).f2) == ((rd_T46 l1 x5_1).f2))))) = true
       ·rw [if_pos c7] at H
        have c7b0 := c7
        clear c7
        obtain rfl := Option.some.inj H
        have pK : 0 ≤ (x5_1 : Int) := zD
        have qK : x5_1 < (l0.length : Int) := zD
        obtain ⟨adK, eK, hxK_0, hxK_1, hxK_2⟩ := at_T46 HR0.o x5_1 pK qK
        cases eK
        replace pK := eq_true pK
        replace qK := eq_true qK
        have pL : 0 ≤ (x5_1 : Int) := zD
        have qL : x5_1 < (l1.length : Int) := zD
        obtain ⟨adL, eL, hxL_0, hxL_1, hxL_2⟩ := at_T46 HR1.o x5_1 pL qL
        cases eL
        replace pL := eq_true pL
        replace qL := eq_true qL
        go_wp2
        repeat (go_quiet (fail); try go_wp2)
        go_ret
        exact ⟨zV, zU⟩
       ·rw [if_neg c7] at H
        have c7b0 : (!(((rd_T46 l0 x5_1).f0) == ((rd_T46 l1 x5_1).f0)) || (!(((rd_T46 l0 x5_1).f1) == ((rd_T46 l1 x5_1).f1)) || (!(((rd_T46 l0 x5_1).f2) == ((rd_T46 l1 x5_1).f2))))) = false := by simpa using c7
        clear c7
        have H' := aM H
        clear H
        have pK : 0 ≤ (x5_1 : Int) := zD
        have qK : x5_1 < (l0.length : Int) := zD
        obtain ⟨adK, eK, hxK_0, hxK_1, hxK_2⟩ := at_T46 HR0.o x5_1 pK qK
        cases eK
        replace pK := eq_true pK
        replace qK := eq_true qK
        have pL : 0 ≤ (x5_1 : Int) := zD
        have qL : x5_1 < (l1.length : Int) := zD
        obtain ⟨adL, eL, hxL_0, hxL_1, hxL_2⟩ := at_T46 HR1.o x5_1 pL qL
        cases eL
        replace pL := eq_true pL
        replace qL := eq_true qL
        go_wp2
        repeat (go_quiet (fail); try go_wp2)
        go_roundg k1
        case measure => have := HK1.o; omega
        case rel => exact ⟨(wrap64 (x5_1 + 1)), zV, H', ⟨by have := HK1.o; omega⟩, zU⟩
      ·rw [if_neg c6] at H
       exact absurd H (by simp)
     ·rw [if_neg c5] at H
      exact absurd H (by simp)
    ·rw [if_neg c4] at H
     have c4b0 := dF c4
     clear c4
     obtain rfl := Option.some.inj H
     go_wp2
     repeat (go_quiet (fail); try go_wp2)
     go_ret
     exact ⟨zV, zU⟩
 ·rw [if_neg c3] at H
  obtain ⟨c3b0, c3b1⟩ := zf c3
  have c3b2 : (l0.length == l1.length) = false := by first | simpa using c3 | (simp at c3 ⊢; omega)
  obtain rfl := Option.some.inj H
  go_enter Try.func51, Try.ntmps51
  go_wp2
  repeat (go_quiet (fail); try go_wp2)
  go_ret
  exact ⟨zV, zU⟩

open Go.Proofs.YtggenhomnbnodaaW.PrintWords renaming blk_drewN → bN, blk_drew → bD, blk_alloc → bA, blk_cell → bC, blk_below → bB, below_set → bS
mutual
def laws_sameWheel.j0 : Nat → Bool → Int → List (List (S46)) → List (List (S46)) → List (S46) → Int → List (List (S46)) → List (List (S46)) → List (S46) → Option (Bool)
 | 0, _, _, _, _, _, _, _, _, _ => none
 | k + 1, x37, xY, xS, xT, xZ, xA0, xU, xV, xA1 => if x37 = true then (some false) else (laws_sameWheel.l0 k 0 xY xS xT xZ xA0 xU xV xA1)
def laws_sameWheel.l0 : Nat → Int → Int → List (List (S46)) → List (List (S46)) → List (S46) → Int → List (List (S46)) → List (List (S46)) → List (S46) → Option (Bool)
 | 0, _, _, _, _, _, _, _, _, _ => none
 | k + 1, x5, xY, xS, xT, xZ, xA0, xU, xV, xA1 => if x5 < (xS.length : Int) then (if 0 ≤ x5 then (if x5 < (xU.length : Int) then ((laws_sameTimers.f k (rd_L2 xS x5) (rd_L2 xU x5)).bind fun tB9 => (if tB9 = true then (laws_sameWheel.l0 k (wrap64 (x5 + 1)) xY xS xT xZ xA0 xU xV xA1) else (some false))) else (none)) else (none)) else (laws_sameWheel.l1 k 0 xY xS xT xZ xA0 xU xV xA1)
def laws_sameWheel.l1 : Nat → Int → Int → List (List (S46)) → List (List (S46)) → List (S46) → Int → List (List (S46)) → List (List (S46)) → List (S46) → Option (Bool)
 | 0, _, _, _, _, _, _, _, _, _ => none
 | k + 1, x6, xY, xS, xT, xZ, xA0, xU, xV, xA1 => if x6 < (xT.length : Int) then (if 0 ≤ x6 then (if x6 < (xV.length : Int) then ((laws_sameTimers.f k (rd_L2 xT x6) (rd_L2 xV x6)).bind fun tC0 => (if tC0 = true then (laws_sameWheel.l1 k (wrap64 (x6 + 1)) xY xS xT xZ xA0 xU xV xA1) else (some false))) else (none)) else (none)) else (some true)
end
def laws_sameWheel.f (k : Nat) (a0_0 : Int) (l0_1 : List (List (S46))) (l0_2 : List (List (S46))) (l0_3 : List (S46)) (a1_0 : Int) (l1_1 : List (List (S46))) (l1_2 : List (List (S46))) (l1_3 : List (S46)) : Option (Bool) := if a0_0 = a1_0 then (if (l0_1.length : Int) = (l1_1.length : Int) then (if (l0_2.length : Int) = (l1_2.length : Int) then ((laws_sameTimers.f k l0_3 l1_3).bind fun tA2 => (laws_sameWheel.j0 k (!tA2) a0_0 l0_1 l0_2 l0_3 a1_0 l1_1 l1_2 l1_3)) else (laws_sameWheel.j0 k true a0_0 l0_1 l0_2 l0_3 a1_0 l1_1 l1_2 l1_3)) else (laws_sameWheel.j0 k true a0_0 l0_1 l0_2 l0_3 a1_0 l1_1 l1_2 l1_3)) else (laws_sameWheel.j0 k true a0_0 l0_1 l0_2 l0_3 a1_0 l1_1 l1_2 l1_3)
set_option maxHeartbeats 8000000 in
set_option maxRecDepth 100000 in
theorem laws_sameWheel.calls (k : Nat) (a0_0 : Int) (A0_1 : Option Addr) (c0_1 : Nat) (l0_1 : List (List (S46))) (A0_2 : Option Addr) (c0_2 : Nat) (l0_2 : List (List (S46))) (A0_3 : Option Addr) (c0_3 : Nat) (l0_3 : List (S46)) (a1_0 : Int) (A1_1 : Option Addr) (c1_1 : Nat) (l1_1 : List (List (S46))) (A1_2 : Option Addr) (c1_2 : Nat) (l1_2 : List (List (S46))) (A1_3 : Option Addr) (c1_3 : Nat) (l1_3 : List (S46)) (r : Bool) (w : World) (hr0_1 : Kd.C (Kd.slice 46 k46) w A0_1 l0_1.length l0_1) (hc0_1 : l0_1.length ≤ c0_1) (hr0_2 : Kd.C (Kd.slice 46 k46) w A0_2 l0_2.length l0_2) (hc0_2 : l0_2.length ≤ c0_2) (hr0_3 : Kd.C k46 w A0_3 l0_3.length l0_3) (hc0_3 : l0_3.length ≤ c0_3) (hr1_1 : Kd.C (Kd.slice 46 k46) w A1_1 l1_1.length l1_1) (hc1_1 : l1_1.length ≤ c1_1) (hr1_2 : Kd.C (Kd.slice 46 k46) w A1_2 l1_2.length l1_2) (hc1_2 : l1_2.length ≤ c1_2) (hr1_3 : Kd.C k46 w A1_3 l1_3.length l1_3) (hc1_3 : l1_3.length ≤ c1_3) (h : laws_sameWheel.f k a0_0 l0_1 l0_2 l0_3 a1_0 l1_1 l1_2 l1_3 = some r) :
  Calls Try.prog 50 #[.agg #[.int .i64 a0_0, .slice A0_1 l0_1.length c0_1, .slice A0_2 l0_2.length c0_2, .slice A0_3 l0_3.length c0_3], .agg #[.int .i64 a1_0, .slice A1_1 l1_1.length c1_1, .slice A1_2 l1_2.length c1_2, .slice A1_3 l1_3.length c1_3]] w fun e w' => e = .returned (.bool r) ∧ Below w.heap.size w w' := by
 have hu25 := Try.underlying25
 have HR0_1 := aM hr0_1
 have HC0_1 := aM hc0_1
 clear hr0_1 hc0_1
 have HR0_2 := aM hr0_2
 have HC0_2 := aM hc0_2
 clear hr0_2 hc0_2
 have HR0_3 := aM hr0_3
 have HC0_3 := aM hc0_3
 clear hr0_3 hc0_3
 have HR1_1 := aM hr1_1
 have HC1_1 := aM hc1_1
 clear hr1_1 hc1_1
 have HR1_2 := aM hr1_2
 have HC1_2 := aM hc1_2
 clear hr1_2 hc1_2
 have HR1_3 := aM hr1_3
 have HC1_3 := aM hc1_3
 clear hr1_3 hc1_3
 have HB := aM (Below.refl w.heap.size w)
 unfold laws_sameWheel.f at h; have H := h
 clear h
 have HC3 := aM H
 clear H
 go_enter Try.func50, Try.ntmps50
 go_upto_region 1 with (first | ((with_reducible refine gD 2 rfl ?_); (try (refine gate_guard (by rfl) ?_; dsimp only)); refine box_event ?hg (N := 2) ?hd (cs := #[.int .i64 a0_0, .slice A0_1 l0_1.length c0_1, .slice A0_2 l0_2.length c0_2, .slice A0_3 l0_3.length c0_3]) (t := 25) ?hr ?_; (case hd => rfl); (case hg => rfl); (case hr => first | (go_simp; done) | (go_simp; rfl)); intro gbA hg w4 hbox hb; have BKA := aM hbox; have GWA := aM (zg (zL HB.o) hg : w.heap.size ≤ gbA); have GEA := GWA; replace HB := zLB (zL HB.o) hb; clear hb hbox hg) | ((with_reducible refine gD 3 rfl ?_); (try (refine gate_guard (by rfl) ?_; dsimp only)); refine box_event ?hg (N := 3) ?hd (cs := #[.int .i64 a1_0, .slice A1_1 l1_1.length c1_1, .slice A1_2 l1_2.length c1_2, .slice A1_3 l1_3.length c1_3]) (t := 25) ?hr ?_; (case hd => rfl); (case hg => rfl); (case hr => first | (go_simp; done) | (go_simp; rfl)); intro gbB hg w5 hbox hb; have BKB := aM hbox; have GWB := aM (zg (zL1 HB.o GEA.o) hg : w.heap.size ≤ gbB); have GEB := GWB; replace HB := zLB (zL1 HB.o GEA.o) hb; have NBA_B := aM (zN BKA.o hg : gbA ≠ gbB); have NBB_A := aM (zM BKA.o hg : gbB ≠ gbA); replace BKA := zBB BKA hb; clear hb hbox hg))
 repeat (go_quiet (first | ((with_reducible refine gD 2 rfl ?_); (try (refine gate_guard (by rfl) ?_; dsimp only)); refine box_event ?hg (N := 2) ?hd (cs := #[.int .i64 a0_0, .slice A0_1 l0_1.length c0_1, .slice A0_2 l0_2.length c0_2, .slice A0_3 l0_3.length c0_3]) (t := 25) ?hr ?_; (case hd => rfl); (case hg => rfl); (case hr => first | (go_simp; done) | (go_simp; rfl)); intro gbA hg w4 hbox hb; have BKA := aM hbox; have GWA := aM (zg (zL HB.o) hg : w.heap.size ≤ gbA); have GEA := GWA; replace HB := zLB (zL HB.o) hb; clear hb hbox hg) | ((with_reducible refine gD 3 rfl ?_); (try (refine gate_guard (by rfl) ?_; dsimp only)); refine box_event ?hg (N := 3) ?hd (cs := #[.int .i64 a1_0, .slice A1_1 l1_1.length c1_1, .slice A1_2 l1_2.length c1_2, .slice A1_3 l1_3.length c1_3]) (t := 25) ?hr ?_; (case hd => rfl); (case hg => rfl); (case hr => first | (go_simp; done) | (go_simp; rfl)); intro gbB hg w5 hbox hb; have BKB := aM hbox; have GWB := aM (zg (zL1 HB.o GEA.o) hg : w.heap.size ≤ gbB); have GEB := GWB; replace HB := zLB (zL1 HB.o GEA.o) hb; have NBA_B := aM (zN BKA.o hg : gbA ≠ gbB); have NBB_A := aM (zM BKA.o hg : gbB ≠ gbA); replace BKA := zBB BKA hb; clear hb hbox hg)); go_upto_region 1 with (first | ((with_reducible refine gD 2 rfl ?_); (try (refine gate_guard (by rfl) ?_; dsimp only)); refine box_event ?hg (N := 2) ?hd (cs := #[.int .i64 a0_0, .slice A0_1 l0_1.length c0_1, .slice A0_2 l0_2.length c0_2, .slice A0_3 l0_3.length c0_3]) (t := 25) ?hr ?_; (case hd => rfl); (case hg => rfl); (case hr => first | (go_simp; done) | (go_simp; rfl)); intro gbA hg w4 hbox hb; have BKA := aM hbox; have GWA := aM (zg (zL HB.o) hg : w.heap.size ≤ gbA); have GEA := GWA; replace HB := zLB (zL HB.o) hb; clear hb hbox hg) | ((with_reducible refine gD 3 rfl ?_); (try (refine gate_guard (by rfl) ?_; dsimp only)); refine box_event ?hg (N := 3) ?hd (cs := #[.int .i64 a1_0, .slice A1_1 l1_1.length c1_1, .slice A1_2 l1_2.length c1_2, .slice A1_3 l1_3.length c1_3]) (t := 25) ?hr ?_; (case hd => rfl); (case hg => rfl); (case hr => first | (go_simp; done) | (go_simp; rfl)); intro gbB hg w5 hbox hb; have BKB := aM hbox; have GWB := aM (zg (zL1 HB.o GEA.o) hg : w.heap.size ≤ gbB); have GEB := GWB; replace HB := zLB (zL1 HB.o GEA.o) hb; have NBA_B := aM (zN BKA.o hg : gbA ≠ gbB); have NBB_A := aM (zM BKA.o hg : gbB ≠ gbA); replace BKA := zBB BKA hb; clear hb hbox hg)))
 (try simp only [Act.put, List.setIfInBounds_toArray, List.set_cons_zero, List.set_cons_succ])
 go_cut [37] (fun v37 wc => ∃ (kq : Nat) (x37_2 : Bool), v37 = .bool x37_2 ∧ Aside0 (laws_sameWheel.j0 kq x37_2 a0_0 l0_1 l0_2 l0_3 a1_0 l1_1 l1_2 l1_3 = some r) ∧ Aside0 (kq ≤ k) ∧ Aside0 (wc.heap[gbA]? = some (.cells #[.int .i64 a0_0, (.slice A0_1 l0_1.length c0_1), (.slice A0_2 l0_2.length c0_2), (.slice A0_3 l0_3.length c0_3)] 25 (0, 0))) ∧ Aside0 (wc.heap[gbB]? = some (.cells #[.int .i64 a1_0, (.slice A1_1 l1_1.length c1_1), (.slice A1_2 l1_2.length c1_2), (.slice A1_3 l1_3.length c1_3)] 25 (0, 0))) ∧ Aside0 (Below w.heap.size w wc))
 case first =>
  have H := HC3.o
  clear HC3
  by_cases c6 : a0_0 = a1_0
  ·rw [if_pos c6] at H
   obtain ⟨c6b0, c6b1⟩ := zt c6
   clear c6
   (first | rw [c6b0] | (simp only [i64_w, i32_w]; rw [c6b0]) | skip)
   by_cases c7 : (l0_1.length : Int) = (l1_1.length : Int)
   ·rw [if_pos c7] at H
    obtain ⟨c7b0, c7b1⟩ := zt c7
    have c7b2 : (l0_1.length == l1_1.length) = true := by first | simpa using c7 | (simp at c7 ⊢; omega)
    clear c7
    by_cases c8 : (l0_2.length : Int) = (l1_2.length : Int)
    ·rw [if_pos c8] at H
     obtain ⟨c8b0, c8b1⟩ := zt c8
     have c8b2 : (l0_2.length == l1_2.length) = true := by first | simpa using c8 | (simp at c8 ⊢; omega)
     clear c8
     obtain ⟨tA2, A9, H⟩ := zO H; try dsimp only at H
     have H' := aM H
     clear H
     have hnb10 := NBA_B.o
     have hnc10 := NBB_A.o
     have hcz11 := zc4 BKA.o
     have hfz11 := zf4 BKA.o
     have hcz12 := zc4 BKB.o
     have hfz12 := zf4 BKB.o
     go_wp2_with (first | (go_at_call 51; (with_reducible refine (laws_sameTimers.calls k _ _ l0_3 _ _ l1_3 tA2 _ ?side1 ?side2 ?side3 ?side4 A9.o).mono ?_); (case side1 => exact zC (Kd.C_below HR0_3.o HB.o)); (case side2 => exact HC0_3.o); (case side3 => exact zC (Kd.C_below HR1_3.o HB.o)); (case side4 => exact HC1_3.o); rintro e w' ⟨rfl, ⟨nd, rfl⟩⟩; (try first | exact ⟨rfl, _, World.drewN_drewN _ _ _⟩ | exact ⟨rfl, _, Eq.trans (World.drewN_drewN _ _ _) (congrArg (World.drewN _) (Nat.add_assoc _ _ _))⟩)))
     repeat (go_quiet (first | (go_at_call 51; (with_reducible refine (laws_sameTimers.calls k _ _ l0_3 _ _ l1_3 tA2 _ ?side1 ?side2 ?side3 ?side4 A9.o).mono ?_); (case side1 => exact zC (Kd.C_below HR0_3.o HB.o)); (case side2 => exact HC0_3.o); (case side3 => exact zC (Kd.C_below HR1_3.o HB.o)); (case side4 => exact HC1_3.o); rintro e w' ⟨rfl, ⟨nd, rfl⟩⟩; (try first | exact ⟨rfl, _, World.drewN_drewN _ _ _⟩ | exact ⟨rfl, _, Eq.trans (World.drewN_drewN _ _ _) (congrArg (World.drewN _) (Nat.add_assoc _ _ _))⟩))); try go_wp2_with (first | (go_at_call 51; (with_reducible refine (laws_sameTimers.calls k _ _ l0_3 _ _ l1_3 tA2 _ ?side1 ?side2 ?side3 ?side4 A9.o).mono ?_); (case side1 => exact zC (Kd.C_below HR0_3.o HB.o)); (case side2 => exact HC0_3.o); (case side3 => exact zC (Kd.C_below HR1_3.o HB.o)); (case side4 => exact HC1_3.o); rintro e w' ⟨rfl, ⟨nd, rfl⟩⟩; (try first | exact ⟨rfl, _, World.drewN_drewN _ _ _⟩ | exact ⟨rfl, _, Eq.trans (World.drewN_drewN _ _ _) (congrArg (World.drewN _) (Nat.add_assoc _ _ _))⟩))))
     go_meet
     case rel => exact ⟨_, (!tA2), zV, H', ⟨by first | omega | exact Nat.le_refl _⟩, ⟨zB BKA.o⟩, ⟨zB BKB.o⟩, ⟨zL2 HB.o GEA.o GEB.o⟩⟩
    ·rw [if_neg c8] at H
     obtain ⟨c8b0, c8b1⟩ := zf c8
     have c8b2 : (l0_2.length == l1_2.length) = false := by first | simpa using c8 | (simp at c8 ⊢; omega)
     have H' := aM H
     clear H
     have hnb13 := NBA_B.o
     have hnc13 := NBB_A.o
     have hcz14 := zc4 BKA.o
     have hfz14 := zf4 BKA.o
     have hcz15 := zc4 BKB.o
     have hfz15 := zf4 BKB.o
     go_wp2
     repeat (go_quiet (fail); try go_wp2)
     go_meet
     case rel => exact ⟨_, (true), zV, H', ⟨by first | omega | exact Nat.le_refl _⟩, ⟨zB BKA.o⟩, ⟨zB BKB.o⟩, ⟨zL2 HB.o GEA.o GEB.o⟩⟩
   ·rw [if_neg c7] at H
    obtain ⟨c7b0, c7b1⟩ := zf c7
    have c7b2 : (l0_1.length == l1_1.length) = false := by first | simpa using c7 | (simp at c7 ⊢; omega)
    have H' := aM H
    clear H
    have hnb16 := NBA_B.o
    have hnc16 := NBB_A.o
    have hcz17 := zc4 BKA.o
    have hfz17 := zf4 BKA.o
    have hcz18 := zc4 BKB.o
    have hfz18 := zf4 BKB.o
    go_wp2
    repeat (go_quiet (fail); try go_wp2)
    go_meet
    case rel => exact ⟨_, (true), zV, H', ⟨by first | omega | exact Nat.le_refl _⟩, ⟨zB BKA.o⟩, ⟨zB BKB.o⟩, ⟨zL2 HB.o GEA.o GEB.o⟩⟩
  ·rw [if_neg c6] at H
   obtain ⟨c6b0, c6b1⟩ := zf c6
   (first | rw [c6b0] | (simp only [i64_w, i32_w]; rw [c6b0]) | skip)
   have H' := aM H
   clear H
   have hnb19 := NBA_B.o
   have hnc19 := NBB_A.o
   have hcz20 := zc4 BKA.o
   have hfz20 := zf4 BKA.o
   have hcz21 := zc4 BKB.o
   have hfz21 := zf4 BKB.o
   go_wp2
   repeat (go_quiet (fail); try go_wp2)
   go_meet
   case rel => exact ⟨_, (true), zV, H', ⟨by first | omega | exact Nat.le_refl _⟩, ⟨zB BKA.o⟩, ⟨zB BKB.o⟩, ⟨zL2 HB.o GEA.o GEB.o⟩⟩
 case rest =>
  clear HC3
  try clear c1
  try clear p2
  try clear c5
  try clear c6
  try clear c6b0
  try clear c6b1
  try clear c7
  try clear c7b0
  try clear c7b1
  try clear c7b2
  try clear c8
  try clear c8b0
  try clear c8b1
  try clear c8b2
  try clear c10
  try clear c13
  try clear c16
  try clear c19
  try clear hcz11; try clear hcz12; try clear hcz14; try clear hcz15; try clear hcz17; try clear hcz18; try clear hcz20; try clear hcz21; try clear hfz11; try clear hfz12; try clear hfz14; try clear hfz15; try clear hfz17; try clear hfz18; try clear hfz20; try clear hfz21
  obtain ⟨kq, x37_2, rfl, HA, HJ2, BKA, BKB, HB⟩ := hcut
  cases kq with
  | zero => exact absurd HA.o (by simp [laws_sameWheel.j0])
  | succ kj2 =>
   have H := HA.o
   clear HA
   simp only [laws_sameWheel.j0] at H
   by_cases c22 : x37_2 = true
   ·subst c22
    rw [if_pos rfl] at H
    obtain rfl := Option.some.inj H
    go_wp2
    repeat (go_quiet (fail); try go_wp2)
    go_ret
    exact ⟨zW, zL2 HB.o GEA.o GEB.o⟩
   ·obtain rfl := Bool.eq_false_iff.mpr c22
    rw [if_neg zn] at H
    have H' := aM H
    clear H
    go_wp2
    repeat (go_quiet (fail); try go_wp2)
    go_loopg [5] kj2 (fun kq v5 w' => ∃ (x5_2 : Int), v5 = .int .i64 x5_2 ∧ Aside0 (laws_sameWheel.l0 kq x5_2 a0_0 l0_1 l0_2 l0_3 a1_0 l1_1 l1_2 l1_3 = some r) ∧ Aside0 (kq ≤ kj2) ∧ Aside0 (w'.heap[gbA]? = some (.cells #[.int .i64 a0_0, (.slice A0_1 l0_1.length c0_1), (.slice A0_2 l0_2.length c0_2), (.slice A0_3 l0_3.length c0_3)] 25 (0, 0))) ∧ Aside0 (w'.heap[gbB]? = some (.cells #[.int .i64 a1_0, (.slice A1_1 l1_1.length c1_1), (.slice A1_2 l1_2.length c1_2), (.slice A1_3 l1_3.length c1_3)] 25 (0, 0))) ∧ Aside0 (Below w.heap.size w w'))
    case atStart => exact ⟨(0), zV, H', ⟨Nat.le_refl _⟩, ⟨zB BKA.o⟩, ⟨zB BKB.o⟩, ⟨zL2 HB.o GEA.o GEB.o⟩⟩
    case round =>
     clear H'
     try clear c1
     try clear c2
     try clear p2
     try clear c5
     try clear c6
     try clear c6b0
     try clear c6b1
     try clear c7
     try clear c7b0
     try clear c7b1
     try clear c7b2
     try clear c8
     try clear c8b0
     try clear c8b1
     try clear c8b2
     try clear c10
     try clear c13
     try clear c16
     try clear c19
     try clear c22
     try clear hcz11; try clear hcz12; try clear hcz14; try clear hcz15; try clear hcz17; try clear hcz18; try clear hcz20; try clear hcz21; try clear hfz11; try clear hfz12; try clear hfz14; try clear hfz15; try clear hfz17; try clear hfz18; try clear hfz20; try clear hfz21
     try clear p2
     try clear BKA; try clear BKB
     obtain ⟨x5_2, rfl, HA, HK2, BKA, BKB, HB⟩ := hrel
     cases gk with
     | zero => exact absurd HA.o (by simp [laws_sameWheel.l0])
     | succ k2 =>
      have H := HA.o
      clear HA
      simp only [laws_sameWheel.l0] at H
      by_cases c23 : x5_2 < (l0_1.length : Int)
      ·rw [if_pos c23] at H
       have c23b0 := dT c23
       clear c23
       by_cases c24 : 0 ≤ x5_2
       ·rw [if_pos c24] at H
        have c24b0 := dT c24
        clear c24
        by_cases c25 : x5_2 < (l1_1.length : Int)
        ·rw [if_pos c25] at H
         have c25b0 := dT c25
         clear c25
         obtain ⟨tB9, A26, H⟩ := zO H; try dsimp only at H
         by_cases c27 : tB9 = true
         ·subst c27
          rw [if_pos rfl] at H
          have H' := aM H
          clear H
          have hnb28 := NBA_B.o
          have hnc28 := NBB_A.o
          have hcz29 := zc4 BKA.o
          have hfz29 := zf4 BKA.o
          have pC : 0 ≤ (x5_2 : Int) := zD
          have qC : x5_2 < (l0_1.length : Int) := zD
          obtain ⟨adC, AC_0, cC_0, eC, hxC_0, hlC_0, hiC_0⟩ := at_L2 HR0_1.o x5_2 pC qC
          cases eC
          replace hxC_0 := zh HB.o hxC_0
          have HRC_0 := aM hiC_0
          have HCC_0 := aM hlC_0
          clear hiC_0 hlC_0
          replace pC := eq_true pC
          replace qC := eq_true qC
          have hcz30 := zc4 BKB.o
          have hfz30 := zf4 BKB.o
          have pD : 0 ≤ (x5_2 : Int) := zD
          have qD : x5_2 < (l1_1.length : Int) := zD
          obtain ⟨adD, AD_0, cD_0, eD, hxD_0, hlD_0, hiD_0⟩ := at_L2 HR1_1.o x5_2 pD qD
          cases eD
          replace hxD_0 := zh HB.o hxD_0
          have HRD_0 := aM hiD_0
          have HCD_0 := aM hlD_0
          clear hiD_0 hlD_0
          replace pD := eq_true pD
          replace qD := eq_true qD
          go_wp2_with (first | (go_at_call 51; (with_reducible refine (laws_sameTimers.calls k2 _ _ (rd_L2 l0_1 x5_2) _ _ (rd_L2 l1_1 x5_2) true _ ?side1 ?side2 ?side3 ?side4 A26.o).mono ?_); (case side1 => exact zC (Kd.C_below HRC_0.o HB.o)); (case side2 => exact HCC_0.o); (case side3 => exact zC (Kd.C_below HRD_0.o HB.o)); (case side4 => exact HCD_0.o); rintro e w' ⟨rfl, ⟨nd, rfl⟩⟩; (try first | exact ⟨rfl, _, World.drewN_drewN _ _ _⟩ | exact ⟨rfl, _, Eq.trans (World.drewN_drewN _ _ _) (congrArg (World.drewN _) (Nat.add_assoc _ _ _))⟩)))
          repeat (go_quiet (first | (go_at_call 51; (with_reducible refine (laws_sameTimers.calls k2 _ _ (rd_L2 l0_1 x5_2) _ _ (rd_L2 l1_1 x5_2) true _ ?side1 ?side2 ?side3 ?side4 A26.o).mono ?_); (case side1 => exact zC (Kd.C_below HRC_0.o HB.o)); (case side2 => exact HCC_0.o); (case side3 => exact zC (Kd.C_below HRD_0.o HB.o)); (case side4 => exact HCD_0.o); rintro e w' ⟨rfl, ⟨nd, rfl⟩⟩; (try first | exact ⟨rfl, _, World.drewN_drewN _ _ _⟩ | exact ⟨rfl, _, Eq.trans (World.drewN_drewN _ _ _) (congrArg (World.drewN _) (Nat.add_assoc _ _ _))⟩))); try go_wp2_with (first | (go_at_call 51; (with_reducible refine (laws_sameTimers.calls k2 _ _ (rd_L2 l0_1 x5_2) _ _ (rd_L2 l1_1 x5_2) true _ ?side1 ?side2 ?side3 ?side4 A26.o).mono ?_); (case side1 => exact zC (Kd.C_below HRC_0.o HB.o)); (case side2 => exact HCC_0.o); (case side3 => exact zC (Kd.C_below HRD_0.o HB.o)); (case side4 => exact HCD_0.o); rintro e w' ⟨rfl, ⟨nd, rfl⟩⟩; (try first | exact ⟨rfl, _, World.drewN_drewN _ _ _⟩ | exact ⟨rfl, _, Eq.trans (World.drewN_drewN _ _ _) (congrArg (World.drewN _) (Nat.add_assoc _ _ _))⟩))))
          go_roundg k2
          case measure => have := HJ2.o; have := HK2.o; omega
          case rel => exact ⟨(wrap64 (x5_2 + 1)), zV, H', ⟨by have := HJ2.o; have := HK2.o; omega⟩, ⟨zB BKA.o⟩, ⟨zB BKB.o⟩, ⟨zL2 HB.o GEA.o GEB.o⟩⟩
         ·obtain rfl := Bool.eq_false_iff.mpr c27
          rw [if_neg zn] at H
          obtain rfl := Option.some.inj H
          have hnb31 := NBA_B.o
          have hnc31 := NBB_A.o
          have hcz32 := zc4 BKA.o
          have hfz32 := zf4 BKA.o
          have pC : 0 ≤ (x5_2 : Int) := zD
          have qC : x5_2 < (l0_1.length : Int) := zD
          obtain ⟨adC, AC_0, cC_0, eC, hxC_0, hlC_0, hiC_0⟩ := at_L2 HR0_1.o x5_2 pC qC
          cases eC
          replace hxC_0 := zh HB.o hxC_0
          have HRC_0 := aM hiC_0
          have HCC_0 := aM hlC_0
          clear hiC_0 hlC_0
          replace pC := eq_true pC
          replace qC := eq_true qC
          have hcz33 := zc4 BKB.o
          have hfz33 := zf4 BKB.o
          have pD : 0 ≤ (x5_2 : Int) := zD
          have qD : x5_2 < (l1_1.length : Int) := zD
          obtain ⟨adD, AD_0, cD_0, eD, hxD_0, hlD_0, hiD_0⟩ := at_L2 HR1_1.o x5_2 pD qD
          cases eD
          replace hxD_0 := zh HB.o hxD_0
          have HRD_0 := aM hiD_0
          have HCD_0 := aM hlD_0
          clear hiD_0 hlD_0
          replace pD := eq_true pD
          replace qD := eq_true qD
          go_wp2_with (first | (go_at_call 51; (with_reducible refine (laws_sameTimers.calls k2 _ _ (rd_L2 l0_1 x5_2) _ _ (rd_L2 l1_1 x5_2) false _ ?side1 ?side2 ?side3 ?side4 A26.o).mono ?_); (case side1 => exact zC (Kd.C_below HRC_0.o HB.o)); (case side2 => exact HCC_0.o); (case side3 => exact zC (Kd.C_below HRD_0.o HB.o)); (case side4 => exact HCD_0.o); rintro e w' ⟨rfl, ⟨nd, rfl⟩⟩; (try first | exact ⟨rfl, _, World.drewN_drewN _ _ _⟩ | exact ⟨rfl, _, Eq.trans (World.drewN_drewN _ _ _) (congrArg (World.drewN _) (Nat.add_assoc _ _ _))⟩)))
          repeat (go_quiet (first | (go_at_call 51; (with_reducible refine (laws_sameTimers.calls k2 _ _ (rd_L2 l0_1 x5_2) _ _ (rd_L2 l1_1 x5_2) false _ ?side1 ?side2 ?side3 ?side4 A26.o).mono ?_); (case side1 => exact zC (Kd.C_below HRC_0.o HB.o)); (case side2 => exact HCC_0.o); (case side3 => exact zC (Kd.C_below HRD_0.o HB.o)); (case side4 => exact HCD_0.o); rintro e w' ⟨rfl, ⟨nd, rfl⟩⟩; (try first | exact ⟨rfl, _, World.drewN_drewN _ _ _⟩ | exact ⟨rfl, _, Eq.trans (World.drewN_drewN _ _ _) (congrArg (World.drewN _) (Nat.add_assoc _ _ _))⟩))); try go_wp2_with (first | (go_at_call 51; (with_reducible refine (laws_sameTimers.calls k2 _ _ (rd_L2 l0_1 x5_2) _ _ (rd_L2 l1_1 x5_2) false _ ?side1 ?side2 ?side3 ?side4 A26.o).mono ?_); (case side1 => exact zC (Kd.C_below HRC_0.o HB.o)); (case side2 => exact HCC_0.o); (case side3 => exact zC (Kd.C_below HRD_0.o HB.o)); (case side4 => exact HCD_0.o); rintro e w' ⟨rfl, ⟨nd, rfl⟩⟩; (try first | exact ⟨rfl, _, World.drewN_drewN _ _ _⟩ | exact ⟨rfl, _, Eq.trans (World.drewN_drewN _ _ _) (congrArg (World.drewN _) (Nat.add_assoc _ _ _))⟩))))
          go_ret
          exact ⟨zW, zL2 HB.o GEA.o GEB.o⟩
        ·rw [if_neg c25] at H
         exact absurd H (by simp)
       ·rw [if_neg c24] at H
        exact absurd H (by simp)
      ·rw [if_neg c23] at H
       have c23b0 := dF c23
       clear c23
       have H' := aM H
       clear H
       have hnb34 := NBA_B.o
       have hnc34 := NBB_A.o
       have hcz35 := zc4 BKA.o
       have hfz35 := zf4 BKA.o
       go_wp2
       repeat (go_quiet (fail); try go_wp2)
       go_loopg [6] k2 (fun kq v6 w' => ∃ (x6_3 : Int), v6 = .int .i64 x6_3 ∧ Aside0 (laws_sameWheel.l1 kq x6_3 a0_0 l0_1 l0_2 l0_3 a1_0 l1_1 l1_2 l1_3 = some r) ∧ Aside0 (kq ≤ k2) ∧ Aside0 (w'.heap[gbA]? = some (.cells #[.int .i64 a0_0, (.slice A0_1 l0_1.length c0_1), (.slice A0_2 l0_2.length c0_2), (.slice A0_3 l0_3.length c0_3)] 25 (0, 0))) ∧ Aside0 (w'.heap[gbB]? = some (.cells #[.int .i64 a1_0, (.slice A1_1 l1_1.length c1_1), (.slice A1_2 l1_2.length c1_2), (.slice A1_3 l1_3.length c1_3)] 25 (0, 0))) ∧ Aside0 (Below w.heap.size w w'))
       case atStart => exact ⟨(0), zV, H', ⟨Nat.le_refl _⟩, ⟨zB BKA.o⟩, ⟨zB BKB.o⟩, ⟨zL2 HB.o GEA.o GEB.o⟩⟩
       case round =>
        clear H'
        try clear c1
        try clear c2
        try clear p2
        try clear c3
        try clear c5
        try clear p5
        try clear q5
        try clear hx5
        try clear c6
        try clear c6b0
        try clear c6b1
        try clear p6
        try clear c7
        try clear c7b0
        try clear c7b1
        try clear c7b2
        try clear c8
        try clear c8b0
        try clear c8b1
        try clear c8b2
        try clear c10
        try clear c13
        try clear c16
        try clear c19
        try clear c22
        try clear c23
        try clear c23b0
        try clear c24
        try clear c24b0
        try clear c25
        try clear c25b0
        try clear c27
        try clear c28
        try clear c31
        try clear c34
        try clear hcz11; try clear hcz12; try clear hcz14; try clear hcz15; try clear hcz17; try clear hcz18; try clear hcz20; try clear hcz21; try clear hcz29; try clear hcz30; try clear hcz32; try clear hcz33; try clear hcz35; try clear hfz11; try clear hfz12; try clear hfz14; try clear hfz15; try clear hfz17; try clear hfz18; try clear hfz20; try clear hfz21; try clear hfz29; try clear hfz30; try clear hfz32; try clear hfz33; try clear hfz35
        try clear hxC_0
        try clear hxD_0
        try clear p2
        try clear pC
        try clear pD
        try clear qC
        try clear qD
        try clear BKA; try clear BKB
        obtain ⟨x6_3, rfl, HA, HK3, BKA, BKB, HB⟩ := hrel
        cases gk with
        | zero => exact absurd HA.o (by simp [laws_sameWheel.l1])
        | succ k3 =>
         have H := HA.o
         clear HA
         simp only [laws_sameWheel.l1] at H
         by_cases c36 : x6_3 < (l0_2.length : Int)
         ·rw [if_pos c36] at H
          have c36b0 := dT c36
          clear c36
          by_cases c37 : 0 ≤ x6_3
          ·rw [if_pos c37] at H
           have c37b0 := dT c37
           clear c37
           by_cases c38 : x6_3 < (l1_2.length : Int)
           ·rw [if_pos c38] at H
            have c38b0 := dT c38
            clear c38
            obtain ⟨tC0, A39, H⟩ := zO H; try dsimp only at H
            by_cases c40 : tC0 = true
            ·subst c40
             rw [if_pos rfl] at H
             have H' := aM H
             clear H
             have hnb41 := NBA_B.o
             have hnc41 := NBB_A.o
             have hcz42 := zc4 BKA.o
             have hfz42 := zf4 BKA.o
             have pE : 0 ≤ (x6_3 : Int) := zD
             have qE : x6_3 < (l0_2.length : Int) := zD
             obtain ⟨adE, AE_0, cE_0, eE, hxE_0, hlE_0, hiE_0⟩ := at_L2 HR0_2.o x6_3 pE qE
             cases eE
             replace hxE_0 := zh HB.o hxE_0
             have HRE_0 := aM hiE_0
             have HCE_0 := aM hlE_0
             clear hiE_0 hlE_0
             replace pE := eq_true pE
             replace qE := eq_true qE
             have hcz43 := zc4 BKB.o
             have hfz43 := zf4 BKB.o
             have pF : 0 ≤ (x6_3 : Int) := zD
             have qF : x6_3 < (l1_2.length : Int) := zD
             obtain ⟨adF, AF_0, cF_0, eF, hxF_0, hlF_0, hiF_0⟩ := at_L2 HR1_2.o x6_3 pF qF
             cases eF
             replace hxF_0 := zh HB.o hxF_0
             have HRF_0 := aM hiF_0
             have HCF_0 := aM hlF_0
             clear hiF_0 hlF_0
             replace pF := eq_true pF
             replace qF := eq_true qF
             go_wp2_with (first | (go_at_call 51; (with_reducible refine (laws_sameTimers.calls k3 _ _ (rd_L2 l0_2 x6_3) _ _ (rd_L2 l1_2 x6_3) true _ ?side1 ?side2 ?side3 ?side4 A39.o).mono ?_); (case side1 => exact zC (Kd.C_below HRE_0.o HB.o)); (case side2 => exact HCE_0.o); (case side3 => exact zC (Kd.C_below HRF_0.o HB.o)); (case side4 => exact HCF_0.o); rintro e w' ⟨rfl, ⟨nd, rfl⟩⟩; (try first | exact ⟨rfl, _, World.drewN_drewN _ _ _⟩ | exact ⟨rfl, _, Eq.trans (World.drewN_drewN _ _ _) (congrArg (World.drewN _) (Nat.add_assoc _ _ _))⟩)))
             repeat (go_quiet (first | (go_at_call 51; (with_reducible refine (laws_sameTimers.calls k3 _ _ (rd_L2 l0_2 x6_3) _ _ (rd_L2 l1_2 x6_3) true _ ?side1 ?side2 ?side3 ?side4 A39.o).mono ?_); (case side1 => exact zC (Kd.C_below HRE_0.o HB.o)); (case side2 => exact HCE_0.o); (case side3 => exact zC (Kd.C_below HRF_0.o HB.o)); (case side4 => exact HCF_0.o); rintro e w' ⟨rfl, ⟨nd, rfl⟩⟩; (try first | exact ⟨rfl, _, World.drewN_drewN _ _ _⟩ | exact ⟨rfl, _, Eq.trans (World.drewN_drewN _ _ _) (congrArg (World.drewN _) (Nat.add_assoc _ _ _))⟩))); try go_wp2_with (first | (go_at_call 51; (with_reducible refine (laws_sameTimers.calls k3 _ _ (rd_L2 l0_2 x6_3) _ _ (rd_L2 l1_2 x6_3) true _ ?side1 ?side2 ?side3 ?side4 A39.o).mono ?_); (case side1 => exact zC (Kd.C_below HRE_0.o HB.o)); (case side2 => exact HCE_0.o); (case side3 => exact zC (Kd.C_below HRF_0.o HB.o)); (case side4 => exact HCF_0.o); rintro e w' ⟨rfl, ⟨nd, rfl⟩⟩; (try first | exact ⟨rfl, _, World.drewN_drewN _ _ _⟩ | exact ⟨rfl, _, Eq.trans (World.drewN_drewN _ _ _) (congrArg (World.drewN _) (Nat.add_assoc _ _ _))⟩))))
             go_roundg k3
             case measure => have := HJ2.o; have := HK2.o; have := HK3.o; omega
             case rel => exact ⟨(wrap64 (x6_3 + 1)), zV, H', ⟨by have := HJ2.o; have := HK2.o; have := HK3.o; omega⟩, ⟨zB BKA.o⟩, ⟨zB BKB.o⟩, ⟨zL2 HB.o GEA.o GEB.o⟩⟩
            ·obtain rfl := Bool.eq_false_iff.mpr c40
             rw [if_neg zn] at H
             obtain rfl := Option.some.inj H
             have hnb44 := NBA_B.o
             have hnc44 := NBB_A.o
             have hcz45 := zc4 BKA.o
             have hfz45 := zf4 BKA.o
             have pE : 0 ≤ (x6_3 : Int) := zD
             have qE : x6_3 < (l0_2.length : Int) := zD
             obtain ⟨adE, AE_0, cE_0, eE, hxE_0, hlE_0, hiE_0⟩ := at_L2 HR0_2.o x6_3 pE qE
             cases eE
             replace hxE_0 := zh HB.o hxE_0
             have HRE_0 := aM hiE_0
             have HCE_0 := aM hlE_0
             clear hiE_0 hlE_0
             replace pE := eq_true pE
             replace qE := eq_true qE
             have hcz46 := zc4 BKB.o
             have hfz46 := zf4 BKB.o
             have pF : 0 ≤ (x6_3 : Int) := zD
             have qF : x6_3 < (l1_2.length : Int) := zD
             obtain ⟨adF, AF_0, cF_0, eF, hxF_0, hlF_0, hiF_0⟩ := at_L2 HR1_2.o x6_3 pF qF
             cases eF
             replace hxF_0 := zh HB.o hxF_0
             have HRF_0 := aM hiF_0
             have HCF_0 := aM hlF_0
             clear hiF_0 hlF_0
             replace pF := eq_true pF
             replace qF := eq_true qF
             go_wp2_with (first | (go_at_call 51; (with_reducible refine (laws_sameTimers.calls k3 _ _ (rd_L2 l0_2 x6_3) _ _ (rd_L2 l1_2 x6_3) false _ ?side1 ?side2 ?side3 ?side4 A39.o).mono ?_); (case side1 => exact zC (Kd.C_below HRE_0.o HB.o)); (case side2 => exact HCE_0.o); (case side3 => exact zC (Kd.C_below HRF_0.o HB.o)); (case side4 => exact HCF_0.o); rintro e w' ⟨rfl, ⟨nd, rfl⟩⟩; (try first | exact ⟨rfl, _, World.drewN_drewN _ _ _⟩ | exact ⟨rfl, _, Eq.trans (World.drewN_drewN _ _ _) (congrArg (World.drewN _) (Nat.add_assoc _ _ _))⟩)))
             repeat (go_quiet (first | (go_at_call 51; (with_reducible refine (laws_sameTimers.calls k3 _ _ (rd_L2 l0_2 x6_3) _ _ (rd_L2 l1_2 x6_3) false _ ?side1 ?side2 ?side3 ?side4 A39.o).mono ?_); (case side1 => exact zC (Kd.C_below HRE_0.o HB.o)); (case side2 => exact HCE_0.o); (case side3 => exact zC (Kd.C_below HRF_0.o HB.o)); (case side4 => exact HCF_0.o); rintro e w' ⟨rfl, ⟨nd, rfl⟩⟩; (try first | exact ⟨rfl, _, World.drewN_drewN _ _ _⟩ | exact ⟨rfl, _, Eq.trans (World.drewN_drewN _ _ _) (congrArg (World.drewN _) (Nat.add_assoc _ _ _))⟩))); try go_wp2_with (first | (go_at_call 51; (with_reducible refine (laws_sameTimers.calls k3 _ _ (rd_L2 l0_2 x6_3) _ _ (rd_L2 l1_2 x6_3) false _ ?side1 ?side2 ?side3 ?side4 A39.o).mono ?_); (case side1 => exact zC (Kd.C_below HRE_0.o HB.o)); (case side2 => exact HCE_0.o); (case side3 => exact zC (Kd.C_below HRF_0.o HB.o)); (case side4 => exact HCF_0.o); rintro e w' ⟨rfl, ⟨nd, rfl⟩⟩; (try first | exact ⟨rfl, _, World.drewN_drewN _ _ _⟩ | exact ⟨rfl, _, Eq.trans (World.drewN_drewN _ _ _) (congrArg (World.drewN _) (Nat.add_assoc _ _ _))⟩))))
             go_ret
             exact ⟨zW, zL2 HB.o GEA.o GEB.o⟩
           ·rw [if_neg c38] at H
            exact absurd H (by simp)
          ·rw [if_neg c37] at H
           exact absurd H (by simp)
         ·rw [if_neg c36] at H
          have c36b0 := dF c36
          clear c36
          obtain rfl := Option.some.inj H
          have hnb47 := NBA_B.o
          have hnc47 := NBB_A.o
          have hcz48 := zc4 BKA.o
          have hfz48 := zf4 BKA.o
          go_wp2
          repeat (go_quiet (fail); try go_wp2)
          go_ret
          exact ⟨zW, zL2 HB.o GEA.o GEB.o⟩

end Go.Proofs.Ytggenhomnbnodaa.QFnWheels
