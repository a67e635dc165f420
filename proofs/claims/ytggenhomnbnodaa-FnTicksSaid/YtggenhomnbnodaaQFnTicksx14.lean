/- What the Go functions that the law FnTicks reaches answer: each as a Lean function, with its walk. Written by a program of this session. Conditions: those that each theorem names. -/
import Derived.Test.YtggenhomnbnodaaQFnTicksx0
import Derived.Test.YtggenhomnbnodaaQFnTicksx12
import Derived.Test.YtggenhomnbnodaaQFnTicksx13
namespace Go.Proofs.Ytggenhomnbnodaa.QFnTicks
open Go.RowKit Go.Proofs.YtggenhomnbnodaaW.PrintWords Go.Proofs.YtggenhomnbnodaaW.PrintLast Go.Proofs.YtggenhomnbnodaaW.PrintMore
attribute [local go_sem] max2_int min2_int max_two min_two max_three min_three max_four min_four   -- for this text's walks alone
set_option linter.unusedVariables false
set_option linter.unusedSimpArgs false

open Go.Proofs.YtggenhomnbnodaaW.PrintWords renaming blk_drewN → bN, blk_drew → bD, blk_alloc → bA, blk_cell → bC, blk_below → bB, below_set → bS
def spec_DrawDueBy.f (k : Nat) (l0 : List Int) : Option (Int × (List (List (S46))) × (List (List (S46))) × (List (S46)) × Int) := (spec_l1New.f k l0).bind fun bt484 => ((spec_l8Any.f k bt484.1 bt484.2.1 bt484.2.2).bind fun bt488 => ((spec_l1Int.f bt484.1 bt488.2.2.2.2.1 bt488.2.2.2.2.2 (([0, 1, 5, 8, 64, 300] : List Int))).bind fun bt504 => (some (bt488.1, bt488.2.1, bt488.2.2.1, bt488.2.2.2.1, wrap64 (bt488.1 + bt504.1)))))
def spec_DrawDueBy.T3 : Bool × List (List Nat × List Nat) := (true, [([], []), ([], []), ([1], [1]), ([], []), ([], []), ([3, 4], [3, 4]), ([2, 5], [2, 5]), ([0, 5, 0], [0]), ([6, 7, 0, 1, 2, 3, 4, 5, 6, 7], [6])])
def spec_DrawDueBy.B3 : List Nat := [0, 0, 2, 0, 0, 24, 62, 57, 255]
theorem spec_DrawDueBy.tab3 : rtab .any (opsOf Try.f57 3) = spec_DrawDueBy.T3 := by kernel_rfl
theorem spec_DrawDueBy.bits3 : waitsOk spec_DrawDueBy.T3.2 spec_DrawDueBy.B3 = true := by kernel_rfl
set_option maxHeartbeats 8000000 in
set_option maxRecDepth 100000 in
theorem spec_DrawDueBy.calls (k : Nat) (A0 : Option Addr) (c0 : Nat) (l0 : List Int) (r1 : Int) (r2 : List (List (S46))) (r3 : List (List (S46))) (r4 : List (S46)) (r5 : Int) (w : World) (hr0 : Kd.C (Kd.int .u8) w A0 l0.length l0) (hc0 : l0.length ≤ c0) (h : spec_DrawDueBy.f k l0 = some (r1, r2, r3, r4, r5)) :
  Calls Try.prog 57 #[.slice A0 l0.length c0] w fun e w' => ∃ v1_ v2_ v3_ : Value, e = .returned (.tuple #[.agg #[.int .i64 r1, v1_, v2_, v3_], .int .i64 r5]) ∧ Kd.N (Kd.slice 46 k46) 23 w' w.heap.size (fun k_ => (w.heap.size ≤ k_) ∧ some k_ ≠ (v2_ : Value).ownBlock ∧ some k_ ≠ (v3_ : Value).ownBlock) v1_ r2 ∧ Kd.N (Kd.slice 46 k46) 23 w' w.heap.size (fun k_ => (w.heap.size ≤ k_) ∧ some k_ ≠ (v1_ : Value).ownBlock ∧ some k_ ≠ (v3_ : Value).ownBlock) v2_ r3 ∧ Kd.R k46 46 w' w.heap.size (fun k_ => (w.heap.size ≤ k_)) v3_ r4 ∧ Below w.heap.size w w' := by
 have hu25 := Try.underlying25
 have HR0 := aM hr0
 have HC0 := aM hc0
 clear hr0 hc0
 have HB := aM (Below.refl w.heap.size w)
 unfold spec_DrawDueBy.f at h; have H := h
 clear h
 obtain ⟨⟨t484, t485, t486⟩, A2, H⟩ := zO H; try dsimp only at H
 obtain ⟨⟨t488, t489, t492, t495, t498, t499⟩, A3, H⟩ := zO H; try dsimp only at H
 generalize hy501 : (([0, 1, 5, 8, 64, 300] : List Int)) = y501 at H; (try rw [Option.bind_some] at H); have Ny501 := aM hy501.symm; clear hy501
 obtain ⟨⟨t504, t505, t506⟩, A4, H⟩ := zO H; try dsimp only at H
 simp only [Option.some.injEq, Prod.mk.injEq] at H
 obtain ⟨rfl, rfl, rfl, rfl, rfl⟩ := H
 go_enter Try.func57, Try.ntmps57
 try go_wp2_with (first | ((with_reducible refine gD 2 rfl ?_); refine bE 2 #[.int .i64 0, .slice none 0 0, .slice none 0 0, .slice none 0 0] 25 ?_; intro gb483 hg w5 hbox hb; have BK483 := aM hbox; have GW483 := aM (zg (zL HB.out) hg : w.heap.size ≤ gb483); have GE483 := GW483; replace HB := zLB (zL HB.out) hb; clear hb hbox hg) | ((with_reducible refine gC 80 rfl ?_); refine gL 7 Try.func80 #[.slice A0 l0.length c0] ?_; (with_reducible refine (spec_l1New.calls k _ _ l0 t484 t485 t486 w _ ?side1 ?side2 ?side3 A2.out).mono ?_); (case side1 => exact zL1 HB.out GE483.out); (case side2 => exact HR0.out); (case side3 => exact HC0.out); rintro e w6 ⟨g487, rfl, hi, hb, hb2⟩; refine ⟨_, rfl, ?_⟩; replace HB := aM hb; have HI487 := aM hi; have NB487_483 := aM (IsS98.ne_blk hi (bB (g := gb483) (o := .cells #[.int .i64 0, .slice none 0 0, .slice none 0 0, .slice none 0 0] 25 (0, 0)) (zB BK483.out) hb2) (by decide)); have NB483_487 := aM (Ne.symm (IsS98.ne_blk hi (bB (g := gb483) (o := .cells #[.int .i64 0, .slice none 0 0, .slice none 0 0, .slice none 0 0] 25 (0, 0)) (zB BK483.out) hb2) (by decide))); replace BK483 := zBB BK483 hb2; clear hi hb hb2) | ((with_reducible refine gC 81 rfl ?_); refine gL 9 Try.func81 #[.pointer (some ⟨g487, 0, none⟩)] ?_; (with_reducible refine (spec_l8Any.calls k g487 t484 t485 t486 t488 t489 t492 t495 t498 t499 w _ ?side1 ?side2 A3.out).mono ?_); (case side1 => exact zI1 HI487.out NB487_483.out); (case side2 => exact zL2 HB.out (IsS98.ge HI487.out) GE483.out); rintro e w7 ⟨v490, v493, v496, rfl, ho0, ho1, ho2, hi, hb, hk⟩; refine ⟨_, rfl, ?_⟩; have HO491 := aM (Kd.N_lower (Kd.N_mono (ok' := fun k_ => (w.heap.size ≤ k_) ∧ some k_ ≠ (v493 : Value).ownBlock ∧ some k_ ≠ (v496 : Value).ownBlock ∧ k_ ≠ gb483 ∧ k_ ≠ g487) ho0 (fun k_ hk_ => ⟨(Nat.le_trans (below_size (zL2 HB.out (IsS98.ge HI487.out) GE483.out)) hk_.1), hk_.2.1, hk_.2.2, (Kd.freshB (g := gb483) (o := .cells #[.int .i64 0, .slice none 0 0, .slice none 0 0, .slice none 0 0] 25 (0, 0)) (zB BK483.out) k_ hk_.1), (IsS98.fresh (zI1 HI487.out NB487_483.out) k_ hk_.1)⟩)) (below_size (zL2 HB.out (IsS98.ge HI487.out) GE483.out))); have HO494 := aM (Kd.N_lower (Kd.N_mono (ok' := fun k_ => (w.heap.size ≤ k_) ∧ some k_ ≠ (v490 : Value).ownBlock ∧ some k_ ≠ (v496 : Value).ownBlock ∧ k_ ≠ gb483 ∧ k_ ≠ g487) ho1 (fun k_ hk_ => ⟨(Nat.le_trans (below_size (zL2 HB.out (IsS98.ge HI487.out) GE483.out)) hk_.1), hk_.2.1, hk_.2.2, (Kd.freshB (g := gb483) (o := .cells #[.int .i64 0, .slice none 0 0, .slice none 0 0, .slice none 0 0] 25 (0, 0)) (zB BK483.out) k_ hk_.1), (IsS98.fresh (zI1 HI487.out NB487_483.out) k_ hk_.1)⟩)) (below_size (zL2 HB.out (IsS98.ge HI487.out) GE483.out))); replace BK483 := zBK hk BK483 NB483_487; have HO497 := aM (Kd.R_lower (Kd.R_newM (M := fun k_ => (w.heap.size ≤ k_)) (Kd.R_mono (ok' := fun k_ => True) ho2 (fun _ hk_ => trivial)) (below_size (zL2 HB.out (IsS98.ge HI487.out) GE483.out)) (fun k_ h_ => h_)) (below_size (zL2 HB.out (IsS98.ge HI487.out) GE483.out))); replace HB := aM hb; replace HI487 := aM hi; clear ho0 hi hb hk; (try clear ho1); (try clear ho2)) | ((with_reducible refine gD 5 rfl ?_); refine bE 5 #[.int .i64 0, .slice none 0 0, .slice none 0 0, .slice none 0 0] 25 ?_; intro gb500 hg w8 hbox hb; replace HO491 := aM (Kd.N_below (Kd.N_elderB (zX HO491.out) gb500 (Nat.le_of_eq hg.symm)) hb); replace HO494 := aM (Kd.N_below (Kd.N_elderB (zX HO494.out) gb500 (Nat.le_of_eq hg.symm)) hb); replace HO497 := zRB HO497 hb; have BK500 := aM hbox; have GW500 := aM ((zg (zL2 HB.out (IsS98.ge HI487.out) GE483.out) hg : w.heap.size ≤ gb500)); have GE500 := GW500; replace HB := zLB (zL2 HB.out (IsS98.ge HI487.out) GE483.out) hb; have NB483_500 := aM (zN BK483.out hg : gb483 ≠ gb500); have NB500_483 := aM (zM BK483.out hg : gb500 ≠ gb483); replace BK483 := zBB BK483 hb; have NB487_500 := aM ((zNI (IsS98.lt (zI1 HI487.out NB487_483.out : IsS98 w _ g487 t484 t498 t499)) hg : g487 ≠ gb500)); have NB500_487 := aM ((zMI (IsS98.lt (zI1 HI487.out NB487_483.out : IsS98 w _ g487 t484 t498 t499)) hg : gb500 ≠ g487)); replace HI487 := aM (IsS98.below (zI1 HI487.out NB487_483.out) hb); clear hb hbox hg; have hnb9 := NB500_483.out; have hnc9 := NB483_500.out; have hnb10 := NB500_487.out; have hnc10 := NB487_500.out; have hcz11 := zc4 BK500.out; have hfz11 := zf4 BK500.out; obtain ⟨Ao12, co12, eo12⟩ := Kd.N_slice HO491.out; subst eo12; obtain ⟨Ao13, co13, eo13⟩ := Kd.N_slice HO494.out; subst eo13; obtain ⟨Ao14, co14, eo14⟩ := Kd.R_slice HO497.out; subst eo14))
 have n0_ : Aside0 (Kd.N (Kd.slice 46 k46) 23 ((((w8.setCell ⟨gb500, 0, none⟩ (.int .i64 t488)).setCell ⟨gb500, 1, none⟩ (.slice Ao12 t489.length co12)).setCell ⟨gb500, 2, none⟩ (.slice Ao13 t492.length co13)).setCell ⟨gb500, 3, none⟩ (.slice Ao14 t495.length co14)) w.heap.size (fun k_ => (w.heap.size ≤ k_) ∧ some k_ ≠ (.slice Ao13 t492.length co13 : Value).ownBlock ∧ some k_ ≠ (.slice Ao14 t495.length co14 : Value).ownBlock ∧ k_ ≠ gb483 ∧ k_ ≠ g487 ∧ k_ ≠ gb500) (.slice Ao12 t489.length co12) t489) := ⟨by (with_reducible repeat (first | apply Kd.N_alloc | apply Kd.N_drewN | apply Kd.N_drew)); exact Kd.N_mono (zNF4 (Kd.N_mono HO491.out (fun k_ hk => (⟨hk, hk.2⟩ : _ ∧ k_ ≠ gb500))) gb500 (fun _ hk => hk.2) (.int .i64 t488) (.slice Ao12 t489.length co12) (.slice Ao13 t492.length co13) (.slice Ao14 t495.length co14)) (fun _ hk => ⟨hk.1.1.1, ⟨hk.1.1.2.1, ⟨hk.1.1.2.2.1, ⟨hk.1.1.2.2.2.1, ⟨hk.1.1.2.2.2.2, hk.1.2⟩⟩⟩⟩⟩)⟩
 have n1_ : Aside0 (Kd.N (Kd.slice 46 k46) 23 ((((w8.setCell ⟨gb500, 0, none⟩ (.int .i64 t488)).setCell ⟨gb500, 1, none⟩ (.slice Ao12 t489.length co12)).setCell ⟨gb500, 2, none⟩ (.slice Ao13 t492.length co13)).setCell ⟨gb500, 3, none⟩ (.slice Ao14 t495.length co14)) w.heap.size (fun k_ => (w.heap.size ≤ k_) ∧ some k_ ≠ (.slice Ao12 t489.length co12 : Value).ownBlock ∧ some k_ ≠ (.slice Ao14 t495.length co14 : Value).ownBlock ∧ k_ ≠ gb483 ∧ k_ ≠ g487 ∧ k_ ≠ gb500) (.slice Ao13 t492.length co13) t492) := ⟨by (with_reducible repeat (first | apply Kd.N_alloc | apply Kd.N_drewN | apply Kd.N_drew)); exact Kd.N_mono (zNF4 (Kd.N_mono HO494.out (fun k_ hk => (⟨hk, hk.2⟩ : _ ∧ k_ ≠ gb500))) gb500 (fun _ hk => hk.2) (.int .i64 t488) (.slice Ao12 t489.length co12) (.slice Ao13 t492.length co13) (.slice Ao14 t495.length co14)) (fun _ hk => ⟨hk.1.1.1, ⟨hk.1.1.2.1, ⟨hk.1.1.2.2.1, ⟨hk.1.1.2.2.2.1, ⟨hk.1.1.2.2.2.2, hk.1.2⟩⟩⟩⟩⟩)⟩
 have n2_ : Aside0 (Kd.R k46 46 ((((w8.setCell ⟨gb500, 0, none⟩ (.int .i64 t488)).setCell ⟨gb500, 1, none⟩ (.slice Ao12 t489.length co12)).setCell ⟨gb500, 2, none⟩ (.slice Ao13 t492.length co13)).setCell ⟨gb500, 3, none⟩ (.slice Ao14 t495.length co14)) w.heap.size (fun k_ => (w.heap.size ≤ k_)) (.slice Ao14 t495.length co14) t495) := ⟨by (with_reducible repeat (first | apply Kd.R_alloc | apply Kd.R_drewN | apply Kd.R_drew)); exact Kd.R_mono (zRF4 (Kd.R_types HO497.out BK500.out (by decide)) gb500 (fun _ hk => hk.2) (.int .i64 t488) (.slice Ao12 t489.length co12) (.slice Ao13 t492.length co13) (.slice Ao14 t495.length co14)) (fun _ hk => hk.1.1)⟩
 have n3_ : Aside0 (((((w8.setCell ⟨gb500, 0, none⟩ (.int .i64 t488)).setCell ⟨gb500, 1, none⟩ (.slice Ao12 t489.length co12)).setCell ⟨gb500, 2, none⟩ (.slice Ao13 t492.length co13)).setCell ⟨gb500, 3, none⟩ (.slice Ao14 t495.length co14)).heap[gb483]? = some (.cells #[.int .i64 0, .slice none 0 0, .slice none 0 0, .slice none 0 0] 25 (0, 0))) := ⟨by refine zB ?_; refine zr4 ?_ NB483_500.out; exact zB BK483.out⟩
 have n4_ : Aside0 (((((w8.setCell ⟨gb500, 0, none⟩ (.int .i64 t488)).setCell ⟨gb500, 1, none⟩ (.slice Ao12 t489.length co12)).setCell ⟨gb500, 2, none⟩ (.slice Ao13 t492.length co13)).setCell ⟨gb500, 3, none⟩ (.slice Ao14 t495.length co14)).heap[gb500]? = some (.cells #[.int .i64 t488, .slice Ao12 t489.length co12, .slice Ao13 t492.length co13, .slice Ao14 t495.length co14] 25 (0, 0))) := ⟨by refine zB ?_; refine zp4 (cs := #[.int .i64 0, .slice none 0 0, .slice none 0 0, .slice none 0 0]) ?_; exact zB BK500.out⟩
 have n5_ : Aside0 (IsS98 w ((((w8.setCell ⟨gb500, 0, none⟩ (.int .i64 t488)).setCell ⟨gb500, 1, none⟩ (.slice Ao12 t489.length co12)).setCell ⟨gb500, 2, none⟩ (.slice Ao13 t492.length co13)).setCell ⟨gb500, 3, none⟩ (.slice Ao14 t495.length co14)) g487 t484 t498 t499) := ⟨zI2 HI487.out NB487_483.out NB487_500.out⟩
 have n6_ : Aside0 (Below w.heap.size w ((((w8.setCell ⟨gb500, 0, none⟩ (.int .i64 t488)).setCell ⟨gb500, 1, none⟩ (.slice Ao12 t489.length co12)).setCell ⟨gb500, 2, none⟩ (.slice Ao13 t492.length co13)).setCell ⟨gb500, 3, none⟩ (.slice Ao14 t495.length co14))) := ⟨zL3 HB.out (IsS98.ge HI487.out) GE483.out GE500.out⟩
 (try clear HO491)
 (try clear HO494)
 (try clear HO497)
 (try clear BK483)
 (try clear BK500)
 (try clear HI487)
 (try clear HB)
 generalize ((((w8.setCell ⟨gb500, 0, none⟩ (.int .i64 t488)).setCell ⟨gb500, 1, none⟩ (.slice Ao12 t489.length co12)).setCell ⟨gb500, 2, none⟩ (.slice Ao13 t492.length co13)).setCell ⟨gb500, 3, none⟩ (.slice Ao14 t495.length co14)) = w15 at n0_ n1_ n2_ n3_ n4_ n5_ n6_ ⊢
 have HO491 := n0_
 have HO494 := n1_
 have HO497 := n2_
 have BK483 := n3_
 have BK500 := n4_
 have HI487 := n5_
 have HB := n6_
 clear n0_ n1_ n2_ n3_ n4_ n5_ n6_
 replace HO491 := zXD HO491; replace HO494 := zXD HO494; replace HO497 := zRD HO497; replace BK483 := zBD BK483; replace BK500 := zBD BK500; replace HI487 := aM (IsS98.drew HI487.out); replace HB := zLD HB
 refine start_ (n := 9) (S := fun w' => zs4 w' gb500 (.int .i64 t488) (.slice Ao12 t489.length co12) (.slice Ao13 t492.length co13) (.slice Ao14 t495.length co14)) (ds := []) (fB 9 0) (by kernel_rfl) rfl rfl (zc4 BK500.out) (fun hHeld => ?_); refine with_tabW spec_DrawDueBy.tab3 spec_DrawDueBy.bits3 (fun HT_ HW_ => ?_)
 generalize w15.drew = w16 at HO491 HO494 HO497 BK483 BK500 HI487 HB hHeld ⊢
 refine pY 1 11 (fB 9 2) HT_.out ?_
 refine pY 3 13 (fB 9 10) HT_.out ?_
 refine tY 0 10 (fB 9 11) HT_.out HW_.out hHeld ?_
 refine tY 2 12 (fB 9 15) HT_.out HW_.out hHeld ?_
 refine oN 4 14 (fB 9 31) HT_.out fun K hK => ?_
 refine Kd.R_lit_step (Kd.int .i64) _ 3 ?hg (N := 14) ?hd (xs := ([0, 1, 5, 8, 64, 300] : List Int)) (inner := [.int .i64 0, .int .i64 1, .int .i64 5, .int .i64 8, .int .i64 64, .int .i64 300]) (ok := fun _ => True) (okp := fun _ => True) ?hr ?hp (fun _ hk => hk) trivial (Below.refl _ _) (Nat.le_refl _) (by simp) ?_; (case hd => rfl); (case hg => rfl); (case hr => first | (go_simp; done) | (go_simp; rfl)); (case hp => exact zhp)
 intro v502 w17 ho18 hb hg_ hnew_
 clear hg_ hnew_
 (first | rw [← Ny501.out] at ho18 | (simp only [Int.reduceToNat] at ho18; rw [← Ny501.out] at ho18))
 replace HO491 := aM (Kd.N_elder' (zX HO491.out) (Kd.R_base ho18) hb); replace HO494 := aM (Kd.N_elder' (zX HO494.out) (Kd.R_base ho18) hb); replace HO497 := zRB HO497 hb; have HO503 := aM (Kd.R_lower (Kd.R_newM (M := fun k_ => (w.heap.size ≤ k_)) ho18 (below_size (zL3 HB.out (IsS98.ge HI487.out) GE483.out GE500.out)) (fun k_ h_ => h_)) (below_size (zL3 HB.out (IsS98.ge HI487.out) GE483.out GE500.out))); replace BK483 := zBB BK483 hb; replace BK500 := zBB BK500 hb; replace HB := zLB (zL3 HB.out (IsS98.ge HI487.out) GE483.out GE500.out) hb; replace HI487 := aM (IsS98.below (zI2 HI487.out NB487_483.out NB487_500.out) hb)
 clear hb ho18
 obtain ⟨Ao19, co19, eo19⟩ := Kd.R_slice HO503.out
 (first | subst eo19 | (injection eo19 with f1_ f2_ f3_; have f4_ := f1_.symm; have f5_ := f3_.symm; clear f1_ f2_ f3_; subst f4_; subst f5_))
 refine hK.out _ _ (zc4 BK500.out) fun hHeld => ?_; clear hK K
 refine nZ 14 ?_
 refine oN 5 15 (fB 9 63) HT_.out fun K hK => ?_
 refine gS Try.func85 #[.pointer (some ⟨g487, 0, none⟩), .slice Ao19 y501.length co19] ?_
 with_reducible refine (spec_l1Int.calls g487 t484 t498 t499 _ _ y501 t504 t505 t506 w _ ?side1 ?side2 ?side3 ?side4 ?side5 A4.out).mono ?_
 (case side1 => exact zI2 HI487.out NB487_483.out NB487_500.out)
 (case side2 => exact zL3 HB.out (IsS98.ge HI487.out) GE483.out GE500.out)
 (case side3 => exact zC (Kd.R_reads' HO503.out).2.2)
 (case side4 => exact (Kd.R_reads' HO503.out).2.1)
 (case side5 => exact far_slice (IsS98.own_ne HI487.out HO503.out (by decide)))
 rintro e w20 ⟨rfl, hi, hb, hk⟩
 refine ⟨_, rfl, ?_⟩
 replace BK483 := zBK hk BK483 NB483_487; replace HO491 := aM (Kd.N_mono (Kd.N_keep (Kd.N_mono (ok := fun k_ => ((((w.heap.size ≤ k_)) ∧ (some k_ ≠ (.slice Ao13 t492.length co13 : Value).ownBlock ∧ (some k_ ≠ (.slice Ao14 t495.length co14 : Value).ownBlock ∧ (k_ ≠ gb483 ∧ (k_ ≠ g487 ∧ k_ ≠ gb500))))) ∧ some k_ ≠ (.slice Ao19 y501.length co19 : Value).ownBlock)) (zX HO491.out) (fun k_ hk_ => (⟨hk_, hk_.1.2.2.2.2.1⟩ : _ ∧ k_ ≠ g487))) hk (fun _ h => h.2)) (fun _ h => h.1)); replace HO494 := aM (Kd.N_mono (Kd.N_keep (Kd.N_mono (ok := fun k_ => ((((w.heap.size ≤ k_)) ∧ (some k_ ≠ (.slice Ao12 t489.length co12 : Value).ownBlock ∧ (some k_ ≠ (.slice Ao14 t495.length co14 : Value).ownBlock ∧ (k_ ≠ gb483 ∧ (k_ ≠ g487 ∧ k_ ≠ gb500))))) ∧ some k_ ≠ (.slice Ao19 y501.length co19 : Value).ownBlock)) (zX HO494.out) (fun k_ hk_ => (⟨hk_, hk_.1.2.2.2.2.1⟩ : _ ∧ k_ ≠ g487))) hk (fun _ h => h.2)) (fun _ h => h.1)); replace HO497 := aM (Kd.R_mono (Kd.R_keep (IsS98.apart (show IsS98 w _ g487 t484 t498 t499 from zI2 HI487.out NB487_483.out NB487_500.out) (zR HO497.out) (by decide)) hk (fun _ h => h.2)) (fun _ h => h.1)); replace BK500 := zBK hk BK500 NB500_487; replace HO503 := aM (Kd.R_mono (Kd.R_keep (IsS98.apart (show IsS98 w _ g487 t484 t498 t499 from zI2 HI487.out NB487_483.out NB487_500.out) (zR HO503.out) (by decide)) hk (fun _ h => h.2)) (fun _ h => h.1)); replace HB := aM hb; replace HI487 := aM hi
 clear hi hb hk
 refine hK.out _ _ (zc4 BK500.out) fun hHeld => ?_; clear hK K
 refine nZ 15 ?_
 refine pY 6 16 (fB 9 127) HT_.out ?_
 refine one_ (i := 7) (N := none) (fB 9 255) rfl rfl (one_of HT_.out (by kernel_rfl)) (by decide) (fun K hK => ?_)
 have hs21 : w20.cell? ⟨gb483, 0, none⟩ = some (.int .i64 0) := (bC BK483.out 0).trans rfl
 have hfs21 := blk_frozen BK483.out 0
 have hns21_1 := NB500_483.out
 have hms21_1 := NB483_500.out
 have hs22 : w20.cell? ⟨gb483, 1, none⟩ = some (.slice none 0 0) := (bC BK483.out 1).trans rfl
 have hfs22 := blk_frozen BK483.out 1
 have hns22_1 := NB500_483.out
 have hms22_1 := NB483_500.out
 have hs23 : w20.cell? ⟨gb483, 2, none⟩ = some (.slice none 0 0) := (bC BK483.out 2).trans rfl
 have hfs23 := blk_frozen BK483.out 2
 have hns23_1 := NB500_483.out
 have hms23_1 := NB483_500.out
 have hs24 : w20.cell? ⟨gb483, 3, none⟩ = some (.slice none 0 0) := (bC BK483.out 3).trans rfl
 have hfs24 := blk_frozen BK483.out 3
 have hns24_1 := NB500_483.out
 have hms24_1 := NB483_500.out
 refine skip_ (w1 := ?_) (by rfl) rfl ?_ ?_
 rotate_left
 ·go_simp
  rfl
 refine hK.out _ _ ⟨zcf4 NB500_483.out hHeld.1, zcf4 NB500_483.out hHeld.2.1, zcf4 NB500_483.out hHeld.2.2.1, zcf4 NB500_483.out hHeld.2.2.2⟩ fun hHeld => ?_; clear hK K
 refine pY 8 3 (fB 9 511) HT_.out ?_
 refine done_ (done_of HT_.out (by kernel_rfl)) ?_
 try go_wp2
 refine bodyPost_ret (results_ct rfl _ _ gb483 25 #[.int .i64 t488, .slice Ao12 t489.length co12, .slice Ao13 t492.length co13, .slice Ao14 t495.length co14] (0, 0) _ rfl (by refine zB ?_; refine zp4 (cs := #[.int .i64 0, .slice none 0 0, .slice none 0 0, .slice none 0 0]) ?_; exact zB BK483.out) Try.underlying25 rfl (by kernel_rfl)) rfl ?_
 exact ⟨_, _, _, zW, by (with_reducible repeat (first | apply Kd.N_alloc | apply Kd.N_drewN | apply Kd.N_drew)); exact Kd.N_mono (zNF4 (Kd.N_mono HO491.out (fun k_ hk => (⟨hk, hk.1.2.2.2.1⟩ : _ ∧ k_ ≠ gb483))) gb483 (fun _ hk => hk.2) (.int .i64 t488) (.slice Ao12 t489.length co12) (.slice Ao13 t492.length co13) (.slice Ao14 t495.length co14)) (fun _ hk => ⟨hk.1.1.1, ⟨hk.1.1.2.1, hk.1.1.2.2.1⟩⟩), by (with_reducible repeat (first | apply Kd.N_alloc | apply Kd.N_drewN | apply Kd.N_drew)); exact Kd.N_mono (zNF4 (Kd.N_mono HO494.out (fun k_ hk => (⟨hk, hk.1.2.2.2.1⟩ : _ ∧ k_ ≠ gb483))) gb483 (fun _ hk => hk.2) (.int .i64 t488) (.slice Ao12 t489.length co12) (.slice Ao13 t492.length co13) (.slice Ao14 t495.length co14)) (fun _ hk => ⟨hk.1.1.1, ⟨hk.1.1.2.1, hk.1.1.2.2.1⟩⟩), by (with_reducible repeat (first | apply Kd.R_alloc | apply Kd.R_drewN | apply Kd.R_drew)); exact Kd.R_mono (zRF4 (Kd.R_types HO497.out BK483.out (by decide)) gb483 (fun _ hk => hk.2) (.int .i64 t488) (.slice Ao12 t489.length co12) (.slice Ao13 t492.length co13) (.slice Ao14 t495.length co14)) (fun _ hk => hk.1), zL3 HB.out (IsS98.ge HI487.out) GE483.out GE500.out⟩

open Go.Proofs.YtggenhomnbnodaaW.PrintWords renaming blk_drewN → bN, blk_drew → bD, blk_alloc → bA, blk_cell → bC, blk_below → bB, below_set → bS
def laws_sameInts.l0 : Nat → List Int → List Int → Int → Option (Bool)
 | 0, _, _, _ => none
 | k + 1, x0, x1, x5 => if x5 < (x0.length : Int) then (if 0 ≤ x5 then (if x5 < (x1.length : Int) then (if (rd x0 x5) = (rd x1 x5) then (laws_sameInts.l0 k x0 x1 (wrap64 (x5 + 1))) else (some false)) else (none)) else (none)) else (some true)
def laws_sameInts.f (k : Nat) (l0 : List Int) (l1 : List Int) : Option (Bool) := if (l0.length : Int) = (l1.length : Int) then (laws_sameInts.l0 k l0 l1 0) else (some false)
set_option maxHeartbeats 8000000 in
set_option maxRecDepth 100000 in
theorem laws_sameInts.calls (k : Nat) (A0 : Option Addr) (c0 : Nat) (l0 : List Int) (A1 : Option Addr) (c1 : Nat) (l1 : List Int) (r : Bool) (w : World) (hr0 : Kd.C (Kd.int .i64) w A0 l0.length l0) (hc0 : l0.length ≤ c0) (hr1 : Kd.C (Kd.int .i64) w A1 l1.length l1) (hc1 : l1.length ≤ c1) (h : laws_sameInts.f k l0 l1 = some r) :
  Calls Try.prog 58 #[.slice A0 l0.length c0, .slice A1 l1.length c1] w fun e w' => e = .returned (.bool r) ∧ Drawn0 w w' := by
 have HR0 := aM hr0
 have HC0 := aM hc0
 clear hr0 hc0
 have HR1 := aM hr1
 have HC1 := aM hc1
 clear hr1 hc1
 unfold laws_sameInts.f at h; have H := h
 clear h
 by_cases c3 : (l0.length : Int) = (l1.length : Int)
 ·rw [if_pos c3] at H
  obtain ⟨c3b0, c3b1⟩ := zt c3
  have c3b2 : (l0.length == l1.length) = true := by first | simpa using c3 | (simp at c3 ⊢; omega)
  clear c3
  have H' := aM H
  clear H
  go_enter Try.func58, Try.ntmps58
  go_wp2
  repeat (go_quiet (fail); try go_wp2)
  go_loopg [5] k (fun kq v5 w' => ∃ (x5_1 : Int), v5 = .int .i64 x5_1 ∧ Aside0 (laws_sameInts.l0 kq l0 l1 x5_1 = some r) ∧ Aside0 (kq ≤ k) ∧ Drawn0 w w')
  case atStart => exact ⟨(0), zV, H', ⟨Nat.le_refl _⟩, zU⟩
  case round =>
   clear H'
   try clear c1
   try clear p2
   try clear c3
   try clear c3b0
   try clear c3b1
   try clear c3b2
   obtain ⟨x5_1, rfl, HA, HK1, ⟨m1, rfl⟩⟩ := hrel
   cases gk with
   | zero => exact absurd HA.out (by simp [laws_sameInts.l0])
   | succ k1 =>
    have H := HA.out
    clear HA
    simp only [laws_sameInts.l0] at H
    by_cases c4 : x5_1 < (l0.length : Int)
    ·rw [if_pos c4] at H
     have c4b0 := dT c4
     clear c4
     by_cases c5 : 0 ≤ x5_1
     ·rw [if_pos c5] at H
      have c5b0 := dT c5
      clear c5
      by_cases c6 : x5_1 < (l1.length : Int)
      ·rw [if_pos c6] at H
       have c6b0 := dT c6
       clear c6
       by_cases c7 : (rd l0 x5_1) = (rd l1 x5_1)
       ·rw [if_pos c7] at H
        obtain ⟨c7b0, c7b1⟩ := zt c7
        clear c7
        have H' := aM H
        clear H
        have p507 : 0 ≤ (x5_1 : Int) := zD
        have q507 : x5_1 < (l0.length : Int) := zD
        obtain ⟨ad507, e507, hx507_0⟩ := Kd.at_int HR0.out x5_1 p507 q507
        cases e507
        replace p507 := eq_true p507
        replace q507 := eq_true q507
        have p508 : 0 ≤ (x5_1 : Int) := zD
        have q508 : x5_1 < (l1.length : Int) := zD
        obtain ⟨ad508, e508, hx508_0⟩ := Kd.at_int HR1.out x5_1 p508 q508
        cases e508
        replace p508 := eq_true p508
        replace q508 := eq_true q508
        go_wp2
        repeat (go_quiet (fail); try go_wp2)
        go_roundg k1
        case measure => have := HK1.out; omega
        case rel => exact ⟨(wrap64 (x5_1 + 1)), zV, H', ⟨by have := HK1.out; omega⟩, zU⟩
       ·rw [if_neg c7] at H
        obtain ⟨c7b0, c7b1⟩ := zf c7
        obtain rfl := Option.some.inj H
        have p507 : 0 ≤ (x5_1 : Int) := zD
        have q507 : x5_1 < (l0.length : Int) := zD
        obtain ⟨ad507, e507, hx507_0⟩ := Kd.at_int HR0.out x5_1 p507 q507
        cases e507
        replace p507 := eq_true p507
        replace q507 := eq_true q507
        have p508 : 0 ≤ (x5_1 : Int) := zD
        have q508 : x5_1 < (l1.length : Int) := zD
        obtain ⟨ad508, e508, hx508_0⟩ := Kd.at_int HR1.out x5_1 p508 q508
        cases e508
        replace p508 := eq_true p508
        replace q508 := eq_true q508
        go_wp2
        repeat (go_quiet (fail); try go_wp2)
        go_ret
        exact ⟨zV, zU⟩
      ·rw [if_neg c6] at H
       exact absurd H (by simp)
     ·rw [if_neg c5] at H
      exact absurd H (by simp)
    ·rw [if_neg c4] at H
     have c4b0 := dF c4
     clear c4
     obtain rfl := Option.some.inj H
     go_wp2
     repeat (go_quiet (fail); try go_wp2)
     go_ret
     exact ⟨zV, zU⟩
 ·rw [if_neg c3] at H
  obtain ⟨c3b0, c3b1⟩ := zf c3
  have c3b2 : (l0.length == l1.length) = false := by first | simpa using c3 | (simp at c3 ⊢; omega)
  obtain rfl := Option.some.inj H
  go_enter Try.func58, Try.ntmps58
  go_wp2
  repeat (go_quiet (fail); try go_wp2)
  go_ret
  exact ⟨zV, zU⟩

end Go.Proofs.Ytggenhomnbnodaa.QFnTicks
