/- What functions that the law reaches answer, with their walks. Conditions: those that each theorem names. -/
import Derived.Test.YtggenhomnbnodaaQFnWheelsx0
import Derived.Test.YtggenhomnbnodaaQFnWheelsx2
import Derived.Test.YtggenhomnbnodaaQFnWheelsx4
import Derived.Test.YtggenhomnbnodaaQFnWheelsx7
import Derived.Test.YtggenhomnbnodaaQFnWheelsx9
namespace Go.Proofs.Ytggenhomnbnodaa.QFnWheels
open Go.RowKit Go.Proofs.YtggenhomnbnodaaW.PrintWords Go.Proofs.YtggenhomnbnodaaW.PrintLast Go.Proofs.YtggenhomnbnodaaW.PrintMore
attribute [local go_sem] max2_int min2_int max_two min_two max_three min_three max_four min_four
set_option linter.unusedVariables false
set_option linter.unusedSimpArgs false

open Go.Proofs.YtggenhomnbnodaaW.PrintWords renaming blk_drewN → bN, blk_drew → bD, blk_alloc → bA, blk_cell → bC, blk_below → bB, below_set → bS
def spec_Cancel.l0 : Nat → Int → Int → Int → List (List (S46)) → List (List (S46)) → List (S46) → Int → List (List (S46)) → List (List (S46)) → List (S46) → Option (Int × (List (List (S46))) × (List (List (S46))) × (List (S46)) × Bool)
 | 0, _, _, _, _, _, _, _, _, _, _ => none
 | k + 1, x1, x7, xA8, xY, xZ, xA1, xA2, xE, xD, xJ => if x7 < 8 then (if 0 ≤ x7 then (if x7 < (xY.length : Int) then ((spec_l8Without.f k (rd_L2 xY x7) x1).bind fun tO => (if x7 < (xE.length : Int) then (if x7 < (xZ.length : Int) then ((spec_l8Without.f k (rd_L2 xZ x7) x1).bind fun tU => (if x7 < (xD.length : Int) then (spec_Cancel.l0 k x1 (wrap64 (x7 + 1)) xA8 xY xZ xA1 xA2 (xE.set (x7 : Int).toNat tO) (xD.set (x7 : Int).toNat tU) xJ) else (none))) else (none)) else (none))) else (none)) else (none)) else ((spec_l8Without.f k xA1 x1).bind fun tK => ((spec_Timers.f k xA2 xE xD tK).bind fun tA3 => ((spec_Timers.f k xA8 xY xZ xA1).bind fun tA4 => (some (xA2, xE, xD, tK, decide ((tA3.length : Int) < (tA4.length : Int)))))))
def spec_Cancel.f (k : Nat) (a0_0 : Int) (l0_1 : List (List (S46))) (l0_2 : List (List (S46))) (l0_3 : List (S46)) (a1 : Int) : Option (Int × (List (List (S46))) × (List (List (S46))) × (List (S46)) × Bool) := (spec_l8Copy.f k a0_0 l0_1 l0_2 l0_3).bind fun btH => ((spec_WheelOk.f k a0_0 l0_1 l0_2 l0_3).bind fun tA5 => (if tA5 = true then (spec_Cancel.l0 k a1 0 a0_0 l0_1 l0_2 l0_3 btH.1 btH.2.1 btH.2.2.1 btH.2.2.2) else (some (btH.1, btH.2.1, btH.2.2.1, btH.2.2.2, false))))
def spec_Cancel.T7 : Bool × List (List Nat × List Nat) := (true, [([], []), ([0], [0]), ([], []), ([], []), ([3], [3]), ([], []), ([4, 5], [4, 5]), ([6], [6]), ([], []), ([7, 8], [7, 8]), ([1, 2, 0, 1, 2, 3, 4, 5, 6, 7, 8, 9], [1, 2]), ([10, 9, 9, 0, 1, 2, 3, 4, 5, 6, 7, 8, 9], [9, 10])])
def spec_Cancel.B7 : List Nat := [0, 1, 0, 0, 8, 0, 56, 120, 0, 504, 1023, 2047]
theorem spec_Cancel.tab7 : rtab .any (opsOf Try.f34 7) = spec_Cancel.T7 := by kernel_rfl
theorem spec_Cancel.bits7 : waitsOk spec_Cancel.T7.2 spec_Cancel.B7 = true := by kernel_rfl
def spec_Cancel.T8 : Bool × List (List Nat × List Nat) := (true, [([], []), ([0], [0]), ([], []), ([], []), ([3], [3]), ([], []), ([4, 5], [4, 5]), ([6], [6]), ([], []), ([7, 8], [7, 8]), ([1, 2, 0, 1, 2, 3, 4, 5, 6, 7, 8, 9], [1, 2]), ([10, 9, 9, 0, 1, 2, 3, 4, 5, 6, 7, 8, 9], [9, 10])])
def spec_Cancel.B8 : List Nat := [0, 1, 0, 0, 8, 0, 56, 120, 0, 504, 1023, 2047]
theorem spec_Cancel.tab8 : rtab .any (opsOf Try.f34 8) = spec_Cancel.T8 := by kernel_rfl
theorem spec_Cancel.bits8 : waitsOk spec_Cancel.T8.2 spec_Cancel.B8 = true := by kernel_rfl
def spec_Cancel.T10 : Bool × List (List Nat × List Nat) := (true, [([], []), ([], []), ([1], [1]), ([2], [2]), ([], []), ([4, 2], [4]), ([5], [5]), ([3, 6], [3, 6]), ([0, 5, 0], [0]), ([7, 8, 0, 1, 2, 3, 4, 5, 6, 7, 8], [7])])
def spec_Cancel.B10 : List Nat := [0, 0, 2, 6, 0, 22, 54, 126, 55, 511]
theorem spec_Cancel.tab10 : rtab .any (opsOf Try.f34 10) = spec_Cancel.T10 := by kernel_rfl
theorem spec_Cancel.bits10 : waitsOk spec_Cancel.T10.2 spec_Cancel.B10 = true := by kernel_rfl
theorem fk10_of {w : World} {base : Nat} {ok : Nat → Prop} {v : Value} {l : List S46} (h : Kd.R k46 46 w base ok v l) : (Kd.slice 46 k46).FK w ok l [v] := by
 obtain ⟨A, c, rfl⟩ := Kd.R_slice h
 exact Kd.FK_slice_mk (Kd.R_reads' h).2.1 (Kd.R_F h)
set_option maxHeartbeats 8000000 in
set_option maxRecDepth 100000 in
theorem spec_Cancel.calls (k : Nat) (a0_0 : Int) (A0_1 : Option Addr) (c0_1 : Nat) (l0_1 : List (List (S46))) (A0_2 : Option Addr) (c0_2 : Nat) (l0_2 : List (List (S46))) (A0_3 : Option Addr) (c0_3 : Nat) (l0_3 : List (S46)) (a1 : Int) (r1 : Int) (r2 : List (List (S46))) (r3 : List (List (S46))) (r4 : List (S46)) (r5 : Bool) (w : World) (hr0_1 : Kd.C (Kd.slice 46 k46) w A0_1 l0_1.length l0_1) (hc0_1 : l0_1.length ≤ c0_1) (hr0_2 : Kd.C (Kd.slice 46 k46) w A0_2 l0_2.length l0_2) (hc0_2 : l0_2.length ≤ c0_2) (hr0_3 : Kd.C k46 w A0_3 l0_3.length l0_3) (hc0_3 : l0_3.length ≤ c0_3) (h : spec_Cancel.f k a0_0 l0_1 l0_2 l0_3 a1 = some (r1, r2, r3, r4, r5)) :
  Calls Try.prog 34 #[.agg #[.int .i64 a0_0, .slice A0_1 l0_1.length c0_1, .slice A0_2 l0_2.length c0_2, .slice A0_3 l0_3.length c0_3], .int .i64 a1] w fun e w' => ∃ v1_ v2_ v3_ : Value, e = .returned (.tuple #[.agg #[.int .i64 r1, v1_, v2_, v3_], .bool r5]) ∧ Kd.N (Kd.slice 46 k46) 23 w' w.heap.size (fun k_ => (w.heap.size ≤ k_) ∧ some k_ ≠ (v2_ : Value).ownBlock ∧ some k_ ≠ (v3_ : Value).ownBlock) v1_ r2 ∧ Kd.N (Kd.slice 46 k46) 23 w' w.heap.size (fun k_ => (w.heap.size ≤ k_) ∧ some k_ ≠ (v1_ : Value).ownBlock ∧ some k_ ≠ (v3_ : Value).ownBlock) v2_ r3 ∧ Kd.R k46 46 w' w.heap.size (fun k_ => (w.heap.size ≤ k_)) v3_ r4 ∧ Below w.heap.size w w' := by
 have hu25 := Try.underlying25
 have HR0_1 := aM hr0_1
 have HC0_1 := aM hc0_1
 clear hr0_1 hc0_1
 have HR0_2 := aM hr0_2
 have HC0_2 := aM hc0_2
 clear hr0_2 hc0_2
 have HR0_3 := aM hr0_3
 have HC0_3 := aM hc0_3
 clear hr0_3 hc0_3
 have HB := aM (Below.refl w.heap.size w)
 unfold spec_Cancel.f at h; have H := h
 clear h
 obtain ⟨⟨tH, tM, tN, tF⟩, A3, H⟩ := zO H; try dsimp only at H
 obtain ⟨tA5, A4, H⟩ := zO H; try dsimp only at H
 by_cases c5 : tA5 = true
 ·subst c5
  rw [if_pos rfl] at H
  have H' := aM H
  clear H
  go_enter Try.func34, Try.ntmps34
  go_wp2_with (first | ((with_reducible refine gD 2 rfl ?_); refine bE 2 #[.int .i64 a0_0, .slice A0_1 l0_1.length c0_1, .slice A0_2 l0_2.length c0_2, .slice A0_3 l0_3.length c0_3] 25 ?_; intro gbA hg w6 hbox hb; have BKA := aM hbox; have GWA := aM (zg (zL HB.o) hg : w.heap.size ≤ gbA); have GEA := GWA; replace HB := zLB (zL HB.o) hb; clear hb hbox hg) | ((with_reducible refine gD 4 rfl ?_); refine bE 4 #[.int .i64 0, .slice none 0 0, .slice none 0 0, .slice none 0 0] 25 ?_; intro gbB hg w7 hbox hb; have BKB := aM hbox; have GWB := aM (zg (zL1 HB.o GEA.o) hg : w.heap.size ≤ gbB); have GEB := GWB; replace HB := zLB (zL1 HB.o GEA.o) hb; have NBA_B := aM (zN BKA.o hg : gbA ≠ gbB); have NBB_A := aM (zM BKA.o hg : gbB ≠ gbA); replace BKA := zBB BKA hb; clear hb hbox hg; have hnb8 := NBA_B.o; have hnc8 := NBB_A.o; have hcz9 := zc4 BKA.o; have hfz9 := zf4 BKA.o) | ((with_reducible refine gC 72 rfl ?_); refine gL 9 Try.func72 #[.agg #[.int .i64 a0_0, .slice A0_1 l0_1.length c0_1, .slice A0_2 l0_2.length c0_2, .slice A0_3 l0_3.length c0_3]] ?_; (with_reducible refine (spec_l8Copy.calls k a0_0 _ _ l0_1 _ _ l0_2 _ _ l0_3 tH tM tN tF _ ?side1 ?side2 ?side3 ?side4 ?side5 ?side6 A3.o).mono ?_); (case side1 => exact zC (Kd.C_below HR0_1.o HB.o)); (case side2 => exact HC0_1.o); (case side3 => exact zC (Kd.C_below HR0_2.o HB.o)); (case side4 => exact HC0_2.o); (case side5 => exact zC (Kd.C_below HR0_3.o HB.o)); (case side6 => exact HC0_3.o); rintro e w10 ⟨vA6, vA7, vX, rfl, ho0, ho1, ho2, hb⟩; refine ⟨_, rfl, ?_⟩; have HOQ := aM (Kd.N_lower (Kd.N_mono (ok' := fun k_ => (w.heap.size ≤ k_) ∧ some k_ ≠ (vA7 : Value).ownBlock ∧ some k_ ≠ (vX : Value).ownBlock ∧ k_ ≠ gbA ∧ k_ ≠ gbB) (Kd.S_N (Kd.S_bound ho0)) (fun k_ hk_ => ⟨(Nat.le_trans (below_size (zL2 HB.o GEA.o GEB.o)) hk_.2.1), hk_.1.1, hk_.1.2, (Kd.freshB (g := gbA) (o := .cells #[.int .i64 a0_0, .slice A0_1 l0_1.length c0_1, .slice A0_2 l0_2.length c0_2, .slice A0_3 l0_3.length c0_3] 25 (0, 0)) (zB BKA.o) k_ hk_.2.1), (Kd.freshB (g := gbB) (o := .cells #[.int .i64 0, .slice none 0 0, .slice none 0 0, .slice none 0 0] 25 (0, 0)) (zB BKB.o) k_ hk_.2.1)⟩)) (below_size (zL2 HB.o GEA.o GEB.o))); have HOR := aM (Kd.N_lower (Kd.N_mono (ok' := fun k_ => (w.heap.size ≤ k_) ∧ some k_ ≠ (vA6 : Value).ownBlock ∧ some k_ ≠ (vX : Value).ownBlock ∧ k_ ≠ gbA ∧ k_ ≠ gbB) (Kd.S_N (Kd.S_bound ho1)) (fun k_ hk_ => ⟨(Nat.le_trans (below_size (zL2 HB.o GEA.o GEB.o)) hk_.2.1), hk_.1.1, hk_.1.2, (Kd.freshB (g := gbA) (o := .cells #[.int .i64 a0_0, .slice A0_1 l0_1.length c0_1, .slice A0_2 l0_2.length c0_2, .slice A0_3 l0_3.length c0_3] 25 (0, 0)) (zB BKA.o) k_ hk_.2.1), (Kd.freshB (g := gbB) (o := .cells #[.int .i64 0, .slice none 0 0, .slice none 0 0, .slice none 0 0] 25 (0, 0)) (zB BKB.o) k_ hk_.2.1)⟩)) (below_size (zL2 HB.o GEA.o GEB.o))); have HOS := aM (Kd.R_lower (Kd.R_newM (M := fun k_ => (w.heap.size ≤ k_)) ho2 (below_size (zL2 HB.o GEA.o GEB.o)) (fun k_ h_ => h_)) (below_size (zL2 HB.o GEA.o GEB.o))); replace BKA := zBB BKA hb; replace BKB := zBB BKB hb; replace HB := zLB (zL2 HB.o GEA.o GEB.o) hb; clear ho0 hb; (try clear ho1); (try clear ho2)) | ((with_reducible refine gD 6 rfl ?_); refine bE 6 #[.int .i64 0, .slice none 0 0, .slice none 0 0, .slice none 0 0] 25 ?_; intro gbC hg w11 hbox hb; replace HOQ := aM (Kd.N_below (Kd.N_elderB (zX HOQ.o) gbC (Nat.le_of_eq hg.symm)) hb); replace HOR := aM (Kd.N_below (Kd.N_elderB (zX HOR.o) gbC (Nat.le_of_eq hg.symm)) hb); replace HOS := zRB HOS hb; have BKC := aM hbox; have GWC := aM (zg (zL2 HB.o GEA.o GEB.o) hg : w.heap.size ≤ gbC); have GEC := GWC; replace HB := zLB (zL2 HB.o GEA.o GEB.o) hb; have NBA_C := aM (zN BKA.o hg : gbA ≠ gbC); have NBC_A := aM (zM BKA.o hg : gbC ≠ gbA); replace BKA := zBB BKA hb; have NBB_C := aM (zN BKB.o hg : gbB ≠ gbC); have NBC_B := aM (zM BKB.o hg : gbC ≠ gbB); replace BKB := zBB BKB hb; clear hb hbox hg; have hnb12 := NBC_A.o; have hnc12 := NBA_C.o; have hnb13 := NBC_B.o; have hnc13 := NBB_C.o; have hcz14 := zc4 BKC.o; have hfz14 := zf4 BKC.o; obtain ⟨Ao15, co15, eo15⟩ := Kd.N_slice HOQ.o; subst eo15; obtain ⟨Ao16, co16, eo16⟩ := Kd.N_slice HOR.o; subst eo16; obtain ⟨Ao17, co17, eo17⟩ := Kd.R_slice HOS.o; subst eo17; have hcz18 := zc4 BKA.o; have hfz18 := zf4 BKA.o) | ((with_reducible refine gC 29 rfl ?_); refine gL 11 Try.func29 #[.agg #[.int .i64 a0_0, .slice A0_1 l0_1.length c0_1, .slice A0_2 l0_2.length c0_2, .slice A0_3 l0_3.length c0_3]] ?_; (with_reducible refine (spec_WheelOk.calls k a0_0 _ _ l0_1 _ _ l0_2 _ _ l0_3 true _ ?side1 ?side2 ?side3 ?side4 ?side5 ?side6 A4.o).mono ?_); (case side1 => exact Kd.C_below HR0_1.o (zL3 HB.o GEA.o GEB.o GEC.o)); (case side2 => exact HC0_1.o); (case side3 => exact Kd.C_below HR0_2.o (zL3 HB.o GEA.o GEB.o GEC.o)); (case side4 => exact HC0_2.o); (case side5 => exact Kd.C_below HR0_3.o (zL3 HB.o GEA.o GEB.o GEC.o)); (case side6 => exact HC0_3.o); rintro e w19 ⟨rfl, hb⟩; refine ⟨_, rfl, ?_⟩; replace HOQ := aM (Kd.N_below (by refine zX ?_; exact (Kd.N_mono (zNF4 (Kd.N_mono HOQ.o (fun k_ hk => (⟨hk, hk.2⟩ : _ ∧ k_ ≠ gbC))) gbC (fun _ hk => hk.2) (.int .i64 tH) (.slice Ao15 tM.length co15) (.slice Ao16 tN.length co16) (.slice Ao17 tF.length co17)) (fun _ h_ => h_.1))) hb); replace HOR := aM (Kd.N_below (by refine zX ?_; exact (Kd.N_mono (zNF4 (Kd.N_mono HOR.o (fun k_ hk => (⟨hk, hk.2⟩ : _ ∧ k_ ≠ gbC))) gbC (fun _ hk => hk.2) (.int .i64 tH) (.slice Ao15 tM.length co15) (.slice Ao16 tN.length co16) (.slice Ao17 tF.length co17)) (fun _ h_ => h_.1))) hb); replace HOS := aM (Kd.R_below (by refine zR ?_; exact (Kd.R_mono (zRF4 (Kd.R_types HOS.o BKC.o (by decide)) gbC (fun _ hk => hk.2) (.int .i64 tH) (.slice Ao15 tM.length co15) (.slice Ao16 tN.length co16) (.slice Ao17 tF.length co17)) (fun _ h_ => h_.1))) hb); replace BKA := aM (bB (g := gbA) (o := .cells #[.int .i64 a0_0, .slice A0_1 l0_1.length c0_1, .slice A0_2 l0_2.length c0_2, .slice A0_3 l0_3.length c0_3] 25 (0, 0)) (by refine zB ?_; refine zr4 ?_ NBA_C.o; exact zB BKA.o) hb); replace BKB := aM (bB (g := gbB) (o := .cells #[.int .i64 0, .slice none 0 0, .slice none 0 0, .slice none 0 0] 25 (0, 0)) (by refine zB ?_; refine zr4 ?_ NBB_C.o; exact zB BKB.o) hb); replace BKC := aM (bB (g := gbC) (o := .cells #[.int .i64 tH, .slice Ao15 tM.length co15, .slice Ao16 tN.length co16, .slice Ao17 tF.length co17] 25 (0, 0)) (by refine zB ?_; refine zp4 (cs := #[.int .i64 0, .slice none 0 0, .slice none 0 0, .slice none 0 0]) ?_; exact zB BKC.o) hb); replace HB := zLB (zL3 HB.o GEA.o GEB.o GEC.o) hb; clear hb))
  go_loopg [7] k (fun kq v7 w' => ∃ (x7_1 : Int) (xE_1 : List (List (S46))) (xD_1 : List (List (S46))) (uE : Value) (uD : Value), v7 = .int .i64 x7_1 ∧ Aside0 (spec_Cancel.l0 kq a1 x7_1 a0_0 l0_1 l0_2 l0_3 tH xE_1 xD_1 tF = some (r1, r2, r3, r4, r5)) ∧ Aside0 (kq ≤ k) ∧ Aside0 (Kd.N (Kd.slice 46 k46) 23 w' w.heap.size (fun k_ => (w.heap.size ≤ k_) ∧ some k_ ≠ (uD : Value).ownBlock ∧ some k_ ≠ ((.slice Ao17 tF.length co17) : Value).ownBlock ∧ k_ ≠ gbA ∧ k_ ≠ gbB ∧ k_ ≠ gbC) uE xE_1) ∧ Aside0 (Kd.N (Kd.slice 46 k46) 23 w' w.heap.size (fun k_ => (w.heap.size ≤ k_) ∧ some k_ ≠ (uE : Value).ownBlock ∧ some k_ ≠ ((.slice Ao17 tF.length co17) : Value).ownBlock ∧ k_ ≠ gbA ∧ k_ ≠ gbB ∧ k_ ≠ gbC) uD xD_1) ∧ Aside0 (Kd.R k46 46 w' w.heap.size (fun k_ => (w.heap.size ≤ k_)) (.slice Ao17 tF.length co17) tF) ∧ Aside0 (w'.heap[gbA]? = some (.cells #[.int .i64 a0_0, (.slice A0_1 l0_1.length c0_1), (.slice A0_2 l0_2.length c0_2), (.slice A0_3 l0_3.length c0_3)] 25 (0, 0))) ∧ Aside0 (w'.heap[gbB]? = some (.cells #[.int .i64 0, (.slice none 0 0), (.slice none 0 0), (.slice none 0 0)] 25 (0, 0))) ∧ Aside0 (w'.heap[gbC]? = some (.cells #[.int .i64 tH, uE, uD, (.slice Ao17 tF.length co17)] 25 (0, 0))) ∧ Aside0 (Below w.heap.size w w'))
  case atStart => exact ⟨(0), (tM), (tN), (.slice Ao15 tM.length co15), (.slice Ao16 tN.length co16), zV, H', ⟨Nat.le_refl _⟩, ⟨zXm HOQ.o (fun _ hk => ⟨hk.1.1, ⟨hk.1.2.1, ⟨hk.1.2.2.1, ⟨hk.1.2.2.2.1, ⟨hk.1.2.2.2.2, hk.2⟩⟩⟩⟩⟩)⟩, ⟨zXm HOR.o (fun _ hk => ⟨hk.1.1, ⟨hk.1.2.1, ⟨hk.1.2.2.1, ⟨hk.1.2.2.2.1, ⟨hk.1.2.2.2.2, hk.2⟩⟩⟩⟩⟩)⟩, ⟨zRm HOS.o (fun _ hk => hk.1)⟩, ⟨zB BKA.o⟩, ⟨zB BKB.o⟩, ⟨zB BKC.o⟩, ⟨zL3 HB.o GEA.o GEB.o GEC.o⟩⟩
  case round =>
   clear H'
   try clear c1
   try clear c2
   try clear p2
   try clear c3
   try clear c5
   try clear c7
   try clear c8
   try clear c12
   try clear c13
   try clear hcz14; try clear hcz18; try clear hcz9; try clear hfz14; try clear hfz18; try clear hfz9
   try clear BKA; try clear BKB; try clear BKC
   obtain ⟨x7_1, xE_1, xD_1, uE, uD, rfl, HA, HK1, HO_E, HO_D, HO_J, BKA, BKB, BKC, HB⟩ := hrel
   cases gk with
   | zero => exact absurd HA.o (by simp [spec_Cancel.l0])
   | succ k1 =>
    have H := HA.o
    clear HA
    simp only [spec_Cancel.l0] at H
    by_cases c20 : x7_1 < 8
    ·rw [if_pos c20] at H
     have c20b0 := dT c20
     clear c20
     by_cases c21 : 0 ≤ x7_1
     ·rw [if_pos c21] at H
      have c21b0 := dT c21
      clear c21
      by_cases c22 : x7_1 < (l0_1.length : Int)
      ·rw [if_pos c22] at H
       have c22b0 := dT c22
       clear c22
       obtain ⟨tO, A23, H⟩ := zO H; try dsimp only at H
       by_cases c24 : x7_1 < (xE_1.length : Int)
       ·rw [if_pos c24] at H
        have c24b0 := dT c24
        clear c24
        generalize hyV : (xE_1.set (x7_1 : Int).toNat tO) = yV at H; (try rw [Option.bind_some] at H); have NyV := aM hyV.symm; clear hyV
        by_cases c26 : x7_1 < (l0_2.length : Int)
        ·rw [if_pos c26] at H
         have c26b0 := dT c26
         clear c26
         obtain ⟨tU, A27, H⟩ := zO H; try dsimp only at H
         by_cases c28 : x7_1 < (xD_1.length : Int)
         ·rw [if_pos c28] at H
          have c28b0 := dT c28
          clear c28
          generalize hyW : (xD_1.set (x7_1 : Int).toNat tU) = yW at H; (try rw [Option.bind_some] at H); have NyW := aM hyW.symm; clear hyW
          have H' := aM H
          clear H
          try go_wp2
          replace HO_E := zXD HO_E; replace HO_D := zXD HO_D; replace HO_J := zRD HO_J; replace BKA := zBD BKA; replace BKB := zBD BKB; replace BKC := zBD BKC; replace HB := zLD HB
          have pG : 0 ≤ (x7_1 : Int) := zD
          have qG : x7_1 < (l0_1.length : Int) := zD
          obtain ⟨adG, AG_0, cG_0, eG, hxG_0, hlG_0, hiG_0⟩ := at_L2 HR0_1.o x7_1 pG qG
          have hwG_0 := hxG_0
          cases eG
          replace hxG_0 := zh HB.o hxG_0
          have HRG_0 := aM hiG_0
          have HCG_0 := aM hlG_0
          clear hiG_0 hlG_0
          replace pG := eq_true pG
          replace qG := eq_true qG
          refine start_ (n := 12) (S := fun w' => w'.cell? ⟨gbC, 0, none⟩ = some (.int .i64 tH) ∧ w'.cell? ⟨gbC, 1, none⟩ = some (uE) ∧ w'.cell? ⟨gbC, 2, none⟩ = some (uD) ∧ w'.cell? ⟨gbC, 3, none⟩ = some (.slice Ao17 tF.length co17) ∧ w'.cell? ⟨gbA, 0, none⟩ = some (.int .i64 a0_0) ∧ w'.cell? ⟨gbA, 1, none⟩ = some (.slice (some adG) l0_1.length c0_1) ∧ w'.cell? ⟨gbA, 2, none⟩ = some (.slice A0_2 l0_2.length c0_2) ∧ w'.cell? ⟨gbA, 3, none⟩ = some (.slice A0_3 l0_3.length c0_3) ∧ w'.cell? (adG.add (x7_1).toNat) = some (.slice AG_0 (rd_L2 l0_1 x7_1).length cG_0)) (ds := [11]) (fB 12 0) (by kernel_rfl) rfl rfl ⟨(bC BKC.o 0).trans rfl, (bC BKC.o 1).trans rfl, (bC BKC.o 2).trans rfl, (bC BKC.o 3).trans rfl, (bC BKA.o 0).trans rfl, (bC BKA.o 1).trans rfl, (bC BKA.o 2).trans rfl, (bC BKA.o 3).trans rfl, (zh HB.o hwG_0)⟩ (fun hHeld => ?_); refine with_tabW spec_Cancel.tab7 spec_Cancel.bits7 (fun HT_ HW_ => ?_)
          generalize wr.drew = w30 at HO_E HO_D HO_J BKA BKB BKC HB HRG_0 hxG_0 hHeld ⊢
          refine pY 0 18 (fB 12 1) HT_.o ?_
          refine pY 2 20 (fB 12 5) HT_.o ?_
          refine pY 3 21 (fB 12 13) HT_.o ?_
          refine pY 5 23 (fB 12 45) HT_.o ?_
          refine pY 8 26 (fB 12 301) HT_.o ?_
          refine tY 1 19 (fB 12 303) HT_.o HW_.o hHeld ?_
          refine tY 4 22 (fB 12 319) HT_.o HW_.o hHeld ?_
          refine pY 6 24 (fB 12 383) HT_.o ?_
          refine tY 7 25 (fB 12 511) HT_.o HW_.o hHeld ?_
          refine oN 9 27 (fB 12 1023) HT_.o fun K hK => ?_
          refine gS Try.func76 #[.slice AG_0 (rd_L2 l0_1 x7_1).length cG_0, .int .i64 a1] ?_
          with_reducible refine (spec_l8Without.calls k1 _ _ (rd_L2 l0_1 x7_1) a1 tO _ ?side1 ?side2 A23.o).mono ?_
          (case side1 => exact zC (Kd.C_below HRG_0.o HB.o))
          (case side2 => exact HCG_0.o)
          rintro e w31 ⟨vL, rfl, ho0, hb⟩
          refine ⟨_, rfl, ?_⟩
          replace HO_E := aM (Kd.N_elder' (zX HO_E.o) (Kd.R_base ho0) hb); replace HO_D := aM (Kd.N_elder' (zX HO_D.o) (Kd.R_base ho0) hb); have HOA9 := aM (Kd.R_lower (Kd.R_new' (Kd.R_newM (M := fun k_ => (w.heap.size ≤ k_)) ho0 (below_size (zL3 HB.o GEA.o GEB.o GEC.o)) (fun k_ h_ => h_)) (Kd.R_lt (zR HO_J.o))) (below_size (zL3 HB.o GEA.o GEB.o GEC.o))); replace HO_J := aM (Kd.R_elder' (zR HO_J.o) (Kd.R_base ho0) hb); replace BKA := zBB BKA hb; replace BKB := zBB BKB hb; replace BKC := zBB BKC hb; replace HB := zLB (zL3 HB.o GEA.o GEB.o GEC.o) hb
          clear ho0 hb
          (try clear ho0)
          have p25 : 0 ≤ (x7_1 : Int) := zD
          have q25 : (x7_1 : Int) < ((xE_1.length : Int) : Int) := zD
          obtain ⟨go25, co25, eo25, gb25, gl25, cl25, HG25⟩ := Kd.N_form HO_E.o (by omega)
          (first | cases eo25 | (injection eo25 with ea_ en_ ec_; (first | subst ea_ | (injection ea_ with ea_; subst ea_)); subst ec_; clear en_))
          have GB25 := aM gb25
          have GG25 := aM HG25
          clear gb25 gl25 HG25
          obtain ⟨ce25, hcl25, hM25, hcc25, hfr25⟩ := Kd.N_elem HO_E.o [] (x7_1 : Int) p25 q25
          obtain ⟨ua25_0, uc25_0, rfl, ul25_0, ge25_0⟩ := Kd.FK_slice_open hM25
          have hx25_0 := hcc25 0 _ rfl
          have hf25_0 := hfr25 0
          (try simp only [show ((Kd.slice 46 k46)).sz = 1 from rfl, Nat.mul_one, Nat.add_zero] at hx25_0)
          (try simp only [show ((Kd.slice 46 k46)).sz = 1 from rfl, Nat.mul_one, Nat.add_zero] at hf25_0)
          clear hcl25 hcc25 hfr25; (try clear hM25)
          replace p25 := eq_true p25
          replace q25 := eq_true q25
          have HX32 := aM (show Kd.N (Kd.slice 46 k46) 23 _ w.heap.size (fun k_ => (w.heap.size ≤ k_) ∧ some k_ ≠ (uD : Value).ownBlock ∧ some k_ ≠ (.slice Ao17 tF.length co17 : Value).ownBlock ∧ some k_ ≠ (vL : Value).ownBlock ∧ k_ ≠ gbA ∧ k_ ≠ gbB ∧ k_ ≠ gbC) (.slice (some ⟨go25, 0, none⟩) xE_1.length co25) xE_1 from (Kd.N_mono (HO_E.o) (fun k_ hk => ⟨hk.1.1, ⟨hk.1.2.1, ⟨hk.1.2.2.1, ⟨hk.2, ⟨hk.1.2.2.2.1, ⟨hk.1.2.2.2.2.1, hk.1.2.2.2.2.2⟩⟩⟩⟩⟩⟩)))
          replace HX32 := aM (show Kd.N (Kd.slice 46 k46) 23 _ w.heap.size (fun k_ => (w.heap.size ≤ k_) ∧ some k_ ≠ (uD : Value).ownBlock ∧ some k_ ≠ (.slice Ao17 tF.length co17 : Value).ownBlock ∧ k_ ≠ gbA ∧ k_ ≠ gbB ∧ k_ ≠ gbC) (.slice (some ⟨go25, 0, none⟩) xE_1.length co25) xE_1 from Kd.N_mono HX32.o (fun k_ hk => ⟨hk.1, ⟨hk.2.1, ⟨hk.2.2.1, ⟨hk.2.2.2.2.1, ⟨hk.2.2.2.2.2.1, hk.2.2.2.2.2.2⟩⟩⟩⟩⟩))
          obtain ⟨ce32, hcl32, hM32, hcc32, hfr32⟩ := Kd.N_elem HX32.o [] (x7_1 : Int) (zD) (by have h_ : (x7_1 : Int) < ((xE_1.length : Int) : Int) := zD; first | exact h_ | (have e_ := (Kd.N_reads' HO_E.o).1; omega) | simpa using h_)
          obtain ⟨ua32_0, uc32_0, rfl, ul32_0, ge32_0⟩ := Kd.FK_slice_open hM32
          obtain ⟨AvL, cvL, ev_⟩ := Kd.R_slice HOA9.o
          subst ev_
          have HEHP32_ := (Kd.R_types (Kd.R_types (Kd.R_types (Kd.R_apart' (Kd.R_apart' (HOA9.o) (Kd.N_typed HO_D.o) (by decide)) (Kd.N_typed HO_E.o) (by decide)) BKA.o (by decide)) BKB.o (by decide)) BKC.o (by decide))
          have HRHP32_ := Kd.R_mono (ok' := (fun k_ => ((fun k_ => (w.heap.size ≤ k_) ∧ some k_ ≠ (uD : Value).ownBlock ∧ some k_ ≠ (.slice Ao17 tF.length co17 : Value).ownBlock ∧ k_ ≠ gbA ∧ k_ ≠ gbB ∧ k_ ≠ gbC)) k_ ∧ k_ ≠ go25)) HEHP32_ (fun k_ hk => ⟨⟨hk.1.1.1.1.1.1.1, ⟨hk.1.1.1.1.2, ⟨hk.1.1.1.1.1.2, ⟨hk.1.1.2, ⟨hk.1.2, hk.2⟩⟩⟩⟩⟩, fun e_ => (hk.1.1.1.2) (by rw [e_]; rfl)⟩)
          have HP32 := (Kd.N_seg HX32.o (x7_1 : Int) (zD) (by have h_ : (x7_1 : Int) < ((xE_1.length : Int) : Int) := zD; first | exact h_ | (have e_ := (Kd.N_reads' HO_E.o).1; omega) | simpa using h_) (seg := [(.slice AvL tO.length cvL)]) (j := 0) hcl32 hcc32 (show 1 ≤ 1 from by decide) (x' := tO) (fk10_of HRHP32_) (fun _ hk => hk)).1
          (try simp only [show ((Kd.slice 46 k46)).sz = 1 from rfl, Nat.mul_one, Nat.add_zero] at HP32)
          rw [← NyV.o] at HP32
          have HQ32 := aM HP32
          clear hcl32 hcc32 hfr32 HP32; (try clear hM32)
          refine hK.out _ _ ⟨(bC BKC.o 0).trans rfl, (bC BKC.o 1).trans rfl, (bC BKC.o 2).trans rfl, (bC BKC.o 3).trans rfl, (bC BKA.o 0).trans rfl, (bC BKA.o 1).trans rfl, (bC BKA.o 2).trans rfl, (bC BKA.o 3).trans rfl, (zh HB.o hwG_0)⟩ fun hHeld => ?_; clear hK K
          refine nZ 27 ?_
          refine pY 10 28 (fB 12 2047) HT_.o ?_
          refine last_ (i := 11) (N := none) #[true, true, true, true, true, true, true, true, true, true, true, true] rfl rfl (one_of HT_.o (by kernel_rfl)) (by decide) (fun K hK => ?_)
          refine skip_ (w1 := ?_) (by rfl) rfl ?_ ?_
          rotate_left
          ·go_simp
           rfl
          refine hK.out _ _ ?_
          clear hK K
          refine done_ (done_of HT_.o (by kernel_rfl)) ?_
          try go_wp2
          have n0_ : Aside0 (Kd.N (Kd.slice 46 k46) 23 (w31.setCell ⟨go25, (x7_1 : Int).toNat, none⟩ ((.slice AvL tO.length cvL))) w.heap.size (fun k_ => (w.heap.size ≤ k_) ∧ some k_ ≠ (uD : Value).ownBlock ∧ some k_ ≠ (.slice Ao17 tF.length co17 : Value).ownBlock ∧ k_ ≠ gbA ∧ k_ ≠ gbB ∧ k_ ≠ gbC) (.slice (some ⟨go25, 0, none⟩) xE_1.length co25) yV) := ⟨by refine zX ?_; exact HQ32.o⟩
          have n1_ : Aside0 (Kd.N (Kd.slice 46 k46) 23 (w31.setCell ⟨go25, (x7_1 : Int).toNat, none⟩ ((.slice AvL tO.length cvL))) w.heap.size (fun k_ => (w.heap.size ≤ k_) ∧ some k_ ≠ (.slice (some ⟨go25, 0, none⟩) xE_1.length co25 : Value).ownBlock ∧ some k_ ≠ (.slice Ao17 tF.length co17 : Value).ownBlock ∧ k_ ≠ gbA ∧ k_ ≠ gbB ∧ k_ ≠ gbC) uD xD_1) := ⟨by refine zX ?_; exact Kd.N_mono (Kd.N_far (p := ⟨go25, (x7_1 : Int).toNat, none⟩) (Kd.N_mono HO_D.o (fun k_ hk => (⟨hk, fun e_ => hk.1.2.1 (by rw [e_]; rfl)⟩ : _ ∧ k_ ≠ go25))) (fun _ hk => hk.2) ((.slice AvL tO.length cvL))) (fun _ hk => ⟨hk.1.1.1, ⟨hk.1.1.2.1, ⟨hk.1.1.2.2.1, ⟨hk.1.1.2.2.2.1, ⟨hk.1.1.2.2.2.2.1, hk.1.1.2.2.2.2.2⟩⟩⟩⟩⟩)⟩
          have n2_ : Aside0 (Kd.R k46 46 (w31.setCell ⟨go25, (x7_1 : Int).toNat, none⟩ ((.slice AvL tO.length cvL))) w.heap.size (fun k_ => (w.heap.size ≤ k_)) (.slice Ao17 tF.length co17) tF) := ⟨by refine zR ?_; exact Kd.R_mono (Kd.R_far (p := ⟨go25, (x7_1 : Int).toNat, none⟩) (Kd.R_types HO_J.o GG25.o (by decide)) (fun _ hk => hk.2) ((.slice AvL tO.length cvL))) (fun _ hk => hk.1.1)⟩
          have n3_ : Aside0 ((w31.setCell ⟨go25, (x7_1 : Int).toNat, none⟩ ((.slice AvL tO.length cvL))).heap[gbA]? = some (.cells #[.int .i64 a0_0, .slice (some adG) l0_1.length c0_1, .slice A0_2 l0_2.length c0_2, .slice A0_3 l0_3.length c0_3] 25 (0, 0))) := ⟨by refine zB ?_; refine blk_far ?_ (by have h_ := Kd.N_away HO_E.o (fun k_ hk => (show k_ ≠ gbA from by first | exact hk.2.2.2.1 | exact hk.1.2.2.2.1 | (obtain ⟨⟨⟨a1_, a2_, a3_, a4_, a5_⟩, a6_⟩, a7_⟩ := hk; assumption))); intro e_; exact h_ (by rw [e_]; rfl)) _; exact zB BKA.o⟩
          have n4_ : Aside0 ((w31.setCell ⟨go25, (x7_1 : Int).toNat, none⟩ ((.slice AvL tO.length cvL))).heap[gbB]? = some (.cells #[.int .i64 0, .slice none 0 0, .slice none 0 0, .slice none 0 0] 25 (0, 0))) := ⟨by refine zB ?_; refine blk_far ?_ (by have h_ := Kd.N_away HO_E.o (fun k_ hk => (show k_ ≠ gbB from by first | exact hk.2.2.2.2.1 | exact hk.1.2.2.2.2.1 | (obtain ⟨⟨⟨a1_, a2_, a3_, a4_, a5_⟩, a6_⟩, a7_⟩ := hk; assumption))); intro e_; exact h_ (by rw [e_]; rfl)) _; exact zB BKB.o⟩
          have n5_ : Aside0 ((w31.setCell ⟨go25, (x7_1 : Int).toNat, none⟩ ((.slice AvL tO.length cvL))).heap[gbC]? = some (.cells #[.int .i64 tH, .slice (some ⟨go25, 0, none⟩) xE_1.length co25, uD, .slice Ao17 tF.length co17] 25 (0, 0))) := ⟨by refine zB ?_; refine blk_far ?_ (by have h_ := Kd.N_away HO_E.o (fun k_ hk => (show k_ ≠ gbC from by first | exact hk.2.2.2.2.2 | exact hk.1.2.2.2.2.2 | (obtain ⟨⟨⟨a1_, a2_, a3_, a4_, a5_⟩, a6_⟩, a7_⟩ := hk; assumption))); intro e_; exact h_ (by rw [e_]; rfl)) _; exact zB BKC.o⟩
          have n6_ : Aside0 (Below w.heap.size w (w31.setCell ⟨go25, (x7_1 : Int).toNat, none⟩ ((.slice AvL tO.length cvL)))) := ⟨by repeat (first | (with_reducible first | exact HB.o | apply below_alloc | apply pw_below_drewN | apply below_drew1 | refine bS ?_ GB25.o | refine bS ?_ GEA.o | refine bS ?_ GEB.o | refine bS ?_ GEC.o) | exact HB.o)⟩
          (try clear HO_E)
          (try clear HO_D)
          (try clear HO_J)
          (try clear BKA)
          (try clear BKB)
          (try clear BKC)
          (try clear HB)
          generalize (w31.setCell ⟨go25, (x7_1 : Int).toNat, none⟩ ((.slice AvL tO.length cvL))) = w33 at n0_ n1_ n2_ n3_ n4_ n5_ n6_ ⊢
          have HO_E := n0_
          have HO_D := n1_
          have HO_J := n2_
          have BKA := n3_
          have BKB := n4_
          have BKC := n5_
          have HB := n6_
          clear n0_ n1_ n2_ n3_ n4_ n5_ n6_
          replace HO_E := zXD HO_E; replace HO_D := zXD HO_D; replace HO_J := zRD HO_J; replace BKA := zBD BKA; replace BKB := zBD BKB; replace BKC := zBD BKC; replace HB := zLD HB
          have pI : 0 ≤ (x7_1 : Int) := zD
          have qI : x7_1 < (l0_2.length : Int) := zD
          obtain ⟨adI, AI_0, cI_0, eI, hxI_0, hlI_0, hiI_0⟩ := at_L2 HR0_2.o x7_1 pI qI
          have hwI_0 := hxI_0
          cases eI
          replace hxI_0 := zh HB.o hxI_0
          have HRI_0 := aM hiI_0
          have HCI_0 := aM hlI_0
          clear hiI_0 hlI_0
          replace pI := eq_true pI
          replace qI := eq_true qI
          refine start_ (n := 12) (S := fun w' => w'.cell? ⟨gbC, 0, none⟩ = some (.int .i64 tH) ∧ w'.cell? ⟨gbC, 1, none⟩ = some (.slice (some ⟨go25, 0, none⟩) xE_1.length co25) ∧ w'.cell? ⟨gbC, 2, none⟩ = some (uD) ∧ w'.cell? ⟨gbC, 3, none⟩ = some (.slice Ao17 tF.length co17) ∧ w'.cell? ⟨gbA, 0, none⟩ = some (.int .i64 a0_0) ∧ w'.cell? ⟨gbA, 1, none⟩ = some (.slice (some adG) l0_1.length c0_1) ∧ w'.cell? ⟨gbA, 2, none⟩ = some (.slice (some adI) l0_2.length c0_2) ∧ w'.cell? ⟨gbA, 3, none⟩ = some (.slice A0_3 l0_3.length c0_3) ∧ w'.cell? (adI.add (x7_1).toNat) = some (.slice AI_0 (rd_L2 l0_2 x7_1).length cI_0)) (ds := [11]) (fB 12 0) (by kernel_rfl) rfl rfl ⟨(bC BKC.o 0).trans rfl, (bC BKC.o 1).trans rfl, (bC BKC.o 2).trans rfl, (bC BKC.o 3).trans rfl, (bC BKA.o 0).trans rfl, (bC BKA.o 1).trans rfl, (bC BKA.o 2).trans rfl, (bC BKA.o 3).trans rfl, (zh HB.o hwI_0)⟩ (fun hHeld => ?_); refine with_tabW spec_Cancel.tab8 spec_Cancel.bits8 (fun HT_ HW_ => ?_)
          generalize w33.drew = w34 at HO_E HO_D HO_J BKA BKB BKC HB HQ32 HRI_0 hxI_0 hHeld ⊢
          refine pY 0 29 (fB 12 1) HT_.o ?_
          refine pY 2 31 (fB 12 5) HT_.o ?_
          refine pY 3 32 (fB 12 13) HT_.o ?_
          refine pY 5 34 (fB 12 45) HT_.o ?_
          refine pY 8 37 (fB 12 301) HT_.o ?_
          refine tY 1 30 (fB 12 303) HT_.o HW_.o hHeld ?_
          refine tY 4 33 (fB 12 319) HT_.o HW_.o hHeld ?_
          refine pY 6 35 (fB 12 383) HT_.o ?_
          refine tY 7 36 (fB 12 511) HT_.o HW_.o hHeld ?_
          refine oN 9 38 (fB 12 1023) HT_.o fun K hK => ?_
          refine gS Try.func76 #[.slice AI_0 (rd_L2 l0_2 x7_1).length cI_0, .int .i64 a1] ?_
          with_reducible refine (spec_l8Without.calls k1 _ _ (rd_L2 l0_2 x7_1) a1 tU _ ?side1 ?side2 A27.o).mono ?_
          (case side1 => exact zC (Kd.C_below HRI_0.o HB.o))
          (case side2 => exact HCI_0.o)
          rintro e w35 ⟨vT, rfl, ho0, hb⟩
          refine ⟨_, rfl, ?_⟩
          replace HO_E := aM (Kd.N_elder' (zX HO_E.o) (Kd.R_base ho0) hb); replace HO_D := aM (Kd.N_elder' (zX HO_D.o) (Kd.R_base ho0) hb); have HOB0 := aM (Kd.R_lower (Kd.R_new' (Kd.R_newM (M := fun k_ => (w.heap.size ≤ k_)) ho0 (below_size (zL3 HB.o GEA.o GEB.o GEC.o)) (fun k_ h_ => h_)) (Kd.R_lt (zR HO_J.o))) (below_size (zL3 HB.o GEA.o GEB.o GEC.o))); replace HO_J := aM (Kd.R_elder' (zR HO_J.o) (Kd.R_base ho0) hb); replace BKA := zBB BKA hb; replace BKB := zBB BKB hb; replace BKC := zBB BKC hb; replace HB := zLB (zL3 HB.o GEA.o GEB.o GEC.o) hb
          clear ho0 hb
          (try clear ho0)
          have p29 : 0 ≤ (x7_1 : Int) := zD
          have q29 : (x7_1 : Int) < ((xD_1.length : Int) : Int) := zD
          obtain ⟨go29, co29, eo29, gb29, gl29, cl29, HG29⟩ := Kd.N_form HO_D.o (by omega)
          (first | cases eo29 | (injection eo29 with ea_ en_ ec_; (first | subst ea_ | (injection ea_ with ea_; subst ea_)); subst ec_; clear en_))
          have GB29 := aM gb29
          have GG29 := aM HG29
          clear gb29 gl29 HG29
          obtain ⟨ce29, hcl29, hM29, hcc29, hfr29⟩ := Kd.N_elem HO_D.o [] (x7_1 : Int) p29 q29
          obtain ⟨ua29_0, uc29_0, rfl, ul29_0, ge29_0⟩ := Kd.FK_slice_open hM29
          have hx29_0 := hcc29 0 _ rfl
          have hf29_0 := hfr29 0
          (try simp only [show ((Kd.slice 46 k46)).sz = 1 from rfl, Nat.mul_one, Nat.add_zero] at hx29_0)
          (try simp only [show ((Kd.slice 46 k46)).sz = 1 from rfl, Nat.mul_one, Nat.add_zero] at hf29_0)
          clear hcl29 hcc29 hfr29; (try clear hM29)
          replace p29 := eq_true p29
          replace q29 := eq_true q29
          have HX36 := aM (show Kd.N (Kd.slice 46 k46) 23 _ w.heap.size (fun k_ => (w.heap.size ≤ k_) ∧ some k_ ≠ (.slice (some ⟨go25, 0, none⟩) xE_1.length co25 : Value).ownBlock ∧ some k_ ≠ (.slice Ao17 tF.length co17 : Value).ownBlock ∧ some k_ ≠ (vT : Value).ownBlock ∧ k_ ≠ gbA ∧ k_ ≠ gbB ∧ k_ ≠ gbC) (.slice (some ⟨go29, 0, none⟩) xD_1.length co29) xD_1 from (Kd.N_mono (HO_D.o) (fun k_ hk => ⟨hk.1.1, ⟨hk.1.2.1, ⟨hk.1.2.2.1, ⟨hk.2, ⟨hk.1.2.2.2.1, ⟨hk.1.2.2.2.2.1, hk.1.2.2.2.2.2⟩⟩⟩⟩⟩⟩)))
          replace HX36 := aM (show Kd.N (Kd.slice 46 k46) 23 _ w.heap.size (fun k_ => (w.heap.size ≤ k_) ∧ some k_ ≠ (.slice (some ⟨go25, 0, none⟩) xE_1.length co25 : Value).ownBlock ∧ some k_ ≠ (.slice Ao17 tF.length co17 : Value).ownBlock ∧ k_ ≠ gbA ∧ k_ ≠ gbB ∧ k_ ≠ gbC) (.slice (some ⟨go29, 0, none⟩) xD_1.length co29) xD_1 from Kd.N_mono HX36.o (fun k_ hk => ⟨hk.1, ⟨hk.2.1, ⟨hk.2.2.1, ⟨hk.2.2.2.2.1, ⟨hk.2.2.2.2.2.1, hk.2.2.2.2.2.2⟩⟩⟩⟩⟩))
          obtain ⟨ce36, hcl36, hM36, hcc36, hfr36⟩ := Kd.N_elem HX36.o [] (x7_1 : Int) (zD) (by have h_ : (x7_1 : Int) < ((xD_1.length : Int) : Int) := zD; first | exact h_ | (have e_ := (Kd.N_reads' HO_D.o).1; omega) | simpa using h_)
          obtain ⟨ua36_0, uc36_0, rfl, ul36_0, ge36_0⟩ := Kd.FK_slice_open hM36
          obtain ⟨AvT, cvT, ev_⟩ := Kd.R_slice HOB0.o
          subst ev_
          have HEHP36_ := (Kd.R_types (Kd.R_types (Kd.R_types (Kd.R_apart' (Kd.R_apart' (HOB0.o) (Kd.N_typed HO_E.o) (by decide)) (Kd.N_typed HO_D.o) (by decide)) BKA.o (by decide)) BKB.o (by decide)) BKC.o (by decide))
          have HRHP36_ := Kd.R_mono (ok' := (fun k_ => ((fun k_ => (w.heap.size ≤ k_) ∧ some k_ ≠ (.slice (some ⟨go25, 0, none⟩) xE_1.length co25 : Value).ownBlock ∧ some k_ ≠ (.slice Ao17 tF.length co17 : Value).ownBlock ∧ k_ ≠ gbA ∧ k_ ≠ gbB ∧ k_ ≠ gbC)) k_ ∧ k_ ≠ go29)) HEHP36_ (fun k_ hk => ⟨⟨hk.1.1.1.1.1.1.1, ⟨hk.1.1.1.1.2, ⟨hk.1.1.1.1.1.2, ⟨hk.1.1.2, ⟨hk.1.2, hk.2⟩⟩⟩⟩⟩, fun e_ => (hk.1.1.1.2) (by rw [e_]; rfl)⟩)
          have HP36 := (Kd.N_seg HX36.o (x7_1 : Int) (zD) (by have h_ : (x7_1 : Int) < ((xD_1.length : Int) : Int) := zD; first | exact h_ | (have e_ := (Kd.N_reads' HO_D.o).1; omega) | simpa using h_) (seg := [(.slice AvT tU.length cvT)]) (j := 0) hcl36 hcc36 (show 1 ≤ 1 from by decide) (x' := tU) (fk10_of HRHP36_) (fun _ hk => hk)).1
          (try simp only [show ((Kd.slice 46 k46)).sz = 1 from rfl, Nat.mul_one, Nat.add_zero] at HP36)
          rw [← NyW.o] at HP36
          have HQ36 := aM HP36
          clear hcl36 hcc36 hfr36 HP36; (try clear hM36)
          refine hK.out _ _ ⟨(bC BKC.o 0).trans rfl, (bC BKC.o 1).trans rfl, (bC BKC.o 2).trans rfl, (bC BKC.o 3).trans rfl, (bC BKA.o 0).trans rfl, (bC BKA.o 1).trans rfl, (bC BKA.o 2).trans rfl, (bC BKA.o 3).trans rfl, (zh HB.o hwI_0)⟩ fun hHeld => ?_; clear hK K
          refine nZ 38 ?_
          refine pY 10 39 (fB 12 2047) HT_.o ?_
          refine last_ (i := 11) (N := none) #[true, true, true, true, true, true, true, true, true, true, true, true] rfl rfl (one_of HT_.o (by kernel_rfl)) (by decide) (fun K hK => ?_)
          refine skip_ (w1 := ?_) (by rfl) rfl ?_ ?_
          rotate_left
          ·go_simp
           rfl
          refine hK.out _ _ ?_
          clear hK K
          refine done_ (done_of HT_.o (by kernel_rfl)) ?_
          try go_wp2
          go_roundg k1
          case measure => have := HK1.o; omega
          case rel => exact ⟨(wrap64 (x7_1 + 1)), (yV), (yW), (.slice (some ⟨go25, 0, none⟩) xE_1.length co25), (.slice (some ⟨go29, 0, none⟩) xD_1.length co29), zV, H', ⟨by have := HK1.o; omega⟩, ⟨by refine zX ?_; exact Kd.N_mono (Kd.N_far (p := ⟨go29, (x7_1 : Int).toNat, none⟩) (Kd.N_mono HO_E.o (fun k_ hk => (⟨hk, fun e_ => hk.1.2.1 (by rw [e_]; rfl)⟩ : _ ∧ k_ ≠ go29))) (fun _ hk => hk.2) ((.slice AvT tU.length cvT))) (fun _ hk => ⟨hk.1.1.1, ⟨hk.1.1.2.1, ⟨hk.1.1.2.2.1, ⟨hk.1.1.2.2.2.1, ⟨hk.1.1.2.2.2.2.1, hk.1.1.2.2.2.2.2⟩⟩⟩⟩⟩)⟩, ⟨by refine zX ?_; exact HQ36.o⟩, ⟨by refine zR ?_; exact Kd.R_mono (Kd.R_far (p := ⟨go29, (x7_1 : Int).toNat, none⟩) (Kd.R_types HO_J.o GG29.o (by decide)) (fun _ hk => hk.2) ((.slice AvT tU.length cvT))) (fun _ hk => hk.1.1)⟩, ⟨by refine zB ?_; refine blk_far ?_ (by have h_ := Kd.N_away HO_D.o (fun _ hk => by first | exact hk.2.2.2.1 | exact hk.1.2.2.2.1 | (obtain ⟨⟨⟨a1_, a2_, a3_, a4_, a5_⟩, a6_⟩, a7_⟩ := hk; assumption)); intro e_; exact h_ (by rw [e_]; rfl)) _; exact zB BKA.o⟩, ⟨by refine zB ?_; refine blk_far ?_ (by have h_ := Kd.N_away HO_D.o (fun _ hk => by first | exact hk.2.2.2.2.1 | exact hk.1.2.2.2.2.1 | (obtain ⟨⟨⟨a1_, a2_, a3_, a4_, a5_⟩, a6_⟩, a7_⟩ := hk; assumption)); intro e_; exact h_ (by rw [e_]; rfl)) _; exact zB BKB.o⟩, ⟨by refine zB ?_; refine blk_far ?_ (by have h_ := Kd.N_away HO_D.o (fun _ hk => by first | exact hk.2.2.2.2.2 | exact hk.1.2.2.2.2.2 | (obtain ⟨⟨⟨a1_, a2_, a3_, a4_, a5_⟩, a6_⟩, a7_⟩ := hk; assumption)); intro e_; exact h_ (by rw [e_]; rfl)) _; exact zB BKC.o⟩, ⟨by repeat (first | (with_reducible first | exact HB.o | apply below_alloc | apply pw_below_drewN | apply below_drew1 | refine bS ?_ GB29.o | refine bS ?_ GEA.o | refine bS ?_ GEB.o | refine bS ?_ GEC.o) | exact HB.o)⟩⟩
         ·rw [if_neg c28] at H
          exact absurd H (by simp)
        ·rw [if_neg c26] at H
         exact absurd H (by simp)
       ·rw [if_neg c24] at H
        exact absurd H (by simp)
      ·rw [if_neg c22] at H
       exact absurd H (by simp)
     ·rw [if_neg c21] at H
      exact absurd H (by simp)
    ·rw [if_neg c20] at H
     have c20b0 := dF c20
     clear c20
     obtain ⟨tK, A37, H⟩ := zO H; try dsimp only at H
     obtain ⟨tA3, A38, H⟩ := zO H; try dsimp only at H
     obtain ⟨tA4, A39, H⟩ := zO H; try dsimp only at H
     simp only [Option.some.injEq, Prod.mk.injEq] at H
     obtain ⟨rfl, rfl, rfl, rfl, rfl⟩ := H
     have hnb40 := NBA_B.o
     have hnc40 := NBB_A.o
     have hnb41 := NBA_C.o
     have hnc41 := NBC_A.o
     have hcz42 := zc4 BKA.o
     have hfz42 := zf4 BKA.o
     try go_wp2_with (first | ((with_reducible refine gC 76 rfl ?_); refine gL 43 Try.func76 #[.slice A0_3 l0_3.length c0_3, .int .i64 a1] ?_; (with_reducible refine (spec_l8Without.calls k1 _ _ l0_3 a1 tK _ ?side1 ?side2 A37.o).mono ?_); (case side1 => exact zC (Kd.C_below HR0_3.o HB.o)); (case side2 => exact HC0_3.o); rintro e w43 ⟨vB2, rfl, ho0, hb⟩; refine ⟨_, rfl, ?_⟩; replace HO_E := aM (Kd.N_elder' (zX HO_E.o) (Kd.R_base ho0) hb); replace HO_D := aM (Kd.N_elder' (zX HO_D.o) (Kd.R_base ho0) hb); have HOP := aM (Kd.R_lower (Kd.R_new' (Kd.R_newM (M := fun k_ => (w.heap.size ≤ k_)) ho0 (below_size (zL3 HB.o GEA.o GEB.o GEC.o)) (fun k_ h_ => h_)) (Kd.R_lt (zR HO_J.o))) (below_size (zL3 HB.o GEA.o GEB.o GEC.o))); replace HO_J := aM (Kd.R_elder' (zR HO_J.o) (Kd.R_base ho0) hb); replace BKA := zBB BKA hb; replace BKB := zBB BKB hb; replace BKC := zBB BKC hb; replace HB := zLB (zL3 HB.o GEA.o GEB.o GEC.o) hb; clear ho0 hb; obtain ⟨Ao44, co44, eo44⟩ := Kd.R_slice HOP.o; subst eo44; have hnb45 := NBC_B.o; have hnc45 := NBB_C.o; have hcz46 := zc4 BKC.o; have hfz46 := zf4 BKC.o))
     have n0_ : Aside0 (Kd.N (Kd.slice 46 k46) 23 (w43.setCell ⟨gbC, 3, none⟩ (.slice Ao44 tK.length co44)) w.heap.size (fun k_ => (w.heap.size ≤ k_) ∧ some k_ ≠ (uD : Value).ownBlock ∧ some k_ ≠ (.slice Ao17 tF.length co17 : Value).ownBlock ∧ some k_ ≠ (.slice Ao44 tK.length co44 : Value).ownBlock ∧ k_ ≠ gbA ∧ k_ ≠ gbB ∧ k_ ≠ gbC) uE xE_1) := ⟨by refine zX ?_; exact Kd.N_mono (Kd.N_far (p := ⟨gbC, 3, none⟩) (Kd.N_mono HO_E.o (fun k_ hk => (⟨hk, hk.1.2.2.2.2.2⟩ : _ ∧ k_ ≠ gbC))) (fun _ hk => hk.2) (.slice Ao44 tK.length co44)) (fun _ hk => ⟨hk.1.1.1, ⟨hk.1.1.2.1, ⟨hk.1.1.2.2.1, ⟨hk.1.2, ⟨hk.1.1.2.2.2.1, ⟨hk.1.1.2.2.2.2.1, hk.1.1.2.2.2.2.2⟩⟩⟩⟩⟩⟩)⟩
     have n1_ : Aside0 (Kd.N (Kd.slice 46 k46) 23 (w43.setCell ⟨gbC, 3, none⟩ (.slice Ao44 tK.length co44)) w.heap.size (fun k_ => (w.heap.size ≤ k_) ∧ some k_ ≠ (uE : Value).ownBlock ∧ some k_ ≠ (.slice Ao17 tF.length co17 : Value).ownBlock ∧ some k_ ≠ (.slice Ao44 tK.length co44 : Value).ownBlock ∧ k_ ≠ gbA ∧ k_ ≠ gbB ∧ k_ ≠ gbC) uD xD_1) := ⟨by refine zX ?_; exact Kd.N_mono (Kd.N_far (p := ⟨gbC, 3, none⟩) (Kd.N_mono HO_D.o (fun k_ hk => (⟨hk, hk.1.2.2.2.2.2⟩ : _ ∧ k_ ≠ gbC))) (fun _ hk => hk.2) (.slice Ao44 tK.length co44)) (fun _ hk => ⟨hk.1.1.1, ⟨hk.1.1.2.1, ⟨hk.1.1.2.2.1, ⟨hk.1.2, ⟨hk.1.1.2.2.2.1, ⟨hk.1.1.2.2.2.2.1, hk.1.1.2.2.2.2.2⟩⟩⟩⟩⟩⟩)⟩
     have n2_ : Aside0 (Kd.R k46 46 (w43.setCell ⟨gbC, 3, none⟩ (.slice Ao44 tK.length co44)) w.heap.size (fun k_ => (w.heap.size ≤ k_) ∧ some k_ ≠ (.slice Ao44 tK.length co44 : Value).ownBlock) (.slice Ao17 tF.length co17) tF) := ⟨by refine zR ?_; exact Kd.R_mono (Kd.R_far (p := ⟨gbC, 3, none⟩) (Kd.R_types HO_J.o BKC.o (by decide)) (fun _ hk => hk.2) (.slice Ao44 tK.length co44)) (fun _ hk => ⟨hk.1.1, hk.1.2⟩)⟩
     have n3_ : Aside0 (Kd.R k46 46 (w43.setCell ⟨gbC, 3, none⟩ (.slice Ao44 tK.length co44)) w.heap.size (fun k_ => (w.heap.size ≤ k_) ∧ some k_ ≠ (.slice Ao17 tF.length co17 : Value).ownBlock) (.slice Ao44 tK.length co44) tK) := ⟨by refine zR ?_; exact Kd.R_mono (Kd.R_far (p := ⟨gbC, 3, none⟩) (Kd.R_types HOP.o BKC.o (by decide)) (fun _ hk => hk.2) (.slice Ao44 tK.length co44)) (fun _ hk => ⟨hk.1.1.1, hk.1.2⟩)⟩
     have n4_ : Aside0 ((w43.setCell ⟨gbC, 3, none⟩ (.slice Ao44 tK.length co44)).heap[gbA]? = some (.cells #[.int .i64 a0_0, .slice A0_1 l0_1.length c0_1, .slice A0_2 l0_2.length c0_2, .slice A0_3 l0_3.length c0_3] 25 (0, 0))) := ⟨by refine zB ?_; refine blk_far ?_ NBA_C.o _; exact zB BKA.o⟩
     have n5_ : Aside0 ((w43.setCell ⟨gbC, 3, none⟩ (.slice Ao44 tK.length co44)).heap[gbB]? = some (.cells #[.int .i64 0, .slice none 0 0, .slice none 0 0, .slice none 0 0] 25 (0, 0))) := ⟨by refine zB ?_; refine blk_far ?_ NBB_C.o _; exact zB BKB.o⟩
     have n6_ : Aside0 ((w43.setCell ⟨gbC, 3, none⟩ (.slice Ao44 tK.length co44)).heap[gbC]? = some (.cells #[.int .i64 tH, uE, uD, .slice Ao44 tK.length co44] 25 (0, 0))) := ⟨by refine zB ?_; refine blk_put (cs := #[.int .i64 tH, uE, uD, .slice Ao17 tF.length co17]) ?_ 3 _ rfl; exact zB BKC.o⟩
     have n7_ : Aside0 (Below w.heap.size w (w43.setCell ⟨gbC, 3, none⟩ (.slice Ao44 tK.length co44))) := ⟨zL3 HB.o GEA.o GEB.o GEC.o⟩
     (try clear HO_E)
     (try clear HO_D)
     (try clear HO_J)
     (try clear HOP)
     (try clear BKA)
     (try clear BKB)
     (try clear BKC)
     (try clear HB)
     generalize (w43.setCell ⟨gbC, 3, none⟩ (.slice Ao44 tK.length co44)) = w47 at n0_ n1_ n2_ n3_ n4_ n5_ n6_ n7_ ⊢
     have HO_E := n0_
     have HO_D := n1_
     have HO_J := n2_
     have HOP := n3_
     have BKA := n4_
     have BKB := n5_
     have BKC := n6_
     have HB := n7_
     clear n0_ n1_ n2_ n3_ n4_ n5_ n6_ n7_
     replace HO_E := zXD HO_E; replace HO_D := zXD HO_D; replace HO_J := zRD HO_J; replace HOP := zRD HOP; replace BKA := zBD BKA; replace BKB := zBD BKB; replace BKC := zBD BKC; replace HB := zLD HB
     obtain ⟨Ao49, co49, eo49⟩ := Kd.N_slice HO_E.o
     (first | subst eo49 | (injection eo49 with f1_ f2_ f3_; have f4_ := f1_.symm; have f5_ := f3_.symm; clear f1_ f2_ f3_; subst f4_; subst f5_))
     obtain ⟨Ao50, co50, eo50⟩ := Kd.N_slice HO_D.o
     (first | subst eo50 | (injection eo50 with f1_ f2_ f3_; have f4_ := f1_.symm; have f5_ := f3_.symm; clear f1_ f2_ f3_; subst f4_; subst f5_))
     refine start_ (n := 10) (S := fun w' => zt4 w' gbC (.int .i64 tH) (.slice Ao49 xE_1.length co49) (.slice Ao50 xD_1.length co50) (.slice Ao44 tK.length co44) (zs4 w' gbA (.int .i64 a0_0) (.slice A0_1 l0_1.length c0_1) (.slice A0_2 l0_2.length c0_2) (.slice A0_3 l0_3.length c0_3))) (ds := []) (fB 10 0) (by kernel_rfl) rfl rfl (zk4 BKC.o (zc4 BKA.o)) (fun hHeld => ?_); refine with_tabW spec_Cancel.tab10 spec_Cancel.bits10 (fun HT_ HW_ => ?_)
     generalize w47.drew = w48 at HO_E HO_D HO_J HOP BKA BKB BKC HB hHeld ⊢
     refine tY 0 45 (fB 10 1) HT_.o HW_.o hHeld ?_
     refine tY 1 46 (fB 10 3) HT_.o HW_.o hHeld ?_
     refine tY 4 49 (fB 10 19) HT_.o HW_.o hHeld ?_
     refine oN 2 47 (fB 10 23) HT_.o fun K hK => ?_
     refine gS Try.func24 #[.agg #[.int .i64 tH, .slice Ao49 xE_1.length co49, .slice Ao50 xD_1.length co50, .slice Ao44 tK.length co44]] ?_
     with_reducible refine (spec_Timers.calls k1 tH _ _ xE_1 _ _ xD_1 _ _ tK tA3 _ ?side1 ?side2 ?side3 ?side4 ?side5 ?side6 A38.o).mono ?_
     (case side1 => exact zC (Kd.N_reads' HO_E.o).2.2)
     (case side2 => exact (Kd.N_reads' HO_E.o).2.1)
     (case side3 => exact zC (Kd.N_reads' HO_D.o).2.2)
     (case side4 => exact (Kd.N_reads' HO_D.o).2.1)
     (case side5 => exact zC (Kd.R_reads' HOP.o).2.2)
     (case side6 => exact (Kd.R_reads' HOP.o).2.1)
     rintro e w51 ⟨vB3, rfl, ho0, hb⟩
     refine ⟨_, rfl, ?_⟩
     replace HO_E := aM (Kd.N_elder' (zX HO_E.o) (Kd.R_base ho0) hb); replace HO_D := aM (Kd.N_elder' (zX HO_D.o) (Kd.R_base ho0) hb); have HOA0 := aM (Kd.R_lower (Kd.R_new' (Kd.R_new' (Kd.R_newM (M := fun k_ => (w.heap.size ≤ k_)) ho0 (below_size (zL3 HB.o GEA.o GEB.o GEC.o)) (fun k_ h_ => h_)) (Kd.R_lt (zR HO_J.o))) (Kd.R_lt (zR HOP.o))) (below_size (zL3 HB.o GEA.o GEB.o GEC.o))); replace HO_J := aM (Kd.R_elder' (zR HO_J.o) (Kd.R_base ho0) hb); replace HOP := aM (Kd.R_elder' (zR HOP.o) (Kd.R_base ho0) hb); replace BKA := zBB BKA hb; replace BKB := zBB BKB hb; replace BKC := zBB BKC hb; replace HB := zLB (zL3 HB.o GEA.o GEB.o GEC.o) hb
     clear ho0 hb
     (try clear ho0)
     obtain ⟨Ao52, co52, eo52⟩ := Kd.R_slice HOA0.o
     (first | subst eo52 | (injection eo52 with f1_ f2_ f3_; have f4_ := f1_.symm; have f5_ := f3_.symm; clear f1_ f2_ f3_; subst f4_; subst f5_))
     refine hK.out _ _ (zk4 BKC.o (zc4 BKA.o)) fun hHeld => ?_; clear hK K
     refine nZ 47 ?_
     refine pY 3 48 (fB 10 31) HT_.o ?_
     refine oN 5 50 (fB 10 63) HT_.o fun K hK => ?_
     refine gS Try.func24 #[.agg #[.int .i64 a0_0, .slice A0_1 l0_1.length c0_1, .slice A0_2 l0_2.length c0_2, .slice A0_3 l0_3.length c0_3]] ?_
     with_reducible refine (spec_Timers.calls k1 a0_0 _ _ l0_1 _ _ l0_2 _ _ l0_3 tA4 _ ?side1 ?side2 ?side3 ?side4 ?side5 ?side6 A39.o).mono ?_
     (case side1 => exact zC (Kd.C_below HR0_1.o HB.o))
     (case side2 => exact HC0_1.o)
     (case side3 => exact zC (Kd.C_below HR0_2.o HB.o))
     (case side4 => exact HC0_2.o)
     (case side5 => exact zC (Kd.C_below HR0_3.o HB.o))
     (case side6 => exact HC0_3.o)
     rintro e w53 ⟨vB4, rfl, ho0, hb⟩
     refine ⟨_, rfl, ?_⟩
     replace HO_E := aM (Kd.N_elder' (zX HO_E.o) (Kd.R_base ho0) hb); replace HO_D := aM (Kd.N_elder' (zX HO_D.o) (Kd.R_base ho0) hb); have HOB1 := aM (Kd.R_lower (Kd.R_new' (Kd.R_new' (Kd.R_new' (Kd.R_newM (M := fun k_ => (w.heap.size ≤ k_)) ho0 (below_size (zL3 HB.o GEA.o GEB.o GEC.o)) (fun k_ h_ => h_)) (Kd.R_lt (zR HO_J.o))) (Kd.R_lt (zR HOP.o))) (Kd.R_lt (zR HOA0.o))) (below_size (zL3 HB.o GEA.o GEB.o GEC.o))); replace HO_J := aM (Kd.R_elder' (zR HO_J.o) (Kd.R_base ho0) hb); replace HOP := aM (Kd.R_elder' (zR HOP.o) (Kd.R_base ho0) hb); replace HOA0 := aM (Kd.R_elder' (zR HOA0.o) (Kd.R_base ho0) hb); replace BKA := zBB BKA hb; replace BKB := zBB BKB hb; replace BKC := zBB BKC hb; replace HB := zLB (zL3 HB.o GEA.o GEB.o GEC.o) hb
     clear ho0 hb
     (try clear ho0)
     obtain ⟨Ao54, co54, eo54⟩ := Kd.R_slice HOB1.o
     (first | subst eo54 | (injection eo54 with f1_ f2_ f3_; have f4_ := f1_.symm; have f5_ := f3_.symm; clear f1_ f2_ f3_; subst f4_; subst f5_))
     refine hK.out _ _ (zk4 BKC.o (zc4 BKA.o)) fun hHeld => ?_; clear hK K
     refine nZ 50 ?_
     refine pY 6 51 (fB 10 127) HT_.o ?_
     refine pY 7 52 (fB 10 255) HT_.o ?_
     refine one_ (i := 8) (N := none) (fB 10 511) rfl rfl (one_of HT_.o (by kernel_rfl)) (by decide) (fun K hK => ?_)
     have hs55 : w53.cell? ⟨gbB, 0, none⟩ = some (.int .i64 0) := (bC BKB.o 0).trans rfl
     have hfs55 := blk_frozen BKB.o 0
     have hns55_0 := NBA_B.o
     have hns55_2 := NBC_B.o
     have hms55_0 := NBB_A.o
     have hms55_2 := NBB_C.o
     have hs56 : w53.cell? ⟨gbB, 1, none⟩ = some (.slice none 0 0) := (bC BKB.o 1).trans rfl
     have hfs56 := blk_frozen BKB.o 1
     have hns56_0 := NBA_B.o
     have hns56_2 := NBC_B.o
     have hms56_0 := NBB_A.o
     have hms56_2 := NBB_C.o
     have hs57 : w53.cell? ⟨gbB, 2, none⟩ = some (.slice none 0 0) := (bC BKB.o 2).trans rfl
     have hfs57 := blk_frozen BKB.o 2
     have hns57_0 := NBA_B.o
     have hns57_2 := NBC_B.o
     have hms57_0 := NBB_A.o
     have hms57_2 := NBB_C.o
     have hs58 : w53.cell? ⟨gbB, 3, none⟩ = some (.slice none 0 0) := (bC BKB.o 3).trans rfl
     have hfs58 := blk_frozen BKB.o 3
     have hns58_0 := NBA_B.o
     have hns58_2 := NBC_B.o
     have hms58_0 := NBB_A.o
     have hms58_2 := NBB_C.o
     refine skip_ (w1 := ?_) (by rfl) rfl ?_ ?_
     rotate_left
     ·go_simp
      rfl
     refine hK.out _ _ ⟨zcf4 NBC_B.o hHeld.1, zcf4 NBC_B.o hHeld.2.1, zcf4 NBC_B.o hHeld.2.2.1, zcf4 NBC_B.o hHeld.2.2.2.1, zcf4 NBA_B.o hHeld.2.2.2.2.1, zcf4 NBA_B.o hHeld.2.2.2.2.2.1, zcf4 NBA_B.o hHeld.2.2.2.2.2.2.1, zcf4 NBA_B.o hHeld.2.2.2.2.2.2.2⟩ fun hHeld => ?_; clear hK K
     refine pY 9 5 (fB 10 1023) HT_.o ?_
     refine done_ (done_of HT_.o (by kernel_rfl)) ?_
     try go_wp2
     refine bodyPost_ret (results_ct rfl _ _ gbB 25 #[.int .i64 tH, .slice Ao49 xE_1.length co49, .slice Ao50 xD_1.length co50, .slice Ao44 tK.length co44] (0, 0) _ rfl (by refine zB ?_; refine zp4 (cs := #[.int .i64 0, .slice none 0 0, .slice none 0 0, .slice none 0 0]) ?_; exact zB BKB.o) Try.underlying25 rfl (by kernel_rfl)) rfl ?_
     exact ⟨.slice Ao49 xE_1.length co49, .slice Ao50 xD_1.length co50, .slice Ao44 tK.length co44, (by first | rfl | (simp; done) | (go_simp; done)), by refine zX ?_; exact Kd.N_mono (zNF4 (Kd.N_mono HO_E.o (fun k_ hk => (⟨hk, hk.1.1.2.2.2.2.2.1⟩ : _ ∧ k_ ≠ gbB))) gbB (fun _ hk => hk.2) (.int .i64 tH) (.slice Ao49 xE_1.length co49) (.slice Ao50 xD_1.length co50) (.slice Ao44 tK.length co44)) (fun _ hk => ⟨hk.1.1.1.1, ⟨hk.1.1.1.2.1, hk.1.1.1.2.2.2.1⟩⟩), by refine zX ?_; exact Kd.N_mono (zNF4 (Kd.N_mono HO_D.o (fun k_ hk => (⟨hk, hk.1.1.2.2.2.2.2.1⟩ : _ ∧ k_ ≠ gbB))) gbB (fun _ hk => hk.2) (.int .i64 tH) (.slice Ao49 xE_1.length co49) (.slice Ao50 xD_1.length co50) (.slice Ao44 tK.length co44)) (fun _ hk => ⟨hk.1.1.1.1, ⟨hk.1.1.1.2.1, hk.1.1.1.2.2.2.1⟩⟩), by refine zR ?_; exact Kd.R_mono (zRF4 (Kd.R_types HOP.o BKB.o (by decide)) gbB (fun _ hk => hk.2) (.int .i64 tH) (.slice Ao49 xE_1.length co49) (.slice Ao50 xD_1.length co50) (.slice Ao44 tK.length co44)) (fun _ hk => hk.1.1.1.1), zL3 HB.o GEA.o GEB.o GEC.o⟩
 ·obtain rfl := Bool.eq_false_iff.mpr c5
  rw [if_neg zn] at H
  simp only [Option.some.injEq, Prod.mk.injEq] at H
  obtain ⟨rfl, rfl, rfl, rfl, rfl⟩ := H
  go_enter Try.func34, Try.ntmps34
  go_wp2_with (first | ((with_reducible refine gD 2 rfl ?_); refine bE 2 #[.int .i64 a0_0, .slice A0_1 l0_1.length c0_1, .slice A0_2 l0_2.length c0_2, .slice A0_3 l0_3.length c0_3] 25 ?_; intro gbA hg w59 hbox hb; have BKA := aM hbox; have GWA := aM (zg (zL HB.o) hg : w.heap.size ≤ gbA); have GEA := GWA; replace HB := zLB (zL HB.o) hb; clear hb hbox hg) | ((with_reducible refine gD 4 rfl ?_); refine bE 4 #[.int .i64 0, .slice none 0 0, .slice none 0 0, .slice none 0 0] 25 ?_; intro gbB hg w60 hbox hb; have BKB := aM hbox; have GWB := aM (zg (zL1 HB.o GEA.o) hg : w.heap.size ≤ gbB); have GEB := GWB; replace HB := zLB (zL1 HB.o GEA.o) hb; have NBA_B := aM (zN BKA.o hg : gbA ≠ gbB); have NBB_A := aM (zM BKA.o hg : gbB ≠ gbA); replace BKA := zBB BKA hb; clear hb hbox hg; have hnb61 := NBA_B.o; have hnc61 := NBB_A.o; have hcz62 := zc4 BKA.o; have hfz62 := zf4 BKA.o) | ((with_reducible refine gC 72 rfl ?_); refine gL 9 Try.func72 #[.agg #[.int .i64 a0_0, .slice A0_1 l0_1.length c0_1, .slice A0_2 l0_2.length c0_2, .slice A0_3 l0_3.length c0_3]] ?_; (with_reducible refine (spec_l8Copy.calls k a0_0 _ _ l0_1 _ _ l0_2 _ _ l0_3 tH tM tN tF _ ?side1 ?side2 ?side3 ?side4 ?side5 ?side6 A3.o).mono ?_); (case side1 => exact zC (Kd.C_below HR0_1.o HB.o)); (case side2 => exact HC0_1.o); (case side3 => exact zC (Kd.C_below HR0_2.o HB.o)); (case side4 => exact HC0_2.o); (case side5 => exact zC (Kd.C_below HR0_3.o HB.o)); (case side6 => exact HC0_3.o); rintro e w63 ⟨vA6, vA7, vX, rfl, ho0, ho1, ho2, hb⟩; refine ⟨_, rfl, ?_⟩; have HOQ := aM (Kd.N_lower (Kd.N_mono (ok' := fun k_ => (w.heap.size ≤ k_) ∧ some k_ ≠ (vA7 : Value).ownBlock ∧ some k_ ≠ (vX : Value).ownBlock ∧ k_ ≠ gbA ∧ k_ ≠ gbB) (Kd.S_N (Kd.S_bound ho0)) (fun k_ hk_ => ⟨(Nat.le_trans (below_size (zL2 HB.o GEA.o GEB.o)) hk_.2.1), hk_.1.1, hk_.1.2, (Kd.freshB (g := gbA) (o := .cells #[.int .i64 a0_0, .slice A0_1 l0_1.length c0_1, .slice A0_2 l0_2.length c0_2, .slice A0_3 l0_3.length c0_3] 25 (0, 0)) (zB BKA.o) k_ hk_.2.1), (Kd.freshB (g := gbB) (o := .cells #[.int .i64 0, .slice none 0 0, .slice none 0 0, .slice none 0 0] 25 (0, 0)) (zB BKB.o) k_ hk_.2.1)⟩)) (below_size (zL2 HB.o GEA.o GEB.o))); have HOR := aM (Kd.N_lower (Kd.N_mono (ok' := fun k_ => (w.heap.size ≤ k_) ∧ some k_ ≠ (vA6 : Value).ownBlock ∧ some k_ ≠ (vX : Value).ownBlock ∧ k_ ≠ gbA ∧ k_ ≠ gbB) (Kd.S_N (Kd.S_bound ho1)) (fun k_ hk_ => ⟨(Nat.le_trans (below_size (zL2 HB.o GEA.o GEB.o)) hk_.2.1), hk_.1.1, hk_.1.2, (Kd.freshB (g := gbA) (o := .cells #[.int .i64 a0_0, .slice A0_1 l0_1.length c0_1, .slice A0_2 l0_2.length c0_2, .slice A0_3 l0_3.length c0_3] 25 (0, 0)) (zB BKA.o) k_ hk_.2.1), (Kd.freshB (g := gbB) (o := .cells #[.int .i64 0, .slice none 0 0, .slice none 0 0, .slice none 0 0] 25 (0, 0)) (zB BKB.o) k_ hk_.2.1)⟩)) (below_size (zL2 HB.o GEA.o GEB.o))); have HOS := aM (Kd.R_lower (Kd.R_newM (M := fun k_ => (w.heap.size ≤ k_)) ho2 (below_size (zL2 HB.o GEA.o GEB.o)) (fun k_ h_ => h_)) (below_size (zL2 HB.o GEA.o GEB.o))); replace BKA := zBB BKA hb; replace BKB := zBB BKB hb; replace HB := zLB (zL2 HB.o GEA.o GEB.o) hb; clear ho0 hb; (try clear ho1); (try clear ho2)) | ((with_reducible refine gD 6 rfl ?_); refine bE 6 #[.int .i64 0, .slice none 0 0, .slice none 0 0, .slice none 0 0] 25 ?_; intro gbC hg w64 hbox hb; replace HOQ := aM (Kd.N_below (Kd.N_elderB (zX HOQ.o) gbC (Nat.le_of_eq hg.symm)) hb); replace HOR := aM (Kd.N_below (Kd.N_elderB (zX HOR.o) gbC (Nat.le_of_eq hg.symm)) hb); replace HOS := zRB HOS hb; have BKC := aM hbox; have GWC := aM (zg (zL2 HB.o GEA.o GEB.o) hg : w.heap.size ≤ gbC); have GEC := GWC; replace HB := zLB (zL2 HB.o GEA.o GEB.o) hb; have NBA_C := aM (zN BKA.o hg : gbA ≠ gbC); have NBC_A := aM (zM BKA.o hg : gbC ≠ gbA); replace BKA := zBB BKA hb; have NBB_C := aM (zN BKB.o hg : gbB ≠ gbC); have NBC_B := aM (zM BKB.o hg : gbC ≠ gbB); replace BKB := zBB BKB hb; clear hb hbox hg; have hnb65 := NBC_A.o; have hnc65 := NBA_C.o; have hnb66 := NBC_B.o; have hnc66 := NBB_C.o; have hcz67 := zc4 BKC.o; have hfz67 := zf4 BKC.o; obtain ⟨Ao68, co68, eo68⟩ := Kd.N_slice HOQ.o; subst eo68; obtain ⟨Ao69, co69, eo69⟩ := Kd.N_slice HOR.o; subst eo69; obtain ⟨Ao70, co70, eo70⟩ := Kd.R_slice HOS.o; subst eo70; have hcz71 := zc4 BKA.o; have hfz71 := zf4 BKA.o) | ((with_reducible refine gC 29 rfl ?_); refine gL 11 Try.func29 #[.agg #[.int .i64 a0_0, .slice A0_1 l0_1.length c0_1, .slice A0_2 l0_2.length c0_2, .slice A0_3 l0_3.length c0_3]] ?_; (with_reducible refine (spec_WheelOk.calls k a0_0 _ _ l0_1 _ _ l0_2 _ _ l0_3 false _ ?side1 ?side2 ?side3 ?side4 ?side5 ?side6 A4.o).mono ?_); (case side1 => exact Kd.C_below HR0_1.o (zL3 HB.o GEA.o GEB.o GEC.o)); (case side2 => exact HC0_1.o); (case side3 => exact Kd.C_below HR0_2.o (zL3 HB.o GEA.o GEB.o GEC.o)); (case side4 => exact HC0_2.o); (case side5 => exact Kd.C_below HR0_3.o (zL3 HB.o GEA.o GEB.o GEC.o)); (case side6 => exact HC0_3.o); rintro e w72 ⟨rfl, hb⟩; refine ⟨_, rfl, ?_⟩; replace HOQ := aM (Kd.N_below (by refine zX ?_; exact (Kd.N_mono (zNF4 (Kd.N_mono HOQ.o (fun k_ hk => (⟨hk, hk.2⟩ : _ ∧ k_ ≠ gbC))) gbC (fun _ hk => hk.2) (.int .i64 tH) (.slice Ao68 tM.length co68) (.slice Ao69 tN.length co69) (.slice Ao70 tF.length co70)) (fun _ h_ => h_.1))) hb); replace HOR := aM (Kd.N_below (by refine zX ?_; exact (Kd.N_mono (zNF4 (Kd.N_mono HOR.o (fun k_ hk => (⟨hk, hk.2⟩ : _ ∧ k_ ≠ gbC))) gbC (fun _ hk => hk.2) (.int .i64 tH) (.slice Ao68 tM.length co68) (.slice Ao69 tN.length co69) (.slice Ao70 tF.length co70)) (fun _ h_ => h_.1))) hb); replace HOS := aM (Kd.R_below (by refine zR ?_; exact (Kd.R_mono (zRF4 (Kd.R_types HOS.o BKC.o (by decide)) gbC (fun _ hk => hk.2) (.int .i64 tH) (.slice Ao68 tM.length co68) (.slice Ao69 tN.length co69) (.slice Ao70 tF.length co70)) (fun _ h_ => h_.1))) hb); replace BKA := aM (bB (g := gbA) (o := .cells #[.int .i64 a0_0, .slice A0_1 l0_1.length c0_1, .slice A0_2 l0_2.length c0_2, .slice A0_3 l0_3.length c0_3] 25 (0, 0)) (by refine zB ?_; refine zr4 ?_ NBA_C.o; exact zB BKA.o) hb); replace BKB := aM (bB (g := gbB) (o := .cells #[.int .i64 0, .slice none 0 0, .slice none 0 0, .slice none 0 0] 25 (0, 0)) (by refine zB ?_; refine zr4 ?_ NBB_C.o; exact zB BKB.o) hb); replace BKC := aM (bB (g := gbC) (o := .cells #[.int .i64 tH, .slice Ao68 tM.length co68, .slice Ao69 tN.length co69, .slice Ao70 tF.length co70] 25 (0, 0)) (by refine zB ?_; refine zp4 (cs := #[.int .i64 0, .slice none 0 0, .slice none 0 0, .slice none 0 0]) ?_; exact zB BKC.o) hb); replace HB := zLB (zL3 HB.o GEA.o GEB.o GEC.o) hb; clear hb; have hcz73 := zc4 BKC.o; have hfz73 := zf4 BKC.o; have hcz74 := zc4 BKB.o; have hfz74 := zf4 BKB.o))
  refine bodyPost_ret (results_ct rfl _ _ gbB 25 #[.int .i64 tH, .slice Ao68 tM.length co68, .slice Ao69 tN.length co69, .slice Ao70 tF.length co70] (0, 0) _ rfl (by refine zB ?_; refine zp4 (cs := #[.int .i64 0, .slice none 0 0, .slice none 0 0, .slice none 0 0]) ?_; exact zB BKB.o) Try.underlying25 rfl (by kernel_rfl)) rfl ?_
  exact ⟨.slice Ao68 tM.length co68, .slice Ao69 tN.length co69, .slice Ao70 tF.length co70, (by first | rfl | (simp; done) | (go_simp; done)), by refine zX ?_; exact Kd.N_mono (zNF4 (Kd.N_mono HOQ.o (fun k_ hk => (⟨hk, hk.1.2.2.2.2⟩ : _ ∧ k_ ≠ gbB))) gbB (fun _ hk => hk.2) (.int .i64 tH) (.slice Ao68 tM.length co68) (.slice Ao69 tN.length co69) (.slice Ao70 tF.length co70)) (fun _ hk => ⟨hk.1.1.1, ⟨hk.1.1.2.1, hk.1.1.2.2.1⟩⟩), by refine zX ?_; exact Kd.N_mono (zNF4 (Kd.N_mono HOR.o (fun k_ hk => (⟨hk, hk.1.2.2.2.2⟩ : _ ∧ k_ ≠ gbB))) gbB (fun _ hk => hk.2) (.int .i64 tH) (.slice Ao68 tM.length co68) (.slice Ao69 tN.length co69) (.slice Ao70 tF.length co70)) (fun _ hk => ⟨hk.1.1.1, ⟨hk.1.1.2.1, hk.1.1.2.2.1⟩⟩), by refine zR ?_; exact Kd.R_mono (zRF4 (Kd.R_types HOS.o BKB.o (by decide)) gbB (fun _ hk => hk.2) (.int .i64 tH) (.slice Ao68 tM.length co68) (.slice Ao69 tN.length co69) (.slice Ao70 tF.length co70)) (fun _ hk => hk.1.1), zL3 HB.o GEA.o GEB.o GEC.o⟩

-- NOT PRINTED: function 78 (impl_Timer_78)

end Go.Proofs.Ytggenhomnbnodaa.QFnWheels
