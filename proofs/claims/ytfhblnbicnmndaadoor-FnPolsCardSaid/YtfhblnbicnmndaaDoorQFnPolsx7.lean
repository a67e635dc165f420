/- What the Go functions that the law FnPols reaches answer: each as a Lean function, with its walk. Written by a program of this session. Conditions: those that each theorem names. -/
import Derived.Test.YtfhblnbicnmndaaDoorQFnPolsx0
import Derived.Test.YtfhblnbicnmndaaDoorQFnPolsx6
namespace Go.Proofs.YtfhblnbicnmndaaDoor.QFnPols
open Go.RowKit Go.Proofs.YtfhblnbicnmndaaDoorW.PrintWords Go.Proofs.YtfhblnbicnmndaaDoorW.PrintLast Go.Proofs.YtfhblnbicnmndaaDoorW.PrintMore
attribute [local go_sem] max2_int min2_int max_two min_two max_three min_three max_four min_four   -- for this text's walks alone
set_option linter.unusedVariables false
set_option linter.unusedSimpArgs false

open Go.Proofs.YtfhblnbicnmndaaDoorW.PrintWords renaming blk_drewN → bN, blk_drew → bD, blk_alloc → bA, blk_cell → bC, blk_below → bB, below_set → bS
/-! ### impl_SamePol: function 13 -/
def impl_SamePol.f : Nat → Int → Int → ByteArray → ByteArray → List (S26) → Int → Int → ByteArray → ByteArray → List (S26) → Option (Bool)
  | 0, _, _, _, _, _, _, _, _, _, _ => none
  | k + 1, a0_0, a0_1, a0_2, a0_3, l0_4, a1_0, a1_1, a1_2, a1_3, l1_4 => if a0_0 = a1_0 then (if a0_1 = a1_1 then (if a0_2.toList = a1_2.toList then (if a0_3.toList = a1_3.toList then ((impl_Pol_30.f (fun b0_ b1_ b2_ b3_ b4_ b5_ b6_ b7_ b8_ b9_ => impl_SamePol.f k b0_ b1_ b2_ b3_ b4_ b5_ b6_ b7_ b8_ b9_) k l0_4 l1_4).bind fun t453 => (some t453)) else (some false)) else (some false)) else (some false)) else (some false)
set_option maxHeartbeats 8000000 in
set_option maxRecDepth 100000 in
theorem impl_SamePol.calls (k : Nat) : ∀ (a0_0 : Int) (a0_1 : Int) (a0_2 : ByteArray) (a0_3 : ByteArray) (A0_4 : Option Addr) (c0_4 : Nat) (l0_4 : List (S26)) (a1_0 : Int) (a1_1 : Int) (a1_2 : ByteArray) (a1_3 : ByteArray) (A1_4 : Option Addr) (c1_4 : Nat) (l1_4 : List (S26)) (r : Bool) (w : World) (hr0_4 : Kd.C k26 w A0_4 l0_4.length l0_4) (hc0_4 : l0_4.length ≤ c0_4) (hr1_4 : Kd.C k26 w A1_4 l1_4.length l1_4) (hc1_4 : l1_4.length ≤ c1_4) (h : impl_SamePol.f k a0_0 a0_1 a0_2 a0_3 l0_4 a1_0 a1_1 a1_2 a1_3 l1_4 = some r),
   Calls Tryd.prog 13 #[.agg #[.int .i64 a0_0, .int .i64 a0_1, .string a0_2, .string a0_3, .slice A0_4 l0_4.length c0_4], .agg #[.int .i64 a1_0, .int .i64 a1_1, .string a1_2, .string a1_3, .slice A1_4 l1_4.length c1_4]] w fun e w' => e = .returned (.bool r) ∧ Below w.heap.size w w' := by
 induction k with
 | zero =>
   intro a0_0 a0_1 a0_2 a0_3 A0_4 c0_4 l0_4 a1_0 a1_1 a1_2 a1_3 A1_4 c1_4 l1_4 r w hr0_4 hc0_4 hr1_4 hc1_4 h
   exact absurd h (by simp [impl_SamePol.f])
 | succ k ih =>
 intro a0_0 a0_1 a0_2 a0_3 A0_4 c0_4 l0_4 a1_0 a1_1 a1_2 a1_3 A1_4 c1_4 l1_4 r w hr0_4 hc0_4 hr1_4 hc1_4 h
 have hu26 := Tryd.underlying26
 have HR0_4 := Aside0.mk hr0_4
 have HC0_4 := Aside0.mk hc0_4
 clear hr0_4 hc0_4
 have HR1_4 := Aside0.mk hr1_4
 have HC1_4 := Aside0.mk hc1_4
 clear hr1_4 hc1_4
 have HB := Aside0.mk (Below.refl w.heap.size w)
 unfold impl_SamePol.f at h; have H := h
 clear h
 by_cases c3 : a0_0 = a1_0
 ·rw [if_pos c3] at H
  obtain ⟨c3b0, c3b1⟩ := zt c3
  clear c3
  by_cases c4 : a0_1 = a1_1
  ·rw [if_pos c4] at H
   obtain ⟨c4b0, c4b1⟩ := zt c4
   clear c4
   by_cases c5 : a0_2.toList = a1_2.toList
   ·rw [if_pos c5] at H
    obtain ⟨c5b0, c5b1⟩ := zt c5
    clear c5
    by_cases c6 : a0_3.toList = a1_3.toList
    ·rw [if_pos c6] at H
     obtain ⟨c6b0, c6b1⟩ := zt c6
     clear c6
     obtain ⟨t453, A7, H⟩ := zO H; try dsimp only at H
     obtain rfl := Option.some.inj H
     go_enter Tryd.func13, Tryd.ntmps13
     go_wp2_with (first | ((with_reducible refine gD 2 rfl ?_); refine bE 2 #[.int .i64 a0_0, .int .i64 a0_1, .string a0_2, .string a0_3, .slice A0_4 l0_4.length c0_4] 26 ?_; intro gb451 hg w8 hbox hb; have BK451 := Aside0.mk hbox; have GW451 := Aside0.mk (zg (zL HB.out) hg : w.heap.size ≤ gb451); have GE451 := GW451; replace HB := zLB (zL HB.out) hb; clear hb hbox hg) | ((with_reducible refine gD 3 rfl ?_); refine bE 3 #[.int .i64 a1_0, .int .i64 a1_1, .string a1_2, .string a1_3, .slice A1_4 l1_4.length c1_4] 26 ?_; intro gb452 hg w9 hbox hb; have BK452 := Aside0.mk hbox; have GW452 := Aside0.mk (zg (zL1 HB.out GE451.out) hg : w.heap.size ≤ gb452); have GE452 := GW452; replace HB := zLB (zL1 HB.out GE451.out) hb; have NB451_452 := Aside0.mk (zN BK451.out hg : gb451 ≠ gb452); have NB452_451 := Aside0.mk (zM BK451.out hg : gb452 ≠ gb451); replace BK451 := zBB BK451 hb; clear hb hbox hg; have hnb10 := NB451_452.out; have hnc10 := NB452_451.out; have hcz11 := zc5 BK451.out; have hfz11 := zf5 BK451.out; have hcz12 := zc5 BK452.out; have hfz12 := zf5 BK452.out) | (go_at_call 30; (with_reducible refine (impl_Pol_30.calls ih k _ _ l0_4 _ _ l1_4 t453 _ ?side1 ?side2 ?side3 ?side4 A7.out).mono ?_); (case side1 => exact zC (Kd.C_below HR0_4.out HB.out)); (case side2 => exact HC0_4.out); (case side3 => exact zC (Kd.C_below HR1_4.out HB.out)); (case side4 => exact HC1_4.out); rintro e w13 ⟨rfl, hb⟩; replace BK451 := zBB BK451 hb; replace BK452 := zBB BK452 hb; replace HB := zLB (zL2 HB.out GE451.out GE452.out) hb; clear hb))
     go_ret
     exact ⟨zW, zL2 HB.out GE451.out GE452.out⟩
    ·rw [if_neg c6] at H
     obtain ⟨c6b0, c6b1⟩ := zf c6
     obtain rfl := Option.some.inj H
     go_enter Tryd.func13, Tryd.ntmps13
     go_wp2_with (first | ((with_reducible refine gD 2 rfl ?_); refine bE 2 #[.int .i64 a0_0, .int .i64 a0_1, .string a0_2, .string a0_3, .slice A0_4 l0_4.length c0_4] 26 ?_; intro gb451 hg w14 hbox hb; have BK451 := Aside0.mk hbox; have GW451 := Aside0.mk (zg (zL HB.out) hg : w.heap.size ≤ gb451); have GE451 := GW451; replace HB := zLB (zL HB.out) hb; clear hb hbox hg) | ((with_reducible refine gD 3 rfl ?_); refine bE 3 #[.int .i64 a1_0, .int .i64 a1_1, .string a1_2, .string a1_3, .slice A1_4 l1_4.length c1_4] 26 ?_; intro gb452 hg w15 hbox hb; have BK452 := Aside0.mk hbox; have GW452 := Aside0.mk (zg (zL1 HB.out GE451.out) hg : w.heap.size ≤ gb452); have GE452 := GW452; replace HB := zLB (zL1 HB.out GE451.out) hb; have NB451_452 := Aside0.mk (zN BK451.out hg : gb451 ≠ gb452); have NB452_451 := Aside0.mk (zM BK451.out hg : gb452 ≠ gb451); replace BK451 := zBB BK451 hb; clear hb hbox hg; have hnb16 := NB451_452.out; have hnc16 := NB452_451.out; have hcz17 := zc5 BK451.out; have hfz17 := zf5 BK451.out; have hcz18 := zc5 BK452.out; have hfz18 := zf5 BK452.out))
     go_ret
     exact ⟨zW, zL2 HB.out GE451.out GE452.out⟩
   ·rw [if_neg c5] at H
    obtain ⟨c5b0, c5b1⟩ := zf c5
    obtain rfl := Option.some.inj H
    go_enter Tryd.func13, Tryd.ntmps13
    go_wp2_with (first | ((with_reducible refine gD 2 rfl ?_); refine bE 2 #[.int .i64 a0_0, .int .i64 a0_1, .string a0_2, .string a0_3, .slice A0_4 l0_4.length c0_4] 26 ?_; intro gb451 hg w19 hbox hb; have BK451 := Aside0.mk hbox; have GW451 := Aside0.mk (zg (zL HB.out) hg : w.heap.size ≤ gb451); have GE451 := GW451; replace HB := zLB (zL HB.out) hb; clear hb hbox hg) | ((with_reducible refine gD 3 rfl ?_); refine bE 3 #[.int .i64 a1_0, .int .i64 a1_1, .string a1_2, .string a1_3, .slice A1_4 l1_4.length c1_4] 26 ?_; intro gb452 hg w20 hbox hb; have BK452 := Aside0.mk hbox; have GW452 := Aside0.mk (zg (zL1 HB.out GE451.out) hg : w.heap.size ≤ gb452); have GE452 := GW452; replace HB := zLB (zL1 HB.out GE451.out) hb; have NB451_452 := Aside0.mk (zN BK451.out hg : gb451 ≠ gb452); have NB452_451 := Aside0.mk (zM BK451.out hg : gb452 ≠ gb451); replace BK451 := zBB BK451 hb; clear hb hbox hg; have hnb21 := NB451_452.out; have hnc21 := NB452_451.out; have hcz22 := zc5 BK451.out; have hfz22 := zf5 BK451.out; have hcz23 := zc5 BK452.out; have hfz23 := zf5 BK452.out))
    go_ret
    exact ⟨zW, zL2 HB.out GE451.out GE452.out⟩
  ·rw [if_neg c4] at H
   obtain ⟨c4b0, c4b1⟩ := zf c4
   obtain rfl := Option.some.inj H
   go_enter Tryd.func13, Tryd.ntmps13
   go_wp2_with (first | ((with_reducible refine gD 2 rfl ?_); refine bE 2 #[.int .i64 a0_0, .int .i64 a0_1, .string a0_2, .string a0_3, .slice A0_4 l0_4.length c0_4] 26 ?_; intro gb451 hg w24 hbox hb; have BK451 := Aside0.mk hbox; have GW451 := Aside0.mk (zg (zL HB.out) hg : w.heap.size ≤ gb451); have GE451 := GW451; replace HB := zLB (zL HB.out) hb; clear hb hbox hg) | ((with_reducible refine gD 3 rfl ?_); refine bE 3 #[.int .i64 a1_0, .int .i64 a1_1, .string a1_2, .string a1_3, .slice A1_4 l1_4.length c1_4] 26 ?_; intro gb452 hg w25 hbox hb; have BK452 := Aside0.mk hbox; have GW452 := Aside0.mk (zg (zL1 HB.out GE451.out) hg : w.heap.size ≤ gb452); have GE452 := GW452; replace HB := zLB (zL1 HB.out GE451.out) hb; have NB451_452 := Aside0.mk (zN BK451.out hg : gb451 ≠ gb452); have NB452_451 := Aside0.mk (zM BK451.out hg : gb452 ≠ gb451); replace BK451 := zBB BK451 hb; clear hb hbox hg; have hnb26 := NB451_452.out; have hnc26 := NB452_451.out; have hcz27 := zc5 BK451.out; have hfz27 := zf5 BK451.out; have hcz28 := zc5 BK452.out; have hfz28 := zf5 BK452.out))
   go_ret
   exact ⟨zW, zL2 HB.out GE451.out GE452.out⟩
 ·rw [if_neg c3] at H
  obtain ⟨c3b0, c3b1⟩ := zf c3
  obtain rfl := Option.some.inj H
  go_enter Tryd.func13, Tryd.ntmps13
  go_wp2_with (first | ((with_reducible refine gD 2 rfl ?_); refine bE 2 #[.int .i64 a0_0, .int .i64 a0_1, .string a0_2, .string a0_3, .slice A0_4 l0_4.length c0_4] 26 ?_; intro gb451 hg w29 hbox hb; have BK451 := Aside0.mk hbox; have GW451 := Aside0.mk (zg (zL HB.out) hg : w.heap.size ≤ gb451); have GE451 := GW451; replace HB := zLB (zL HB.out) hb; clear hb hbox hg) | ((with_reducible refine gD 3 rfl ?_); refine bE 3 #[.int .i64 a1_0, .int .i64 a1_1, .string a1_2, .string a1_3, .slice A1_4 l1_4.length c1_4] 26 ?_; intro gb452 hg w30 hbox hb; have BK452 := Aside0.mk hbox; have GW452 := Aside0.mk (zg (zL1 HB.out GE451.out) hg : w.heap.size ≤ gb452); have GE452 := GW452; replace HB := zLB (zL1 HB.out GE451.out) hb; have NB451_452 := Aside0.mk (zN BK451.out hg : gb451 ≠ gb452); have NB452_451 := Aside0.mk (zM BK451.out hg : gb452 ≠ gb451); replace BK451 := zBB BK451 hb; clear hb hbox hg; have hnb31 := NB451_452.out; have hnc31 := NB452_451.out; have hcz32 := zc5 BK451.out; have hfz32 := zf5 BK451.out; have hcz33 := zc5 BK452.out; have hfz33 := zf5 BK452.out))
  go_ret
  exact ⟨zW, zL2 HB.out GE451.out GE452.out⟩

open Go.Proofs.YtfhblnbicnmndaaDoorW.PrintWords renaming blk_drewN → bN, blk_drew → bD, blk_alloc → bA, blk_cell → bC, blk_below → bB, below_set → bS
/-! ### spec_SamePol: function 14 -/
mutual
def spec_SamePol.j0 : Nat → Bool → Int → Int → ByteArray → ByteArray → List (S26) → Int → Int → ByteArray → ByteArray → List (S26) → Option (Bool)
 | 0, _, _, _, _, _, _, _, _, _, _, _ => none
 | k + 1, x40, x455000, x455001, x455002, x455003, x455004, x456000, x456001, x456002, x456003, x456004 => if x40 = true then (some false) else (spec_SamePol.l0 k 0 x455000 x455001 x455002 x455003 x455004 x456000 x456001 x456002 x456003 x456004)
def spec_SamePol.l0 : Nat → Int → Int → Int → ByteArray → ByteArray → List (S26) → Int → Int → ByteArray → ByteArray → List (S26) → Option (Bool)
 | 0, _, _, _, _, _, _, _, _, _, _, _ => none
 | k + 1, x5, x455000, x455001, x455002, x455003, x455004, x456000, x456001, x456002, x456003, x456004 => if x5 < (x455004.length : Int) then (if 0 ≤ x5 then (if x5 < (x456004.length : Int) then ((spec_SamePol.f k ((rd_T26 x455004 x5).f0) ((rd_T26 x455004 x5).f1) ((rd_T26 x455004 x5).f2) ((rd_T26 x455004 x5).f3) ((rd_T26 x455004 x5).f4) ((rd_T26 x456004 x5).f0) ((rd_T26 x456004 x5).f1) ((rd_T26 x456004 x5).f2) ((rd_T26 x456004 x5).f3) ((rd_T26 x456004 x5).f4)).bind fun t458 => (if t458 = true then (spec_SamePol.l0 k (wrap64 (x5 + 1)) x455000 x455001 x455002 x455003 x455004 x456000 x456001 x456002 x456003 x456004) else (some false))) else (none)) else (none)) else (some true)
def spec_SamePol.f : Nat → Int → Int → ByteArray → ByteArray → List (S26) → Int → Int → ByteArray → ByteArray → List (S26) → Option (Bool)
 | 0, _, _, _, _, _, _, _, _, _, _ => none
 | k + 1, a0_0, a0_1, a0_2, a0_3, l0_4, a1_0, a1_1, a1_2, a1_3, l1_4 => if a0_0 = a1_0 then (if a0_1 = a1_1 then (if a0_2.toList = a1_2.toList then (if a0_3.toList = a1_3.toList then (spec_SamePol.j0 k ((l0_4.length : Int) != (l1_4.length : Int)) a0_0 a0_1 a0_2 a0_3 l0_4 a1_0 a1_1 a1_2 a1_3 l1_4) else (spec_SamePol.j0 k true a0_0 a0_1 a0_2 a0_3 l0_4 a1_0 a1_1 a1_2 a1_3 l1_4)) else (spec_SamePol.j0 k true a0_0 a0_1 a0_2 a0_3 l0_4 a1_0 a1_1 a1_2 a1_3 l1_4)) else (spec_SamePol.j0 k true a0_0 a0_1 a0_2 a0_3 l0_4 a1_0 a1_1 a1_2 a1_3 l1_4)) else (spec_SamePol.j0 k true a0_0 a0_1 a0_2 a0_3 l0_4 a1_0 a1_1 a1_2 a1_3 l1_4)
end
theorem spec_SamePol.mono_l : ∀ k, (∀ y0 y1 y2 y3 y4 y5 y6 y7 y8 y9, LeO (spec_SamePol.f k y0 y1 y2 y3 y4 y5 y6 y7 y8 y9) (spec_SamePol.f (k + 1) y0 y1 y2 y3 y4 y5 y6 y7 y8 y9)) ∧ (∀ y0 y1 y2 y3 y4 y5 y6 y7 y8 y9 y10, LeO (spec_SamePol.j0 k y0 y1 y2 y3 y4 y5 y6 y7 y8 y9 y10) (spec_SamePol.j0 (k + 1) y0 y1 y2 y3 y4 y5 y6 y7 y8 y9 y10)) ∧ (∀ y0 y1 y2 y3 y4 y5 y6 y7 y8 y9 y10, LeO (spec_SamePol.l0 k y0 y1 y2 y3 y4 y5 y6 y7 y8 y9 y10) (spec_SamePol.l0 (k + 1) y0 y1 y2 y3 y4 y5 y6 y7 y8 y9 y10))
 | 0 => ⟨fun _ _ _ _ _ _ _ _ _ _ r h => by simp [spec_SamePol.f] at h, fun _ _ _ _ _ _ _ _ _ _ _ r h => by simp [spec_SamePol.j0] at h, fun _ _ _ _ _ _ _ _ _ _ _ r h => by simp [spec_SamePol.l0] at h⟩
 | k + 1 => by
  obtain ⟨ih0, ih1, ih2⟩ := spec_SamePol.mono_l k
  refine ⟨?_, ?_, ?_⟩
  ·intro y0 y1 y2 y3 y4 y5 y6 y7 y8 y9
   unfold spec_SamePol.f
   repeat' first
   | (with_reducible exact ih0 _ _ _ _ _ _ _ _ _ _)
   | (with_reducible exact ih1 _ _ _ _ _ _ _ _ _ _ _)
   | (with_reducible exact ih2 _ _ _ _ _ _ _ _ _ _ _)
   | (with_reducible exact LeO.refl _)
   | (with_reducible exact LeO.none _)
   | (with_reducible refine LeO.ite ?_ ?_)
   | (with_reducible refine LeO.bind ?_ (fun _ => ?_))
   | exact ih0 _ _ _ _ _ _ _ _ _ _
   | exact ih1 _ _ _ _ _ _ _ _ _ _ _
   | exact ih2 _ _ _ _ _ _ _ _ _ _ _
   | exact LeO.none _
   | refine LeO.ite ?_ ?_
   | refine LeO.bind ?_ (fun _ => ?_)
  ·intro y0 y1 y2 y3 y4 y5 y6 y7 y8 y9 y10
   unfold spec_SamePol.j0
   repeat' first
   | (with_reducible exact ih0 _ _ _ _ _ _ _ _ _ _)
   | (with_reducible exact ih1 _ _ _ _ _ _ _ _ _ _ _)
   | (with_reducible exact ih2 _ _ _ _ _ _ _ _ _ _ _)
   | (with_reducible exact LeO.refl _)
   | (with_reducible exact LeO.none _)
   | (with_reducible refine LeO.ite ?_ ?_)
   | (with_reducible refine LeO.bind ?_ (fun _ => ?_))
   | exact ih0 _ _ _ _ _ _ _ _ _ _
   | exact ih1 _ _ _ _ _ _ _ _ _ _ _
   | exact ih2 _ _ _ _ _ _ _ _ _ _ _
   | exact LeO.none _
   | refine LeO.ite ?_ ?_
   | refine LeO.bind ?_ (fun _ => ?_)
  ·intro y0 y1 y2 y3 y4 y5 y6 y7 y8 y9 y10
   unfold spec_SamePol.l0
   repeat' first
   | (with_reducible exact ih0 _ _ _ _ _ _ _ _ _ _)
   | (with_reducible exact ih1 _ _ _ _ _ _ _ _ _ _ _)
   | (with_reducible exact ih2 _ _ _ _ _ _ _ _ _ _ _)
   | (with_reducible exact LeO.refl _)
   | (with_reducible exact LeO.none _)
   | (with_reducible refine LeO.ite ?_ ?_)
   | (with_reducible refine LeO.bind ?_ (fun _ => ?_))
   | exact ih0 _ _ _ _ _ _ _ _ _ _
   | exact ih1 _ _ _ _ _ _ _ _ _ _ _
   | exact ih2 _ _ _ _ _ _ _ _ _ _ _
   | exact LeO.none _
   | refine LeO.ite ?_ ?_
   | refine LeO.bind ?_ (fun _ => ?_)
theorem spec_SamePol.mono : ∀ a0 a1 a2 a3 a4 a5 a6 a7 a8 a9 k, LeO (spec_SamePol.f k a0 a1 a2 a3 a4 a5 a6 a7 a8 a9) (spec_SamePol.f (k + 1) a0 a1 a2 a3 a4 a5 a6 a7 a8 a9) := by
 intro a0 a1 a2 a3 a4 a5 a6 a7 a8 a9 k
 obtain ⟨ih0, ih1, ih2⟩ := spec_SamePol.mono_l k
 exact ih0 a0 a1 a2 a3 a4 a5 a6 a7 a8 a9
def spec_SamePol.T6 : Bool × List (List Nat × List Nat) := (true, [([], []), ([0], [0]), ([], []), ([1, 2], [1, 2]), ([3], [3]), ([], []), ([5], [5]), ([], []), ([6, 7], [6, 7]), ([8], [8]), ([4, 9], [4, 9]), ([10], [10])])
def spec_SamePol.B6 : List Nat := [0, 1, 0, 7, 15, 0, 32, 0, 224, 480, 1023, 2047]
theorem spec_SamePol.tab6 : rtab .any (opsOf Tryd.f14 6) = spec_SamePol.T6 := by kernel_rfl
theorem spec_SamePol.bits6 : waitsOk spec_SamePol.T6.2 spec_SamePol.B6 = true := by kernel_rfl
set_option maxHeartbeats 8000000 in
set_option maxRecDepth 100000 in
theorem spec_SamePol.calls (k : Nat) : ∀ (a0_0 : Int) (a0_1 : Int) (a0_2 : ByteArray) (a0_3 : ByteArray) (A0_4 : Option Addr) (c0_4 : Nat) (l0_4 : List (S26)) (a1_0 : Int) (a1_1 : Int) (a1_2 : ByteArray) (a1_3 : ByteArray) (A1_4 : Option Addr) (c1_4 : Nat) (l1_4 : List (S26)) (r : Bool) (w : World) (hr0_4 : Kd.C k26 w A0_4 l0_4.length l0_4) (hc0_4 : l0_4.length ≤ c0_4) (hr1_4 : Kd.C k26 w A1_4 l1_4.length l1_4) (hc1_4 : l1_4.length ≤ c1_4) (h : spec_SamePol.f k a0_0 a0_1 a0_2 a0_3 l0_4 a1_0 a1_1 a1_2 a1_3 l1_4 = some r),
  Calls Tryd.prog 14 #[.agg #[.int .i64 a0_0, .int .i64 a0_1, .string a0_2, .string a0_3, .slice A0_4 l0_4.length c0_4], .agg #[.int .i64 a1_0, .int .i64 a1_1, .string a1_2, .string a1_3, .slice A1_4 l1_4.length c1_4]] w fun e w' => e = .returned (.bool r) ∧ Below w.heap.size w w' := by
 induction k using Nat.strongRecOn with
 | _ k ih =>
 intro a0_0 a0_1 a0_2 a0_3 A0_4 c0_4 l0_4 a1_0 a1_1 a1_2 a1_3 A1_4 c1_4 l1_4 r w hr0_4 hc0_4 hr1_4 hc1_4 h
 cases k with
 | zero => exact absurd h (by simp [spec_SamePol.f])
 | succ k =>
 simp only [spec_SamePol.f] at h
 have hu26 := Tryd.underlying26
 have HR0_4 := Aside0.mk hr0_4
 have HC0_4 := Aside0.mk hc0_4
 clear hr0_4 hc0_4
 have HR1_4 := Aside0.mk hr1_4
 have HC1_4 := Aside0.mk hc1_4
 clear hr1_4 hc1_4
 have HB := Aside0.mk (Below.refl w.heap.size w)
 have H : (if a0_0 = a1_0 then (if a0_1 = a1_1 then (if a0_2.toList = a1_2.toList then (if a0_3.toList = a1_3.toList then (spec_SamePol.j0 k ((l0_4.length : Int) != (l1_4.length : Int)) a0_0 a0_1 a0_2 a0_3 l0_4 a1_0 a1_1 a1_2 a1_3 l1_4) else (spec_SamePol.j0 k true a0_0 a0_1 a0_2 a0_3 l0_4 a1_0 a1_1 a1_2 a1_3 l1_4)) else (spec_SamePol.j0 k true a0_0 a0_1 a0_2 a0_3 l0_4 a1_0 a1_1 a1_2 a1_3 l1_4)) else (spec_SamePol.j0 k true a0_0 a0_1 a0_2 a0_3 l0_4 a1_0 a1_1 a1_2 a1_3 l1_4)) else (spec_SamePol.j0 k true a0_0 a0_1 a0_2 a0_3 l0_4 a1_0 a1_1 a1_2 a1_3 l1_4)) = some r := h
 clear h
 have HC3 := Aside0.mk H
 clear H
 go_enter Tryd.func14, Tryd.ntmps14
 go_upto_region 1 with (first | ((with_reducible refine gD 2 rfl ?_); (try (refine gate_guard (by rfl) ?_; dsimp only)); refine box_event ?hg (N := 2) ?hd (cs := #[.int .i64 a0_0, .int .i64 a0_1, .string a0_2, .string a0_3, .slice A0_4 l0_4.length c0_4]) (t := 26) ?hr ?_; (case hd => rfl); (case hg => rfl); (case hr => first | (go_simp; done) | (go_simp; rfl)); intro gb454 hg w4 hbox hb; have BK454 := Aside0.mk hbox; have GW454 := Aside0.mk (zg (zL HB.out) hg : w.heap.size ≤ gb454); have GE454 := GW454; replace HB := zLB (zL HB.out) hb; clear hb hbox hg) | ((with_reducible refine gD 3 rfl ?_); (try (refine gate_guard (by rfl) ?_; dsimp only)); refine box_event ?hg (N := 3) ?hd (cs := #[.int .i64 a1_0, .int .i64 a1_1, .string a1_2, .string a1_3, .slice A1_4 l1_4.length c1_4]) (t := 26) ?hr ?_; (case hd => rfl); (case hg => rfl); (case hr => first | (go_simp; done) | (go_simp; rfl)); intro gb455 hg w5 hbox hb; have BK455 := Aside0.mk hbox; have GW455 := Aside0.mk (zg (zL1 HB.out GE454.out) hg : w.heap.size ≤ gb455); have GE455 := GW455; replace HB := zLB (zL1 HB.out GE454.out) hb; have NB454_455 := Aside0.mk (zN BK454.out hg : gb454 ≠ gb455); have NB455_454 := Aside0.mk (zM BK454.out hg : gb455 ≠ gb454); replace BK454 := zBB BK454 hb; clear hb hbox hg))
 (try simp only [Act.put, List.setIfInBounds_toArray, List.set_cons_zero, List.set_cons_succ])
 go_cut [40] (fun v40 wc => ∃ (kq : Nat) (x40_2 : Bool), v40 = .bool x40_2 ∧ Aside0 (spec_SamePol.j0 kq x40_2 a0_0 a0_1 a0_2 a0_3 l0_4 a1_0 a1_1 a1_2 a1_3 l1_4 = some r) ∧ Aside0 (kq ≤ k) ∧ Aside0 (wc.heap[gb454]? = some (.cells #[.int .i64 a0_0, .int .i64 a0_1, .string a0_2, .string a0_3, (.slice A0_4 l0_4.length c0_4)] 26 (0, 0))) ∧ Aside0 (wc.heap[gb455]? = some (.cells #[.int .i64 a1_0, .int .i64 a1_1, .string a1_2, .string a1_3, (.slice A1_4 l1_4.length c1_4)] 26 (0, 0))) ∧ Aside0 (Below w.heap.size w wc))
 case first =>
  have H := HC3.out
  clear HC3
  by_cases c6 : a0_0 = a1_0
  ·rw [if_pos c6] at H
   obtain ⟨c6b0, c6b1⟩ := zt c6
   clear c6
   (first | rw [c6b0] | (simp only [i64_w, i32_w]; rw [c6b0]) | skip)
   by_cases c7 : a0_1 = a1_1
   ·rw [if_pos c7] at H
    obtain ⟨c7b0, c7b1⟩ := zt c7
    clear c7
    by_cases c8 : a0_2.toList = a1_2.toList
    ·rw [if_pos c8] at H
     obtain ⟨c8b0, c8b1⟩ := zt c8
     clear c8
     by_cases c9 : a0_3.toList = a1_3.toList
     ·rw [if_pos c9] at H
      obtain ⟨c9b0, c9b1⟩ := zt c9
      clear c9
      have H' := Aside0.mk H
      clear H
      have hnb10 := NB454_455.out
      have hnc10 := NB455_454.out
      have hcz11 := zc5 BK454.out
      have hfz11 := zf5 BK454.out
      have hcz12 := zc5 BK455.out
      have hfz12 := zf5 BK455.out
      go_wp2
      go_meet
      case rel => exact ⟨_, (((l0_4.length : Int) != (l1_4.length : Int))), zV, H', ⟨by first | omega | exact Nat.le_refl _⟩, ⟨zB BK454.out⟩, ⟨zB BK455.out⟩, ⟨zL2 HB.out GE454.out GE455.out⟩⟩
     ·rw [if_neg c9] at H
      obtain ⟨c9b0, c9b1⟩ := zf c9
      have H' := Aside0.mk H
      clear H
      have hnb13 := NB454_455.out
      have hnc13 := NB455_454.out
      have hcz14 := zc5 BK454.out
      have hfz14 := zf5 BK454.out
      have hcz15 := zc5 BK455.out
      have hfz15 := zf5 BK455.out
      go_wp2
      go_meet
      case rel => exact ⟨_, (true), zV, H', ⟨by first | omega | exact Nat.le_refl _⟩, ⟨zB BK454.out⟩, ⟨zB BK455.out⟩, ⟨zL2 HB.out GE454.out GE455.out⟩⟩
    ·rw [if_neg c8] at H
     obtain ⟨c8b0, c8b1⟩ := zf c8
     have H' := Aside0.mk H
     clear H
     have hnb16 := NB454_455.out
     have hnc16 := NB455_454.out
     have hcz17 := zc5 BK454.out
     have hfz17 := zf5 BK454.out
     have hcz18 := zc5 BK455.out
     have hfz18 := zf5 BK455.out
     go_wp2
     go_meet
     case rel => exact ⟨_, (true), zV, H', ⟨by first | omega | exact Nat.le_refl _⟩, ⟨zB BK454.out⟩, ⟨zB BK455.out⟩, ⟨zL2 HB.out GE454.out GE455.out⟩⟩
   ·rw [if_neg c7] at H
    obtain ⟨c7b0, c7b1⟩ := zf c7
    have H' := Aside0.mk H
    clear H
    have hnb19 := NB454_455.out
    have hnc19 := NB455_454.out
    have hcz20 := zc5 BK454.out
    have hfz20 := zf5 BK454.out
    have hcz21 := zc5 BK455.out
    have hfz21 := zf5 BK455.out
    go_wp2
    go_meet
    case rel => exact ⟨_, (true), zV, H', ⟨by first | omega | exact Nat.le_refl _⟩, ⟨zB BK454.out⟩, ⟨zB BK455.out⟩, ⟨zL2 HB.out GE454.out GE455.out⟩⟩
  ·rw [if_neg c6] at H
   obtain ⟨c6b0, c6b1⟩ := zf c6
   (first | rw [c6b0] | (simp only [i64_w, i32_w]; rw [c6b0]) | skip)
   have H' := Aside0.mk H
   clear H
   have hnb22 := NB454_455.out
   have hnc22 := NB455_454.out
   have hcz23 := zc5 BK454.out
   have hfz23 := zf5 BK454.out
   have hcz24 := zc5 BK455.out
   have hfz24 := zf5 BK455.out
   go_wp2
   go_meet
   case rel => exact ⟨_, (true), zV, H', ⟨by first | omega | exact Nat.le_refl _⟩, ⟨zB BK454.out⟩, ⟨zB BK455.out⟩, ⟨zL2 HB.out GE454.out GE455.out⟩⟩
 case rest =>
  clear HC3
  try clear c1
  try clear c2
  try clear p2
  try clear c6
  try clear c6b0
  try clear c6b1
  try clear c7
  try clear c7b0
  try clear c7b1
  try clear c8
  try clear c8b0
  try clear c8b1
  try clear c9
  try clear c9b0
  try clear c9b1
  try clear c10
  try clear c13
  try clear c14
  try clear c16
  try clear c19
  try clear c22
  try clear hcz11; try clear hcz12; try clear hcz14; try clear hcz15; try clear hcz17; try clear hcz18; try clear hcz20; try clear hcz21; try clear hcz23; try clear hcz24; try clear hfz11; try clear hfz12; try clear hfz14; try clear hfz15; try clear hfz17; try clear hfz18; try clear hfz20; try clear hfz21; try clear hfz23; try clear hfz24
  obtain ⟨kq, x40_2, rfl, HA, HJ2, BK454, BK455, HB⟩ := hcut
  cases kq with
  | zero => exact absurd HA.out (by simp [spec_SamePol.j0])
  | succ kj2 =>
   have H := HA.out
   clear HA
   simp only [spec_SamePol.j0] at H
   by_cases c25 : x40_2 = true
   ·subst c25
    rw [if_pos rfl] at H
    obtain rfl := Option.some.inj H
    go_wp2
    go_ret
    exact ⟨zW, zL2 HB.out GE454.out GE455.out⟩
   ·obtain rfl := Bool.eq_false_iff.mpr c25
    rw [if_neg zn] at H
    have H' := Aside0.mk H
    clear H
    go_wp2
    go_loopg [5] kj2 (fun kq v5 w' => ∃ (x5_2 : Int), v5 = .int .i64 x5_2 ∧ Aside0 (spec_SamePol.l0 kq x5_2 a0_0 a0_1 a0_2 a0_3 l0_4 a1_0 a1_1 a1_2 a1_3 l1_4 = some r) ∧ Aside0 (kq ≤ kj2) ∧ Aside0 (w'.heap[gb454]? = some (.cells #[.int .i64 a0_0, .int .i64 a0_1, .string a0_2, .string a0_3, (.slice A0_4 l0_4.length c0_4)] 26 (0, 0))) ∧ Aside0 (w'.heap[gb455]? = some (.cells #[.int .i64 a1_0, .int .i64 a1_1, .string a1_2, .string a1_3, (.slice A1_4 l1_4.length c1_4)] 26 (0, 0))) ∧ Aside0 (Below w.heap.size w w'))
    case atStart => exact ⟨(0), zV, H', ⟨Nat.le_refl _⟩, ⟨zB BK454.out⟩, ⟨zB BK455.out⟩, ⟨zL2 HB.out GE454.out GE455.out⟩⟩
    case round =>
     clear H'
     try clear c1
     try clear c2
     try clear p2
     try clear c6
     try clear c6b0
     try clear c6b1
     try clear c7
     try clear c7b0
     try clear c7b1
     try clear c8
     try clear c8b0
     try clear c8b1
     try clear c9
     try clear c9b0
     try clear c9b1
     try clear c10
     try clear c13
     try clear c14
     try clear c16
     try clear c19
     try clear c22
     try clear c25
     try clear hcz11; try clear hcz12; try clear hcz14; try clear hcz15; try clear hcz17; try clear hcz18; try clear hcz20; try clear hcz21; try clear hcz23; try clear hcz24; try clear hfz11; try clear hfz12; try clear hfz14; try clear hfz15; try clear hfz17; try clear hfz18; try clear hfz20; try clear hfz21; try clear hfz23; try clear hfz24
     try clear p2
     try clear BK454; try clear BK455
     obtain ⟨x5_2, rfl, HA, HK2, BK454, BK455, HB⟩ := hrel
     cases gk with
     | zero => exact absurd HA.out (by simp [spec_SamePol.l0])
     | succ k2 =>
      have H := HA.out
      clear HA
      simp only [spec_SamePol.l0] at H
      by_cases c26 : x5_2 < (l0_4.length : Int)
      ·rw [if_pos c26] at H
       have c26b0 := decide_eq_true c26
       clear c26
       by_cases c27 : 0 ≤ x5_2
       ·rw [if_pos c27] at H
        have c27b0 := decide_eq_true c27
        clear c27
        by_cases c28 : x5_2 < (l1_4.length : Int)
        ·rw [if_pos c28] at H
         have c28b0 := decide_eq_true c28
         clear c28
         obtain ⟨t458, A29, H⟩ := zO H; try dsimp only at H
         by_cases c30 : t458 = true
         ·subst c30
          rw [if_pos rfl] at H
          have H' := Aside0.mk H
          clear H
          have hnb31 := NB454_455.out
          have hnc31 := NB455_454.out
          have hcz32 := zc5 BK454.out
          have hfz32 := zf5 BK454.out
          try go_wp2
          replace BK454 := zBD BK454; replace BK455 := zBD BK455; replace HB := zLD HB
          have p456 : 0 ≤ (x5_2 : Int) := zD
          have q456 : x5_2 < (l0_4.length : Int) := zD
          obtain ⟨ad456, A456_4, c456_4, e456, hx456_0, hx456_1, hx456_2, hx456_3, hx456_4, hl456_4, hi456_4⟩ := at_T26 HR0_4.out x5_2 p456 q456
          have hw456_4 := hx456_4
          have hw456_3 := hx456_3
          have hw456_2 := hx456_2
          have hw456_1 := hx456_1
          have hw456_0 := hx456_0
          cases e456
          replace hx456_0 := zh HB.out hx456_0
          replace hx456_1 := zh HB.out hx456_1
          replace hx456_2 := zh HB.out hx456_2
          replace hx456_3 := zh HB.out hx456_3
          replace hx456_4 := zh HB.out hx456_4
          have HR456_4 := Aside0.mk hi456_4
          have HC456_4 := Aside0.mk hl456_4
          clear hi456_4 hl456_4
          replace p456 := eq_true p456
          replace q456 := eq_true q456
          have p457 : 0 ≤ (x5_2 : Int) := zD
          have q457 : x5_2 < (l1_4.length : Int) := zD
          obtain ⟨ad457, A457_4, c457_4, e457, hx457_0, hx457_1, hx457_2, hx457_3, hx457_4, hl457_4, hi457_4⟩ := at_T26 HR1_4.out x5_2 p457 q457
          have hw457_4 := hx457_4
          have hw457_3 := hx457_3
          have hw457_2 := hx457_2
          have hw457_1 := hx457_1
          have hw457_0 := hx457_0
          cases e457
          replace hx457_0 := zh HB.out hx457_0
          replace hx457_1 := zh HB.out hx457_1
          replace hx457_2 := zh HB.out hx457_2
          replace hx457_3 := zh HB.out hx457_3
          replace hx457_4 := zh HB.out hx457_4
          have HR457_4 := Aside0.mk hi457_4
          have HC457_4 := Aside0.mk hl457_4
          clear hi457_4 hl457_4
          replace p457 := eq_true p457
          replace q457 := eq_true q457
          refine start_ (n := 12) (S := fun w' => w'.cell? ⟨gb454, 0, none⟩ = some (.int .i64 a0_0) ∧ w'.cell? ⟨gb454, 1, none⟩ = some (.int .i64 a0_1) ∧ w'.cell? ⟨gb454, 2, none⟩ = some (.string a0_2) ∧ w'.cell? ⟨gb454, 3, none⟩ = some (.string a0_3) ∧ w'.cell? ⟨gb454, 4, none⟩ = some (.slice (some ad456) l0_4.length c0_4) ∧ w'.cell? ⟨gb455, 0, none⟩ = some (.int .i64 a1_0) ∧ w'.cell? ⟨gb455, 1, none⟩ = some (.int .i64 a1_1) ∧ w'.cell? ⟨gb455, 2, none⟩ = some (.string a1_2) ∧ w'.cell? ⟨gb455, 3, none⟩ = some (.string a1_3) ∧ w'.cell? ⟨gb455, 4, none⟩ = some (.slice (some ad457) l1_4.length c1_4) ∧ w'.cell? (ad456.add ((x5_2).toNat * 5)) = some (.int .i64 ((rd_T26 l0_4 x5_2).f0)) ∧ w'.cell? ⟨(ad456.add ((x5_2).toNat * 5)).block, (ad456.add ((x5_2).toNat * 5)).off + 1, none⟩ = some (.int .i64 ((rd_T26 l0_4 x5_2).f1)) ∧ w'.cell? ⟨(ad456.add ((x5_2).toNat * 5)).block, (ad456.add ((x5_2).toNat * 5)).off + 2, none⟩ = some (.string ((rd_T26 l0_4 x5_2).f2)) ∧ w'.cell? ⟨(ad456.add ((x5_2).toNat * 5)).block, (ad456.add ((x5_2).toNat * 5)).off + 3, none⟩ = some (.string ((rd_T26 l0_4 x5_2).f3)) ∧ w'.cell? ⟨(ad456.add ((x5_2).toNat * 5)).block, (ad456.add ((x5_2).toNat * 5)).off + 4, none⟩ = some (.slice A456_4 ((rd_T26 l0_4 x5_2).f4).length c456_4) ∧ w'.cell? (ad457.add ((x5_2).toNat * 5)) = some (.int .i64 ((rd_T26 l1_4 x5_2).f0)) ∧ w'.cell? ⟨(ad457.add ((x5_2).toNat * 5)).block, (ad457.add ((x5_2).toNat * 5)).off + 1, none⟩ = some (.int .i64 ((rd_T26 l1_4 x5_2).f1)) ∧ w'.cell? ⟨(ad457.add ((x5_2).toNat * 5)).block, (ad457.add ((x5_2).toNat * 5)).off + 2, none⟩ = some (.string ((rd_T26 l1_4 x5_2).f2)) ∧ w'.cell? ⟨(ad457.add ((x5_2).toNat * 5)).block, (ad457.add ((x5_2).toNat * 5)).off + 3, none⟩ = some (.string ((rd_T26 l1_4 x5_2).f3)) ∧ w'.cell? ⟨(ad457.add ((x5_2).toNat * 5)).block, (ad457.add ((x5_2).toNat * 5)).off + 4, none⟩ = some (.slice A457_4 ((rd_T26 l1_4 x5_2).f4).length c457_4)) (ds := []) (fB 12 0) (by kernel_rfl) rfl rfl ⟨(bC BK454.out 0).trans rfl, (bC BK454.out 1).trans rfl, (bC BK454.out 2).trans rfl, (bC BK454.out 3).trans rfl, (bC BK454.out 4).trans rfl, (bC BK455.out 0).trans rfl, (bC BK455.out 1).trans rfl, (bC BK455.out 2).trans rfl, (bC BK455.out 3).trans rfl, (bC BK455.out 4).trans rfl, (zh HB.out hw456_0), (zh HB.out hw456_1), (zh HB.out hw456_2), (zh HB.out hw456_3), (zh HB.out hw456_4), (zh HB.out hw457_0), (zh HB.out hw457_1), (zh HB.out hw457_2), (zh HB.out hw457_3), (zh HB.out hw457_4)⟩ (fun hHeld => ?_); refine with_tabW spec_SamePol.tab6 spec_SamePol.bits6 (fun HT_ HW_ => ?_)
          generalize wr.drew = w33 at BK454 BK455 HB HR456_4 HR457_4 hx456_0 hx456_1 hx456_2 hx456_3 hx456_4 hx457_0 hx457_1 hx457_2 hx457_3 hx457_4 hHeld ⊢
          refine pY 0 48 (fB 12 1) HT_.out ?_
          refine pY 2 50 (fB 12 5) HT_.out ?_
          refine pY 5 53 (fB 12 37) HT_.out ?_
          refine pY 7 55 (fB 12 165) HT_.out ?_
          refine tY 1 49 (fB 12 167) HT_.out HW_.out hHeld ?_
          refine pY 3 51 (fB 12 175) HT_.out ?_
          refine tY 4 52 (fB 12 191) HT_.out HW_.out hHeld ?_
          refine tY 6 54 (fB 12 255) HT_.out HW_.out hHeld ?_
          refine pY 8 56 (fB 12 511) HT_.out ?_
          refine tY 9 57 (fB 12 1023) HT_.out HW_.out hHeld ?_
          refine oN 10 58 (fB 12 2047) HT_.out fun K hK => ?_
          refine gS Tryd.func14 #[.agg #[.int .i64 ((rd_T26 l0_4 x5_2).f0), .int .i64 ((rd_T26 l0_4 x5_2).f1), .string ((rd_T26 l0_4 x5_2).f2), .string ((rd_T26 l0_4 x5_2).f3), .slice A456_4 ((rd_T26 l0_4 x5_2).f4).length c456_4], .agg #[.int .i64 ((rd_T26 l1_4 x5_2).f0), .int .i64 ((rd_T26 l1_4 x5_2).f1), .string ((rd_T26 l1_4 x5_2).f2), .string ((rd_T26 l1_4 x5_2).f3), .slice A457_4 ((rd_T26 l1_4 x5_2).f4).length c457_4]] ?_
          with_reducible refine (ih k2 (by have := HJ2.out; have := HK2.out; omega) ((rd_T26 l0_4 x5_2).f0) ((rd_T26 l0_4 x5_2).f1) ((rd_T26 l0_4 x5_2).f2) ((rd_T26 l0_4 x5_2).f3) _ _ ((rd_T26 l0_4 x5_2).f4) ((rd_T26 l1_4 x5_2).f0) ((rd_T26 l1_4 x5_2).f1) ((rd_T26 l1_4 x5_2).f2) ((rd_T26 l1_4 x5_2).f3) _ _ ((rd_T26 l1_4 x5_2).f4) true _ ?side1 ?side2 ?side3 ?side4 A29.out).mono ?_
          (case side1 => exact zC (Kd.C_below HR456_4.out HB.out))
          (case side2 => exact HC456_4.out)
          (case side3 => exact zC (Kd.C_below HR457_4.out HB.out))
          (case side4 => exact HC457_4.out)
          rintro e w34 ⟨rfl, hb⟩
          refine ⟨_, rfl, ?_⟩
          replace BK454 := zBB BK454 hb; replace BK455 := zBB BK455 hb; replace HB := zLB (zL2 HB.out GE454.out GE455.out) hb
          clear hb
          refine hK.out _ _ ⟨(bC BK454.out 0).trans rfl, (bC BK454.out 1).trans rfl, (bC BK454.out 2).trans rfl, (bC BK454.out 3).trans rfl, (bC BK454.out 4).trans rfl, (bC BK455.out 0).trans rfl, (bC BK455.out 1).trans rfl, (bC BK455.out 2).trans rfl, (bC BK455.out 3).trans rfl, (bC BK455.out 4).trans rfl, (zh HB.out hw456_0), (zh HB.out hw456_1), (zh HB.out hw456_2), (zh HB.out hw456_3), (zh HB.out hw456_4), (zh HB.out hw457_0), (zh HB.out hw457_1), (zh HB.out hw457_2), (zh HB.out hw457_3), (zh HB.out hw457_4)⟩ fun hHeld => ?_; clear hK K
          refine nZ 58 ?_
          refine pY 11 59 (fB 12 4095) HT_.out ?_
          refine done_ (done_of HT_.out (by kernel_rfl)) ?_
          try go_wp2
          go_roundg k2
          case measure => have := HJ2.out; have := HK2.out; omega
          case rel => exact ⟨(wrap64 (x5_2 + 1)), zV, H', ⟨by have := HJ2.out; have := HK2.out; omega⟩, ⟨zB BK454.out⟩, ⟨zB BK455.out⟩, ⟨zL2 HB.out GE454.out GE455.out⟩⟩
         ·obtain rfl := Bool.eq_false_iff.mpr c30
          rw [if_neg zn] at H
          obtain rfl := Option.some.inj H
          have hnb35 := NB454_455.out
          have hnc35 := NB455_454.out
          have hcz36 := zc5 BK454.out
          have hfz36 := zf5 BK454.out
          try go_wp2
          replace BK454 := zBD BK454; replace BK455 := zBD BK455; replace HB := zLD HB
          have p456 : 0 ≤ (x5_2 : Int) := zD
          have q456 : x5_2 < (l0_4.length : Int) := zD
          obtain ⟨ad456, A456_4, c456_4, e456, hx456_0, hx456_1, hx456_2, hx456_3, hx456_4, hl456_4, hi456_4⟩ := at_T26 HR0_4.out x5_2 p456 q456
          have hw456_4 := hx456_4
          have hw456_3 := hx456_3
          have hw456_2 := hx456_2
          have hw456_1 := hx456_1
          have hw456_0 := hx456_0
          cases e456
          replace hx456_0 := zh HB.out hx456_0
          replace hx456_1 := zh HB.out hx456_1
          replace hx456_2 := zh HB.out hx456_2
          replace hx456_3 := zh HB.out hx456_3
          replace hx456_4 := zh HB.out hx456_4
          have HR456_4 := Aside0.mk hi456_4
          have HC456_4 := Aside0.mk hl456_4
          clear hi456_4 hl456_4
          replace p456 := eq_true p456
          replace q456 := eq_true q456
          have p457 : 0 ≤ (x5_2 : Int) := zD
          have q457 : x5_2 < (l1_4.length : Int) := zD
          obtain ⟨ad457, A457_4, c457_4, e457, hx457_0, hx457_1, hx457_2, hx457_3, hx457_4, hl457_4, hi457_4⟩ := at_T26 HR1_4.out x5_2 p457 q457
          have hw457_4 := hx457_4
          have hw457_3 := hx457_3
          have hw457_2 := hx457_2
          have hw457_1 := hx457_1
          have hw457_0 := hx457_0
          cases e457
          replace hx457_0 := zh HB.out hx457_0
          replace hx457_1 := zh HB.out hx457_1
          replace hx457_2 := zh HB.out hx457_2
          replace hx457_3 := zh HB.out hx457_3
          replace hx457_4 := zh HB.out hx457_4
          have HR457_4 := Aside0.mk hi457_4
          have HC457_4 := Aside0.mk hl457_4
          clear hi457_4 hl457_4
          replace p457 := eq_true p457
          replace q457 := eq_true q457
          refine start_ (n := 12) (S := fun w' => w'.cell? ⟨gb454, 0, none⟩ = some (.int .i64 a0_0) ∧ w'.cell? ⟨gb454, 1, none⟩ = some (.int .i64 a0_1) ∧ w'.cell? ⟨gb454, 2, none⟩ = some (.string a0_2) ∧ w'.cell? ⟨gb454, 3, none⟩ = some (.string a0_3) ∧ w'.cell? ⟨gb454, 4, none⟩ = some (.slice (some ad456) l0_4.length c0_4) ∧ w'.cell? ⟨gb455, 0, none⟩ = some (.int .i64 a1_0) ∧ w'.cell? ⟨gb455, 1, none⟩ = some (.int .i64 a1_1) ∧ w'.cell? ⟨gb455, 2, none⟩ = some (.string a1_2) ∧ w'.cell? ⟨gb455, 3, none⟩ = some (.string a1_3) ∧ w'.cell? ⟨gb455, 4, none⟩ = some (.slice (some ad457) l1_4.length c1_4) ∧ w'.cell? (ad456.add ((x5_2).toNat * 5)) = some (.int .i64 ((rd_T26 l0_4 x5_2).f0)) ∧ w'.cell? ⟨(ad456.add ((x5_2).toNat * 5)).block, (ad456.add ((x5_2).toNat * 5)).off + 1, none⟩ = some (.int .i64 ((rd_T26 l0_4 x5_2).f1)) ∧ w'.cell? ⟨(ad456.add ((x5_2).toNat * 5)).block, (ad456.add ((x5_2).toNat * 5)).off + 2, none⟩ = some (.string ((rd_T26 l0_4 x5_2).f2)) ∧ w'.cell? ⟨(ad456.add ((x5_2).toNat * 5)).block, (ad456.add ((x5_2).toNat * 5)).off + 3, none⟩ = some (.string ((rd_T26 l0_4 x5_2).f3)) ∧ w'.cell? ⟨(ad456.add ((x5_2).toNat * 5)).block, (ad456.add ((x5_2).toNat * 5)).off + 4, none⟩ = some (.slice A456_4 ((rd_T26 l0_4 x5_2).f4).length c456_4) ∧ w'.cell? (ad457.add ((x5_2).toNat * 5)) = some (.int .i64 ((rd_T26 l1_4 x5_2).f0)) ∧ w'.cell? ⟨(ad457.add ((x5_2).toNat * 5)).block, (ad457.add ((x5_2).toNat * 5)).off + 1, none⟩ = some (.int .i64 ((rd_T26 l1_4 x5_2).f1)) ∧ w'.cell? ⟨(ad457.add ((x5_2).toNat * 5)).block, (ad457.add ((x5_2).toNat * 5)).off + 2, none⟩ = some (.string ((rd_T26 l1_4 x5_2).f2)) ∧ w'.cell? ⟨(ad457.add ((x5_2).toNat * 5)).block, (ad457.add ((x5_2).toNat * 5)).off + 3, none⟩ = some (.string ((rd_T26 l1_4 x5_2).f3)) ∧ w'.cell? ⟨(ad457.add ((x5_2).toNat * 5)).block, (ad457.add ((x5_2).toNat * 5)).off + 4, none⟩ = some (.slice A457_4 ((rd_T26 l1_4 x5_2).f4).length c457_4)) (ds := []) (fB 12 0) (by kernel_rfl) rfl rfl ⟨(bC BK454.out 0).trans rfl, (bC BK454.out 1).trans rfl, (bC BK454.out 2).trans rfl, (bC BK454.out 3).trans rfl, (bC BK454.out 4).trans rfl, (bC BK455.out 0).trans rfl, (bC BK455.out 1).trans rfl, (bC BK455.out 2).trans rfl, (bC BK455.out 3).trans rfl, (bC BK455.out 4).trans rfl, (zh HB.out hw456_0), (zh HB.out hw456_1), (zh HB.out hw456_2), (zh HB.out hw456_3), (zh HB.out hw456_4), (zh HB.out hw457_0), (zh HB.out hw457_1), (zh HB.out hw457_2), (zh HB.out hw457_3), (zh HB.out hw457_4)⟩ (fun hHeld => ?_); refine with_tabW spec_SamePol.tab6 spec_SamePol.bits6 (fun HT_ HW_ => ?_)
          generalize wr.drew = w37 at BK454 BK455 HB HR456_4 HR457_4 hx456_0 hx456_1 hx456_2 hx456_3 hx456_4 hx457_0 hx457_1 hx457_2 hx457_3 hx457_4 hHeld ⊢
          refine pY 0 48 (fB 12 1) HT_.out ?_
          refine pY 2 50 (fB 12 5) HT_.out ?_
          refine pY 5 53 (fB 12 37) HT_.out ?_
          refine pY 7 55 (fB 12 165) HT_.out ?_
          refine tY 1 49 (fB 12 167) HT_.out HW_.out hHeld ?_
          refine pY 3 51 (fB 12 175) HT_.out ?_
          refine tY 4 52 (fB 12 191) HT_.out HW_.out hHeld ?_
          refine tY 6 54 (fB 12 255) HT_.out HW_.out hHeld ?_
          refine pY 8 56 (fB 12 511) HT_.out ?_
          refine tY 9 57 (fB 12 1023) HT_.out HW_.out hHeld ?_
          refine oN 10 58 (fB 12 2047) HT_.out fun K hK => ?_
          refine gS Tryd.func14 #[.agg #[.int .i64 ((rd_T26 l0_4 x5_2).f0), .int .i64 ((rd_T26 l0_4 x5_2).f1), .string ((rd_T26 l0_4 x5_2).f2), .string ((rd_T26 l0_4 x5_2).f3), .slice A456_4 ((rd_T26 l0_4 x5_2).f4).length c456_4], .agg #[.int .i64 ((rd_T26 l1_4 x5_2).f0), .int .i64 ((rd_T26 l1_4 x5_2).f1), .string ((rd_T26 l1_4 x5_2).f2), .string ((rd_T26 l1_4 x5_2).f3), .slice A457_4 ((rd_T26 l1_4 x5_2).f4).length c457_4]] ?_
          with_reducible refine (ih k2 (by have := HJ2.out; have := HK2.out; omega) ((rd_T26 l0_4 x5_2).f0) ((rd_T26 l0_4 x5_2).f1) ((rd_T26 l0_4 x5_2).f2) ((rd_T26 l0_4 x5_2).f3) _ _ ((rd_T26 l0_4 x5_2).f4) ((rd_T26 l1_4 x5_2).f0) ((rd_T26 l1_4 x5_2).f1) ((rd_T26 l1_4 x5_2).f2) ((rd_T26 l1_4 x5_2).f3) _ _ ((rd_T26 l1_4 x5_2).f4) false _ ?side1 ?side2 ?side3 ?side4 A29.out).mono ?_
          (case side1 => exact zC (Kd.C_below HR456_4.out HB.out))
          (case side2 => exact HC456_4.out)
          (case side3 => exact zC (Kd.C_below HR457_4.out HB.out))
          (case side4 => exact HC457_4.out)
          rintro e w38 ⟨rfl, hb⟩
          refine ⟨_, rfl, ?_⟩
          replace BK454 := zBB BK454 hb; replace BK455 := zBB BK455 hb; replace HB := zLB (zL2 HB.out GE454.out GE455.out) hb
          clear hb
          refine hK.out _ _ ⟨(bC BK454.out 0).trans rfl, (bC BK454.out 1).trans rfl, (bC BK454.out 2).trans rfl, (bC BK454.out 3).trans rfl, (bC BK454.out 4).trans rfl, (bC BK455.out 0).trans rfl, (bC BK455.out 1).trans rfl, (bC BK455.out 2).trans rfl, (bC BK455.out 3).trans rfl, (bC BK455.out 4).trans rfl, (zh HB.out hw456_0), (zh HB.out hw456_1), (zh HB.out hw456_2), (zh HB.out hw456_3), (zh HB.out hw456_4), (zh HB.out hw457_0), (zh HB.out hw457_1), (zh HB.out hw457_2), (zh HB.out hw457_3), (zh HB.out hw457_4)⟩ fun hHeld => ?_; clear hK K
          refine nZ 58 ?_
          refine pY 11 59 (fB 12 4095) HT_.out ?_
          refine done_ (done_of HT_.out (by kernel_rfl)) ?_
          try go_wp2
          go_ret
          exact ⟨zW, zL2 HB.out GE454.out GE455.out⟩
        ·rw [if_neg c28] at H
         exact absurd H (by simp)
       ·rw [if_neg c27] at H
        exact absurd H (by simp)
      ·rw [if_neg c26] at H
       have c26b0 := decide_eq_false c26
       clear c26
       obtain rfl := Option.some.inj H
       have hnb39 := NB454_455.out
       have hnc39 := NB455_454.out
       have hcz40 := zc5 BK454.out
       have hfz40 := zf5 BK454.out
       go_wp2
       go_ret
       exact ⟨zW, zL2 HB.out GE454.out GE455.out⟩

open Go.Proofs.YtfhblnbicnmndaaDoorW.PrintWords renaming blk_drewN → bN, blk_drew → bD, blk_alloc → bA, blk_cell → bC, blk_below → bB, below_set → bS
/-! ### impl_PolCount: function 15 -/
mutual
def impl_PolCount.l0 : Nat → Int → List (S26) → Int → Int → Option (Int)
 | 0, _, _, _, _ => none
 | k + 1, x3, x7, x8, x9 => if x9 < x8 then (if 0 ≤ x9 then (if x9 < (x7.length : Int) then ((impl_PolCount.f k ((rd_T26 x7 x9).f0) ((rd_T26 x7 x9).f1) ((rd_T26 x7 x9).f2) ((rd_T26 x7 x9).f3) ((rd_T26 x7 x9).f4)).bind fun t462 => (impl_PolCount.l0 k (wrap64 (x3 + t462)) x7 x8 (wrap64 (x9 + 1)))) else (none)) else (none)) else (some x3)
def impl_PolCount.f : Nat → Int → Int → ByteArray → ByteArray → List (S26) → Option (Int)
 | 0, _, _, _, _, _ => none
 | k + 1, a0_0, a0_1, a0_2, a0_3, l0_4 => impl_PolCount.l0 k 1 l0_4 (l0_4.length : Int) 0
end
theorem impl_PolCount.mono_l : ∀ k, (∀ y0 y1 y2 y3 y4, LeO (impl_PolCount.f k y0 y1 y2 y3 y4) (impl_PolCount.f (k + 1) y0 y1 y2 y3 y4)) ∧ (∀ y0 y1 y2 y3, LeO (impl_PolCount.l0 k y0 y1 y2 y3) (impl_PolCount.l0 (k + 1) y0 y1 y2 y3))
 | 0 => ⟨fun _ _ _ _ _ r h => by simp [impl_PolCount.f] at h, fun _ _ _ _ r h => by simp [impl_PolCount.l0] at h⟩
 | k + 1 => by
  obtain ⟨ih0, ih1⟩ := impl_PolCount.mono_l k
  refine ⟨?_, ?_⟩
  ·intro y0 y1 y2 y3 y4
   unfold impl_PolCount.f
   repeat' first
   | (with_reducible exact ih0 _ _ _ _ _)
   | (with_reducible exact ih1 _ _ _ _)
   | (with_reducible exact LeO.refl _)
   | (with_reducible exact LeO.none _)
   | (with_reducible refine LeO.ite ?_ ?_)
   | (with_reducible refine LeO.bind ?_ (fun _ => ?_))
   | exact ih0 _ _ _ _ _
   | exact ih1 _ _ _ _
   | exact LeO.none _
   | refine LeO.ite ?_ ?_
   | refine LeO.bind ?_ (fun _ => ?_)
  ·intro y0 y1 y2 y3
   unfold impl_PolCount.l0
   repeat' first
   | (with_reducible exact ih0 _ _ _ _ _)
   | (with_reducible exact ih1 _ _ _ _)
   | (with_reducible exact LeO.refl _)
   | (with_reducible exact LeO.none _)
   | (with_reducible refine LeO.ite ?_ ?_)
   | (with_reducible refine LeO.bind ?_ (fun _ => ?_))
   | exact ih0 _ _ _ _ _
   | exact ih1 _ _ _ _
   | exact LeO.none _
   | refine LeO.ite ?_ ?_
   | refine LeO.bind ?_ (fun _ => ?_)
theorem impl_PolCount.mono : ∀ a0 a1 a2 a3 a4 k, LeO (impl_PolCount.f k a0 a1 a2 a3 a4) (impl_PolCount.f (k + 1) a0 a1 a2 a3 a4) := by
 intro a0 a1 a2 a3 a4 k
 obtain ⟨ih0, ih1⟩ := impl_PolCount.mono_l k
 exact ih0 a0 a1 a2 a3 a4
set_option maxHeartbeats 8000000 in
set_option maxRecDepth 100000 in
theorem impl_PolCount.calls (k : Nat) : ∀ (a0_0 : Int) (a0_1 : Int) (a0_2 : ByteArray) (a0_3 : ByteArray) (A0_4 : Option Addr) (c0_4 : Nat) (l0_4 : List (S26)) (r : Int) (w : World) (hr0_4 : Kd.C k26 w A0_4 l0_4.length l0_4) (hc0_4 : l0_4.length ≤ c0_4) (h : impl_PolCount.f k a0_0 a0_1 a0_2 a0_3 l0_4 = some r),
  Calls Tryd.prog 15 #[.agg #[.int .i64 a0_0, .int .i64 a0_1, .string a0_2, .string a0_3, .slice A0_4 l0_4.length c0_4]] w fun e w' => e = .returned (.int .i64 r) ∧ Below w.heap.size w w' := by
 induction k using Nat.strongRecOn with
 | _ k ih =>
 intro a0_0 a0_1 a0_2 a0_3 A0_4 c0_4 l0_4 r w hr0_4 hc0_4 h
 cases k with
 | zero => exact absurd h (by simp [impl_PolCount.f])
 | succ k =>
 simp only [impl_PolCount.f] at h
 have hu26 := Tryd.underlying26
 have HR0_4 := Aside0.mk hr0_4
 have HC0_4 := Aside0.mk hc0_4
 clear hr0_4 hc0_4
 have HB := Aside0.mk (Below.refl w.heap.size w)
 have H : (impl_PolCount.l0 k 1 l0_4 (l0_4.length : Int) 0) = some r := h
 clear h
 have H' := Aside0.mk H
 clear H
 go_enter Tryd.func15, Tryd.ntmps15
 go_wp2_with (first | ((with_reducible refine gD 1 rfl ?_); refine bE 1 #[.int .i64 a0_0, .int .i64 a0_1, .string a0_2, .string a0_3, .slice A0_4 l0_4.length c0_4] 26 ?_; intro gb459 hg w2 hbox hb; have BK459 := Aside0.mk hbox; have GW459 := Aside0.mk (zg (zL HB.out) hg : w.heap.size ≤ gb459); have GE459 := GW459; replace HB := zLB (zL HB.out) hb; clear hb hbox hg; have hcz3 := zc5 BK459.out; have hfz3 := zf5 BK459.out))
 go_loopg [3, 9] k (fun kq v3 v9 w' => ∃ (x3_1 : Int) (x9_1 : Int), v3 = .int .i64 x3_1 ∧ v9 = .int .i64 x9_1 ∧ Aside0 (impl_PolCount.l0 kq x3_1 l0_4 (l0_4.length : Int) x9_1 = some r) ∧ Aside0 (kq ≤ k) ∧ Aside0 (w'.heap[gb459]? = some (.cells #[.int .i64 a0_0, .int .i64 a0_1, .string a0_2, .string a0_3, (.slice A0_4 l0_4.length c0_4)] 26 (0, 0))) ∧ Aside0 (Below w.heap.size w w'))
 case atStart => exact ⟨(1), (0), zV, zV, H', ⟨Nat.le_refl _⟩, ⟨zB BK459.out⟩, ⟨zL1 HB.out GE459.out⟩⟩
 case round =>
  clear H'
  try clear c1
  try clear p2
  try clear hcz3; try clear hfz3
  try clear BK459
  obtain ⟨x3_1, x9_1, rfl, rfl, HA, HK1, BK459, HB⟩ := hrel
  cases gk with
  | zero => exact absurd HA.out (by simp [impl_PolCount.l0])
  | succ k1 =>
   have H := HA.out
   clear HA
   simp only [impl_PolCount.l0] at H
   by_cases c4 : x9_1 < (l0_4.length : Int)
   ·rw [if_pos c4] at H
    have c4b0 := decide_eq_true c4
    clear c4
    by_cases c5 : 0 ≤ x9_1
    ·rw [if_pos c5] at H
     have c5b0 := decide_eq_true c5
     clear c5
     by_cases c6 : x9_1 < (l0_4.length : Int)
     ·rw [if_pos c6] at H
      have c6b0 := decide_eq_true c6
      clear c6
      obtain ⟨t462, A7, H⟩ := zO H; try dsimp only at H
      have H' := Aside0.mk H
      clear H
      have p460 : 0 ≤ (x9_1 : Int) := zD
      have q460 : x9_1 < (l0_4.length : Int) := zD
      obtain ⟨ad460, A460_4, c460_4, e460, hx460_0, hx460_1, hx460_2, hx460_3, hx460_4, hl460_4, hi460_4⟩ := at_T26 HR0_4.out x9_1 p460 q460
      cases e460
      replace hx460_0 := zh HB.out hx460_0
      replace hx460_1 := zh HB.out hx460_1
      replace hx460_2 := zh HB.out hx460_2
      replace hx460_3 := zh HB.out hx460_3
      replace hx460_4 := zh HB.out hx460_4
      have HR460_4 := Aside0.mk hi460_4
      have HC460_4 := Aside0.mk hl460_4
      clear hi460_4 hl460_4
      replace p460 := eq_true p460
      replace q460 := eq_true q460
      go_wp2_with (first | ((with_reducible refine gD 5 rfl ?_); refine bE 5 #[.int .i64 0, .int .i64 0, .string (⟨#[]⟩ : ByteArray), .string (⟨#[]⟩ : ByteArray), .slice none 0 0] 26 ?_; intro gb461 hg w8 hbox hb; have BK461 := Aside0.mk hbox; have GW461 := Aside0.mk (zg (zL1 HB.out GE459.out) hg : w.heap.size ≤ gb461); have GE461 := GW461; replace HB := zLB (zL1 HB.out GE459.out) hb; have NB459_461 := Aside0.mk (zN BK459.out hg : gb459 ≠ gb461); have NB461_459 := Aside0.mk (zM BK459.out hg : gb461 ≠ gb459); replace BK459 := zBB BK459 hb; clear hb hbox hg; have hnb9 := NB461_459.out; have hnc9 := NB459_461.out; have hcz10 := zc5 BK461.out; have hfz10 := zf5 BK461.out) | ((with_reducible refine gC 15 rfl ?_); refine gL 15 Tryd.func15 #[.agg #[.int .i64 ((rd_T26 l0_4 x9_1).f0), .int .i64 ((rd_T26 l0_4 x9_1).f1), .string ((rd_T26 l0_4 x9_1).f2), .string ((rd_T26 l0_4 x9_1).f3), .slice A460_4 ((rd_T26 l0_4 x9_1).f4).length c460_4]] ?_; (with_reducible refine (ih k1 (by have := HK1.out; omega) ((rd_T26 l0_4 x9_1).f0) ((rd_T26 l0_4 x9_1).f1) ((rd_T26 l0_4 x9_1).f2) ((rd_T26 l0_4 x9_1).f3) _ _ ((rd_T26 l0_4 x9_1).f4) t462 _ ?side1 ?side2 A7.out).mono ?_); (case side1 => exact Kd.C_below HR460_4.out (zL2 HB.out GE459.out GE461.out)); (case side2 => exact HC460_4.out); rintro e w11 ⟨rfl, hb⟩; refine ⟨_, rfl, ?_⟩; replace BK459 := Aside0.mk (bB (g := gb459) (o := .cells #[.int .i64 a0_0, .int .i64 a0_1, .string a0_2, .string a0_3, .slice (some ad460) l0_4.length c0_4] 26 (0, 0)) (by refine zB ?_; refine zr5 ?_ NB459_461.out; exact zB BK459.out) hb); replace BK461 := Aside0.mk (bB (g := gb461) (o := .cells #[.int .i64 ((rd_T26 l0_4 x9_1).f0), .int .i64 ((rd_T26 l0_4 x9_1).f1), .string ((rd_T26 l0_4 x9_1).f2), .string ((rd_T26 l0_4 x9_1).f3), .slice A460_4 ((rd_T26 l0_4 x9_1).f4).length c460_4] 26 (0, 0)) (by refine zB ?_; refine zp5 (cs := #[.int .i64 0, .int .i64 0, .string (⟨#[]⟩ : ByteArray), .string (⟨#[]⟩ : ByteArray), .slice none 0 0]) ?_; exact zB BK461.out) hb); replace HB := zLB (zL2 HB.out GE459.out GE461.out) hb; clear hb))
      go_roundg k1
      case measure => have := HK1.out; omega
      case rel => exact ⟨(wrap64 (x3_1 + t462)), (wrap64 (x9_1 + 1)), zV, zV, H', ⟨by have := HK1.out; omega⟩, ⟨zB BK459.out⟩, ⟨zL2 HB.out GE459.out GE461.out⟩⟩
     ·rw [if_neg c6] at H
      exact absurd H (by simp)
    ·rw [if_neg c5] at H
     exact absurd H (by simp)
   ·rw [if_neg c4] at H
    have c4b0 := decide_eq_false c4
    clear c4
    obtain rfl := Option.some.inj H
    go_wp2
    go_ret
    exact ⟨zW, zL1 HB.out GE459.out⟩

open Go.Proofs.YtfhblnbicnmndaaDoorW.PrintWords renaming blk_drewN → bN, blk_drew → bD, blk_alloc → bA, blk_cell → bC, blk_below → bB, below_set → bS
/-! ### impl_Pol_45: function 45 -/
def impl_Pol_45.l0 (F_ : Int → Int → ByteArray → ByteArray → List (S26) → Option (Bool)) : Nat → List (S26) → Int → Int → Option (Int)
 | 0, _, _, _ => none
 | k + 1, x0, x7, x8 => if x8 < x7 then (if 0 ≤ x8 then (if x8 < (x0.length : Int) then ((F_ ((rd_T26 x0 x8).f0) ((rd_T26 x0 x8).f1) ((rd_T26 x0 x8).f2) ((rd_T26 x0 x8).f3) ((rd_T26 x0 x8).f4)).bind fun t464 => (if t464 = true then (some x8) else (impl_Pol_45.l0 F_ k x0 x7 (wrap64 (x8 + 1))))) else (none)) else (none)) else (some (-1))
def impl_Pol_45.f (F_ : Int → Int → ByteArray → ByteArray → List (S26) → Option (Bool)) (k : Nat) (l0 : List (S26)) : Option (Int) := impl_Pol_45.l0 F_ k l0 (l0.length : Int) 0
set_option maxHeartbeats 8000000 in
set_option maxRecDepth 100000 in
theorem impl_Pol_45.calls {F_ : Int → Int → ByteArray → ByteArray → List (S26) → Option (Bool)} (hF_ : ∀ (a0_0 : Int) (a0_1 : Int) (a0_2 : ByteArray) (a0_3 : ByteArray) (A0_4 : Option Addr) (c0_4 : Nat) (l0_4 : List (S26)) (r : Bool) (w : World) (hr0_4 : Kd.C k26 w A0_4 l0_4.length l0_4) (hc0_4 : l0_4.length ≤ c0_4) (h : F_ a0_0 a0_1 a0_2 a0_3 l0_4 = some r),
    Calls Tryd.prog 17 #[.agg #[.int .i64 a0_0, .int .i64 a0_1, .string a0_2, .string a0_3, .slice A0_4 l0_4.length c0_4]] w fun e w' => e = .returned (.bool r) ∧ Below w.heap.size w w') (k : Nat) (A0 : Option Addr) (c0 : Nat) (l0 : List (S26)) (r : Int) (w : World) (hr0 : Kd.C k26 w A0 l0.length l0) (hc0 : l0.length ≤ c0) (h : impl_Pol_45.f F_ k l0 = some r) :
  Calls Tryd.prog 45 #[.slice A0 l0.length c0, .func (.func 17) #[] #[]] w fun e w' => e = .returned (.int .i64 r) ∧ Below w.heap.size w w' := by
 have hu26 := Tryd.underlying26
 have HR0 := Aside0.mk hr0
 have HC0 := Aside0.mk hc0
 clear hr0 hc0
 have HB := Aside0.mk (Below.refl w.heap.size w)
 unfold impl_Pol_45.f at h; have H := h
 clear h
 have H' := Aside0.mk H
 clear H
 go_enter Tryd.func45, Tryd.ntmps45
 go_wp2
 go_loopg [8] k (fun kq v8 w' => ∃ (x8_1 : Int), v8 = .int .i64 x8_1 ∧ Aside0 (impl_Pol_45.l0 F_ kq l0 (l0.length : Int) x8_1 = some r) ∧ Aside0 (kq ≤ k) ∧ Aside0 (Below w.heap.size w w'))
 case atStart => exact ⟨(0), zV, H', ⟨Nat.le_refl _⟩, ⟨zL HB.out⟩⟩
 case round =>
  clear H'
  obtain ⟨x8_1, rfl, HA, HK1, HB⟩ := hrel
  cases gk with
  | zero => exact absurd HA.out (by simp [impl_Pol_45.l0])
  | succ k1 =>
   have H := HA.out
   clear HA
   simp only [impl_Pol_45.l0] at H
   by_cases c2 : x8_1 < (l0.length : Int)
   ·rw [if_pos c2] at H
    have c2b0 := decide_eq_true c2
    clear c2
    by_cases c3 : 0 ≤ x8_1
    ·rw [if_pos c3] at H
     have c3b0 := decide_eq_true c3
     clear c3
     by_cases c4 : x8_1 < (l0.length : Int)
     ·rw [if_pos c4] at H
      have c4b0 := decide_eq_true c4
      clear c4
      obtain ⟨t464, A5, H⟩ := zO H; try dsimp only at H
      by_cases c6 : t464 = true
      ·subst c6
       rw [if_pos rfl] at H
       obtain rfl := Option.some.inj H
       have p463 : 0 ≤ (x8_1 : Int) := zD
       have q463 : x8_1 < (l0.length : Int) := zD
       obtain ⟨ad463, A463_4, c463_4, e463, hx463_0, hx463_1, hx463_2, hx463_3, hx463_4, hl463_4, hi463_4⟩ := at_T26 HR0.out x8_1 p463 q463
       cases e463
       replace hx463_0 := zh HB.out hx463_0
       replace hx463_1 := zh HB.out hx463_1
       replace hx463_2 := zh HB.out hx463_2
       replace hx463_3 := zh HB.out hx463_3
       replace hx463_4 := zh HB.out hx463_4
       have HR463_4 := Aside0.mk hi463_4
       have HC463_4 := Aside0.mk hl463_4
       clear hi463_4 hl463_4
       replace p463 := eq_true p463
       replace q463 := eq_true q463
       go_wp2_with (first | ((with_reducible refine gate_calleeT (t := 11) rfl ?_); refine goesT_ (t := 11) (f := 17) (by rfl) (some 16) rfl rfl Tryd.func17 (by kernel_rfl) rfl #[.agg #[.int .i64 ((rd_T26 l0 x8_1).f0), .int .i64 ((rd_T26 l0 x8_1).f1), .string ((rd_T26 l0 x8_1).f2), .string ((rd_T26 l0 x8_1).f3), .slice A463_4 ((rd_T26 l0 x8_1).f4).length c463_4]] rfl zE ?_; (with_reducible refine (hF_ ((rd_T26 l0 x8_1).f0) ((rd_T26 l0 x8_1).f1) ((rd_T26 l0 x8_1).f2) ((rd_T26 l0 x8_1).f3) _ _ ((rd_T26 l0 x8_1).f4) true _ ?side1 ?side2 A5.out).mono ?_); (case side1 => exact zC (Kd.C_below HR463_4.out HB.out)); (case side2 => exact HC463_4.out); rintro e w7 ⟨rfl, hb⟩; refine ⟨_, rfl, ?_⟩; replace HB := zLB (zL HB.out) hb; clear hb))
       go_ret
       exact ⟨zW, zL HB.out⟩
      ·obtain rfl := Bool.eq_false_iff.mpr c6
       rw [if_neg zn] at H
       have H' := Aside0.mk H
       clear H
       have p463 : 0 ≤ (x8_1 : Int) := zD
       have q463 : x8_1 < (l0.length : Int) := zD
       obtain ⟨ad463, A463_4, c463_4, e463, hx463_0, hx463_1, hx463_2, hx463_3, hx463_4, hl463_4, hi463_4⟩ := at_T26 HR0.out x8_1 p463 q463
       cases e463
       replace hx463_0 := zh HB.out hx463_0
       replace hx463_1 := zh HB.out hx463_1
       replace hx463_2 := zh HB.out hx463_2
       replace hx463_3 := zh HB.out hx463_3
       replace hx463_4 := zh HB.out hx463_4
       have HR463_4 := Aside0.mk hi463_4
       have HC463_4 := Aside0.mk hl463_4
       clear hi463_4 hl463_4
       replace p463 := eq_true p463
       replace q463 := eq_true q463
       go_wp2_with (first | ((with_reducible refine gate_calleeT (t := 11) rfl ?_); refine goesT_ (t := 11) (f := 17) (by rfl) (some 16) rfl rfl Tryd.func17 (by kernel_rfl) rfl #[.agg #[.int .i64 ((rd_T26 l0 x8_1).f0), .int .i64 ((rd_T26 l0 x8_1).f1), .string ((rd_T26 l0 x8_1).f2), .string ((rd_T26 l0 x8_1).f3), .slice A463_4 ((rd_T26 l0 x8_1).f4).length c463_4]] rfl zE ?_; (with_reducible refine (hF_ ((rd_T26 l0 x8_1).f0) ((rd_T26 l0 x8_1).f1) ((rd_T26 l0 x8_1).f2) ((rd_T26 l0 x8_1).f3) _ _ ((rd_T26 l0 x8_1).f4) false _ ?side1 ?side2 A5.out).mono ?_); (case side1 => exact zC (Kd.C_below HR463_4.out HB.out)); (case side2 => exact HC463_4.out); rintro e w8 ⟨rfl, hb⟩; refine ⟨_, rfl, ?_⟩; replace HB := zLB (zL HB.out) hb; clear hb))
       go_roundg k1
       case measure => have := HK1.out; omega
       case rel => exact ⟨(wrap64 (x8_1 + 1)), zV, H', ⟨by have := HK1.out; omega⟩, ⟨zL HB.out⟩⟩
     ·rw [if_neg c4] at H
      exact absurd H (by simp)
    ·rw [if_neg c3] at H
     exact absurd H (by simp)
   ·rw [if_neg c2] at H
    have c2b0 := decide_eq_false c2
    clear c2
    obtain rfl := Option.some.inj H
    go_wp2
    go_ret
    exact ⟨zW, zL HB.out⟩

open Go.Proofs.YtfhblnbicnmndaaDoorW.PrintWords renaming blk_drewN → bN, blk_drew → bD, blk_alloc → bA, blk_cell → bC, blk_below → bB, below_set → bS
/-! ### impl_Pol_31: function 31 -/
def impl_Pol_31.f (F_ : Int → Int → ByteArray → ByteArray → List (S26) → Option (Bool)) (k : Nat) (l0 : List (S26)) : Option (Bool) := (impl_Pol_45.f F_ k l0).bind fun t465 => (some (decide (t465 ≥ 0)))
set_option maxHeartbeats 8000000 in
set_option maxRecDepth 100000 in
theorem impl_Pol_31.calls {F_ : Int → Int → ByteArray → ByteArray → List (S26) → Option (Bool)} (hF_ : ∀ (a0_0 : Int) (a0_1 : Int) (a0_2 : ByteArray) (a0_3 : ByteArray) (A0_4 : Option Addr) (c0_4 : Nat) (l0_4 : List (S26)) (r : Bool) (w : World) (hr0_4 : Kd.C k26 w A0_4 l0_4.length l0_4) (hc0_4 : l0_4.length ≤ c0_4) (h : F_ a0_0 a0_1 a0_2 a0_3 l0_4 = some r),
    Calls Tryd.prog 17 #[.agg #[.int .i64 a0_0, .int .i64 a0_1, .string a0_2, .string a0_3, .slice A0_4 l0_4.length c0_4]] w fun e w' => e = .returned (.bool r) ∧ Below w.heap.size w w') (k : Nat) (A0 : Option Addr) (c0 : Nat) (l0 : List (S26)) (r : Bool) (w : World) (hr0 : Kd.C k26 w A0 l0.length l0) (hc0 : l0.length ≤ c0) (h : impl_Pol_31.f F_ k l0 = some r) :
  Calls Tryd.prog 31 #[.slice A0 l0.length c0, .func (.func 17) #[] #[]] w fun e w' => e = .returned (.bool r) ∧ Below w.heap.size w w' := by
 have HR0 := Aside0.mk hr0
 have HC0 := Aside0.mk hc0
 clear hr0 hc0
 have HB := Aside0.mk (Below.refl w.heap.size w)
 unfold impl_Pol_31.f at h; have H := h
 clear h
 obtain ⟨t465, A2, H⟩ := zO H; try dsimp only at H
 obtain rfl := Option.some.inj H
 go_enter Tryd.func31, Tryd.ntmps31
 go_wp2_with (first | ((with_reducible refine gC 45 rfl ?_); refine gL 7 Tryd.func45 #[.slice A0 l0.length c0, .func (.func 17) #[] #[]] ?_; (with_reducible refine (impl_Pol_45.calls hF_ k _ _ l0 t465 _ ?side1 ?side2 A2.out).mono ?_); (case side1 => exact zC HR0.out); (case side2 => exact HC0.out); rintro e w3 ⟨rfl, hb⟩; refine ⟨_, rfl, ?_⟩; replace HB := zLB (zL HB.out) hb; clear hb))
 go_ret
 exact ⟨zW, zL HB.out⟩

open Go.Proofs.YtfhblnbicnmndaaDoorW.PrintWords renaming blk_drewN → bN, blk_drew → bD, blk_alloc → bA, blk_cell → bC, blk_below → bB, below_set → bS
/-! ### impl_HasRate: function 17 -/
def impl_HasRate.f : Nat → Int → Int → ByteArray → ByteArray → List (S26) → Option (Bool)
  | 0, _, _, _, _, _ => none
  | k + 1, a0_0, a0_1, a0_2, a0_3, l0_4 => if a0_0 = 6 then (some true) else ((impl_Pol_31.f (fun b0_ b1_ b2_ b3_ b4_ => impl_HasRate.f k b0_ b1_ b2_ b3_ b4_) k l0_4).bind fun t467 => (some t467))
set_option maxHeartbeats 8000000 in
set_option maxRecDepth 100000 in
theorem impl_HasRate.calls (k : Nat) : ∀ (a0_0 : Int) (a0_1 : Int) (a0_2 : ByteArray) (a0_3 : ByteArray) (A0_4 : Option Addr) (c0_4 : Nat) (l0_4 : List (S26)) (r : Bool) (w : World) (hr0_4 : Kd.C k26 w A0_4 l0_4.length l0_4) (hc0_4 : l0_4.length ≤ c0_4) (h : impl_HasRate.f k a0_0 a0_1 a0_2 a0_3 l0_4 = some r),
   Calls Tryd.prog 17 #[.agg #[.int .i64 a0_0, .int .i64 a0_1, .string a0_2, .string a0_3, .slice A0_4 l0_4.length c0_4]] w fun e w' => e = .returned (.bool r) ∧ Below w.heap.size w w' := by
 induction k with
 | zero =>
   intro a0_0 a0_1 a0_2 a0_3 A0_4 c0_4 l0_4 r w hr0_4 hc0_4 h
   exact absurd h (by simp [impl_HasRate.f])
 | succ k ih =>
 intro a0_0 a0_1 a0_2 a0_3 A0_4 c0_4 l0_4 r w hr0_4 hc0_4 h
 have hu26 := Tryd.underlying26
 have HR0_4 := Aside0.mk hr0_4
 have HC0_4 := Aside0.mk hc0_4
 clear hr0_4 hc0_4
 have HB := Aside0.mk (Below.refl w.heap.size w)
 unfold impl_HasRate.f at h; have H := h
 clear h
 by_cases c2 : a0_0 = 6
 ·rw [if_pos c2] at H
  obtain ⟨c2b0, c2b1⟩ := zt c2
  clear c2
  obtain rfl := Option.some.inj H
  go_enter Tryd.func17, Tryd.ntmps17
  go_wp2_with (first | ((with_reducible refine gD 1 rfl ?_); refine bE 1 #[.int .i64 a0_0, .int .i64 a0_1, .string a0_2, .string a0_3, .slice A0_4 l0_4.length c0_4] 26 ?_; intro gb466 hg w3 hbox hb; have BK466 := Aside0.mk hbox; have GW466 := Aside0.mk (zg (zL HB.out) hg : w.heap.size ≤ gb466); have GE466 := GW466; replace HB := zLB (zL HB.out) hb; clear hb hbox hg; have hcz4 := zc5 BK466.out; have hfz4 := zf5 BK466.out))
  go_ret
  exact ⟨zW, zL1 HB.out GE466.out⟩
 ·rw [if_neg c2] at H
  obtain ⟨c2b0, c2b1⟩ := zf c2
  obtain ⟨t467, A5, H⟩ := zO H; try dsimp only at H
  obtain rfl := Option.some.inj H
  go_enter Tryd.func17, Tryd.ntmps17
  go_wp2_with (first | ((with_reducible refine gD 1 rfl ?_); refine bE 1 #[.int .i64 a0_0, .int .i64 a0_1, .string a0_2, .string a0_3, .slice A0_4 l0_4.length c0_4] 26 ?_; intro gb466 hg w6 hbox hb; have BK466 := Aside0.mk hbox; have GW466 := Aside0.mk (zg (zL HB.out) hg : w.heap.size ≤ gb466); have GE466 := GW466; replace HB := zLB (zL HB.out) hb; clear hb hbox hg; have hcz7 := zc5 BK466.out; have hfz7 := zf5 BK466.out) | (go_at_call 31; (with_reducible refine (impl_Pol_31.calls ih k _ _ l0_4 t467 _ ?side1 ?side2 A5.out).mono ?_); (case side1 => exact zC (Kd.C_below HR0_4.out HB.out)); (case side2 => exact HC0_4.out); rintro e w8 ⟨rfl, hb⟩; replace BK466 := zBB BK466 hb; replace HB := zLB (zL1 HB.out GE466.out) hb; clear hb))
  go_ret
  exact ⟨zW, zL1 HB.out GE466.out⟩

end Go.Proofs.YtfhblnbicnmndaaDoor.QFnPols
