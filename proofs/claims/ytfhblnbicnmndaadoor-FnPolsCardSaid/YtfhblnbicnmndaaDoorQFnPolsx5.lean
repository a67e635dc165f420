/- What the Go functions that the law FnPols reaches answer: each as a Lean function, with its walk. Written by a program of this session. Conditions: those that each theorem names. -/
import Derived.Test.YtfhblnbicnmndaaDoorQFnPolsx0
import Derived.Test.YtfhblnbicnmndaaDoorQFnPolsx4
namespace Go.Proofs.YtfhblnbicnmndaaDoor.QFnPols
open Go.RowKit Go.Proofs.YtfhblnbicnmndaaDoorW.PrintWords Go.Proofs.YtfhblnbicnmndaaDoorW.PrintLast Go.Proofs.YtfhblnbicnmndaaDoorW.PrintMore
attribute [local go_sem] max2_int min2_int max_two min_two max_three min_three max_four min_four   -- for this text's walks alone
set_option linter.unusedVariables false
set_option linter.unusedSimpArgs false

open Go.Proofs.YtfhblnbicnmndaaDoorW.PrintWords renaming blk_drewN → bN, blk_drew → bD, blk_alloc → bA, blk_cell → bC, blk_below → bB, below_set → bS
/-! ### impl_polParts: function 28 -/
mutual
def impl_polParts.j0 : Nat → Int → Bool → Int → Int → ByteArray → ByteArray → List (S26) → Option (Int)
 | 0, _, _, _, _, _, _, _ => none
 | k + 1, x1, x14, x421000, x421001, x421002, x421003, x421004 => if x14 = true then (some 13) else (impl_polParts.l0 k x1 1 x421004 (x421004.length : Int) 0)
def impl_polParts.l0 : Nat → Int → Int → List (S26) → Int → Int → Option (Int)
 | 0, _, _, _, _, _ => none
 | k + 1, x1, x5, x16, x17, x18 => if x18 < x17 then (if 0 ≤ x18 then (if x18 < (x16.length : Int) then ((impl_polParts.f k ((rd_T26 x16 x18).f0) ((rd_T26 x16 x18).f1) ((rd_T26 x16 x18).f2) ((rd_T26 x16 x18).f3) ((rd_T26 x16 x18).f4) (wrap64 (x1 + 1))).bind fun t424 => (if (wrap64 (x5 + t424)) ≥ 13 then (some 13) else (impl_polParts.l0 k x1 (wrap64 (x5 + t424)) x16 x17 (wrap64 (x18 + 1))))) else (none)) else (none)) else (some x5)
def impl_polParts.f : Nat → Int → Int → ByteArray → ByteArray → List (S26) → Int → Option (Int)
 | 0, _, _, _, _, _, _ => none
 | k + 1, a0_0, a0_1, a0_2, a0_3, l0_4, a1 => if a1 > 4 then (impl_polParts.j0 k a1 true a0_0 a0_1 a0_2 a0_3 l0_4) else ((impl_polHeadOk.f k a0_0 a0_1 a0_2 a0_3 l0_4).bind fun t421 => (impl_polParts.j0 k a1 (!t421) a0_0 a0_1 a0_2 a0_3 l0_4))
end
theorem impl_polParts.mono_l : ∀ k, (∀ y0 y1 y2 y3 y4 y5, LeO (impl_polParts.f k y0 y1 y2 y3 y4 y5) (impl_polParts.f (k + 1) y0 y1 y2 y3 y4 y5)) ∧ (∀ y0 y1 y2 y3 y4 y5 y6, LeO (impl_polParts.j0 k y0 y1 y2 y3 y4 y5 y6) (impl_polParts.j0 (k + 1) y0 y1 y2 y3 y4 y5 y6)) ∧ (∀ y0 y1 y2 y3 y4, LeO (impl_polParts.l0 k y0 y1 y2 y3 y4) (impl_polParts.l0 (k + 1) y0 y1 y2 y3 y4))
 | 0 => ⟨fun _ _ _ _ _ _ r h => by simp [impl_polParts.f] at h, fun _ _ _ _ _ _ _ r h => by simp [impl_polParts.j0] at h, fun _ _ _ _ _ r h => by simp [impl_polParts.l0] at h⟩
 | k + 1 => by
  obtain ⟨ih0, ih1, ih2⟩ := impl_polParts.mono_l k
  refine ⟨?_, ?_, ?_⟩
  ·intro y0 y1 y2 y3 y4 y5
   unfold impl_polParts.f
   repeat' first
   | (with_reducible exact ih0 _ _ _ _ _ _)
   | (with_reducible exact ih1 _ _ _ _ _ _ _)
   | (with_reducible exact ih2 _ _ _ _ _)
   | (with_reducible apply impl_polHeadOk.mono)
   | (with_reducible exact LeO.refl _)
   | (with_reducible exact LeO.none _)
   | (with_reducible refine LeO.ite ?_ ?_)
   | (with_reducible refine LeO.bind ?_ (fun _ => ?_))
   | exact ih0 _ _ _ _ _ _
   | exact ih1 _ _ _ _ _ _ _
   | exact ih2 _ _ _ _ _
   | apply impl_polHeadOk.mono
   | exact LeO.none _
   | refine LeO.ite ?_ ?_
   | refine LeO.bind ?_ (fun _ => ?_)
  ·intro y0 y1 y2 y3 y4 y5 y6
   unfold impl_polParts.j0
   repeat' first
   | (with_reducible exact ih0 _ _ _ _ _ _)
   | (with_reducible exact ih1 _ _ _ _ _ _ _)
   | (with_reducible exact ih2 _ _ _ _ _)
   | (with_reducible apply impl_polHeadOk.mono)
   | (with_reducible exact LeO.refl _)
   | (with_reducible exact LeO.none _)
   | (with_reducible refine LeO.ite ?_ ?_)
   | (with_reducible refine LeO.bind ?_ (fun _ => ?_))
   | exact ih0 _ _ _ _ _ _
   | exact ih1 _ _ _ _ _ _ _
   | exact ih2 _ _ _ _ _
   | apply impl_polHeadOk.mono
   | exact LeO.none _
   | refine LeO.ite ?_ ?_
   | refine LeO.bind ?_ (fun _ => ?_)
  ·intro y0 y1 y2 y3 y4
   unfold impl_polParts.l0
   repeat' first
   | (with_reducible exact ih0 _ _ _ _ _ _)
   | (with_reducible exact ih1 _ _ _ _ _ _ _)
   | (with_reducible exact ih2 _ _ _ _ _)
   | (with_reducible apply impl_polHeadOk.mono)
   | (with_reducible exact LeO.refl _)
   | (with_reducible exact LeO.none _)
   | (with_reducible refine LeO.ite ?_ ?_)
   | (with_reducible refine LeO.bind ?_ (fun _ => ?_))
   | exact ih0 _ _ _ _ _ _
   | exact ih1 _ _ _ _ _ _ _
   | exact ih2 _ _ _ _ _
   | apply impl_polHeadOk.mono
   | exact LeO.none _
   | refine LeO.ite ?_ ?_
   | refine LeO.bind ?_ (fun _ => ?_)
theorem impl_polParts.mono : ∀ a0 a1 a2 a3 a4 a5 k, LeO (impl_polParts.f k a0 a1 a2 a3 a4 a5) (impl_polParts.f (k + 1) a0 a1 a2 a3 a4 a5) := by
 intro a0 a1 a2 a3 a4 a5 k
 obtain ⟨ih0, ih1, ih2⟩ := impl_polParts.mono_l k
 exact ih0 a0 a1 a2 a3 a4 a5
set_option maxHeartbeats 8000000 in
set_option maxRecDepth 100000 in
theorem impl_polParts.calls (k : Nat) : ∀ (a0_0 : Int) (a0_1 : Int) (a0_2 : ByteArray) (a0_3 : ByteArray) (A0_4 : Option Addr) (c0_4 : Nat) (l0_4 : List (S26)) (a1 : Int) (r : Int) (w : World) (hr0_4 : Kd.C k26 w A0_4 l0_4.length l0_4) (hc0_4 : l0_4.length ≤ c0_4) (h : impl_polParts.f k a0_0 a0_1 a0_2 a0_3 l0_4 a1 = some r),
  Calls Tryd.prog 28 #[.agg #[.int .i64 a0_0, .int .i64 a0_1, .string a0_2, .string a0_3, .slice A0_4 l0_4.length c0_4], .int .i64 a1] w fun e w' => e = .returned (.int .i64 r) ∧ Below w.heap.size w w' := by
 induction k using Nat.strongRecOn with
 | _ k ih =>
 intro a0_0 a0_1 a0_2 a0_3 A0_4 c0_4 l0_4 a1 r w hr0_4 hc0_4 h
 cases k with
 | zero => exact absurd h (by simp [impl_polParts.f])
 | succ k =>
 simp only [impl_polParts.f] at h
 have hu26 := Tryd.underlying26
 have HR0_4 := Aside0.mk hr0_4
 have HC0_4 := Aside0.mk hc0_4
 clear hr0_4 hc0_4
 have HB := Aside0.mk (Below.refl w.heap.size w)
 have H : (if a1 > 4 then (impl_polParts.j0 k a1 true a0_0 a0_1 a0_2 a0_3 l0_4) else ((impl_polHeadOk.f k a0_0 a0_1 a0_2 a0_3 l0_4).bind fun t421 => (impl_polParts.j0 k a1 (!t421) a0_0 a0_1 a0_2 a0_3 l0_4))) = some r := h
 clear h
 have HC3 := Aside0.mk H
 clear H
 go_enter Tryd.func28, Tryd.ntmps28
 go_upto_region 1 with (first | ((with_reducible refine gD 2 rfl ?_); refine bE 2 #[.int .i64 a0_0, .int .i64 a0_1, .string a0_2, .string a0_3, .slice A0_4 l0_4.length c0_4] 26 ?_; intro gb420 hg w4 hbox hb; have BK420 := Aside0.mk hbox; have GW420 := Aside0.mk (zg (zL HB.out) hg : w.heap.size ≤ gb420); have GE420 := GW420; replace HB := zLB (zL HB.out) hb; clear hb hbox hg))
 (try simp only [Act.put, List.setIfInBounds_toArray, List.set_cons_zero, List.set_cons_succ])
 go_cut [14] (fun v14 wc => ∃ (kq : Nat) (x14_2 : Bool), v14 = .bool x14_2 ∧ Aside0 (impl_polParts.j0 kq a1 x14_2 a0_0 a0_1 a0_2 a0_3 l0_4 = some r) ∧ Aside0 (kq ≤ k) ∧ Aside0 (wc.heap[gb420]? = some (.cells #[.int .i64 a0_0, .int .i64 a0_1, .string a0_2, .string a0_3, (.slice A0_4 l0_4.length c0_4)] 26 (0, 0))) ∧ Aside0 (Below w.heap.size w wc))
 case first =>
  have H := HC3.out
  clear HC3
  by_cases c5 : a1 > 4
  ·rw [if_pos c5] at H
   have c5b0 := decide_eq_true c5
   clear c5
   (first | rw [c5b0] | (simp only [i64_w, i32_w]; rw [c5b0]) | skip)
   have H' := Aside0.mk H
   clear H
   go_wp2
   go_meet
   case rel => exact ⟨_, (true), zV, H', ⟨by first | omega | exact Nat.le_refl _⟩, ⟨zB BK420.out⟩, ⟨zL1 HB.out GE420.out⟩⟩
  ·rw [if_neg c5] at H
   have c5b0 := decide_eq_false c5
   clear c5
   (first | rw [c5b0] | (simp only [i64_w, i32_w]; rw [c5b0]) | skip)
   obtain ⟨t421, A6, H⟩ := zO H; try dsimp only at H
   have H' := Aside0.mk H
   clear H
   have hcz7 := zc5 BK420.out
   have hfz7 := zf5 BK420.out
   go_wp2_with (first | (go_at_call 43; (with_reducible refine (impl_polHeadOk.calls k a0_0 a0_1 a0_2 a0_3 _ _ l0_4 t421 _ ?side1 ?side2 A6.out).mono ?_); (case side1 => exact zC (Kd.C_below HR0_4.out HB.out)); (case side2 => exact HC0_4.out); rintro e w8 ⟨rfl, hb⟩; replace BK420 := zBB BK420 hb; replace HB := zLB (zL1 HB.out GE420.out) hb; clear hb))
   go_meet
   case rel => exact ⟨_, (!t421), zV, H', ⟨by first | omega | exact Nat.le_refl _⟩, ⟨zB BK420.out⟩, ⟨zL1 HB.out GE420.out⟩⟩
 case rest =>
  clear HC3
  try clear c2
  try clear p2
  try clear c5
  try clear c5b0
  try clear hcz7; try clear hfz7
  obtain ⟨kq, x14_2, rfl, HA, HJ2, BK420, HB⟩ := hcut
  cases kq with
  | zero => exact absurd HA.out (by simp [impl_polParts.j0])
  | succ kj2 =>
   have H := HA.out
   clear HA
   simp only [impl_polParts.j0] at H
   by_cases c9 : x14_2 = true
   ·subst c9
    rw [if_pos rfl] at H
    obtain rfl := Option.some.inj H
    go_wp2
    go_ret
    exact ⟨zW, zL1 HB.out GE420.out⟩
   ·obtain rfl := Bool.eq_false_iff.mpr c9
    rw [if_neg zn] at H
    have H' := Aside0.mk H
    clear H
    have hcz10 := zc5 BK420.out
    have hfz10 := zf5 BK420.out
    go_wp2
    go_loopg [5, 18] kj2 (fun kq v5 v18 w' => ∃ (x5_2 : Int) (x18_2 : Int), v5 = .int .i64 x5_2 ∧ v18 = .int .i64 x18_2 ∧ Aside0 (impl_polParts.l0 kq a1 x5_2 l0_4 (l0_4.length : Int) x18_2 = some r) ∧ Aside0 (kq ≤ kj2) ∧ Aside0 (w'.heap[gb420]? = some (.cells #[.int .i64 a0_0, .int .i64 a0_1, .string a0_2, .string a0_3, (.slice A0_4 l0_4.length c0_4)] 26 (0, 0))) ∧ Aside0 (Below w.heap.size w w'))
    case atStart => exact ⟨(1), (0), zV, zV, H', ⟨Nat.le_refl _⟩, ⟨zB BK420.out⟩, ⟨zL1 HB.out GE420.out⟩⟩
    case round =>
     clear H'
     try clear c2
     try clear p2
     try clear c5
     try clear c5b0
     try clear c9
     try clear hcz10; try clear hcz7; try clear hfz10; try clear hfz7
     try clear p2
     try clear BK420
     obtain ⟨x5_2, x18_2, rfl, rfl, HA, HK2, BK420, HB⟩ := hrel
     cases gk with
     | zero => exact absurd HA.out (by simp [impl_polParts.l0])
     | succ k2 =>
      have H := HA.out
      clear HA
      simp only [impl_polParts.l0] at H
      by_cases c11 : x18_2 < (l0_4.length : Int)
      ·rw [if_pos c11] at H
       have c11b0 := decide_eq_true c11
       clear c11
       by_cases c12 : 0 ≤ x18_2
       ·rw [if_pos c12] at H
        have c12b0 := decide_eq_true c12
        clear c12
        by_cases c13 : x18_2 < (l0_4.length : Int)
        ·rw [if_pos c13] at H
         have c13b0 := decide_eq_true c13
         clear c13
         obtain ⟨t424, A14, H⟩ := zO H; try dsimp only at H
         by_cases c15 : (wrap64 (x5_2 + t424)) ≥ 13
         ·rw [if_pos c15] at H
          have c15b0 := decide_eq_true c15
          clear c15
          obtain rfl := Option.some.inj H
          have p422 : 0 ≤ (x18_2 : Int) := zD
          have q422 : x18_2 < (l0_4.length : Int) := zD
          obtain ⟨ad422, A422_4, c422_4, e422, hx422_0, hx422_1, hx422_2, hx422_3, hx422_4, hl422_4, hi422_4⟩ := at_T26 HR0_4.out x18_2 p422 q422
          cases e422
          replace hx422_0 := zh HB.out hx422_0
          replace hx422_1 := zh HB.out hx422_1
          replace hx422_2 := zh HB.out hx422_2
          replace hx422_3 := zh HB.out hx422_3
          replace hx422_4 := zh HB.out hx422_4
          have HR422_4 := Aside0.mk hi422_4
          have HC422_4 := Aside0.mk hl422_4
          clear hi422_4 hl422_4
          replace p422 := eq_true p422
          replace q422 := eq_true q422
          go_wp2_with (first | ((with_reducible refine gD 7 rfl ?_); refine bE 7 #[.int .i64 0, .int .i64 0, .string (⟨#[]⟩ : ByteArray), .string (⟨#[]⟩ : ByteArray), .slice none 0 0] 26 ?_; intro gb423 hg w16 hbox hb; have BK423 := Aside0.mk hbox; have GW423 := Aside0.mk (zg (zL1 HB.out GE420.out) hg : w.heap.size ≤ gb423); have GE423 := GW423; replace HB := zLB (zL1 HB.out GE420.out) hb; have NB420_423 := Aside0.mk (zN BK420.out hg : gb420 ≠ gb423); have NB423_420 := Aside0.mk (zM BK420.out hg : gb423 ≠ gb420); replace BK420 := zBB BK420 hb; clear hb hbox hg; have hnb17 := NB423_420.out; have hnc17 := NB420_423.out; have hcz18 := zc5 BK423.out; have hfz18 := zf5 BK423.out) | ((with_reducible refine gC 28 rfl ?_); refine gL 26 Tryd.func28 #[.agg #[.int .i64 ((rd_T26 l0_4 x18_2).f0), .int .i64 ((rd_T26 l0_4 x18_2).f1), .string ((rd_T26 l0_4 x18_2).f2), .string ((rd_T26 l0_4 x18_2).f3), .slice A422_4 ((rd_T26 l0_4 x18_2).f4).length c422_4], .int .i64 (wrap64 (a1 + 1))] ?_; (with_reducible refine (ih k2 (by have := HJ2.out; have := HK2.out; omega) ((rd_T26 l0_4 x18_2).f0) ((rd_T26 l0_4 x18_2).f1) ((rd_T26 l0_4 x18_2).f2) ((rd_T26 l0_4 x18_2).f3) _ _ ((rd_T26 l0_4 x18_2).f4) (wrap64 (a1 + 1)) t424 _ ?side1 ?side2 A14.out).mono ?_); (case side1 => exact Kd.C_below HR422_4.out (zL2 HB.out GE420.out GE423.out)); (case side2 => exact HC422_4.out); rintro e w19 ⟨rfl, hb⟩; refine ⟨_, rfl, ?_⟩; replace BK420 := Aside0.mk (bB (g := gb420) (o := .cells #[.int .i64 a0_0, .int .i64 a0_1, .string a0_2, .string a0_3, .slice (some ad422) l0_4.length c0_4] 26 (0, 0)) (by refine zB ?_; refine zr5 ?_ NB420_423.out; exact zB BK420.out) hb); replace BK423 := Aside0.mk (bB (g := gb423) (o := .cells #[.int .i64 ((rd_T26 l0_4 x18_2).f0), .int .i64 ((rd_T26 l0_4 x18_2).f1), .string ((rd_T26 l0_4 x18_2).f2), .string ((rd_T26 l0_4 x18_2).f3), .slice A422_4 ((rd_T26 l0_4 x18_2).f4).length c422_4] 26 (0, 0)) (by refine zB ?_; refine zp5 (cs := #[.int .i64 0, .int .i64 0, .string (⟨#[]⟩ : ByteArray), .string (⟨#[]⟩ : ByteArray), .slice none 0 0]) ?_; exact zB BK423.out) hb); replace HB := zLB (zL2 HB.out GE420.out GE423.out) hb; clear hb))
          go_ret
          exact ⟨zW, zL2 HB.out GE420.out GE423.out⟩
         ·rw [if_neg c15] at H
          have c15b0 := decide_eq_false c15
          clear c15
          have H' := Aside0.mk H
          clear H
          have p422 : 0 ≤ (x18_2 : Int) := zD
          have q422 : x18_2 < (l0_4.length : Int) := zD
          obtain ⟨ad422, A422_4, c422_4, e422, hx422_0, hx422_1, hx422_2, hx422_3, hx422_4, hl422_4, hi422_4⟩ := at_T26 HR0_4.out x18_2 p422 q422
          cases e422
          replace hx422_0 := zh HB.out hx422_0
          replace hx422_1 := zh HB.out hx422_1
          replace hx422_2 := zh HB.out hx422_2
          replace hx422_3 := zh HB.out hx422_3
          replace hx422_4 := zh HB.out hx422_4
          have HR422_4 := Aside0.mk hi422_4
          have HC422_4 := Aside0.mk hl422_4
          clear hi422_4 hl422_4
          replace p422 := eq_true p422
          replace q422 := eq_true q422
          go_wp2_with (first | ((with_reducible refine gD 7 rfl ?_); refine bE 7 #[.int .i64 0, .int .i64 0, .string (⟨#[]⟩ : ByteArray), .string (⟨#[]⟩ : ByteArray), .slice none 0 0] 26 ?_; intro gb423 hg w20 hbox hb; have BK423 := Aside0.mk hbox; have GW423 := Aside0.mk (zg (zL1 HB.out GE420.out) hg : w.heap.size ≤ gb423); have GE423 := GW423; replace HB := zLB (zL1 HB.out GE420.out) hb; have NB420_423 := Aside0.mk (zN BK420.out hg : gb420 ≠ gb423); have NB423_420 := Aside0.mk (zM BK420.out hg : gb423 ≠ gb420); replace BK420 := zBB BK420 hb; clear hb hbox hg; have hnb21 := NB423_420.out; have hnc21 := NB420_423.out; have hcz22 := zc5 BK423.out; have hfz22 := zf5 BK423.out) | ((with_reducible refine gC 28 rfl ?_); refine gL 26 Tryd.func28 #[.agg #[.int .i64 ((rd_T26 l0_4 x18_2).f0), .int .i64 ((rd_T26 l0_4 x18_2).f1), .string ((rd_T26 l0_4 x18_2).f2), .string ((rd_T26 l0_4 x18_2).f3), .slice A422_4 ((rd_T26 l0_4 x18_2).f4).length c422_4], .int .i64 (wrap64 (a1 + 1))] ?_; (with_reducible refine (ih k2 (by have := HJ2.out; have := HK2.out; omega) ((rd_T26 l0_4 x18_2).f0) ((rd_T26 l0_4 x18_2).f1) ((rd_T26 l0_4 x18_2).f2) ((rd_T26 l0_4 x18_2).f3) _ _ ((rd_T26 l0_4 x18_2).f4) (wrap64 (a1 + 1)) t424 _ ?side1 ?side2 A14.out).mono ?_); (case side1 => exact Kd.C_below HR422_4.out (zL2 HB.out GE420.out GE423.out)); (case side2 => exact HC422_4.out); rintro e w23 ⟨rfl, hb⟩; refine ⟨_, rfl, ?_⟩; replace BK420 := Aside0.mk (bB (g := gb420) (o := .cells #[.int .i64 a0_0, .int .i64 a0_1, .string a0_2, .string a0_3, .slice (some ad422) l0_4.length c0_4] 26 (0, 0)) (by refine zB ?_; refine zr5 ?_ NB420_423.out; exact zB BK420.out) hb); replace BK423 := Aside0.mk (bB (g := gb423) (o := .cells #[.int .i64 ((rd_T26 l0_4 x18_2).f0), .int .i64 ((rd_T26 l0_4 x18_2).f1), .string ((rd_T26 l0_4 x18_2).f2), .string ((rd_T26 l0_4 x18_2).f3), .slice A422_4 ((rd_T26 l0_4 x18_2).f4).length c422_4] 26 (0, 0)) (by refine zB ?_; refine zp5 (cs := #[.int .i64 0, .int .i64 0, .string (⟨#[]⟩ : ByteArray), .string (⟨#[]⟩ : ByteArray), .slice none 0 0]) ?_; exact zB BK423.out) hb); replace HB := zLB (zL2 HB.out GE420.out GE423.out) hb; clear hb))
          go_roundg k2
          case measure => have := HJ2.out; have := HK2.out; omega
          case rel => exact ⟨(wrap64 (x5_2 + t424)), (wrap64 (x18_2 + 1)), zV, zV, H', ⟨by have := HJ2.out; have := HK2.out; omega⟩, ⟨zB BK420.out⟩, ⟨zL2 HB.out GE420.out GE423.out⟩⟩
        ·rw [if_neg c13] at H
         exact absurd H (by simp)
       ·rw [if_neg c12] at H
        exact absurd H (by simp)
      ·rw [if_neg c11] at H
       have c11b0 := decide_eq_false c11
       clear c11
       obtain rfl := Option.some.inj H
       go_wp2
       go_ret
       exact ⟨zW, zL1 HB.out GE420.out⟩

open Go.Proofs.YtfhblnbicnmndaaDoorW.PrintWords renaming blk_drewN → bN, blk_drew → bD, blk_alloc → bA, blk_cell → bC, blk_below → bB, below_set → bS
/-! ### impl_PolOk: function 11 -/
def impl_PolOk.f (k : Nat) (a0_0 : Int) (a0_1 : Int) (a0_2 : ByteArray) (a0_3 : ByteArray) (l0_4 : List (S26)) : Option (Bool) := (impl_polParts.f k a0_0 a0_1 a0_2 a0_3 l0_4 1).bind fun t426 => (some (decide (t426 ≤ 12)))
theorem impl_PolOk.mono : ∀ a0 a1 a2 a3 a4 k, LeO (impl_PolOk.f k a0 a1 a2 a3 a4) (impl_PolOk.f (k + 1) a0 a1 a2 a3 a4) := by
 intro a0 a1 a2 a3 a4 k
 unfold impl_PolOk.f
 repeat' first
   | (with_reducible apply impl_polParts.mono)
   | (with_reducible exact LeO.refl _)
   | (with_reducible exact LeO.none _)
   | (with_reducible refine LeO.ite ?_ ?_)
   | (with_reducible refine LeO.bind ?_ (fun _ => ?_))
   | apply impl_polParts.mono
   | exact LeO.none _
   | refine LeO.ite ?_ ?_
   | refine LeO.bind ?_ (fun _ => ?_)
set_option maxHeartbeats 8000000 in
set_option maxRecDepth 100000 in
theorem impl_PolOk.calls (k : Nat) (a0_0 : Int) (a0_1 : Int) (a0_2 : ByteArray) (a0_3 : ByteArray) (A0_4 : Option Addr) (c0_4 : Nat) (l0_4 : List (S26)) (r : Bool) (w : World) (hr0_4 : Kd.C k26 w A0_4 l0_4.length l0_4) (hc0_4 : l0_4.length ≤ c0_4) (h : impl_PolOk.f k a0_0 a0_1 a0_2 a0_3 l0_4 = some r) :
  Calls Tryd.prog 11 #[.agg #[.int .i64 a0_0, .int .i64 a0_1, .string a0_2, .string a0_3, .slice A0_4 l0_4.length c0_4]] w fun e w' => e = .returned (.bool r) ∧ Below w.heap.size w w' := by
 have hu26 := Tryd.underlying26
 have HR0_4 := Aside0.mk hr0_4
 have HC0_4 := Aside0.mk hc0_4
 clear hr0_4 hc0_4
 have HB := Aside0.mk (Below.refl w.heap.size w)
 unfold impl_PolOk.f at h; have H := h
 clear h
 obtain ⟨t426, A2, H⟩ := zO H; try dsimp only at H
 obtain rfl := Option.some.inj H
 go_enter Tryd.func11, Tryd.ntmps11
 go_wp2_with (first | ((with_reducible refine gD 1 rfl ?_); refine bE 1 #[.int .i64 a0_0, .int .i64 a0_1, .string a0_2, .string a0_3, .slice A0_4 l0_4.length c0_4] 26 ?_; intro gb425 hg w3 hbox hb; have BK425 := Aside0.mk hbox; have GW425 := Aside0.mk (zg (zL HB.out) hg : w.heap.size ≤ gb425); have GE425 := GW425; replace HB := zLB (zL HB.out) hb; clear hb hbox hg; have hcz4 := zc5 BK425.out; have hfz4 := zf5 BK425.out) | ((with_reducible refine gC 28 rfl ?_); refine gL 4 Tryd.func28 #[.agg #[.int .i64 a0_0, .int .i64 a0_1, .string a0_2, .string a0_3, .slice A0_4 l0_4.length c0_4], .int .i64 1] ?_; (with_reducible refine (impl_polParts.calls k a0_0 a0_1 a0_2 a0_3 _ _ l0_4 1 t426 _ ?side1 ?side2 A2.out).mono ?_); (case side1 => exact zC (Kd.C_below HR0_4.out HB.out)); (case side2 => exact HC0_4.out); rintro e w5 ⟨rfl, hb⟩; refine ⟨_, rfl, ?_⟩; replace BK425 := zBB BK425 hb; replace HB := zLB (zL1 HB.out GE425.out) hb; clear hb))
 go_ret
 exact ⟨zW, zL1 HB.out GE425.out⟩

open Go.Proofs.YtfhblnbicnmndaaDoorW.PrintWords renaming blk_drewN → bN, blk_drew → bD, blk_alloc → bA, blk_cell → bC, blk_below → bB, below_set → bS
/-! ### spec_PolCount: function 16 -/
mutual
def spec_PolCount.l0 : Nat → Int → Int → Int → Int → ByteArray → ByteArray → List (S26) → Option (Int)
 | 0, _, _, _, _, _, _, _ => none
 | k + 1, x3, x4, x428000, x428001, x428002, x428003, x428004 => if x4 < (x428004.length : Int) then (if 0 ≤ x4 then ((spec_PolCount.f k ((rd_T26 x428004 x4).f0) ((rd_T26 x428004 x4).f1) ((rd_T26 x428004 x4).f2) ((rd_T26 x428004 x4).f3) ((rd_T26 x428004 x4).f4)).bind fun t429 => (spec_PolCount.l0 k (wrap64 (x3 + t429)) (wrap64 (x4 + 1)) x428000 x428001 x428002 x428003 x428004)) else (none)) else (some x3)
def spec_PolCount.f : Nat → Int → Int → ByteArray → ByteArray → List (S26) → Option (Int)
 | 0, _, _, _, _, _ => none
 | k + 1, a0_0, a0_1, a0_2, a0_3, l0_4 => spec_PolCount.l0 k 1 0 a0_0 a0_1 a0_2 a0_3 l0_4
end
theorem spec_PolCount.mono_l : ∀ k, (∀ y0 y1 y2 y3 y4, LeO (spec_PolCount.f k y0 y1 y2 y3 y4) (spec_PolCount.f (k + 1) y0 y1 y2 y3 y4)) ∧ (∀ y0 y1 y2 y3 y4 y5 y6, LeO (spec_PolCount.l0 k y0 y1 y2 y3 y4 y5 y6) (spec_PolCount.l0 (k + 1) y0 y1 y2 y3 y4 y5 y6))
 | 0 => ⟨fun _ _ _ _ _ r h => by simp [spec_PolCount.f] at h, fun _ _ _ _ _ _ _ r h => by simp [spec_PolCount.l0] at h⟩
 | k + 1 => by
  obtain ⟨ih0, ih1⟩ := spec_PolCount.mono_l k
  refine ⟨?_, ?_⟩
  ·intro y0 y1 y2 y3 y4
   unfold spec_PolCount.f
   repeat' first
   | (with_reducible exact ih0 _ _ _ _ _)
   | (with_reducible exact ih1 _ _ _ _ _ _ _)
   | (with_reducible exact LeO.refl _)
   | (with_reducible exact LeO.none _)
   | (with_reducible refine LeO.ite ?_ ?_)
   | (with_reducible refine LeO.bind ?_ (fun _ => ?_))
   | exact ih0 _ _ _ _ _
   | exact ih1 _ _ _ _ _ _ _
   | exact LeO.none _
   | refine LeO.ite ?_ ?_
   | refine LeO.bind ?_ (fun _ => ?_)
  ·intro y0 y1 y2 y3 y4 y5 y6
   unfold spec_PolCount.l0
   repeat' first
   | (with_reducible exact ih0 _ _ _ _ _)
   | (with_reducible exact ih1 _ _ _ _ _ _ _)
   | (with_reducible exact LeO.refl _)
   | (with_reducible exact LeO.none _)
   | (with_reducible refine LeO.ite ?_ ?_)
   | (with_reducible refine LeO.bind ?_ (fun _ => ?_))
   | exact ih0 _ _ _ _ _
   | exact ih1 _ _ _ _ _ _ _
   | exact LeO.none _
   | refine LeO.ite ?_ ?_
   | refine LeO.bind ?_ (fun _ => ?_)
theorem spec_PolCount.mono : ∀ a0 a1 a2 a3 a4 k, LeO (spec_PolCount.f k a0 a1 a2 a3 a4) (spec_PolCount.f (k + 1) a0 a1 a2 a3 a4) := by
 intro a0 a1 a2 a3 a4 k
 obtain ⟨ih0, ih1⟩ := spec_PolCount.mono_l k
 exact ih0 a0 a1 a2 a3 a4
set_option maxHeartbeats 8000000 in
set_option maxRecDepth 100000 in
theorem spec_PolCount.calls (k : Nat) : ∀ (a0_0 : Int) (a0_1 : Int) (a0_2 : ByteArray) (a0_3 : ByteArray) (A0_4 : Option Addr) (c0_4 : Nat) (l0_4 : List (S26)) (r : Int) (w : World) (hr0_4 : Kd.C k26 w A0_4 l0_4.length l0_4) (hc0_4 : l0_4.length ≤ c0_4) (h : spec_PolCount.f k a0_0 a0_1 a0_2 a0_3 l0_4 = some r),
  Calls Tryd.prog 16 #[.agg #[.int .i64 a0_0, .int .i64 a0_1, .string a0_2, .string a0_3, .slice A0_4 l0_4.length c0_4]] w fun e w' => e = .returned (.int .i64 r) ∧ Below w.heap.size w w' := by
 induction k using Nat.strongRecOn with
 | _ k ih =>
 intro a0_0 a0_1 a0_2 a0_3 A0_4 c0_4 l0_4 r w hr0_4 hc0_4 h
 cases k with
 | zero => exact absurd h (by simp [spec_PolCount.f])
 | succ k =>
 simp only [spec_PolCount.f] at h
 have hu26 := Tryd.underlying26
 have HR0_4 := Aside0.mk hr0_4
 have HC0_4 := Aside0.mk hc0_4
 clear hr0_4 hc0_4
 have HB := Aside0.mk (Below.refl w.heap.size w)
 have H : (spec_PolCount.l0 k 1 0 a0_0 a0_1 a0_2 a0_3 l0_4) = some r := h
 clear h
 have H' := Aside0.mk H
 clear H
 go_enter Tryd.func16, Tryd.ntmps16
 go_wp2_with (first | ((with_reducible refine gD 1 rfl ?_); refine bE 1 #[.int .i64 a0_0, .int .i64 a0_1, .string a0_2, .string a0_3, .slice A0_4 l0_4.length c0_4] 26 ?_; intro gb427 hg w2 hbox hb; have BK427 := Aside0.mk hbox; have GW427 := Aside0.mk (zg (zL HB.out) hg : w.heap.size ≤ gb427); have GE427 := GW427; replace HB := zLB (zL HB.out) hb; clear hb hbox hg))
 go_loopg [3, 4] k (fun kq v3 v4 w' => ∃ (x3_1 : Int) (x4_1 : Int), v3 = .int .i64 x3_1 ∧ v4 = .int .i64 x4_1 ∧ Aside0 (spec_PolCount.l0 kq x3_1 x4_1 a0_0 a0_1 a0_2 a0_3 l0_4 = some r) ∧ Aside0 (kq ≤ k) ∧ Aside0 (w'.heap[gb427]? = some (.cells #[.int .i64 a0_0, .int .i64 a0_1, .string a0_2, .string a0_3, (.slice A0_4 l0_4.length c0_4)] 26 (0, 0))) ∧ Aside0 (Below w.heap.size w w'))
 case atStart => exact ⟨(1), (0), zV, zV, H', ⟨Nat.le_refl _⟩, ⟨zB BK427.out⟩, ⟨zL1 HB.out GE427.out⟩⟩
 case round =>
  clear H'
  try clear c1
  try clear p2
  try clear BK427
  obtain ⟨x3_1, x4_1, rfl, rfl, HA, HK1, BK427, HB⟩ := hrel
  cases gk with
  | zero => exact absurd HA.out (by simp [spec_PolCount.l0])
  | succ k1 =>
   have H := HA.out
   clear HA
   simp only [spec_PolCount.l0] at H
   by_cases c3 : x4_1 < (l0_4.length : Int)
   ·rw [if_pos c3] at H
    have c3b0 := decide_eq_true c3
    clear c3
    by_cases c4 : 0 ≤ x4_1
    ·rw [if_pos c4] at H
     have c4b0 := decide_eq_true c4
     clear c4
     obtain ⟨t429, A5, H⟩ := zO H; try dsimp only at H
     have H' := Aside0.mk H
     clear H
     have hcz6 := zc5 BK427.out
     have hfz6 := zf5 BK427.out
     have p428 : 0 ≤ (x4_1 : Int) := zD
     have q428 : x4_1 < (l0_4.length : Int) := zD
     obtain ⟨ad428, A428_4, c428_4, e428, hx428_0, hx428_1, hx428_2, hx428_3, hx428_4, hl428_4, hi428_4⟩ := at_T26 HR0_4.out x4_1 p428 q428
     cases e428
     replace hx428_0 := zh HB.out hx428_0
     replace hx428_1 := zh HB.out hx428_1
     replace hx428_2 := zh HB.out hx428_2
     replace hx428_3 := zh HB.out hx428_3
     replace hx428_4 := zh HB.out hx428_4
     have HR428_4 := Aside0.mk hi428_4
     have HC428_4 := Aside0.mk hl428_4
     clear hi428_4 hl428_4
     replace p428 := eq_true p428
     replace q428 := eq_true q428
     go_wp2_with (first | ((with_reducible refine gC 16 rfl ?_); refine gL 18 Tryd.func16 #[.agg #[.int .i64 ((rd_T26 l0_4 x4_1).f0), .int .i64 ((rd_T26 l0_4 x4_1).f1), .string ((rd_T26 l0_4 x4_1).f2), .string ((rd_T26 l0_4 x4_1).f3), .slice A428_4 ((rd_T26 l0_4 x4_1).f4).length c428_4]] ?_; (with_reducible refine (ih k1 (by have := HK1.out; omega) ((rd_T26 l0_4 x4_1).f0) ((rd_T26 l0_4 x4_1).f1) ((rd_T26 l0_4 x4_1).f2) ((rd_T26 l0_4 x4_1).f3) _ _ ((rd_T26 l0_4 x4_1).f4) t429 _ ?side1 ?side2 A5.out).mono ?_); (case side1 => exact zC (Kd.C_below HR428_4.out HB.out)); (case side2 => exact HC428_4.out); rintro e w7 ⟨rfl, hb⟩; refine ⟨_, rfl, ?_⟩; replace BK427 := zBB BK427 hb; replace HB := zLB (zL1 HB.out GE427.out) hb; clear hb))
     go_roundg k1
     case measure => have := HK1.out; omega
     case rel => exact ⟨(wrap64 (x3_1 + t429)), (wrap64 (x4_1 + 1)), zV, zV, H', ⟨by have := HK1.out; omega⟩, ⟨zB BK427.out⟩, ⟨zL1 HB.out GE427.out⟩⟩
    ·rw [if_neg c4] at H
     exact absurd H (by simp)
   ·rw [if_neg c3] at H
    have c3b0 := decide_eq_false c3
    clear c3
    obtain rfl := Option.some.inj H
    have hcz8 := zc5 BK427.out
    have hfz8 := zf5 BK427.out
    go_wp2
    go_ret
    exact ⟨zW, zL1 HB.out GE427.out⟩

open Go.Proofs.YtfhblnbicnmndaaDoorW.PrintWords renaming blk_drewN → bN, blk_drew → bD, blk_alloc → bA, blk_cell → bC, blk_below → bB, below_set → bS
/-! ### spec_l1In: function 56 -/
def spec_l1In.f (a0 : Int) (a1 : Int) (a2 : Int) : Option (Bool) := if a0 ≥ a1 then (some (decide (a0 ≤ a2))) else (some false)
set_option maxHeartbeats 8000000 in
set_option maxRecDepth 100000 in
theorem spec_l1In.calls (a0 : Int) (a1 : Int) (a2 : Int) (r : Bool) (w : World) (h : spec_l1In.f a0 a1 a2 = some r) :
  Calls Tryd.prog 56 #[.int .i64 a0, .int .i64 a1, .int .i64 a2] w fun e w' => e = .returned (.bool r) ∧ Drawn0 w w' := by
 unfold spec_l1In.f at h; have H := h
 clear h
 by_cases c4 : a0 ≥ a1
 ·rw [if_pos c4] at H
  have c4b0 := decide_eq_true c4
  clear c4
  obtain rfl := Option.some.inj H
  go_enter Tryd.func56, Tryd.ntmps56
  go_wp2
  go_ret
  exact ⟨zV, zU⟩
 ·rw [if_neg c4] at H
  have c4b0 := decide_eq_false c4
  clear c4
  obtain rfl := Option.some.inj H
  go_enter Tryd.func56, Tryd.ntmps56
  go_wp2
  go_ret
  exact ⟨zV, zU⟩

open Go.Proofs.YtfhblnbicnmndaaDoorW.PrintWords renaming blk_drewN → bN, blk_drew → bD, blk_alloc → bA, blk_cell → bC, blk_below → bB, below_set → bS
/-! ### spec_NameOk: function 57 -/
def spec_NameOk.l0 : Nat → ByteArray → Int → Option (Bool)
 | 0, _, _ => none
 | k + 1, x0, x3 => if x3 < (x0.size : Int) then (if 0 ≤ x3 then (if (bt x0 x3) < 97 then (some false) else (if (bt x0 x3) > 122 then (some false) else (spec_NameOk.l0 k x0 (wrap64 (x3 + 1))))) else (none)) else ((spec_l1In.f (x0.size : Int) 1 8).bind fun t430 => (some t430))
def spec_NameOk.f (k : Nat) (a0 : ByteArray) : Option (Bool) := spec_NameOk.l0 k a0 0
theorem spec_NameOk.mono_l : ∀ k, (∀ y0 y1, LeO (spec_NameOk.l0 k y0 y1) (spec_NameOk.l0 (k + 1) y0 y1))
 | 0 => fun _ _ r h => by simp [spec_NameOk.l0] at h
 | k + 1 => by
  have ih0 := spec_NameOk.mono_l k
  ·intro y0 y1
   unfold spec_NameOk.l0
   repeat' first
   | (with_reducible exact ih0 _ _)
   | (with_reducible exact LeO.refl _)
   | (with_reducible exact LeO.none _)
   | (with_reducible refine LeO.ite ?_ ?_)
   | (with_reducible refine LeO.bind ?_ (fun _ => ?_))
   | exact ih0 _ _
   | exact LeO.none _
   | refine LeO.ite ?_ ?_
   | refine LeO.bind ?_ (fun _ => ?_)
theorem spec_NameOk.mono : ∀ a0 k, LeO (spec_NameOk.f k a0) (spec_NameOk.f (k + 1) a0) := by
 intro a0 k
 have ih0 := spec_NameOk.mono_l k
 unfold spec_NameOk.f
 repeat' first
   | (with_reducible exact ih0 _ _)
   | (with_reducible exact LeO.refl _)
   | (with_reducible exact LeO.none _)
   | (with_reducible refine LeO.ite ?_ ?_)
   | (with_reducible refine LeO.bind ?_ (fun _ => ?_))
   | exact ih0 _ _
   | exact LeO.none _
   | refine LeO.ite ?_ ?_
   | refine LeO.bind ?_ (fun _ => ?_)
set_option maxHeartbeats 8000000 in
set_option maxRecDepth 100000 in
theorem spec_NameOk.calls (k : Nat) (a0 : ByteArray) (r : Bool) (w : World) (h : spec_NameOk.f k a0 = some r) :
  Calls Tryd.prog 57 #[.string a0] w fun e w' => e = .returned (.bool r) ∧ Drawn0 w w' := by
 unfold spec_NameOk.f at h; have H := h
 clear h
 have H' := Aside0.mk H
 clear H
 go_enter Tryd.func57, Tryd.ntmps57
 go_wp2
 go_loopg [3] k (fun kq v3 w' => ∃ (x3_1 : Int), v3 = .int .i64 x3_1 ∧ Aside0 (spec_NameOk.l0 kq a0 x3_1 = some r) ∧ Aside0 (kq ≤ k) ∧ Drawn0 w w')
 case atStart => exact ⟨(0), zV, H', ⟨Nat.le_refl _⟩, zU⟩
 case round =>
  clear H'
  obtain ⟨x3_1, rfl, HA, HK1, ⟨m1, rfl⟩⟩ := hrel
  cases gk with
  | zero => exact absurd HA.out (by simp [spec_NameOk.l0])
  | succ k1 =>
   have H := HA.out
   clear HA
   simp only [spec_NameOk.l0] at H
   by_cases c2 : x3_1 < (a0.size : Int)
   ·rw [if_pos c2] at H
    have c2b0 := decide_eq_true c2
    clear c2
    by_cases c3 : 0 ≤ x3_1
    ·rw [if_pos c3] at H
     have c3b0 := decide_eq_true c3
     clear c3
     by_cases c5 : (bt a0 x3_1) < 97
     ·rw [if_pos c5] at H
      have c5b0 := decide_eq_true c5
      clear c5
      obtain rfl := Option.some.inj H
      have p4 : 0 ≤ (x3_1 : Int) := zD
      have q4 : x3_1 < (a0.size : Int) := zD
      have hx4 := bt_at a0 x3_1
      replace p4 := eq_true p4
      replace q4 := eq_true q4
      go_wp2
      go_ret
      exact ⟨zV, zU⟩
     ·rw [if_neg c5] at H
      have c5b0 := decide_eq_false c5
      clear c5
      by_cases c7 : (bt a0 x3_1) > 122
      ·rw [if_pos c7] at H
       have c7b0 := decide_eq_true c7
       clear c7
       obtain rfl := Option.some.inj H
       have p4 : 0 ≤ (x3_1 : Int) := zD
       have q4 : x3_1 < (a0.size : Int) := zD
       have hx4 := bt_at a0 x3_1
       replace p4 := eq_true p4
       replace q4 := eq_true q4
       have p6 : 0 ≤ (x3_1 : Int) := zD
       have q6 : x3_1 < (a0.size : Int) := zD
       have hx6 := bt_at a0 x3_1
       replace p6 := eq_true p6
       replace q6 := eq_true q6
       go_wp2
       go_ret
       exact ⟨zV, zU⟩
      ·rw [if_neg c7] at H
       have c7b0 := decide_eq_false c7
       clear c7
       have H' := Aside0.mk H
       clear H
       have p4 : 0 ≤ (x3_1 : Int) := zD
       have q4 : x3_1 < (a0.size : Int) := zD
       have hx4 := bt_at a0 x3_1
       replace p4 := eq_true p4
       replace q4 := eq_true q4
       have p6 : 0 ≤ (x3_1 : Int) := zD
       have q6 : x3_1 < (a0.size : Int) := zD
       have hx6 := bt_at a0 x3_1
       replace p6 := eq_true p6
       replace q6 := eq_true q6
       go_wp2
       go_roundg k1
       case measure => have := HK1.out; omega
       case rel => exact ⟨(wrap64 (x3_1 + 1)), zV, H', ⟨by have := HK1.out; omega⟩, zU⟩
    ·rw [if_neg c3] at H
     exact absurd H (by simp)
   ·rw [if_neg c2] at H
    have c2b0 := decide_eq_false c2
    clear c2
    obtain ⟨t430, A8, H⟩ := zO H; try dsimp only at H
    obtain rfl := Option.some.inj H
    go_wp2_with (first | ((with_reducible refine gC 56 rfl ?_); refine gL 22 Tryd.func56 #[.int .i64 (a0.size : Int), .int .i64 1, .int .i64 8] ?_; (with_reducible refine (spec_l1In.calls (a0.size : Int) 1 8 t430 _ A8.out).mono ?_); rintro e w' ⟨rfl, ⟨nd, rfl⟩⟩; refine ⟨_, rfl, ?_⟩))
    go_ret
    exact ⟨zV, zU⟩

open Go.Proofs.YtfhblnbicnmndaaDoorW.PrintWords renaming blk_drewN → bN, blk_drew → bD, blk_alloc → bA, blk_cell → bC, blk_below → bB, below_set → bS
/-! ### spec_PlainOk: function 58 -/
def spec_PlainOk.l0 : Nat → ByteArray → Int → Option (Bool)
 | 0, _, _ => none
 | k + 1, x0, x3 => if x3 < (x0.size : Int) then (if 0 ≤ x3 then (if (bt x0 x3) < 32 then (some false) else (if (bt x0 x3) > 126 then (some false) else (if (bt x0 x3) = 34 then (some false) else (spec_PlainOk.l0 k x0 (wrap64 (x3 + 1)))))) else (none)) else (some (decide ((x0.size : Int) ≤ 20)))
def spec_PlainOk.f (k : Nat) (a0 : ByteArray) : Option (Bool) := spec_PlainOk.l0 k a0 0
theorem spec_PlainOk.mono_l : ∀ k, (∀ y0 y1, LeO (spec_PlainOk.l0 k y0 y1) (spec_PlainOk.l0 (k + 1) y0 y1))
 | 0 => fun _ _ r h => by simp [spec_PlainOk.l0] at h
 | k + 1 => by
  have ih0 := spec_PlainOk.mono_l k
  ·intro y0 y1
   unfold spec_PlainOk.l0
   repeat' first
   | (with_reducible exact ih0 _ _)
   | (with_reducible exact LeO.refl _)
   | (with_reducible exact LeO.none _)
   | (with_reducible refine LeO.ite ?_ ?_)
   | (with_reducible refine LeO.bind ?_ (fun _ => ?_))
   | exact ih0 _ _
   | exact LeO.none _
   | refine LeO.ite ?_ ?_
   | refine LeO.bind ?_ (fun _ => ?_)
theorem spec_PlainOk.mono : ∀ a0 k, LeO (spec_PlainOk.f k a0) (spec_PlainOk.f (k + 1) a0) := by
 intro a0 k
 have ih0 := spec_PlainOk.mono_l k
 unfold spec_PlainOk.f
 repeat' first
   | (with_reducible exact ih0 _ _)
   | (with_reducible exact LeO.refl _)
   | (with_reducible exact LeO.none _)
   | (with_reducible refine LeO.ite ?_ ?_)
   | (with_reducible refine LeO.bind ?_ (fun _ => ?_))
   | exact ih0 _ _
   | exact LeO.none _
   | refine LeO.ite ?_ ?_
   | refine LeO.bind ?_ (fun _ => ?_)
set_option maxHeartbeats 8000000 in
set_option maxRecDepth 100000 in
theorem spec_PlainOk.calls (k : Nat) (a0 : ByteArray) (r : Bool) (w : World) (h : spec_PlainOk.f k a0 = some r) :
  Calls Tryd.prog 58 #[.string a0] w fun e w' => e = .returned (.bool r) ∧ Drawn0 w w' := by
 unfold spec_PlainOk.f at h; have H := h
 clear h
 have H' := Aside0.mk H
 clear H
 go_enter Tryd.func58, Tryd.ntmps58
 go_wp2
 go_loopg [3] k (fun kq v3 w' => ∃ (x3_1 : Int), v3 = .int .i64 x3_1 ∧ Aside0 (spec_PlainOk.l0 kq a0 x3_1 = some r) ∧ Aside0 (kq ≤ k) ∧ Drawn0 w w')
 case atStart => exact ⟨(0), zV, H', ⟨Nat.le_refl _⟩, zU⟩
 case round =>
  clear H'
  obtain ⟨x3_1, rfl, HA, HK1, ⟨m1, rfl⟩⟩ := hrel
  cases gk with
  | zero => exact absurd HA.out (by simp [spec_PlainOk.l0])
  | succ k1 =>
   have H := HA.out
   clear HA
   simp only [spec_PlainOk.l0] at H
   by_cases c2 : x3_1 < (a0.size : Int)
   ·rw [if_pos c2] at H
    have c2b0 := decide_eq_true c2
    clear c2
    by_cases c3 : 0 ≤ x3_1
    ·rw [if_pos c3] at H
     have c3b0 := decide_eq_true c3
     clear c3
     by_cases c5 : (bt a0 x3_1) < 32
     ·rw [if_pos c5] at H
      have c5b0 := decide_eq_true c5
      clear c5
      obtain rfl := Option.some.inj H
      have p4 : 0 ≤ (x3_1 : Int) := zD
      have q4 : x3_1 < (a0.size : Int) := zD
      have hx4 := bt_at a0 x3_1
      replace p4 := eq_true p4
      replace q4 := eq_true q4
      go_wp2
      go_ret
      exact ⟨zV, zU⟩
     ·rw [if_neg c5] at H
      have c5b0 := decide_eq_false c5
      clear c5
      by_cases c7 : (bt a0 x3_1) > 126
      ·rw [if_pos c7] at H
       have c7b0 := decide_eq_true c7
       clear c7
       obtain rfl := Option.some.inj H
       have p4 : 0 ≤ (x3_1 : Int) := zD
       have q4 : x3_1 < (a0.size : Int) := zD
       have hx4 := bt_at a0 x3_1
       replace p4 := eq_true p4
       replace q4 := eq_true q4
       have p6 : 0 ≤ (x3_1 : Int) := zD
       have q6 : x3_1 < (a0.size : Int) := zD
       have hx6 := bt_at a0 x3_1
       replace p6 := eq_true p6
       replace q6 := eq_true q6
       go_wp2
       go_ret
       exact ⟨zV, zU⟩
      ·rw [if_neg c7] at H
       have c7b0 := decide_eq_false c7
       clear c7
       by_cases c9 : (bt a0 x3_1) = 34
       ·rw [if_pos c9] at H
        obtain ⟨c9b0, c9b1⟩ := zt c9
        clear c9
        obtain rfl := Option.some.inj H
        have p4 : 0 ≤ (x3_1 : Int) := zD
        have q4 : x3_1 < (a0.size : Int) := zD
        have hx4 := bt_at a0 x3_1
        replace p4 := eq_true p4
        replace q4 := eq_true q4
        have p6 : 0 ≤ (x3_1 : Int) := zD
        have q6 : x3_1 < (a0.size : Int) := zD
        have hx6 := bt_at a0 x3_1
        replace p6 := eq_true p6
        replace q6 := eq_true q6
        have p8 : 0 ≤ (x3_1 : Int) := zD
        have q8 : x3_1 < (a0.size : Int) := zD
        have hx8 := bt_at a0 x3_1
        replace p8 := eq_true p8
        replace q8 := eq_true q8
        go_wp2
        go_ret
        exact ⟨zV, zU⟩
       ·rw [if_neg c9] at H
        obtain ⟨c9b0, c9b1⟩ := zf c9
        have H' := Aside0.mk H
        clear H
        have p4 : 0 ≤ (x3_1 : Int) := zD
        have q4 : x3_1 < (a0.size : Int) := zD
        have hx4 := bt_at a0 x3_1
        replace p4 := eq_true p4
        replace q4 := eq_true q4
        have p6 : 0 ≤ (x3_1 : Int) := zD
        have q6 : x3_1 < (a0.size : Int) := zD
        have hx6 := bt_at a0 x3_1
        replace p6 := eq_true p6
        replace q6 := eq_true q6
        have p8 : 0 ≤ (x3_1 : Int) := zD
        have q8 : x3_1 < (a0.size : Int) := zD
        have hx8 := bt_at a0 x3_1
        replace p8 := eq_true p8
        replace q8 := eq_true q8
        go_wp2
        go_roundg k1
        case measure => have := HK1.out; omega
        case rel => exact ⟨(wrap64 (x3_1 + 1)), zV, H', ⟨by have := HK1.out; omega⟩, zU⟩
    ·rw [if_neg c3] at H
     exact absurd H (by simp)
   ·rw [if_neg c2] at H
    have c2b0 := decide_eq_false c2
    clear c2
    obtain rfl := Option.some.inj H
    go_wp2
    go_ret
    exact ⟨zV, zU⟩

end Go.Proofs.YtfhblnbicnmndaaDoor.QFnPols
