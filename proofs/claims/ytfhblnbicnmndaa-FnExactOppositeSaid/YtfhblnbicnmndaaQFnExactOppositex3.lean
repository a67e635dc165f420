/- What the Go functions that the law FnExactOpposite reaches answer: each as a Lean function, with its walk. Written by a program of this session. Conditions: those that each theorem names. -/
import Derived.Test.YtfhblnbicnmndaaQFnExactOppositex0
import Derived.Test.YtfhblnbicnmndaaQFnExactOppositex1
import Derived.Test.YtfhblnbicnmndaaQFnExactOppositex2
namespace Go.Proofs.Ytfhblnbicnmndaa.QFnExactOpposite
open Go.RowKit Go.Proofs.YtfhblnbicnmndaaW.PrintWords Go.Proofs.YtfhblnbicnmndaaW.PrintLast Go.Proofs.YtfhblnbicnmndaaW.PrintMore
attribute [local go_sem] max2_int min2_int max_two min_two max_three min_three max_four min_four   -- for this text's walks alone
set_option linter.unusedVariables false
set_option linter.unusedSimpArgs false

open Go.Proofs.YtfhblnbicnmndaaW.PrintWords renaming blk_drewN → bN, blk_drew → bD, blk_alloc → bA, blk_cell → bC, blk_below → bB, below_set → bS
/-! ### laws_heldPolS: function 57 -/
mutual
def laws_heldPolS.l0 : Nat → List (S29) → Int → Int → Option (Int)
 | 0, _, _, _ => none
 | k + 1, x0, x1, x5 => if x5 < (x0.length : Int) then (if 0 ≤ x5 then (if ((rd_T29 x0 x5).f0) = x1 then (if ((rd_T29 x0 x5).f1) = (wrap64 (x1 + 1)) then ((laws_markText.f k (wrap64 ((wrap64 (x1 + 1)) + 1))).bind fun t208 => (if ((rd_T29 x0 x5).f2).toList = t208.toList then ((laws_markText.f k (wrap64 ((wrap64 ((wrap64 (x1 + 1)) + 1)) + 1))).bind fun t210 => (if ((rd_T29 x0 x5).f3).toList = t210.toList then ((laws_heldPolS.f k ((rd_T29 x0 x5).f4) (wrap64 ((wrap64 ((wrap64 ((wrap64 (x1 + 1)) + 1)) + 1)) + 1))).bind fun t212 => (if t212 < 0 then (some (-1)) else (laws_heldPolS.l0 k x0 t212 (wrap64 (x5 + 1))))) else (some (-1)))) else (some (-1)))) else (some (-1))) else (some (-1))) else (none)) else (some x1)
def laws_heldPolS.f : Nat → List (S29) → Int → Option (Int)
 | 0, _, _ => none
 | k + 1, l0, a1 => laws_heldPolS.l0 k l0 a1 0
end
theorem laws_heldPolS.mono_l : ∀ k, (∀ y0 y1, LeO (laws_heldPolS.f k y0 y1) (laws_heldPolS.f (k + 1) y0 y1)) ∧ (∀ y0 y1 y2, LeO (laws_heldPolS.l0 k y0 y1 y2) (laws_heldPolS.l0 (k + 1) y0 y1 y2))
 | 0 => ⟨fun _ _ r h => by simp [laws_heldPolS.f] at h, fun _ _ _ r h => by simp [laws_heldPolS.l0] at h⟩
 | k + 1 => by
  obtain ⟨ih0, ih1⟩ := laws_heldPolS.mono_l k
  refine ⟨?_, ?_⟩
  ·intro y0 y1
   unfold laws_heldPolS.f
   repeat' first
   | (with_reducible exact ih0 _ _)
   | (with_reducible exact ih1 _ _ _)
   | (with_reducible apply laws_markText.mono)
   | (with_reducible exact LeO.refl _)
   | (with_reducible exact LeO.none _)
   | (with_reducible refine LeO.ite ?_ ?_)
   | (with_reducible refine LeO.bind ?_ (fun _ => ?_))
   | exact ih0 _ _
   | exact ih1 _ _ _
   | apply laws_markText.mono
   | exact LeO.none _
   | refine LeO.ite ?_ ?_
   | refine LeO.bind ?_ (fun _ => ?_)
  ·intro y0 y1 y2
   unfold laws_heldPolS.l0
   repeat' first
   | (with_reducible exact ih0 _ _)
   | (with_reducible exact ih1 _ _ _)
   | (with_reducible apply laws_markText.mono)
   | (with_reducible exact LeO.refl _)
   | (with_reducible exact LeO.none _)
   | (with_reducible refine LeO.ite ?_ ?_)
   | (with_reducible refine LeO.bind ?_ (fun _ => ?_))
   | exact ih0 _ _
   | exact ih1 _ _ _
   | apply laws_markText.mono
   | exact LeO.none _
   | refine LeO.ite ?_ ?_
   | refine LeO.bind ?_ (fun _ => ?_)
theorem laws_heldPolS.mono : ∀ a0 a1 k, LeO (laws_heldPolS.f k a0 a1) (laws_heldPolS.f (k + 1) a0 a1) := by
 intro a0 a1 k
 obtain ⟨ih0, ih1⟩ := laws_heldPolS.mono_l k
 exact ih0 a0 a1
def laws_heldPolS.T10 : Bool × List (List Nat × List Nat) := (true, [([], []), ([], []), ([0, 1], [0, 1]), ([2], [2]), ([3], [3]), ([], []), ([5], [5]), ([4, 6], [4, 6])])
def laws_heldPolS.B10 : List Nat := [0, 0, 3, 7, 15, 0, 32, 127]
theorem laws_heldPolS.tab10 : rtab .any (opsOf Try.f57 10) = laws_heldPolS.T10 := by kernel_rfl
theorem laws_heldPolS.bits10 : waitsOk laws_heldPolS.T10.2 laws_heldPolS.B10 = true := by kernel_rfl
def laws_heldPolS.T13 : Bool × List (List Nat × List Nat) := (true, [([], []), ([], []), ([0, 1], [0, 1]), ([2], [2]), ([3], [3]), ([], []), ([5], [5]), ([4, 6], [4, 6])])
def laws_heldPolS.B13 : List Nat := [0, 0, 3, 7, 15, 0, 32, 127]
theorem laws_heldPolS.tab13 : rtab .any (opsOf Try.f57 13) = laws_heldPolS.T13 := by kernel_rfl
theorem laws_heldPolS.bits13 : waitsOk laws_heldPolS.T13.2 laws_heldPolS.B13 = true := by kernel_rfl
set_option maxHeartbeats 8000000 in
set_option maxRecDepth 100000 in
theorem laws_heldPolS.calls (k : Nat) : ∀ (A0 : Option Addr) (c0 : Nat) (l0 : List (S29)) (a1 : Int) (r : Int) (w : World) (hr0 : Kd.C k29 w A0 l0.length l0) (hc0 : l0.length ≤ c0) (h : laws_heldPolS.f k l0 a1 = some r),
  Calls Try.prog 57 #[.slice A0 l0.length c0, .int .i64 a1] w fun e w' => e = .returned (.int .i64 r) ∧ Below w.heap.size w w' := by
 induction k using Nat.strongRecOn with
 | _ k ih =>
 intro A0 c0 l0 a1 r w hr0 hc0 h
 cases k with
 | zero => exact absurd h (by simp [laws_heldPolS.f])
 | succ k =>
 simp only [laws_heldPolS.f] at h
 have HR0 := Aside0.mk hr0
 have HC0 := Aside0.mk hc0
 clear hr0 hc0
 have HB := Aside0.mk (Below.refl w.heap.size w)
 have H : (laws_heldPolS.l0 k l0 a1 0) = some r := h
 clear h
 have H' := Aside0.mk H
 clear H
 go_enter Try.func57, Try.ntmps57
 go_wp2
 go_loopg [1, 5] k (fun kq v1 v5 w' => ∃ (x1_1 : Int) (x5_1 : Int), v1 = .int .i64 x1_1 ∧ v5 = .int .i64 x5_1 ∧ Aside0 (laws_heldPolS.l0 kq l0 x1_1 x5_1 = some r) ∧ Aside0 (kq ≤ k) ∧ Aside0 (Below w.heap.size w w'))
 case atStart => exact ⟨(a1), (0), zV, zV, H', ⟨Nat.le_refl _⟩, ⟨zL HB.out⟩⟩
 case round =>
  clear H'
  try clear p2
  obtain ⟨x1_1, x5_1, rfl, rfl, HA, HK1, HB⟩ := hrel
  cases gk with
  | zero => exact absurd HA.out (by simp [laws_heldPolS.l0])
  | succ k1 =>
   have H := HA.out
   clear HA
   simp only [laws_heldPolS.l0] at H
   by_cases c3 : x5_1 < (l0.length : Int)
   ·rw [if_pos c3] at H
    have c3b0 := decide_eq_true c3
    clear c3
    by_cases c4 : 0 ≤ x5_1
    ·rw [if_pos c4] at H
     have c4b0 := decide_eq_true c4
     clear c4
     by_cases c5 : ((rd_T29 l0 x5_1).f0) = x1_1
     ·rw [if_pos c5] at H
      obtain ⟨c5b0, c5b1⟩ := zt c5
      clear c5
      by_cases c6 : ((rd_T29 l0 x5_1).f1) = (wrap64 (x1_1 + 1))
      ·rw [if_pos c6] at H
       obtain ⟨c6b0, c6b1⟩ := zt c6
       clear c6
       obtain ⟨t208, A7, H⟩ := zO H; try dsimp only at H
       by_cases c8 : ((rd_T29 l0 x5_1).f2).toList = t208.toList
       ·rw [if_pos c8] at H
        obtain ⟨c8b0, c8b1⟩ := zt c8
        clear c8
        obtain ⟨t210, A9, H⟩ := zO H; try dsimp only at H
        by_cases c10 : ((rd_T29 l0 x5_1).f3).toList = t210.toList
        ·rw [if_pos c10] at H
         obtain ⟨c10b0, c10b1⟩ := zt c10
         clear c10
         obtain ⟨t212, A11, H⟩ := zO H; try dsimp only at H
         by_cases c12 : t212 < 0
         ·rw [if_pos c12] at H
          have c12b0 := decide_eq_true c12
          clear c12
          obtain rfl := Option.some.inj H
          have p205 : 0 ≤ (x5_1 : Int) := zD
          have q205 : x5_1 < (l0.length : Int) := zD
          obtain ⟨ad205, A205_4, c205_4, e205, hx205_0, hx205_1, hx205_2, hx205_3, hx205_4, hl205_4, hi205_4⟩ := at_T29 HR0.out x5_1 p205 q205
          cases e205
          replace hx205_0 := zh HB.out hx205_0
          replace hx205_1 := zh HB.out hx205_1
          replace hx205_2 := zh HB.out hx205_2
          replace hx205_3 := zh HB.out hx205_3
          replace hx205_4 := zh HB.out hx205_4
          have HR205_4 := Aside0.mk hi205_4
          have HC205_4 := Aside0.mk hl205_4
          clear hi205_4 hl205_4
          replace p205 := eq_true p205
          replace q205 := eq_true q205
          have p206 : 0 ≤ (x5_1 : Int) := zD
          have q206 : x5_1 < (l0.length : Int) := zD
          obtain ⟨ad206, A206_4, c206_4, e206, hx206_0, hx206_1, hx206_2, hx206_3, hx206_4, hl206_4, hi206_4⟩ := at_T29 HR0.out x5_1 p206 q206
          obtain rfl : ad205 = ad206 := (by injection e206)
          replace hx206_0 := zh HB.out hx206_0
          replace hx206_1 := zh HB.out hx206_1
          replace hx206_2 := zh HB.out hx206_2
          replace hx206_3 := zh HB.out hx206_3
          replace hx206_4 := zh HB.out hx206_4
          have HR206_4 := Aside0.mk hi206_4
          have HC206_4 := Aside0.mk hl206_4
          clear hi206_4 hl206_4
          replace p206 := eq_true p206
          replace q206 := eq_true q206
          have ea_ := Option.some.inj (hx205_4.symm.trans hx206_4)
          injection ea_ with ea_ en_ ec_
          subst ea_
          subst ec_
          clear en_
          try go_wp2
          replace HB := zLD HB
          have p207 : 0 ≤ (x5_1 : Int) := zD
          have q207 : x5_1 < (l0.length : Int) := zD
          obtain ⟨ad207, A207_4, c207_4, e207, hx207_0, hx207_1, hx207_2, hx207_3, hx207_4, hl207_4, hi207_4⟩ := at_T29 HR0.out x5_1 p207 q207
          have hw207_4 := hx207_4
          have hw207_3 := hx207_3
          have hw207_2 := hx207_2
          have hw207_1 := hx207_1
          have hw207_0 := hx207_0
          obtain rfl : ad205 = ad207 := (by injection e207)
          replace hx207_0 := zh HB.out hx207_0
          replace hx207_1 := zh HB.out hx207_1
          replace hx207_2 := zh HB.out hx207_2
          replace hx207_3 := zh HB.out hx207_3
          replace hx207_4 := zh HB.out hx207_4
          have HR207_4 := Aside0.mk hi207_4
          have HC207_4 := Aside0.mk hl207_4
          clear hi207_4 hl207_4
          replace p207 := eq_true p207
          replace q207 := eq_true q207
          refine start_ (n := 8) (S := fun w' => w'.cell? (ad205.add ((x5_1).toNat * 5)) = some (.int .i64 ((rd_T29 l0 x5_1).f0)) ∧ w'.cell? ⟨(ad205.add ((x5_1).toNat * 5)).block, (ad205.add ((x5_1).toNat * 5)).off + 1, none⟩ = some (.int .i64 ((rd_T29 l0 x5_1).f1)) ∧ w'.cell? ⟨(ad205.add ((x5_1).toNat * 5)).block, (ad205.add ((x5_1).toNat * 5)).off + 2, none⟩ = some (.string ((rd_T29 l0 x5_1).f2)) ∧ w'.cell? ⟨(ad205.add ((x5_1).toNat * 5)).block, (ad205.add ((x5_1).toNat * 5)).off + 3, none⟩ = some (.string ((rd_T29 l0 x5_1).f3)) ∧ w'.cell? ⟨(ad205.add ((x5_1).toNat * 5)).block, (ad205.add ((x5_1).toNat * 5)).off + 4, none⟩ = some (.slice A207_4 ((rd_T29 l0 x5_1).f4).length c207_4)) (ds := []) (fB 8 0) (by kernel_rfl) rfl rfl ⟨(zh HB.out hw207_0), (zh HB.out hw207_1), (zh HB.out hw207_2), (zh HB.out hw207_3), (zh HB.out hw207_4)⟩ (fun hHeld => ?_); refine with_tabW laws_heldPolS.tab10 laws_heldPolS.bits10 (fun HT_ HW_ => ?_)
          generalize wr.drew = w13 at HB HR207_4 hx207_0 hx207_1 hx207_2 hx207_3 hx207_4 hHeld ⊢
          refine pY 0 30 (fB 8 1) HT_.out ?_
          refine pY 1 31 (fB 8 3) HT_.out ?_
          refine pY 2 32 (fB 8 7) HT_.out ?_
          refine pY 3 33 (fB 8 15) HT_.out ?_
          refine pY 5 35 (fB 8 47) HT_.out ?_
          refine tY 4 34 (fB 8 63) HT_.out HW_.out hHeld ?_
          refine oN 6 36 (fB 8 127) HT_.out fun K hK => ?_
          refine gS Try.func82 #[.int .i64 (wrap64 ((wrap64 (x1_1 + 1)) + 1))] ?_
          with_reducible refine (laws_markText.calls k1 (wrap64 ((wrap64 (x1_1 + 1)) + 1)) t208 _ A7.out).mono ?_
          rintro e w14 ⟨rfl, hb⟩
          refine ⟨_, rfl, ?_⟩
          replace HB := zLB (zL HB.out) hb
          clear hb
          refine hK.out _ _ ⟨(zh HB.out hw207_0), (zh HB.out hw207_1), (zh HB.out hw207_2), (zh HB.out hw207_3), (zh HB.out hw207_4)⟩ fun hHeld => ?_; clear hK K
          refine nZ 36 ?_
          refine pY 7 37 (fB 8 255) HT_.out ?_
          refine done_ (done_of HT_.out (by kernel_rfl)) ?_
          try go_wp2
          replace HB := zLD HB
          have p209 : 0 ≤ (x5_1 : Int) := zD
          have q209 : x5_1 < (l0.length : Int) := zD
          obtain ⟨ad209, A209_4, c209_4, e209, hx209_0, hx209_1, hx209_2, hx209_3, hx209_4, hl209_4, hi209_4⟩ := at_T29 HR0.out x5_1 p209 q209
          have hw209_4 := hx209_4
          have hw209_3 := hx209_3
          have hw209_2 := hx209_2
          have hw209_1 := hx209_1
          have hw209_0 := hx209_0
          obtain rfl : ad205 = ad209 := (by injection e209)
          replace hx209_0 := zh HB.out hx209_0
          replace hx209_1 := zh HB.out hx209_1
          replace hx209_2 := zh HB.out hx209_2
          replace hx209_3 := zh HB.out hx209_3
          replace hx209_4 := zh HB.out hx209_4
          have HR209_4 := Aside0.mk hi209_4
          have HC209_4 := Aside0.mk hl209_4
          clear hi209_4 hl209_4
          replace p209 := eq_true p209
          replace q209 := eq_true q209
          refine start_ (n := 8) (S := fun w' => w'.cell? (ad205.add ((x5_1).toNat * 5)) = some (.int .i64 ((rd_T29 l0 x5_1).f0)) ∧ w'.cell? ⟨(ad205.add ((x5_1).toNat * 5)).block, (ad205.add ((x5_1).toNat * 5)).off + 1, none⟩ = some (.int .i64 ((rd_T29 l0 x5_1).f1)) ∧ w'.cell? ⟨(ad205.add ((x5_1).toNat * 5)).block, (ad205.add ((x5_1).toNat * 5)).off + 2, none⟩ = some (.string ((rd_T29 l0 x5_1).f2)) ∧ w'.cell? ⟨(ad205.add ((x5_1).toNat * 5)).block, (ad205.add ((x5_1).toNat * 5)).off + 3, none⟩ = some (.string ((rd_T29 l0 x5_1).f3)) ∧ w'.cell? ⟨(ad205.add ((x5_1).toNat * 5)).block, (ad205.add ((x5_1).toNat * 5)).off + 4, none⟩ = some (.slice A209_4 ((rd_T29 l0 x5_1).f4).length c209_4)) (ds := []) (fB 8 0) (by kernel_rfl) rfl rfl ⟨(zh HB.out hw209_0), (zh HB.out hw209_1), (zh HB.out hw209_2), (zh HB.out hw209_3), (zh HB.out hw209_4)⟩ (fun hHeld => ?_); refine with_tabW laws_heldPolS.tab13 laws_heldPolS.bits13 (fun HT_ HW_ => ?_)
          generalize w14.drew = w15 at HB HR209_4 hx209_0 hx209_1 hx209_2 hx209_3 hx209_4 hHeld ⊢
          refine pY 0 40 (fB 8 1) HT_.out ?_
          refine pY 1 41 (fB 8 3) HT_.out ?_
          refine pY 2 42 (fB 8 7) HT_.out ?_
          refine pY 3 43 (fB 8 15) HT_.out ?_
          refine pY 5 45 (fB 8 47) HT_.out ?_
          refine tY 4 44 (fB 8 63) HT_.out HW_.out hHeld ?_
          refine oN 6 46 (fB 8 127) HT_.out fun K hK => ?_
          refine gS Try.func82 #[.int .i64 (wrap64 ((wrap64 ((wrap64 (x1_1 + 1)) + 1)) + 1))] ?_
          with_reducible refine (laws_markText.calls k1 (wrap64 ((wrap64 ((wrap64 (x1_1 + 1)) + 1)) + 1)) t210 _ A9.out).mono ?_
          rintro e w16 ⟨rfl, hb⟩
          refine ⟨_, rfl, ?_⟩
          replace HB := zLB (zL HB.out) hb
          clear hb
          refine hK.out _ _ ⟨(zh HB.out hw209_0), (zh HB.out hw209_1), (zh HB.out hw209_2), (zh HB.out hw209_3), (zh HB.out hw209_4)⟩ fun hHeld => ?_; clear hK K
          refine nZ 46 ?_
          refine pY 7 47 (fB 8 255) HT_.out ?_
          refine done_ (done_of HT_.out (by kernel_rfl)) ?_
          have p211 : 0 ≤ (x5_1 : Int) := zD
          have q211 : x5_1 < (l0.length : Int) := zD
          obtain ⟨ad211, A211_4, c211_4, e211, hx211_0, hx211_1, hx211_2, hx211_3, hx211_4, hl211_4, hi211_4⟩ := at_T29 HR0.out x5_1 p211 q211
          obtain rfl : ad205 = ad211 := (by injection e211)
          replace hx211_0 := zh HB.out hx211_0
          replace hx211_1 := zh HB.out hx211_1
          replace hx211_2 := zh HB.out hx211_2
          replace hx211_3 := zh HB.out hx211_3
          replace hx211_4 := zh HB.out hx211_4
          have HR211_4 := Aside0.mk hi211_4
          have HC211_4 := Aside0.mk hl211_4
          clear hi211_4 hl211_4
          replace p211 := eq_true p211
          replace q211 := eq_true q211
          try clear hHeld
          try clear hx205_4
          try clear hx206_4
          try clear hx207_4
          try clear hx209_4
          try go_wp2_with (first | ((with_reducible refine gC 57 rfl ?_); refine gL 56 Try.func57 #[.slice A211_4 ((rd_T29 l0 x5_1).f4).length c211_4, .int .i64 (wrap64 ((wrap64 ((wrap64 ((wrap64 (x1_1 + 1)) + 1)) + 1)) + 1))] ?_; (with_reducible refine (ih k1 (by have := HK1.out; omega) _ _ ((rd_T29 l0 x5_1).f4) (wrap64 ((wrap64 ((wrap64 ((wrap64 (x1_1 + 1)) + 1)) + 1)) + 1)) t212 _ ?side1 ?side2 A11.out).mono ?_); (case side1 => exact zC (Kd.C_below HR211_4.out HB.out)); (case side2 => exact HC211_4.out); rintro e w17 ⟨rfl, hb⟩; refine ⟨_, rfl, ?_⟩; replace HB := zLB (zL HB.out) hb; clear hb))
          go_ret
          exact ⟨zW, zL HB.out⟩
         ·rw [if_neg c12] at H
          have c12b0 := decide_eq_false c12
          clear c12
          have H' := Aside0.mk H
          clear H
          have p205 : 0 ≤ (x5_1 : Int) := zD
          have q205 : x5_1 < (l0.length : Int) := zD
          obtain ⟨ad205, A205_4, c205_4, e205, hx205_0, hx205_1, hx205_2, hx205_3, hx205_4, hl205_4, hi205_4⟩ := at_T29 HR0.out x5_1 p205 q205
          cases e205
          replace hx205_0 := zh HB.out hx205_0
          replace hx205_1 := zh HB.out hx205_1
          replace hx205_2 := zh HB.out hx205_2
          replace hx205_3 := zh HB.out hx205_3
          replace hx205_4 := zh HB.out hx205_4
          have HR205_4 := Aside0.mk hi205_4
          have HC205_4 := Aside0.mk hl205_4
          clear hi205_4 hl205_4
          replace p205 := eq_true p205
          replace q205 := eq_true q205
          have p206 : 0 ≤ (x5_1 : Int) := zD
          have q206 : x5_1 < (l0.length : Int) := zD
          obtain ⟨ad206, A206_4, c206_4, e206, hx206_0, hx206_1, hx206_2, hx206_3, hx206_4, hl206_4, hi206_4⟩ := at_T29 HR0.out x5_1 p206 q206
          obtain rfl : ad205 = ad206 := (by injection e206)
          replace hx206_0 := zh HB.out hx206_0
          replace hx206_1 := zh HB.out hx206_1
          replace hx206_2 := zh HB.out hx206_2
          replace hx206_3 := zh HB.out hx206_3
          replace hx206_4 := zh HB.out hx206_4
          have HR206_4 := Aside0.mk hi206_4
          have HC206_4 := Aside0.mk hl206_4
          clear hi206_4 hl206_4
          replace p206 := eq_true p206
          replace q206 := eq_true q206
          have ea_ := Option.some.inj (hx205_4.symm.trans hx206_4)
          injection ea_ with ea_ en_ ec_
          subst ea_
          subst ec_
          clear en_
          try go_wp2
          replace HB := zLD HB
          have p207 : 0 ≤ (x5_1 : Int) := zD
          have q207 : x5_1 < (l0.length : Int) := zD
          obtain ⟨ad207, A207_4, c207_4, e207, hx207_0, hx207_1, hx207_2, hx207_3, hx207_4, hl207_4, hi207_4⟩ := at_T29 HR0.out x5_1 p207 q207
          have hw207_4 := hx207_4
          have hw207_3 := hx207_3
          have hw207_2 := hx207_2
          have hw207_1 := hx207_1
          have hw207_0 := hx207_0
          obtain rfl : ad205 = ad207 := (by injection e207)
          replace hx207_0 := zh HB.out hx207_0
          replace hx207_1 := zh HB.out hx207_1
          replace hx207_2 := zh HB.out hx207_2
          replace hx207_3 := zh HB.out hx207_3
          replace hx207_4 := zh HB.out hx207_4
          have HR207_4 := Aside0.mk hi207_4
          have HC207_4 := Aside0.mk hl207_4
          clear hi207_4 hl207_4
          replace p207 := eq_true p207
          replace q207 := eq_true q207
          refine start_ (n := 8) (S := fun w' => w'.cell? (ad205.add ((x5_1).toNat * 5)) = some (.int .i64 ((rd_T29 l0 x5_1).f0)) ∧ w'.cell? ⟨(ad205.add ((x5_1).toNat * 5)).block, (ad205.add ((x5_1).toNat * 5)).off + 1, none⟩ = some (.int .i64 ((rd_T29 l0 x5_1).f1)) ∧ w'.cell? ⟨(ad205.add ((x5_1).toNat * 5)).block, (ad205.add ((x5_1).toNat * 5)).off + 2, none⟩ = some (.string ((rd_T29 l0 x5_1).f2)) ∧ w'.cell? ⟨(ad205.add ((x5_1).toNat * 5)).block, (ad205.add ((x5_1).toNat * 5)).off + 3, none⟩ = some (.string ((rd_T29 l0 x5_1).f3)) ∧ w'.cell? ⟨(ad205.add ((x5_1).toNat * 5)).block, (ad205.add ((x5_1).toNat * 5)).off + 4, none⟩ = some (.slice A207_4 ((rd_T29 l0 x5_1).f4).length c207_4)) (ds := []) (fB 8 0) (by kernel_rfl) rfl rfl ⟨(zh HB.out hw207_0), (zh HB.out hw207_1), (zh HB.out hw207_2), (zh HB.out hw207_3), (zh HB.out hw207_4)⟩ (fun hHeld => ?_); refine with_tabW laws_heldPolS.tab10 laws_heldPolS.bits10 (fun HT_ HW_ => ?_)
          generalize wr.drew = w18 at HB HR207_4 hx207_0 hx207_1 hx207_2 hx207_3 hx207_4 hHeld ⊢
          refine pY 0 30 (fB 8 1) HT_.out ?_
          refine pY 1 31 (fB 8 3) HT_.out ?_
          refine pY 2 32 (fB 8 7) HT_.out ?_
          refine pY 3 33 (fB 8 15) HT_.out ?_
          refine pY 5 35 (fB 8 47) HT_.out ?_
          refine tY 4 34 (fB 8 63) HT_.out HW_.out hHeld ?_
          refine oN 6 36 (fB 8 127) HT_.out fun K hK => ?_
          refine gS Try.func82 #[.int .i64 (wrap64 ((wrap64 (x1_1 + 1)) + 1))] ?_
          with_reducible refine (laws_markText.calls k1 (wrap64 ((wrap64 (x1_1 + 1)) + 1)) t208 _ A7.out).mono ?_
          rintro e w19 ⟨rfl, hb⟩
          refine ⟨_, rfl, ?_⟩
          replace HB := zLB (zL HB.out) hb
          clear hb
          refine hK.out _ _ ⟨(zh HB.out hw207_0), (zh HB.out hw207_1), (zh HB.out hw207_2), (zh HB.out hw207_3), (zh HB.out hw207_4)⟩ fun hHeld => ?_; clear hK K
          refine nZ 36 ?_
          refine pY 7 37 (fB 8 255) HT_.out ?_
          refine done_ (done_of HT_.out (by kernel_rfl)) ?_
          try go_wp2
          replace HB := zLD HB
          have p209 : 0 ≤ (x5_1 : Int) := zD
          have q209 : x5_1 < (l0.length : Int) := zD
          obtain ⟨ad209, A209_4, c209_4, e209, hx209_0, hx209_1, hx209_2, hx209_3, hx209_4, hl209_4, hi209_4⟩ := at_T29 HR0.out x5_1 p209 q209
          have hw209_4 := hx209_4
          have hw209_3 := hx209_3
          have hw209_2 := hx209_2
          have hw209_1 := hx209_1
          have hw209_0 := hx209_0
          obtain rfl : ad205 = ad209 := (by injection e209)
          replace hx209_0 := zh HB.out hx209_0
          replace hx209_1 := zh HB.out hx209_1
          replace hx209_2 := zh HB.out hx209_2
          replace hx209_3 := zh HB.out hx209_3
          replace hx209_4 := zh HB.out hx209_4
          have HR209_4 := Aside0.mk hi209_4
          have HC209_4 := Aside0.mk hl209_4
          clear hi209_4 hl209_4
          replace p209 := eq_true p209
          replace q209 := eq_true q209
          refine start_ (n := 8) (S := fun w' => w'.cell? (ad205.add ((x5_1).toNat * 5)) = some (.int .i64 ((rd_T29 l0 x5_1).f0)) ∧ w'.cell? ⟨(ad205.add ((x5_1).toNat * 5)).block, (ad205.add ((x5_1).toNat * 5)).off + 1, none⟩ = some (.int .i64 ((rd_T29 l0 x5_1).f1)) ∧ w'.cell? ⟨(ad205.add ((x5_1).toNat * 5)).block, (ad205.add ((x5_1).toNat * 5)).off + 2, none⟩ = some (.string ((rd_T29 l0 x5_1).f2)) ∧ w'.cell? ⟨(ad205.add ((x5_1).toNat * 5)).block, (ad205.add ((x5_1).toNat * 5)).off + 3, none⟩ = some (.string ((rd_T29 l0 x5_1).f3)) ∧ w'.cell? ⟨(ad205.add ((x5_1).toNat * 5)).block, (ad205.add ((x5_1).toNat * 5)).off + 4, none⟩ = some (.slice A209_4 ((rd_T29 l0 x5_1).f4).length c209_4)) (ds := []) (fB 8 0) (by kernel_rfl) rfl rfl ⟨(zh HB.out hw209_0), (zh HB.out hw209_1), (zh HB.out hw209_2), (zh HB.out hw209_3), (zh HB.out hw209_4)⟩ (fun hHeld => ?_); refine with_tabW laws_heldPolS.tab13 laws_heldPolS.bits13 (fun HT_ HW_ => ?_)
          generalize w19.drew = w20 at HB HR209_4 hx209_0 hx209_1 hx209_2 hx209_3 hx209_4 hHeld ⊢
          refine pY 0 40 (fB 8 1) HT_.out ?_
          refine pY 1 41 (fB 8 3) HT_.out ?_
          refine pY 2 42 (fB 8 7) HT_.out ?_
          refine pY 3 43 (fB 8 15) HT_.out ?_
          refine pY 5 45 (fB 8 47) HT_.out ?_
          refine tY 4 44 (fB 8 63) HT_.out HW_.out hHeld ?_
          refine oN 6 46 (fB 8 127) HT_.out fun K hK => ?_
          refine gS Try.func82 #[.int .i64 (wrap64 ((wrap64 ((wrap64 (x1_1 + 1)) + 1)) + 1))] ?_
          with_reducible refine (laws_markText.calls k1 (wrap64 ((wrap64 ((wrap64 (x1_1 + 1)) + 1)) + 1)) t210 _ A9.out).mono ?_
          rintro e w21 ⟨rfl, hb⟩
          refine ⟨_, rfl, ?_⟩
          replace HB := zLB (zL HB.out) hb
          clear hb
          refine hK.out _ _ ⟨(zh HB.out hw209_0), (zh HB.out hw209_1), (zh HB.out hw209_2), (zh HB.out hw209_3), (zh HB.out hw209_4)⟩ fun hHeld => ?_; clear hK K
          refine nZ 46 ?_
          refine pY 7 47 (fB 8 255) HT_.out ?_
          refine done_ (done_of HT_.out (by kernel_rfl)) ?_
          have p211 : 0 ≤ (x5_1 : Int) := zD
          have q211 : x5_1 < (l0.length : Int) := zD
          obtain ⟨ad211, A211_4, c211_4, e211, hx211_0, hx211_1, hx211_2, hx211_3, hx211_4, hl211_4, hi211_4⟩ := at_T29 HR0.out x5_1 p211 q211
          obtain rfl : ad205 = ad211 := (by injection e211)
          replace hx211_0 := zh HB.out hx211_0
          replace hx211_1 := zh HB.out hx211_1
          replace hx211_2 := zh HB.out hx211_2
          replace hx211_3 := zh HB.out hx211_3
          replace hx211_4 := zh HB.out hx211_4
          have HR211_4 := Aside0.mk hi211_4
          have HC211_4 := Aside0.mk hl211_4
          clear hi211_4 hl211_4
          replace p211 := eq_true p211
          replace q211 := eq_true q211
          try clear hHeld
          try clear hx205_4
          try clear hx206_4
          try clear hx207_4
          try clear hx209_4
          try go_wp2_with (first | ((with_reducible refine gC 57 rfl ?_); refine gL 56 Try.func57 #[.slice A211_4 ((rd_T29 l0 x5_1).f4).length c211_4, .int .i64 (wrap64 ((wrap64 ((wrap64 ((wrap64 (x1_1 + 1)) + 1)) + 1)) + 1))] ?_; (with_reducible refine (ih k1 (by have := HK1.out; omega) _ _ ((rd_T29 l0 x5_1).f4) (wrap64 ((wrap64 ((wrap64 ((wrap64 (x1_1 + 1)) + 1)) + 1)) + 1)) t212 _ ?side1 ?side2 A11.out).mono ?_); (case side1 => exact zC (Kd.C_below HR211_4.out HB.out)); (case side2 => exact HC211_4.out); rintro e w22 ⟨rfl, hb⟩; refine ⟨_, rfl, ?_⟩; replace HB := zLB (zL HB.out) hb; clear hb))
          go_roundg k1
          case measure => have := HK1.out; omega
          case rel => exact ⟨(t212), (wrap64 (x5_1 + 1)), zV, zV, H', ⟨by have := HK1.out; omega⟩, ⟨zL HB.out⟩⟩
        ·rw [if_neg c10] at H
         obtain ⟨c10b0, c10b1⟩ := zf c10
         obtain rfl := Option.some.inj H
         have p205 : 0 ≤ (x5_1 : Int) := zD
         have q205 : x5_1 < (l0.length : Int) := zD
         obtain ⟨ad205, A205_4, c205_4, e205, hx205_0, hx205_1, hx205_2, hx205_3, hx205_4, hl205_4, hi205_4⟩ := at_T29 HR0.out x5_1 p205 q205
         cases e205
         replace hx205_0 := zh HB.out hx205_0
         replace hx205_1 := zh HB.out hx205_1
         replace hx205_2 := zh HB.out hx205_2
         replace hx205_3 := zh HB.out hx205_3
         replace hx205_4 := zh HB.out hx205_4
         have HR205_4 := Aside0.mk hi205_4
         have HC205_4 := Aside0.mk hl205_4
         clear hi205_4 hl205_4
         replace p205 := eq_true p205
         replace q205 := eq_true q205
         have p206 : 0 ≤ (x5_1 : Int) := zD
         have q206 : x5_1 < (l0.length : Int) := zD
         obtain ⟨ad206, A206_4, c206_4, e206, hx206_0, hx206_1, hx206_2, hx206_3, hx206_4, hl206_4, hi206_4⟩ := at_T29 HR0.out x5_1 p206 q206
         obtain rfl : ad205 = ad206 := (by injection e206)
         replace hx206_0 := zh HB.out hx206_0
         replace hx206_1 := zh HB.out hx206_1
         replace hx206_2 := zh HB.out hx206_2
         replace hx206_3 := zh HB.out hx206_3
         replace hx206_4 := zh HB.out hx206_4
         have HR206_4 := Aside0.mk hi206_4
         have HC206_4 := Aside0.mk hl206_4
         clear hi206_4 hl206_4
         replace p206 := eq_true p206
         replace q206 := eq_true q206
         have ea_ := Option.some.inj (hx205_4.symm.trans hx206_4)
         injection ea_ with ea_ en_ ec_
         subst ea_
         subst ec_
         clear en_
         try go_wp2
         replace HB := zLD HB
         have p207 : 0 ≤ (x5_1 : Int) := zD
         have q207 : x5_1 < (l0.length : Int) := zD
         obtain ⟨ad207, A207_4, c207_4, e207, hx207_0, hx207_1, hx207_2, hx207_3, hx207_4, hl207_4, hi207_4⟩ := at_T29 HR0.out x5_1 p207 q207
         have hw207_4 := hx207_4
         have hw207_3 := hx207_3
         have hw207_2 := hx207_2
         have hw207_1 := hx207_1
         have hw207_0 := hx207_0
         obtain rfl : ad205 = ad207 := (by injection e207)
         replace hx207_0 := zh HB.out hx207_0
         replace hx207_1 := zh HB.out hx207_1
         replace hx207_2 := zh HB.out hx207_2
         replace hx207_3 := zh HB.out hx207_3
         replace hx207_4 := zh HB.out hx207_4
         have HR207_4 := Aside0.mk hi207_4
         have HC207_4 := Aside0.mk hl207_4
         clear hi207_4 hl207_4
         replace p207 := eq_true p207
         replace q207 := eq_true q207
         refine start_ (n := 8) (S := fun w' => w'.cell? (ad205.add ((x5_1).toNat * 5)) = some (.int .i64 ((rd_T29 l0 x5_1).f0)) ∧ w'.cell? ⟨(ad205.add ((x5_1).toNat * 5)).block, (ad205.add ((x5_1).toNat * 5)).off + 1, none⟩ = some (.int .i64 ((rd_T29 l0 x5_1).f1)) ∧ w'.cell? ⟨(ad205.add ((x5_1).toNat * 5)).block, (ad205.add ((x5_1).toNat * 5)).off + 2, none⟩ = some (.string ((rd_T29 l0 x5_1).f2)) ∧ w'.cell? ⟨(ad205.add ((x5_1).toNat * 5)).block, (ad205.add ((x5_1).toNat * 5)).off + 3, none⟩ = some (.string ((rd_T29 l0 x5_1).f3)) ∧ w'.cell? ⟨(ad205.add ((x5_1).toNat * 5)).block, (ad205.add ((x5_1).toNat * 5)).off + 4, none⟩ = some (.slice A207_4 ((rd_T29 l0 x5_1).f4).length c207_4)) (ds := []) (fB 8 0) (by kernel_rfl) rfl rfl ⟨(zh HB.out hw207_0), (zh HB.out hw207_1), (zh HB.out hw207_2), (zh HB.out hw207_3), (zh HB.out hw207_4)⟩ (fun hHeld => ?_); refine with_tabW laws_heldPolS.tab10 laws_heldPolS.bits10 (fun HT_ HW_ => ?_)
         generalize wr.drew = w23 at HB HR207_4 hx207_0 hx207_1 hx207_2 hx207_3 hx207_4 hHeld ⊢
         refine pY 0 30 (fB 8 1) HT_.out ?_
         refine pY 1 31 (fB 8 3) HT_.out ?_
         refine pY 2 32 (fB 8 7) HT_.out ?_
         refine pY 3 33 (fB 8 15) HT_.out ?_
         refine pY 5 35 (fB 8 47) HT_.out ?_
         refine tY 4 34 (fB 8 63) HT_.out HW_.out hHeld ?_
         refine oN 6 36 (fB 8 127) HT_.out fun K hK => ?_
         refine gS Try.func82 #[.int .i64 (wrap64 ((wrap64 (x1_1 + 1)) + 1))] ?_
         with_reducible refine (laws_markText.calls k1 (wrap64 ((wrap64 (x1_1 + 1)) + 1)) t208 _ A7.out).mono ?_
         rintro e w24 ⟨rfl, hb⟩
         refine ⟨_, rfl, ?_⟩
         replace HB := zLB (zL HB.out) hb
         clear hb
         refine hK.out _ _ ⟨(zh HB.out hw207_0), (zh HB.out hw207_1), (zh HB.out hw207_2), (zh HB.out hw207_3), (zh HB.out hw207_4)⟩ fun hHeld => ?_; clear hK K
         refine nZ 36 ?_
         refine pY 7 37 (fB 8 255) HT_.out ?_
         refine done_ (done_of HT_.out (by kernel_rfl)) ?_
         try go_wp2
         replace HB := zLD HB
         have p209 : 0 ≤ (x5_1 : Int) := zD
         have q209 : x5_1 < (l0.length : Int) := zD
         obtain ⟨ad209, A209_4, c209_4, e209, hx209_0, hx209_1, hx209_2, hx209_3, hx209_4, hl209_4, hi209_4⟩ := at_T29 HR0.out x5_1 p209 q209
         have hw209_4 := hx209_4
         have hw209_3 := hx209_3
         have hw209_2 := hx209_2
         have hw209_1 := hx209_1
         have hw209_0 := hx209_0
         obtain rfl : ad205 = ad209 := (by injection e209)
         replace hx209_0 := zh HB.out hx209_0
         replace hx209_1 := zh HB.out hx209_1
         replace hx209_2 := zh HB.out hx209_2
         replace hx209_3 := zh HB.out hx209_3
         replace hx209_4 := zh HB.out hx209_4
         have HR209_4 := Aside0.mk hi209_4
         have HC209_4 := Aside0.mk hl209_4
         clear hi209_4 hl209_4
         replace p209 := eq_true p209
         replace q209 := eq_true q209
         refine start_ (n := 8) (S := fun w' => w'.cell? (ad205.add ((x5_1).toNat * 5)) = some (.int .i64 ((rd_T29 l0 x5_1).f0)) ∧ w'.cell? ⟨(ad205.add ((x5_1).toNat * 5)).block, (ad205.add ((x5_1).toNat * 5)).off + 1, none⟩ = some (.int .i64 ((rd_T29 l0 x5_1).f1)) ∧ w'.cell? ⟨(ad205.add ((x5_1).toNat * 5)).block, (ad205.add ((x5_1).toNat * 5)).off + 2, none⟩ = some (.string ((rd_T29 l0 x5_1).f2)) ∧ w'.cell? ⟨(ad205.add ((x5_1).toNat * 5)).block, (ad205.add ((x5_1).toNat * 5)).off + 3, none⟩ = some (.string ((rd_T29 l0 x5_1).f3)) ∧ w'.cell? ⟨(ad205.add ((x5_1).toNat * 5)).block, (ad205.add ((x5_1).toNat * 5)).off + 4, none⟩ = some (.slice A209_4 ((rd_T29 l0 x5_1).f4).length c209_4)) (ds := []) (fB 8 0) (by kernel_rfl) rfl rfl ⟨(zh HB.out hw209_0), (zh HB.out hw209_1), (zh HB.out hw209_2), (zh HB.out hw209_3), (zh HB.out hw209_4)⟩ (fun hHeld => ?_); refine with_tabW laws_heldPolS.tab13 laws_heldPolS.bits13 (fun HT_ HW_ => ?_)
         generalize w24.drew = w25 at HB HR209_4 hx209_0 hx209_1 hx209_2 hx209_3 hx209_4 hHeld ⊢
         refine pY 0 40 (fB 8 1) HT_.out ?_
         refine pY 1 41 (fB 8 3) HT_.out ?_
         refine pY 2 42 (fB 8 7) HT_.out ?_
         refine pY 3 43 (fB 8 15) HT_.out ?_
         refine pY 5 45 (fB 8 47) HT_.out ?_
         refine tY 4 44 (fB 8 63) HT_.out HW_.out hHeld ?_
         refine oN 6 46 (fB 8 127) HT_.out fun K hK => ?_
         refine gS Try.func82 #[.int .i64 (wrap64 ((wrap64 ((wrap64 (x1_1 + 1)) + 1)) + 1))] ?_
         with_reducible refine (laws_markText.calls k1 (wrap64 ((wrap64 ((wrap64 (x1_1 + 1)) + 1)) + 1)) t210 _ A9.out).mono ?_
         rintro e w26 ⟨rfl, hb⟩
         refine ⟨_, rfl, ?_⟩
         replace HB := zLB (zL HB.out) hb
         clear hb
         refine hK.out _ _ ⟨(zh HB.out hw209_0), (zh HB.out hw209_1), (zh HB.out hw209_2), (zh HB.out hw209_3), (zh HB.out hw209_4)⟩ fun hHeld => ?_; clear hK K
         refine nZ 46 ?_
         refine pY 7 47 (fB 8 255) HT_.out ?_
         refine done_ (done_of HT_.out (by kernel_rfl)) ?_
         try go_wp2
         go_ret
         exact ⟨zW, zL HB.out⟩
       ·rw [if_neg c8] at H
        obtain ⟨c8b0, c8b1⟩ := zf c8
        obtain rfl := Option.some.inj H
        have p205 : 0 ≤ (x5_1 : Int) := zD
        have q205 : x5_1 < (l0.length : Int) := zD
        obtain ⟨ad205, A205_4, c205_4, e205, hx205_0, hx205_1, hx205_2, hx205_3, hx205_4, hl205_4, hi205_4⟩ := at_T29 HR0.out x5_1 p205 q205
        cases e205
        replace hx205_0 := zh HB.out hx205_0
        replace hx205_1 := zh HB.out hx205_1
        replace hx205_2 := zh HB.out hx205_2
        replace hx205_3 := zh HB.out hx205_3
        replace hx205_4 := zh HB.out hx205_4
        have HR205_4 := Aside0.mk hi205_4
        have HC205_4 := Aside0.mk hl205_4
        clear hi205_4 hl205_4
        replace p205 := eq_true p205
        replace q205 := eq_true q205
        have p206 : 0 ≤ (x5_1 : Int) := zD
        have q206 : x5_1 < (l0.length : Int) := zD
        obtain ⟨ad206, A206_4, c206_4, e206, hx206_0, hx206_1, hx206_2, hx206_3, hx206_4, hl206_4, hi206_4⟩ := at_T29 HR0.out x5_1 p206 q206
        obtain rfl : ad205 = ad206 := (by injection e206)
        replace hx206_0 := zh HB.out hx206_0
        replace hx206_1 := zh HB.out hx206_1
        replace hx206_2 := zh HB.out hx206_2
        replace hx206_3 := zh HB.out hx206_3
        replace hx206_4 := zh HB.out hx206_4
        have HR206_4 := Aside0.mk hi206_4
        have HC206_4 := Aside0.mk hl206_4
        clear hi206_4 hl206_4
        replace p206 := eq_true p206
        replace q206 := eq_true q206
        have ea_ := Option.some.inj (hx205_4.symm.trans hx206_4)
        injection ea_ with ea_ en_ ec_
        subst ea_
        subst ec_
        clear en_
        try go_wp2
        replace HB := zLD HB
        have p207 : 0 ≤ (x5_1 : Int) := zD
        have q207 : x5_1 < (l0.length : Int) := zD
        obtain ⟨ad207, A207_4, c207_4, e207, hx207_0, hx207_1, hx207_2, hx207_3, hx207_4, hl207_4, hi207_4⟩ := at_T29 HR0.out x5_1 p207 q207
        have hw207_4 := hx207_4
        have hw207_3 := hx207_3
        have hw207_2 := hx207_2
        have hw207_1 := hx207_1
        have hw207_0 := hx207_0
        obtain rfl : ad205 = ad207 := (by injection e207)
        replace hx207_0 := zh HB.out hx207_0
        replace hx207_1 := zh HB.out hx207_1
        replace hx207_2 := zh HB.out hx207_2
        replace hx207_3 := zh HB.out hx207_3
        replace hx207_4 := zh HB.out hx207_4
        have HR207_4 := Aside0.mk hi207_4
        have HC207_4 := Aside0.mk hl207_4
        clear hi207_4 hl207_4
        replace p207 := eq_true p207
        replace q207 := eq_true q207
        refine start_ (n := 8) (S := fun w' => w'.cell? (ad205.add ((x5_1).toNat * 5)) = some (.int .i64 ((rd_T29 l0 x5_1).f0)) ∧ w'.cell? ⟨(ad205.add ((x5_1).toNat * 5)).block, (ad205.add ((x5_1).toNat * 5)).off + 1, none⟩ = some (.int .i64 ((rd_T29 l0 x5_1).f1)) ∧ w'.cell? ⟨(ad205.add ((x5_1).toNat * 5)).block, (ad205.add ((x5_1).toNat * 5)).off + 2, none⟩ = some (.string ((rd_T29 l0 x5_1).f2)) ∧ w'.cell? ⟨(ad205.add ((x5_1).toNat * 5)).block, (ad205.add ((x5_1).toNat * 5)).off + 3, none⟩ = some (.string ((rd_T29 l0 x5_1).f3)) ∧ w'.cell? ⟨(ad205.add ((x5_1).toNat * 5)).block, (ad205.add ((x5_1).toNat * 5)).off + 4, none⟩ = some (.slice A207_4 ((rd_T29 l0 x5_1).f4).length c207_4)) (ds := []) (fB 8 0) (by kernel_rfl) rfl rfl ⟨(zh HB.out hw207_0), (zh HB.out hw207_1), (zh HB.out hw207_2), (zh HB.out hw207_3), (zh HB.out hw207_4)⟩ (fun hHeld => ?_); refine with_tabW laws_heldPolS.tab10 laws_heldPolS.bits10 (fun HT_ HW_ => ?_)
        generalize wr.drew = w27 at HB HR207_4 hx207_0 hx207_1 hx207_2 hx207_3 hx207_4 hHeld ⊢
        refine pY 0 30 (fB 8 1) HT_.out ?_
        refine pY 1 31 (fB 8 3) HT_.out ?_
        refine pY 2 32 (fB 8 7) HT_.out ?_
        refine pY 3 33 (fB 8 15) HT_.out ?_
        refine pY 5 35 (fB 8 47) HT_.out ?_
        refine tY 4 34 (fB 8 63) HT_.out HW_.out hHeld ?_
        refine oN 6 36 (fB 8 127) HT_.out fun K hK => ?_
        refine gS Try.func82 #[.int .i64 (wrap64 ((wrap64 (x1_1 + 1)) + 1))] ?_
        with_reducible refine (laws_markText.calls k1 (wrap64 ((wrap64 (x1_1 + 1)) + 1)) t208 _ A7.out).mono ?_
        rintro e w28 ⟨rfl, hb⟩
        refine ⟨_, rfl, ?_⟩
        replace HB := zLB (zL HB.out) hb
        clear hb
        refine hK.out _ _ ⟨(zh HB.out hw207_0), (zh HB.out hw207_1), (zh HB.out hw207_2), (zh HB.out hw207_3), (zh HB.out hw207_4)⟩ fun hHeld => ?_; clear hK K
        refine nZ 36 ?_
        refine pY 7 37 (fB 8 255) HT_.out ?_
        refine done_ (done_of HT_.out (by kernel_rfl)) ?_
        try go_wp2
        go_ret
        exact ⟨zW, zL HB.out⟩
      ·rw [if_neg c6] at H
       obtain ⟨c6b0, c6b1⟩ := zf c6
       obtain rfl := Option.some.inj H
       have p205 : 0 ≤ (x5_1 : Int) := zD
       have q205 : x5_1 < (l0.length : Int) := zD
       obtain ⟨ad205, A205_4, c205_4, e205, hx205_0, hx205_1, hx205_2, hx205_3, hx205_4, hl205_4, hi205_4⟩ := at_T29 HR0.out x5_1 p205 q205
       cases e205
       replace hx205_0 := zh HB.out hx205_0
       replace hx205_1 := zh HB.out hx205_1
       replace hx205_2 := zh HB.out hx205_2
       replace hx205_3 := zh HB.out hx205_3
       replace hx205_4 := zh HB.out hx205_4
       have HR205_4 := Aside0.mk hi205_4
       have HC205_4 := Aside0.mk hl205_4
       clear hi205_4 hl205_4
       replace p205 := eq_true p205
       replace q205 := eq_true q205
       have p206 : 0 ≤ (x5_1 : Int) := zD
       have q206 : x5_1 < (l0.length : Int) := zD
       obtain ⟨ad206, A206_4, c206_4, e206, hx206_0, hx206_1, hx206_2, hx206_3, hx206_4, hl206_4, hi206_4⟩ := at_T29 HR0.out x5_1 p206 q206
       obtain rfl : ad205 = ad206 := (by injection e206)
       replace hx206_0 := zh HB.out hx206_0
       replace hx206_1 := zh HB.out hx206_1
       replace hx206_2 := zh HB.out hx206_2
       replace hx206_3 := zh HB.out hx206_3
       replace hx206_4 := zh HB.out hx206_4
       have HR206_4 := Aside0.mk hi206_4
       have HC206_4 := Aside0.mk hl206_4
       clear hi206_4 hl206_4
       replace p206 := eq_true p206
       replace q206 := eq_true q206
       have ea_ := Option.some.inj (hx205_4.symm.trans hx206_4)
       injection ea_ with ea_ en_ ec_
       subst ea_
       subst ec_
       clear en_
       go_wp2
       go_ret
       exact ⟨zW, zL HB.out⟩
     ·rw [if_neg c5] at H
      obtain ⟨c5b0, c5b1⟩ := zf c5
      obtain rfl := Option.some.inj H
      have p205 : 0 ≤ (x5_1 : Int) := zD
      have q205 : x5_1 < (l0.length : Int) := zD
      obtain ⟨ad205, A205_4, c205_4, e205, hx205_0, hx205_1, hx205_2, hx205_3, hx205_4, hl205_4, hi205_4⟩ := at_T29 HR0.out x5_1 p205 q205
      cases e205
      replace hx205_0 := zh HB.out hx205_0
      replace hx205_1 := zh HB.out hx205_1
      replace hx205_2 := zh HB.out hx205_2
      replace hx205_3 := zh HB.out hx205_3
      replace hx205_4 := zh HB.out hx205_4
      have HR205_4 := Aside0.mk hi205_4
      have HC205_4 := Aside0.mk hl205_4
      clear hi205_4 hl205_4
      replace p205 := eq_true p205
      replace q205 := eq_true q205
      go_wp2
      go_ret
      exact ⟨zW, zL HB.out⟩
    ·rw [if_neg c4] at H
     exact absurd H (by simp)
   ·rw [if_neg c3] at H
    have c3b0 := decide_eq_false c3
    clear c3
    obtain rfl := Option.some.inj H
    go_wp2
    go_ret
    exact ⟨zW, zL HB.out⟩

open Go.Proofs.YtfhblnbicnmndaaW.PrintWords renaming blk_drewN → bN, blk_drew → bD, blk_alloc → bA, blk_cell → bC, blk_below → bB, below_set → bS
/-! ### laws_heldPol: function 30 -/
def laws_heldPol.f (k : Nat) (a0_0 : Int) (a0_1 : Int) (a0_2 : ByteArray) (a0_3 : ByteArray) (l0_4 : List (S29)) (a1 : Int) : Option (Int) := (laws_heldPolS.f k l0_4 a1).bind fun t214 => (if t214 < 0 then (some (-1)) else (some t214))
theorem laws_heldPol.mono : ∀ a0 a1 a2 a3 a4 a5 k, LeO (laws_heldPol.f k a0 a1 a2 a3 a4 a5) (laws_heldPol.f (k + 1) a0 a1 a2 a3 a4 a5) := by
 intro a0 a1 a2 a3 a4 a5 k
 unfold laws_heldPol.f
 repeat' first
   | (with_reducible apply laws_heldPolS.mono)
   | (with_reducible exact LeO.refl _)
   | (with_reducible exact LeO.none _)
   | (with_reducible refine LeO.ite ?_ ?_)
   | (with_reducible refine LeO.bind ?_ (fun _ => ?_))
   | apply laws_heldPolS.mono
   | exact LeO.none _
   | refine LeO.ite ?_ ?_
   | refine LeO.bind ?_ (fun _ => ?_)
set_option maxHeartbeats 8000000 in
set_option maxRecDepth 100000 in
theorem laws_heldPol.calls (k : Nat) (a0_0 : Int) (a0_1 : Int) (a0_2 : ByteArray) (a0_3 : ByteArray) (A0_4 : Option Addr) (c0_4 : Nat) (l0_4 : List (S29)) (a1 : Int) (r : Int) (w : World) (hr0_4 : Kd.C k29 w A0_4 l0_4.length l0_4) (hc0_4 : l0_4.length ≤ c0_4) (h : laws_heldPol.f k a0_0 a0_1 a0_2 a0_3 l0_4 a1 = some r) :
  Calls Try.prog 30 #[.agg #[.int .i64 a0_0, .int .i64 a0_1, .string a0_2, .string a0_3, .slice A0_4 l0_4.length c0_4], .int .i64 a1] w fun e w' => e = .returned (.int .i64 r) ∧ Below w.heap.size w w' := by
 have hu29 := Try.underlying29
 have HR0_4 := Aside0.mk hr0_4
 have HC0_4 := Aside0.mk hc0_4
 clear hr0_4 hc0_4
 have HB := Aside0.mk (Below.refl w.heap.size w)
 unfold laws_heldPol.f at h; have H := h
 clear h
 obtain ⟨t214, A3, H⟩ := zO H; try dsimp only at H
 by_cases c4 : t214 < 0
 ·rw [if_pos c4] at H
  have c4b0 := decide_eq_true c4
  clear c4
  obtain rfl := Option.some.inj H
  go_enter Try.func30, Try.ntmps30
  go_wp2_with (first | ((with_reducible refine gD 2 rfl ?_); refine bE 2 #[.int .i64 a0_0, .int .i64 a0_1, .string a0_2, .string a0_3, .slice A0_4 l0_4.length c0_4] 29 ?_; intro gb213 hg w5 hbox hb; have BK213 := Aside0.mk hbox; have GW213 := Aside0.mk (zg (zL HB.out) hg : w.heap.size ≤ gb213); have GE213 := GW213; replace HB := zLB (zL HB.out) hb; clear hb hbox hg; have hcz6 := zc5 BK213.out; have hfz6 := zf5 BK213.out) | ((with_reducible refine gC 57 rfl ?_); refine gL 8 Try.func57 #[.slice A0_4 l0_4.length c0_4, .int .i64 a1] ?_; (with_reducible refine (laws_heldPolS.calls k _ _ l0_4 a1 t214 _ ?side1 ?side2 A3.out).mono ?_); (case side1 => exact zC (Kd.C_below HR0_4.out HB.out)); (case side2 => exact HC0_4.out); rintro e w7 ⟨rfl, hb⟩; refine ⟨_, rfl, ?_⟩; replace BK213 := zBB BK213 hb; replace HB := zLB (zL1 HB.out GE213.out) hb; clear hb))
  go_ret
  exact ⟨zW, zL1 HB.out GE213.out⟩
 ·rw [if_neg c4] at H
  have c4b0 := decide_eq_false c4
  clear c4
  obtain rfl := Option.some.inj H
  go_enter Try.func30, Try.ntmps30
  go_wp2_with (first | ((with_reducible refine gD 2 rfl ?_); refine bE 2 #[.int .i64 a0_0, .int .i64 a0_1, .string a0_2, .string a0_3, .slice A0_4 l0_4.length c0_4] 29 ?_; intro gb213 hg w8 hbox hb; have BK213 := Aside0.mk hbox; have GW213 := Aside0.mk (zg (zL HB.out) hg : w.heap.size ≤ gb213); have GE213 := GW213; replace HB := zLB (zL HB.out) hb; clear hb hbox hg; have hcz9 := zc5 BK213.out; have hfz9 := zf5 BK213.out) | ((with_reducible refine gC 57 rfl ?_); refine gL 8 Try.func57 #[.slice A0_4 l0_4.length c0_4, .int .i64 a1] ?_; (with_reducible refine (laws_heldPolS.calls k _ _ l0_4 a1 t214 _ ?side1 ?side2 A3.out).mono ?_); (case side1 => exact zC (Kd.C_below HR0_4.out HB.out)); (case side2 => exact HC0_4.out); rintro e w10 ⟨rfl, hb⟩; refine ⟨_, rfl, ?_⟩; replace BK213 := zBB BK213 hb; replace HB := zLB (zL1 HB.out GE213.out) hb; clear hb))
  go_ret
  exact ⟨zW, zL1 HB.out GE213.out⟩

/-! ### laws_FnExactOpposite: function 7, by hand -/
/-! ### The law: what is read, what is marked -/
section
variable {w w1 wr : World} {b g : Nat} {ok : Nat → Prop} {A : Option Addr} {c n : Nat} {l : List S29} {v u0 u1 u2 u3 u4 : Value} {t : TypeId} {cs : Array Value}
theorem zVS (h : Aside0 (k29.S 29 w b ok v l)) (hb : Below w.heap.size w w1) : Aside0 (k29.S 29 w1 b ok v l) := ⟨Kd.S_below h.out hb⟩
theorem zVN (h : Aside0 (k29.N 29 w b ok v l)) (hb : Below w.heap.size w w1) : Aside0 (k29.N 29 w1 b ok v l) := ⟨Kd.N_below h.out hb⟩
theorem zVd : Below w.heap.size w w.drew := below_drew (Below.refl _ _)
theorem pvS (h : Aside0 (k29.S 29 w b ok (.slice A l.length c) l)) : k29.C w A l.length l ∧ l.length ≤ c := ⟨(Kd.S_reads' h.out).2.2, (Kd.S_reads' h.out).2.1⟩
theorem pvN (h : Aside0 (k29.N 29 w b ok (.slice A l.length c) l)) : k29.C w A l.length l ∧ l.length ≤ c := ⟨(Kd.N_reads' h.out).2.2, (Kd.N_reads' h.out).2.1⟩
theorem set5_blk (hw : w1 = ((((wr.setCell ⟨g, 0, none⟩ u0).setCell ⟨g, 1, none⟩ u1).setCell ⟨g, 2, none⟩ u2).setCell ⟨g, 3, none⟩ u3).setCell ⟨g, 4, none⟩ u4) (h : wr.heap[g]? = some (.cells cs t (0, 0))) (hs : cs.size = 5) : w1.heap[g]? = some (.cells #[u0, u1, u2, u3, u4] t (0, 0)) := by
  subst hw
  exact zp5 h hs
theorem set5_below (hw : w1 = ((((wr.setCell ⟨g, 0, none⟩ u0).setCell ⟨g, 1, none⟩ u1).setCell ⟨g, 2, none⟩ u2).setCell ⟨g, 3, none⟩ u3).setCell ⟨g, 4, none⟩ u4) (HB : Below w.heap.size w wr) (hg : w.heap.size ≤ g) : Below w.heap.size w w1 := by
  subst hw
  exact below_set (below_set (below_set (below_set (below_set HB hg) hg) hg) hg) hg
theorem set5_kept (_hw : w1 = ((((wr.setCell ⟨g, 0, none⟩ u0).setCell ⟨g, 1, none⟩ u1).setCell ⟨g, 2, none⟩ u2).setCell ⟨g, 3, none⟩ u3).setCell ⟨g, 4, none⟩ u4) : True := trivial
end
section
variable (k : Nat)
theorem toPol_I (a0 a1 : Int) (a2 a3 : ByteArray) (A : Option Addr) (c : Nat) (l : List S24) (w0 : World) {w : World} (HB : Below w0.heap.size w0 w) (lo : Nat) (hlo : lo < w.heap.size) (hr : Kd.C k24 w A l.length l) (hc : l.length ≤ c) {x0 x1 : Int} {x2 x3 : ByteArray} {x4 : List S29} (h : laws_toPol.f k a0 a1 a2 a3 l = some (x0, x1, x2, x3, x4)) :
    Calls Try.prog 15 #[.agg #[.int .i64 a0, .int .i64 a1, .string a2, .string a3, .slice A l.length c]] w fun e w' => ∃ XA xc, e = .returned (.agg #[.int .i64 x0, .int .i64 x1, .string x2, .string x3, .slice XA x4.length xc]) ∧ k29.S 29 w' w0.heap.size (fun k_ => lo < k_ ∧ k_ < w'.heap.size) (.slice XA x4.length xc) x4 ∧ Below w.heap.size w w' := by
  refine (laws_toPol.calls k a0 a1 a2 a3 A c l x0 x1 x2 x3 x4 w hr hc h).mono ?_
  rintro e w' ⟨v, rfl, hs, hb⟩
  obtain ⟨XA, xc, rfl⟩ := Kd.S_slice hs
  exact ⟨XA, xc, rfl, Kd.S_lower (Kd.S_mono (Kd.S_bound hs) (fun k_ h_ => ⟨Nat.lt_of_lt_of_le hlo h_.2.1, h_.2.2.1⟩)) HB.size, hb⟩
theorem toPol_R (a0 a1 : Int) (a2 a3 : ByteArray) (A : Option Addr) (c : Nat) (l : List S24) (w0 : World) {w : World} (HB : Below w0.heap.size w0 w) (lo : Nat) (hlo : lo < w.heap.size) (hr : Kd.C k24 w A l.length l) (hc : l.length ≤ c) {x0 x1 : Int} {x2 x3 : ByteArray} {x4 : List S29} (h : laws_toPol.f k a0 a1 a2 a3 l = some (x0, x1, x2, x3, x4)) :
    Calls Try.prog 15 #[.agg #[.int .i64 a0, .int .i64 a1, .string a2, .string a3, .slice A l.length c]] w fun e w' => ∃ XA xc, e = .returned (.agg #[.int .i64 x0, .int .i64 x1, .string x2, .string x3, .slice XA x4.length xc]) ∧ (k29.C w' XA x4.length x4 ∧ x4.length ≤ xc) ∧ Below w.heap.size w w' := by
  refine (toPol_I k a0 a1 a2 a3 A c l w0 HB lo hlo hr hc h).mono ?_
  rintro e w' ⟨XA, xc, rfl, hs, hb⟩
  exact ⟨XA, xc, rfl, pvS ⟨hs⟩, hb⟩
theorem specOpp_I (x0 x1 : Int) (x2 x3 : ByteArray) (XA : Option Addr) (xc : Nat) (x4 : List S29) (w0 : World) {w : World} (HB : Below w0.heap.size w0 w) (hx : k29.C w XA x4.length x4 ∧ x4.length ≤ xc) {n0 n1 : Int} {n2 n3 : ByteArray} {n4 : List S29} (h : spec_Opposite.f k x0 x1 x2 x3 x4 = some (n0, n1, n2, n3, n4)) :
    Calls Try.prog 27 #[.agg #[.int .i64 x0, .int .i64 x1, .string x2, .string x3, .slice XA x4.length xc]] w fun e w' => ∃ NA nc, e = .returned (.agg #[.int .i64 n0, .int .i64 n1, .string n2, .string n3, .slice NA n4.length nc]) ∧ k29.N 29 w' w0.heap.size (fun k_ => k_ < w'.heap.size) (.slice NA n4.length nc) n4 ∧ Below w.heap.size w w' := by
  refine (spec_Opposite.calls k x0 x1 x2 x3 XA xc x4 n0 n1 n2 n3 n4 w hx.1 hx.2 h).mono ?_
  rintro e w' ⟨v, rfl, hs, hb⟩
  obtain ⟨NA, nc, rfl⟩ := Kd.N_slice hs
  exact ⟨NA, nc, rfl, Kd.N_lower (Kd.N_mono (Kd.N_bound hs) (fun k_ h_ => h_.2)) HB.size, hb⟩
theorem implOpp_I (x0 x1 : Int) (x2 x3 : ByteArray) (XA : Option Addr) (xc : Nat) (x4 : List S29) (w0 : World) {w : World} (HB : Below w0.heap.size w0 w) (lo : Nat) (hlo : lo < w.heap.size) (hx : k29.C w XA x4.length x4 ∧ x4.length ≤ xc) {n0 n1 : Int} {n2 n3 : ByteArray} {n4 : List S29} (h : impl_Opposite.f k x0 x1 x2 x3 x4 = some (n0, n1, n2, n3, n4)) :
    Calls Try.prog 28 #[.agg #[.int .i64 x0, .int .i64 x1, .string x2, .string x3, .slice XA x4.length xc]] w fun e w' => ∃ NA nc, e = .returned (.agg #[.int .i64 n0, .int .i64 n1, .string n2, .string n3, .slice NA n4.length nc]) ∧ k29.S 29 w' w0.heap.size (fun k_ => lo < k_ ∧ k_ < w'.heap.size) (.slice NA n4.length nc) n4 ∧ Below w.heap.size w w' := by
  refine (impl_Opposite.calls k x0 x1 x2 x3 XA xc x4 n0 n1 n2 n3 n4 w hx.1 hx.2 h).mono ?_
  rintro e w' ⟨v, rfl, hs, hb⟩
  obtain ⟨NA, nc, rfl⟩ := Kd.S_slice hs
  exact ⟨NA, nc, rfl, Kd.S_lower (Kd.S_mono (Kd.S_bound hs) (fun k_ h_ => ⟨Nat.lt_of_lt_of_le hlo h_.1, h_.2.2.1⟩)) HB.size, hb⟩
theorem eqPol_I (x0 x1 : Int) (x2 x3 : ByteArray) (XA : Option Addr) (xc : Nat) (x4 : List S29) (y0 y1 : Int) (y2 y3 : ByteArray) (YA : Option Addr) (yc : Nat) (y4 : List S29) {w : World} (hx : k29.C w XA x4.length x4 ∧ x4.length ≤ xc) (hy : k29.C w YA y4.length y4 ∧ y4.length ≤ yc) {r : Bool} (h : laws_eqPol.f k x0 x1 x2 x3 x4 y0 y1 y2 y3 y4 = some r) :
    Calls Try.prog 17 #[.agg #[.int .i64 x0, .int .i64 x1, .string x2, .string x3, .slice XA x4.length xc], .agg #[.int .i64 y0, .int .i64 y1, .string y2, .string y3, .slice YA y4.length yc]] w fun e w' => e = .returned (.bool r) ∧ Below w.heap.size w w' :=
  laws_eqPol.calls k x0 x1 x2 x3 XA xc x4 y0 y1 y2 y3 YA yc y4 r w hx.1 hx.2 hy.1 hy.2 h
theorem heldPol_I (x0 x1 : Int) (x2 x3 : ByteArray) {XA : Option Addr} {n xc : Nat} {x4 : List S29} {w : World} {b : Nat} {ok : Nat → Prop} (hx : Aside0 (k29.S 29 w b ok (.slice XA n xc) x4)) {m r : Int} (h : laws_heldPol.f k x0 x1 x2 x3 x4 m = some r) :
    Calls Try.prog 30 #[.agg #[.int .i64 x0, .int .i64 x1, .string x2, .string x3, .slice XA n xc], .int .i64 m] w fun e w' => e = .returned (.int .i64 r) ∧ Below w.heap.size w w' := by
  obtain ⟨rfl, h1, h2⟩ := Kd.S_reads' hx.out
  exact laws_heldPol.calls k x0 x1 x2 x3 XA xc x4 m r w h2 h1 h
end
def laws_FnExactOpposite.f (k : Nat) (a0_0 : Int) (a0_1 : Int) (a0_2 : ByteArray) (a0_3 : ByteArray) (l0_4 : List (S24)) : Option Bool :=
  (laws_szPol.f k a0_0 a0_1 a0_2 a0_3 l0_4 1048576).bind fun s => (if s < 0 then some true else (laws_toPol.f k a0_0 a0_1 a0_2 a0_3 l0_4).bind fun X => (spec_Opposite.f k X.1 X.2.1 X.2.2.1 X.2.2.2.1 X.2.2.2.2).bind fun W => (impl_Opposite.f k X.1 X.2.1 X.2.2.1 X.2.2.2.1 X.2.2.2.2).bind fun G =>
    (laws_eqPol.f k G.1 G.2.1 G.2.2.1 G.2.2.2.1 G.2.2.2.2 W.1 W.2.1 W.2.2.1 W.2.2.2.1 W.2.2.2.2).bind fun e1 => (if e1 = true then (laws_eqPol.f k X.1 X.2.1 X.2.2.1 X.2.2.2.1 X.2.2.2.2 X.1 X.2.1 X.2.2.1 X.2.2.2.1 X.2.2.2.2).bind fun e2 => (if e2 = true then (laws_markPolS.f k X.2.2.2.2 1).bind fun M => (if M.1 < 0 then none else (laws_markPolS.f k G.2.2.2.2 1).bind fun D => (laws_heldPol.f k G.1 G.2.1 G.2.2.1 G.2.2.2.1 D.2 1).bind fun q => (if q < 0 then none else (if q = D.1 then some true else none))) else none) else none))
def laws_FnExactOpposite.T10 : Bool × List (List Nat × List Nat) := (true, [([], []), ([], []), ([1], [1]), ([0, 2, 2], [0, 2]), ([3], [3])])
def laws_FnExactOpposite.B10 : List Nat := [0, 0, 2, 7, 15]
theorem laws_FnExactOpposite.tab10 : rtab .any (opsOf Try.f7 10) = laws_FnExactOpposite.T10 := by kernel_rfl
theorem laws_FnExactOpposite.bits10 : waitsOk laws_FnExactOpposite.T10.2 laws_FnExactOpposite.B10 = true := by kernel_rfl
set_option maxHeartbeats 8000000 in
set_option maxRecDepth 100000 in
theorem laws_FnExactOpposite.calls (k : Nat) (a0_0 : Int) (a0_1 : Int) (a0_2 : ByteArray) (a0_3 : ByteArray) (A0_4 : Option Addr) (c0_4 : Nat) (l0_4 : List (S24)) (r : Bool) (w : World) (hr0_4 : Kd.C k24 w A0_4 l0_4.length l0_4) (hc0_4 : l0_4.length ≤ c0_4) (hrt_ : Aside0 (r = true)) (h : laws_FnExactOpposite.f k a0_0 a0_1 a0_2 a0_3 l0_4 = some r) :
    Calls Try.prog 7 #[.agg #[.int .i64 a0_0, .int .i64 a0_1, .string a0_2, .string a0_3, .slice A0_4 l0_4.length c0_4]] w fun e w' => e = .returned (.bool r) ∧ Below w.heap.size w w' := by
  have hu24 := Try.underlying24
  have hu29 := Try.underlying29
  have HR := Aside0.mk hr0_4
  have HC := Aside0.mk hc0_4
  clear hr0_4 hc0_4
  have HB := Aside0.mk (Below.refl w.heap.size w)
  obtain rfl := hrt_.out
  clear hrt_
  unfold laws_FnExactOpposite.f at h
  replace h := zO h
  obtain ⟨sz, AZ, h⟩ := h
  (try dsimp only at h)
  by_cases c1 : sz < 0
  · rw [if_pos c1] at h
    have c1b := decide_eq_true c1
    clear h c1
    go_enter Try.func7, Try.ntmps7
    go_wp2_with (first | ((with_reducible refine gD 1 rfl ?_); refine bE 1 #[.int .i64 a0_0, .int .i64 a0_1, .string a0_2, .string a0_3, .slice A0_4 l0_4.length c0_4] 24 ?_; intro g1 hg w0_ hbox hb; replace HB := zLB HB.out hb; have BK1 := Aside0.mk hbox; clear hbox hg hb; have hz1_ := zc5 BK1.out;) | ((with_reducible refine gC 13 rfl ?_); refine gL 13 Try.func13 #[.agg #[.int .i64 a0_0, .int .i64 a0_1, .string a0_2, .string a0_3, .slice A0_4 l0_4.length c0_4], .int .i64 1048576] ?_; (refine (laws_szPol.calls k a0_0 a0_1 a0_2 a0_3 A0_4 c0_4 l0_4 1048576 sz _ (Kd.C_below HR.out HB.out) HC.out AZ.out).mono ?_); rintro e w1_ ⟨rfl, hb⟩; refine ⟨_, rfl, ?_⟩;  replace BK1 := zBB BK1 hb; replace HB := zLB HB.out hb; clear hb;  (try clear hz1_); have hz1_ := zc5 BK1.out;))
    go_ret
    exact ⟨rfl, HB.out⟩
  rw [if_neg c1] at h
  have c1b := decide_eq_false c1
  clear c1
  replace h := zO h
  obtain ⟨⟨x0, x1, x2, x3, x4⟩, AX, h⟩ := h
  (try dsimp only at h)
  replace h := zO h
  obtain ⟨⟨n0, n1, n2, n3, n4⟩, AW, h⟩ := h
  (try dsimp only at h)
  replace h := zO h
  obtain ⟨⟨y0, y1, y2, y3, y4⟩, AG, h⟩ := h
  (try dsimp only at h)
  replace h := zO h
  obtain ⟨e1, E1, h⟩ := h
  (try dsimp only at h)
  by_cases c2 : e1 = true
  rotate_left
  · rw [if_neg c2] at h
    exact absurd h (by simp)
  rw [if_pos c2] at h
  subst c2
  replace h := zO h
  obtain ⟨e2, E2, h⟩ := h
  (try dsimp only at h)
  by_cases c3 : e2 = true
  rotate_left
  · rw [if_neg c3] at h
    exact absurd h (by simp)
  rw [if_pos c3] at h
  subst c3
  replace h := zO h
  obtain ⟨⟨m, x5⟩, AM, h⟩ := h
  (try dsimp only at h)
  by_cases c4 : m < 0
  · rw [if_pos c4] at h; exact absurd h (by simp)
  rw [if_neg c4] at h
  have c4b := decide_eq_false c4
  replace h := zO h
  obtain ⟨⟨p, y5⟩, AD, h⟩ := h
  (try dsimp only at h)
  replace h := zO h
  obtain ⟨q, AQ, h⟩ := h
  (try dsimp only at h)
  by_cases c5 : q < 0
  · rw [if_pos c5] at h; exact absurd h (by simp)
  rw [if_neg c5] at h
  have c5b := decide_eq_false c5
  by_cases c6 : q = p
  rotate_left
  · rw [if_neg c6] at h
    exact absurd h (by simp)
  rw [if_pos c6] at h
  subst c6
  have c6b : (q != q) = false := by simp
  clear h c4 c5
  go_enter Try.func7, Try.ntmps7
  go_upto_region 10 with (first | ((with_reducible refine gD 1 rfl ?_); refine bE 1 #[.int .i64 a0_0, .int .i64 a0_1, .string a0_2, .string a0_3, .slice A0_4 l0_4.length c0_4] 24 ?_; intro g1 hg w0_ hbox hb; replace HB := zLB HB.out hb; have BK1 := Aside0.mk hbox; clear hbox hg hb; have hz1_ := zc5 BK1.out;) | ((with_reducible refine gC 13 rfl ?_); refine gL 13 Try.func13 #[.agg #[.int .i64 a0_0, .int .i64 a0_1, .string a0_2, .string a0_3, .slice A0_4 l0_4.length c0_4], .int .i64 1048576] ?_; (refine (laws_szPol.calls k a0_0 a0_1 a0_2 a0_3 A0_4 c0_4 l0_4 1048576 sz _ (Kd.C_below HR.out HB.out) HC.out AZ.out).mono ?_); rintro e w1_ ⟨rfl, hb⟩; refine ⟨_, rfl, ?_⟩;  replace BK1 := zBB BK1 hb; replace HB := zLB HB.out hb; clear hb;  (try clear hz1_); have hz1_ := zc5 BK1.out;) | ((with_reducible refine gC 15 rfl ?_); refine gL 17 Try.func15 #[.agg #[.int .i64 a0_0, .int .i64 a0_1, .string a0_2, .string a0_3, .slice A0_4 l0_4.length c0_4]] ?_; (refine (toPol_R k a0_0 a0_1 a0_2 a0_3 A0_4 c0_4 l0_4 w HB.out g1 (blk_lt BK1.out) (Kd.C_below HR.out HB.out) HC.out AX.out).mono ?_); rintro e w2_ ⟨XA, xc, rfl, hx_, hb⟩; refine ⟨_, rfl, ?_⟩;  replace BK1 := zBB BK1 hb; replace HB := zLB HB.out hb; clear hb; have HT := Aside0.mk hx_; clear hx_;  (try clear hz1_); have hz1_ := zc5 BK1.out;) | ((with_reducible refine gC 27 rfl ?_); refine gL 18 Try.func27 #[.agg #[.int .i64 x0, .int .i64 x1, .string x2, .string x3, .slice XA x4.length xc]] ?_; (refine (specOpp_I k x0 x1 x2 x3 XA xc x4 w HB.out HT.out AW.out).mono ?_); rintro e w3_ ⟨NA, nc, rfl, hnN, hb⟩; refine ⟨_, rfl, ?_⟩; clear HT;  replace BK1 := zBB BK1 hb; replace HB := zLB HB.out hb; clear hb; have HN := Aside0.mk hnN; clear hnN; (try clear hz1_); have hz1_ := zc5 BK1.out;) | ((with_reducible refine gD 4 rfl ?_); refine bE 4 #[.int .i64 0, .int .i64 0, .string (⟨#[]⟩ : ByteArray), .string (⟨#[]⟩ : ByteArray), .slice none 0 0] 29 ?_; intro g4 hg w4_ hbox hb; have GE4 := Aside0.mk (Nat.le_of_eq hg.symm); have HP := Aside0.mk hb; have L1_4 := Aside0.mk (by rw [hg]; exact blk_lt BK1.out : g1 < g4); replace HN := Aside0.mk (Kd.N_mono (ok' := fun k_ => k_ < g4) HN.out (fun k_ h_ => by rw [hg]; exact h_)); have BK4 := Aside0.mk hbox; clear hbox hg hb; (try clear hz4_); have hz4_ := zc5 BK4.out;) | ((with_reducible refine gate_store (t := 29) (p := 4) rfl ?_); have hs0_ := (blk_cell BK4.out 0).trans rfl; have hf0_ := blk_frozen BK4.out 0; have hs1_ := (blk_cell BK4.out 1).trans rfl; have hf1_ := blk_frozen BK4.out 1; have hs2_ := (blk_cell BK4.out 2).trans rfl; have hf2_ := blk_frozen BK4.out 2; have hs3_ := (blk_cell BK4.out 3).trans rfl; have hf3_ := blk_frozen BK4.out 3; have hs4_ := (blk_cell BK4.out 4).trans rfl; have hf4_ := blk_frozen BK4.out 4; refine store_event (t := 29) (p := 4) (v := ?vlx5_) (w1 := (((((w4_.setCell ⟨g4, 0, none⟩ (.int .i64 n0)).setCell ⟨g4, 1, none⟩ (.int .i64 n1)).setCell ⟨g4, 2, none⟩ (.string n2)).setCell ⟨g4, 3, none⟩ (.string n3)).setCell ⟨g4, 4, none⟩ (.slice NA n4.length nc))) ?hg ?ho ?hn ?hr0_4 ?_; (case ho => rfl); (case hg => rfl); (case hn => rfl); (case hr0_4 => first | (go_simp; done) | (go_simp; rfl)); intro w6_ hw_; have HK_ := set5_kept hw_; have BKn := Aside0.mk (set5_blk hw_ BK4.out rfl); replace HP := Aside0.mk (set5_below hw_ HP.out GE4.out);  clear BK4; have BK4 := BKn; clear BKn hw_ HK_ hs0_ hf0_ hs1_ hf1_ hs2_ hf2_ hs3_ hf3_ hs4_ hf4_; have hb := HP.out; replace HN := zVN HN hb; replace BK1 := zBB BK1 hb; replace HB := zLB HB.out hb; clear hb HP GE4; (try clear hz1_); have hz1_ := zc5 BK1.out; (try clear hz4_); have hz4_ := zc5 BK4.out;) | ((with_reducible refine gC 15 rfl ?_); refine gL 20 Try.func15 #[.agg #[.int .i64 a0_0, .int .i64 a0_1, .string a0_2, .string a0_3, .slice A0_4 l0_4.length c0_4]] ?_; (refine (toPol_I k a0_0 a0_1 a0_2 a0_3 A0_4 c0_4 l0_4 w HB.out g4 (blk_lt BK4.out) (Kd.C_below HR.out HB.out) HC.out AX.out).mono ?_); rintro e w7_ ⟨XA, xc, rfl, hnX, hb⟩; refine ⟨_, rfl, ?_⟩; replace HN := zVN HN hb; replace BK1 := zBB BK1 hb; replace BK4 := zBB BK4 hb; replace HB := zLB HB.out hb; clear hb; have HX := Aside0.mk hnX; clear hnX; (try clear hz1_); have hz1_ := zc5 BK1.out; (try clear hz4_); have hz4_ := zc5 BK4.out;) | ((with_reducible refine gD 5 rfl ?_); refine bE 5 #[.int .i64 0, .int .i64 0, .string (⟨#[]⟩ : ByteArray), .string (⟨#[]⟩ : ByteArray), .slice none 0 0] 29 ?_; intro g5 hg w8_ hbox hb; have GE5 := Aside0.mk (Nat.le_of_eq hg.symm); have HP := Aside0.mk hb; have L4_5 := Aside0.mk (by rw [hg]; exact blk_lt BK4.out : g4 < g5); replace HX := Aside0.mk (Kd.S_mono (ok' := fun k_ => g4 < k_ ∧ k_ < g5) HX.out (fun k_ h_ => by rw [hg]; exact h_)); have BK5 := Aside0.mk hbox; clear hbox hg hb; (try clear hz5_); have hz5_ := zc5 BK5.out;) | ((with_reducible refine gate_store (t := 29) (p := 5) rfl ?_); have hs0_ := (blk_cell BK5.out 0).trans rfl; have hf0_ := blk_frozen BK5.out 0; have hs1_ := (blk_cell BK5.out 1).trans rfl; have hf1_ := blk_frozen BK5.out 1; have hs2_ := (blk_cell BK5.out 2).trans rfl; have hf2_ := blk_frozen BK5.out 2; have hs3_ := (blk_cell BK5.out 3).trans rfl; have hf3_ := blk_frozen BK5.out 3; have hs4_ := (blk_cell BK5.out 4).trans rfl; have hf4_ := blk_frozen BK5.out 4; refine store_event (t := 29) (p := 5) (v := ?vlx9_) (w1 := (((((w8_.setCell ⟨g5, 0, none⟩ (.int .i64 x0)).setCell ⟨g5, 1, none⟩ (.int .i64 x1)).setCell ⟨g5, 2, none⟩ (.string x2)).setCell ⟨g5, 3, none⟩ (.string x3)).setCell ⟨g5, 4, none⟩ (.slice XA x4.length xc))) ?hg ?ho ?hn ?hr0_4 ?_; (case ho => rfl); (case hg => rfl); (case hn => rfl); (case hr0_4 => first | (go_simp; done) | (go_simp; rfl)); intro w10_ hw_; have HK_ := set5_kept hw_; have BKn := Aside0.mk (set5_blk hw_ BK5.out rfl); replace HP := Aside0.mk (set5_below hw_ HP.out GE5.out);  clear BK5; have BK5 := BKn; clear BKn hw_ HK_ hs0_ hf0_ hs1_ hf1_ hs2_ hf2_ hs3_ hf3_ hs4_ hf4_; have hb := HP.out; replace HN := zVN HN hb; replace HX := zVS HX hb; replace BK1 := zBB BK1 hb; replace BK4 := zBB BK4 hb; replace HB := zLB HB.out hb; clear hb HP GE5; (try clear hz1_); have hz1_ := zc5 BK1.out; (try clear hz4_); have hz4_ := zc5 BK4.out; (try clear hz5_); have hz5_ := zc5 BK5.out;) | ((with_reducible refine gC 28 rfl ?_); refine gL 22 Try.func28 #[.agg #[.int .i64 x0, .int .i64 x1, .string x2, .string x3, .slice XA x4.length xc]] ?_; (refine (implOpp_I k x0 x1 x2 x3 XA xc x4 w HB.out g5 (blk_lt BK5.out) (pvS HX) AG.out).mono ?_); rintro e w11_ ⟨YA, yc, rfl, hnY, hb⟩; refine ⟨_, rfl, ?_⟩; replace HN := zVN HN hb; replace HX := zVS HX hb; replace BK1 := zBB BK1 hb; replace BK4 := zBB BK4 hb; replace BK5 := zBB BK5 hb; replace HB := zLB HB.out hb; clear hb; have HY := Aside0.mk hnY; clear hnY; (try clear hz1_); have hz1_ := zc5 BK1.out; (try clear hz4_); have hz4_ := zc5 BK4.out; (try clear hz5_); have hz5_ := zc5 BK5.out;) | ((with_reducible refine gD 6 rfl ?_); refine bE 6 #[.int .i64 0, .int .i64 0, .string (⟨#[]⟩ : ByteArray), .string (⟨#[]⟩ : ByteArray), .slice none 0 0] 29 ?_; intro g6 hg w12_ hbox hb; have GE6 := Aside0.mk (Nat.le_of_eq hg.symm); have HP := Aside0.mk hb; have L5_6 := Aside0.mk (by rw [hg]; exact blk_lt BK5.out : g5 < g6); replace HY := Aside0.mk (Kd.S_mono (ok' := fun k_ => g5 < k_ ∧ k_ < g6) HY.out (fun k_ h_ => by rw [hg]; exact h_)); have BK6 := Aside0.mk hbox; clear hbox hg hb; (try clear hz6_); have hz6_ := zc5 BK6.out;) | ((with_reducible refine gate_store (t := 29) (p := 6) rfl ?_); have hs0_ := (blk_cell BK6.out 0).trans rfl; have hf0_ := blk_frozen BK6.out 0; have hs1_ := (blk_cell BK6.out 1).trans rfl; have hf1_ := blk_frozen BK6.out 1; have hs2_ := (blk_cell BK6.out 2).trans rfl; have hf2_ := blk_frozen BK6.out 2; have hs3_ := (blk_cell BK6.out 3).trans rfl; have hf3_ := blk_frozen BK6.out 3; have hs4_ := (blk_cell BK6.out 4).trans rfl; have hf4_ := blk_frozen BK6.out 4; refine store_event (t := 29) (p := 6) (v := ?vlx13_) (w1 := (((((w12_.setCell ⟨g6, 0, none⟩ (.int .i64 y0)).setCell ⟨g6, 1, none⟩ (.int .i64 y1)).setCell ⟨g6, 2, none⟩ (.string y2)).setCell ⟨g6, 3, none⟩ (.string y3)).setCell ⟨g6, 4, none⟩ (.slice YA y4.length yc))) ?hg ?ho ?hn ?hr0_4 ?_; (case ho => rfl); (case hg => rfl); (case hn => rfl); (case hr0_4 => first | (go_simp; done) | (go_simp; rfl)); intro w14_ hw_; have HK_ := set5_kept hw_; have BKn := Aside0.mk (set5_blk hw_ BK6.out rfl); replace HP := Aside0.mk (set5_below hw_ HP.out GE6.out);  clear BK6; have BK6 := BKn; clear BKn hw_ HK_ hs0_ hf0_ hs1_ hf1_ hs2_ hf2_ hs3_ hf3_ hs4_ hf4_; have hb := HP.out; replace HN := zVN HN hb; replace HX := zVS HX hb; replace HY := zVS HY hb; replace BK1 := zBB BK1 hb; replace BK4 := zBB BK4 hb; replace BK5 := zBB BK5 hb; replace HB := zLB HB.out hb; clear hb HP GE6; (try clear hz1_); have hz1_ := zc5 BK1.out; (try clear hz4_); have hz4_ := zc5 BK4.out; (try clear hz5_); have hz5_ := zc5 BK5.out; (try clear hz6_); have hz6_ := zc5 BK6.out;) | ((with_reducible refine gC 17 rfl ?_); refine gL 25 Try.func17 #[.agg #[.int .i64 y0, .int .i64 y1, .string y2, .string y3, .slice YA y4.length yc], .agg #[.int .i64 n0, .int .i64 n1, .string n2, .string n3, .slice NA n4.length nc]] ?_; (refine (eqPol_I k y0 y1 y2 y3 YA yc y4 n0 n1 n2 n3 NA nc n4 (pvS HY) (pvN HN) E1.out).mono ?_); rintro e w15_ ⟨rfl, hb⟩; refine ⟨_, rfl, ?_⟩; replace HN := zVN HN hb; replace HX := zVS HX hb; replace HY := zVS HY hb; replace BK1 := zBB BK1 hb; replace BK4 := zBB BK4 hb; replace BK5 := zBB BK5 hb; replace BK6 := zBB BK6 hb; replace HB := zLB HB.out hb; clear hb;  (try clear hz1_); have hz1_ := zc5 BK1.out; (try clear hz4_); have hz4_ := zc5 BK4.out; (try clear hz5_); have hz5_ := zc5 BK5.out; (try clear hz6_); have hz6_ := zc5 BK6.out;))
  (try simp only [Act.put, List.setIfInBounds_toArray, List.set_cons_zero, List.set_cons_succ])
  replace HN := zVN HN zVd
  replace HX := zVS HX zVd
  replace HY := zVS HY zVd
  replace BK1 := zBD BK1
  replace BK4 := zBD BK4
  replace BK5 := zBD BK5
  replace BK6 := zBD BK6
  replace HB := zLD HB
  refine start_ (n := 5) (S := fun w' => zt5 w' g1 (.int .i64 a0_0) (.int .i64 a0_1) (.string a0_2) (.string a0_3) (.slice A0_4 l0_4.length c0_4) (zs5 w' g5 (.int .i64 x0) (.int .i64 x1) (.string x2) (.string x3) (.slice XA x4.length xc))) (ds := []) (fB 5 0) (by kernel_rfl) rfl rfl (zk5 BK1.out (zc5 BK5.out)) (fun hHeld => ?_); refine with_tabW laws_FnExactOpposite.tab10 laws_FnExactOpposite.bits10 (fun HT_ HW_ => ?_)
  generalize w15_.drew = w16_ at HN HX HY BK1 BK4 BK5 BK6 HB hHeld ⊢
  refine tY 0 27 (fB 5 1) HT_.out HW_.out hHeld ?_
  refine tY 1 28 (fB 5 3) HT_.out HW_.out hHeld ?_
  refine oN 2 29 (fB 5 7) HT_.out fun K hK => ?_
  refine gS Try.func15 #[.agg #[.int .i64 a0_0, .int .i64 a0_1, .string a0_2, .string a0_3, .slice A0_4 l0_4.length c0_4]] ?_
  refine (toPol_I k a0_0 a0_1 a0_2 a0_3 A0_4 c0_4 l0_4 w HB.out g6 (blk_lt BK6.out) (Kd.C_below HR.out HB.out) HC.out AX.out).mono ?_
  rintro e w17_ ⟨UA, uc, rfl, hnU, hb⟩
  refine ⟨_, rfl, ?_⟩
  replace HN := zVN HN hb; replace HX := zVS HX hb; replace HY := zVS HY hb; replace BK1 := zBB BK1 hb; replace BK4 := zBB BK4 hb; replace BK5 := zBB BK5 hb; replace BK6 := zBB BK6 hb; replace HB := zLB HB.out hb; clear hb; have HU := Aside0.mk hnU; clear hnU
  refine hK.out _ _ (zk5 BK1.out (zc5 BK5.out)) fun hHeld => ?_; clear hK K
  refine nZ 29 ?_
  refine oN 3 30 (fB 5 15) HT_.out fun K hK => ?_
  refine gS Try.func17 #[.agg #[.int .i64 x0, .int .i64 x1, .string x2, .string x3, .slice XA x4.length xc], .agg #[.int .i64 x0, .int .i64 x1, .string x2, .string x3, .slice UA x4.length uc]] ?_
  refine (eqPol_I k x0 x1 x2 x3 XA xc x4 x0 x1 x2 x3 UA uc x4 (pvS HX) (pvS HU) E2.out).mono ?_
  rintro e w18_ ⟨rfl, hb⟩
  refine ⟨_, rfl, ?_⟩
  replace HN := zVN HN hb; replace HX := zVS HX hb; replace HY := zVS HY hb; replace BK1 := zBB BK1 hb; replace BK4 := zBB BK4 hb; replace BK5 := zBB BK5 hb; replace BK6 := zBB BK6 hb; replace HB := zLB HB.out hb; clear hb
  refine hK.out _ _ (zk5 BK1.out (zc5 BK5.out)) fun hHeld => ?_; clear hK K
  refine nZ 30 ?_
  refine pY 4 31 (fB 5 31) HT_.out ?_
  refine done_ (done_of HT_.out (by kernel_rfl)) ?_
  clear hHeld HT_ HW_
  clear HU
  (try simp only [Act.put, List.setIfInBounds_toArray, List.set_cons_zero, List.set_cons_succ])
  try clear hz1_
  have hz1_ := zc5 BK1.out
  try clear hz4_
  have hz4_ := zc5 BK4.out
  try clear hz5_
  have hz5_ := zc5 BK5.out
  try clear hz6_
  have hz6_ := zc5 BK6.out
  go_wp2_with (first | ((with_reducible refine gC 29 rfl ?_); refine gL 34 Try.func29 #[.agg #[.int .i64 x0, .int .i64 x1, .string x2, .string x3, .slice XA x4.length xc], .int .i64 1] ?_; (refine (laws_markPol.callsM k _ x0 x1 x2 x3 XA xc x4 1 m x5 w _ HB.out HX.out AM.out).mono ?_); rintro e w19_ ⟨rfl, hs, hb, hk⟩; refine ⟨_, rfl, ?_⟩; replace HX := Aside0.mk hs; replace BK1 := Aside0.mk (blk_kept BK1.out hk (fun h_ => by have q1_ := L1_4.out; have q2_ := L4_5.out; have q3_ := L5_6.out; omega)); replace BK4 := Aside0.mk (blk_kept BK4.out hk (fun h_ => by have q1_ := L1_4.out; have q2_ := L4_5.out; have q3_ := L5_6.out; omega)); replace BK5 := Aside0.mk (blk_kept BK5.out hk (fun h_ => by have q1_ := L1_4.out; have q2_ := L4_5.out; have q3_ := L5_6.out; omega)); replace BK6 := Aside0.mk (blk_kept BK6.out hk (fun h_ => by have q1_ := L1_4.out; have q2_ := L4_5.out; have q3_ := L5_6.out; omega)); replace HN := Aside0.mk (Kd.N_kept HN.out hk (fun k_ o_ h_ => by have q1_ := L1_4.out; have q2_ := L4_5.out; have q3_ := L5_6.out; omega)); replace HY := Aside0.mk (Kd.S_kept HY.out hk (fun k_ o_ h_ => by have q1_ := L1_4.out; have q2_ := L4_5.out; have q3_ := L5_6.out; omega)); replace HB := Aside0.mk hb; clear hs hb hk;  (try clear hz1_); have hz1_ := zc5 BK1.out; (try clear hz4_); have hz4_ := zc5 BK4.out; (try clear hz5_); have hz5_ := zc5 BK5.out; (try clear hz6_); have hz6_ := zc5 BK6.out; clear HX;) | (go_at_call 17; (refine (eqPol_I k y0 y1 y2 y3 YA yc y4 n0 n1 n2 n3 NA nc n4 (pvS HY) (pvN HN) E1.out).mono ?_); rintro e w20_ ⟨rfl, hb⟩; replace HN := zVN HN hb; replace HY := zVS HY hb; replace BK1 := zBB BK1 hb; replace BK4 := zBB BK4 hb; replace BK5 := zBB BK5 hb; replace BK6 := zBB BK6 hb; replace HB := zLB HB.out hb; clear hb;  (try clear hz1_); have hz1_ := zc5 BK1.out; (try clear hz4_); have hz4_ := zc5 BK4.out; (try clear hz5_); have hz5_ := zc5 BK5.out; (try clear hz6_); have hz6_ := zc5 BK6.out;) | ((with_reducible refine gC 29 rfl ?_); refine gL 45 Try.func29 #[.agg #[.int .i64 y0, .int .i64 y1, .string y2, .string y3, .slice YA y4.length yc], .int .i64 1] ?_; (refine (laws_markPol.callsM k _ y0 y1 y2 y3 YA yc y4 1 q y5 w _ HB.out HY.out AD.out).mono ?_); rintro e w21_ ⟨rfl, hs, hb, hk⟩; refine ⟨_, rfl, ?_⟩; replace HY := Aside0.mk hs; replace BK1 := Aside0.mk (blk_kept BK1.out hk (fun h_ => by have q1_ := L1_4.out; have q2_ := L4_5.out; have q3_ := L5_6.out; omega)); replace BK4 := Aside0.mk (blk_kept BK4.out hk (fun h_ => by have q1_ := L1_4.out; have q2_ := L4_5.out; have q3_ := L5_6.out; omega)); replace BK5 := Aside0.mk (blk_kept BK5.out hk (fun h_ => by have q1_ := L1_4.out; have q2_ := L4_5.out; have q3_ := L5_6.out; omega)); replace BK6 := Aside0.mk (blk_kept BK6.out hk (fun h_ => by have q1_ := L1_4.out; have q2_ := L4_5.out; have q3_ := L5_6.out; omega)); replace HN := Aside0.mk (Kd.N_kept HN.out hk (fun k_ o_ h_ => by have q1_ := L1_4.out; have q2_ := L4_5.out; have q3_ := L5_6.out; omega)); replace HB := Aside0.mk hb; clear hs hb hk;  (try clear hz1_); have hz1_ := zc5 BK1.out; (try clear hz4_); have hz4_ := zc5 BK4.out; (try clear hz5_); have hz5_ := zc5 BK5.out; (try clear hz6_); have hz6_ := zc5 BK6.out;) | ((with_reducible refine gC 30 rfl ?_); refine gL 48 Try.func30 #[.agg #[.int .i64 y0, .int .i64 y1, .string y2, .string y3, .slice YA y4.length yc], .int .i64 1] ?_; (refine (heldPol_I k y0 y1 y2 y3 HY AQ.out).mono ?_); rintro e w22_ ⟨rfl, hb⟩; refine ⟨_, rfl, ?_⟩; replace HN := zVN HN hb; replace HY := zVS HY hb; replace BK1 := zBB BK1 hb; replace BK4 := zBB BK4 hb; replace BK5 := zBB BK5 hb; replace BK6 := zBB BK6 hb; replace HB := zLB HB.out hb; clear hb;  (try clear hz1_); have hz1_ := zc5 BK1.out; (try clear hz4_); have hz4_ := zc5 BK4.out; (try clear hz5_); have hz5_ := zc5 BK5.out; (try clear hz6_); have hz6_ := zc5 BK6.out;) | ((with_reducible refine gC 15 rfl ?_); refine gL 55 Try.func15 #[.agg #[.int .i64 a0_0, .int .i64 a0_1, .string a0_2, .string a0_3, .slice A0_4 l0_4.length c0_4]] ?_; (refine (toPol_I k a0_0 a0_1 a0_2 a0_3 A0_4 c0_4 l0_4 w HB.out g6 (blk_lt BK6.out) (Kd.C_below HR.out HB.out) HC.out AX.out).mono ?_); rintro e w23_ ⟨VA, vc, rfl, hnV, hb⟩; refine ⟨_, rfl, ?_⟩; replace HN := zVN HN hb; replace HY := zVS HY hb; replace BK1 := zBB BK1 hb; replace BK4 := zBB BK4 hb; replace BK5 := zBB BK5 hb; replace BK6 := zBB BK6 hb; replace HB := zLB HB.out hb; clear hb; have HV := Aside0.mk hnV; clear hnV; (try clear hz1_); have hz1_ := zc5 BK1.out; (try clear hz4_); have hz4_ := zc5 BK4.out; (try clear hz5_); have hz5_ := zc5 BK5.out; (try clear hz6_); have hz6_ := zc5 BK6.out;) | ((with_reducible refine gC 28 rfl ?_); refine gL 56 Try.func28 #[.agg #[.int .i64 x0, .int .i64 x1, .string x2, .string x3, .slice VA x4.length vc]] ?_; (refine (implOpp_I k x0 x1 x2 x3 VA vc x4 w HB.out g6 (blk_lt BK6.out) (pvS HV) AG.out).mono ?_); rintro e w24_ ⟨QA, qc, rfl, hnQ, hb⟩; refine ⟨_, rfl, ?_⟩; replace HN := zVN HN hb; replace HY := zVS HY hb; replace HV := zVS HV hb; replace BK1 := zBB BK1 hb; replace BK4 := zBB BK4 hb; replace BK5 := zBB BK5 hb; replace BK6 := zBB BK6 hb; replace HB := zLB HB.out hb; clear hb; have HQ := Aside0.mk hnQ; clear hnQ; (try clear hz1_); have hz1_ := zc5 BK1.out; (try clear hz4_); have hz4_ := zc5 BK4.out; (try clear hz5_); have hz5_ := zc5 BK5.out; (try clear hz6_); have hz6_ := zc5 BK6.out;) | ((with_reducible refine gD 10 rfl ?_); refine bE 10 #[.int .i64 0, .int .i64 0, .string (⟨#[]⟩ : ByteArray), .string (⟨#[]⟩ : ByteArray), .slice none 0 0] 29 ?_; intro g10 hg w25_ hbox hb; have GE10 := Aside0.mk (Nat.le_of_eq hg.symm); have HP := Aside0.mk hb; have L6_10 := Aside0.mk (by rw [hg]; exact blk_lt BK6.out : g6 < g10); replace HQ := Aside0.mk (Kd.S_mono (ok' := fun k_ => g6 < k_ ∧ k_ < g10) HQ.out (fun k_ h_ => by rw [hg]; exact h_)); have BK10 := Aside0.mk hbox; clear hbox hg hb; (try clear hz10_); have hz10_ := zc5 BK10.out;) | ((with_reducible refine gate_store (t := 29) (p := 10) rfl ?_); have hs0_ := (blk_cell BK10.out 0).trans rfl; have hf0_ := blk_frozen BK10.out 0; have hs1_ := (blk_cell BK10.out 1).trans rfl; have hf1_ := blk_frozen BK10.out 1; have hs2_ := (blk_cell BK10.out 2).trans rfl; have hf2_ := blk_frozen BK10.out 2; have hs3_ := (blk_cell BK10.out 3).trans rfl; have hf3_ := blk_frozen BK10.out 3; have hs4_ := (blk_cell BK10.out 4).trans rfl; have hf4_ := blk_frozen BK10.out 4; refine store_event (t := 29) (p := 10) (v := ?vlx26_) (w1 := (((((w25_.setCell ⟨g10, 0, none⟩ (.int .i64 y0)).setCell ⟨g10, 1, none⟩ (.int .i64 y1)).setCell ⟨g10, 2, none⟩ (.string y2)).setCell ⟨g10, 3, none⟩ (.string y3)).setCell ⟨g10, 4, none⟩ (.slice QA y4.length qc))) ?hg ?ho ?hn ?hr0_4 ?_; (case ho => rfl); (case hg => rfl); (case hn => rfl); (case hr0_4 => first | (go_simp; done) | (go_simp; rfl)); intro w27_ hw_; have HK_ := set5_kept hw_; have BKn := Aside0.mk (set5_blk hw_ BK10.out rfl); replace HP := Aside0.mk (set5_below hw_ HP.out GE10.out);  clear BK10; have BK10 := BKn; clear BKn hw_ HK_ hs0_ hf0_ hs1_ hf1_ hs2_ hf2_ hs3_ hf3_ hs4_ hf4_; have hb := HP.out; replace HN := zVN HN hb; replace HY := zVS HY hb; replace HV := zVS HV hb; replace HQ := zVS HQ hb; replace BK1 := zBB BK1 hb; replace BK4 := zBB BK4 hb; replace BK5 := zBB BK5 hb; replace BK6 := zBB BK6 hb; replace HB := zLB HB.out hb; clear hb HP GE10; (try clear hz1_); have hz1_ := zc5 BK1.out; (try clear hz4_); have hz4_ := zc5 BK4.out; (try clear hz5_); have hz5_ := zc5 BK5.out; (try clear hz6_); have hz6_ := zc5 BK6.out; (try clear hz10_); have hz10_ := zc5 BK10.out;) | ((with_reducible refine gC 17 rfl ?_); refine gL 59 Try.func17 #[.agg #[.int .i64 y0, .int .i64 y1, .string y2, .string y3, .slice QA y4.length qc], .agg #[.int .i64 n0, .int .i64 n1, .string n2, .string n3, .slice NA n4.length nc]] ?_; (refine (eqPol_I k y0 y1 y2 y3 QA qc y4 n0 n1 n2 n3 NA nc n4 (pvS HQ) (pvN HN) E1.out).mono ?_); rintro e w28_ ⟨rfl, hb⟩; refine ⟨_, rfl, ?_⟩; replace HN := zVN HN hb; replace HY := zVS HY hb; replace HV := zVS HV hb; replace HQ := zVS HQ hb; replace BK1 := zBB BK1 hb; replace BK4 := zBB BK4 hb; replace BK5 := zBB BK5 hb; replace BK6 := zBB BK6 hb; replace BK10 := zBB BK10 hb; replace HB := zLB HB.out hb; clear hb;  (try clear hz1_); have hz1_ := zc5 BK1.out; (try clear hz4_); have hz4_ := zc5 BK4.out; (try clear hz5_); have hz5_ := zc5 BK5.out; (try clear hz6_); have hz6_ := zc5 BK6.out; (try clear hz10_); have hz10_ := zc5 BK10.out;) | ((with_reducible refine gC 30 rfl ?_); refine gL 63 Try.func30 #[.agg #[.int .i64 y0, .int .i64 y1, .string y2, .string y3, .slice YA y4.length yc], .int .i64 1] ?_; (refine (heldPol_I k y0 y1 y2 y3 HY AQ.out).mono ?_); rintro e w29_ ⟨rfl, hb⟩; refine ⟨_, rfl, ?_⟩; replace HN := zVN HN hb; replace HY := zVS HY hb; replace HV := zVS HV hb; replace HQ := zVS HQ hb; replace BK1 := zBB BK1 hb; replace BK4 := zBB BK4 hb; replace BK5 := zBB BK5 hb; replace BK6 := zBB BK6 hb; replace BK10 := zBB BK10 hb; replace HB := zLB HB.out hb; clear hb;  (try clear hz1_); have hz1_ := zc5 BK1.out; (try clear hz4_); have hz4_ := zc5 BK4.out; (try clear hz5_); have hz5_ := zc5 BK5.out; (try clear hz6_); have hz6_ := zc5 BK6.out; (try clear hz10_); have hz10_ := zc5 BK10.out;))
  go_ret
  exact ⟨rfl, HB.out⟩

end Go.Proofs.Ytfhblnbicnmndaa.QFnExactOpposite
