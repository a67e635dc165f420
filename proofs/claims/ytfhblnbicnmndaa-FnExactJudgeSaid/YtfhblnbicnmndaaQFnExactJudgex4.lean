/- What the Go functions that the law FnExactJudge reaches answer: each as a Lean function, with its walk. Written by a program of this session. Conditions: those that each theorem names. -/
import Derived.Test.YtfhblnbicnmndaaQFnExactJudgex0
import Derived.Test.YtfhblnbicnmndaaQFnExactJudgex3
namespace Go.Proofs.Ytfhblnbicnmndaa.QFnExactJudge
open Go.RowKit Go.Proofs.YtfhblnbicnmndaaW.PrintWords Go.Proofs.YtfhblnbicnmndaaW.PrintLast Go.Proofs.YtfhblnbicnmndaaW.PrintMore
attribute [local go_sem] max2_int min2_int max_two min_two max_three min_three max_four min_four   -- for this text's walks alone
set_option linter.unusedVariables false
set_option linter.unusedSimpArgs false

open Go.Proofs.YtfhblnbicnmndaaW.PrintWords renaming blk_drewN → bN, blk_drew → bD, blk_alloc → bA, blk_cell → bC, blk_below → bB, below_set → bS
/-! ### spec_l6Some: function 61 -/
def spec_l6Some.l0 : Nat → List (S73) → Int → Int → Int → ByteArray → ByteArray → List (S29) → Option (Bool)
 | 0, _, _, _, _, _, _, _ => none
 | k + 1, x1, x5, x195000, x195001, x195002, x195003, x195004 => if x5 < (x1.length : Int) then (if 0 ≤ x5 then ((spec_FindAttr.f k ((rd_T73 x1 x5).f5) x195002).bind fun bt196 => (if bt196.2.2.2.2 = true then (if x195000 = 4 then (if bt196.2.1 = true then (if x195000 = 5 then (if bt196.2.2.1 ≥ x195001 then (some true) else (spec_l6Some.l0 k x1 (wrap64 (x5 + 1)) x195000 x195001 x195002 x195003 x195004)) else (spec_l6Some.l0 k x1 (wrap64 (x5 + 1)) x195000 x195001 x195002 x195003 x195004)) else (if bt196.2.2.2.1.toList = x195003.toList then (some true) else (if x195000 = 5 then (spec_l6Some.l0 k x1 (wrap64 (x5 + 1)) x195000 x195001 x195002 x195003 x195004) else (spec_l6Some.l0 k x1 (wrap64 (x5 + 1)) x195000 x195001 x195002 x195003 x195004)))) else (if x195000 = 5 then (if bt196.2.1 = true then (if bt196.2.2.1 ≥ x195001 then (some true) else (spec_l6Some.l0 k x1 (wrap64 (x5 + 1)) x195000 x195001 x195002 x195003 x195004)) else (spec_l6Some.l0 k x1 (wrap64 (x5 + 1)) x195000 x195001 x195002 x195003 x195004)) else (spec_l6Some.l0 k x1 (wrap64 (x5 + 1)) x195000 x195001 x195002 x195003 x195004))) else (spec_l6Some.l0 k x1 (wrap64 (x5 + 1)) x195000 x195001 x195002 x195003 x195004))) else (none)) else (some false)
def spec_l6Some.f (k : Nat) (a0_0 : Int) (a0_1 : Int) (a0_2 : ByteArray) (a0_3 : ByteArray) (l0_4 : List (S29)) (l1 : List (S73)) : Option (Bool) := spec_l6Some.l0 k l1 0 a0_0 a0_1 a0_2 a0_3 l0_4
theorem spec_l6Some.mono_l : ∀ k, (∀ y0 y1 y2 y3 y4 y5 y6, LeO (spec_l6Some.l0 k y0 y1 y2 y3 y4 y5 y6) (spec_l6Some.l0 (k + 1) y0 y1 y2 y3 y4 y5 y6))
 | 0 => fun _ _ _ _ _ _ _ r h => by simp [spec_l6Some.l0] at h
 | k + 1 => by
  have ih0 := spec_l6Some.mono_l k
  ·intro y0 y1 y2 y3 y4 y5 y6
   unfold spec_l6Some.l0
   repeat' first
   | (with_reducible exact ih0 _ _ _ _ _ _ _)
   | (with_reducible apply spec_FindAttr.mono)
   | (with_reducible exact LeO.refl _)
   | (with_reducible exact LeO.none _)
   | (with_reducible refine LeO.ite ?_ ?_)
   | (with_reducible refine LeO.bind ?_ (fun _ => ?_))
   | exact ih0 _ _ _ _ _ _ _
   | apply spec_FindAttr.mono
   | exact LeO.none _
   | refine LeO.ite ?_ ?_
   | refine LeO.bind ?_ (fun _ => ?_)
theorem spec_l6Some.mono : ∀ a0 a1 a2 a3 a4 a5 k, LeO (spec_l6Some.f k a0 a1 a2 a3 a4 a5) (spec_l6Some.f (k + 1) a0 a1 a2 a3 a4 a5) := by
 intro a0 a1 a2 a3 a4 a5 k
 have ih0 := spec_l6Some.mono_l k
 unfold spec_l6Some.f
 repeat' first
   | (with_reducible exact ih0 _ _ _ _ _ _ _)
   | (with_reducible apply spec_FindAttr.mono)
   | (with_reducible exact LeO.refl _)
   | (with_reducible exact LeO.none _)
   | (with_reducible refine LeO.ite ?_ ?_)
   | (with_reducible refine LeO.bind ?_ (fun _ => ?_))
   | exact ih0 _ _ _ _ _ _ _
   | apply spec_FindAttr.mono
   | exact LeO.none _
   | refine LeO.ite ?_ ?_
   | refine LeO.bind ?_ (fun _ => ?_)
def spec_l6Some.T4 : Bool × List (List Nat × List Nat) := (true, [([], []), ([], []), ([0, 1], [0, 1]), ([2], [2]), ([3], [3]), ([], []), ([5], [5]), ([4, 6], [4, 6]), ([7], [7]), ([8], [8]), ([8], [8]), ([], []), ([11, 9, 7, 0, 1, 2, 3, 4, 5, 6, 7, 8, 9, 11], [9, 11]), ([10, 12, 0, 1, 2, 3, 4, 5, 6, 7, 8, 9, 10, 11, 12], [10])])
def spec_l6Some.B4 : List Nat := [0, 0, 3, 7, 15, 0, 32, 127, 255, 511, 511, 0, 3071, 8191]
theorem spec_l6Some.tab4 : rtab .any (opsOf Try.f61 4) = spec_l6Some.T4 := by kernel_rfl
theorem spec_l6Some.bits4 : waitsOk spec_l6Some.T4.2 spec_l6Some.B4 = true := by kernel_rfl
set_option maxHeartbeats 8000000 in
set_option maxRecDepth 100000 in
theorem spec_l6Some.calls (k : Nat) (a0_0 : Int) (a0_1 : Int) (a0_2 : ByteArray) (a0_3 : ByteArray) (A0_4 : Option Addr) (c0_4 : Nat) (l0_4 : List (S29)) (A1 : Option Addr) (c1 : Nat) (l1 : List (S73)) (r : Bool) (w : World) (hr0_4 : Kd.C k29 w A0_4 l0_4.length l0_4) (hc0_4 : l0_4.length ≤ c0_4) (hr1 : Kd.C k73 w A1 l1.length l1) (hc1 : l1.length ≤ c1) (h : spec_l6Some.f k a0_0 a0_1 a0_2 a0_3 l0_4 l1 = some r) :
  Calls Try.prog 61 #[.agg #[.int .i64 a0_0, .int .i64 a0_1, .string a0_2, .string a0_3, .slice A0_4 l0_4.length c0_4], .slice A1 l1.length c1] w fun e w' => e = .returned (.bool r) ∧ Below w.heap.size w w' := by
 have hu29 := Try.underlying29
 have hu83 := Try.underlying83
 have HR0_4 := Aside0.mk hr0_4
 have HC0_4 := Aside0.mk hc0_4
 clear hr0_4 hc0_4
 have HR1 := Aside0.mk hr1
 have HC1 := Aside0.mk hc1
 clear hr1 hc1
 have HB := Aside0.mk (Below.refl w.heap.size w)
 unfold spec_l6Some.f at h; have H := h
 clear h
 have H' := Aside0.mk H
 clear H
 go_enter Try.func61, Try.ntmps61
 go_wp2_with (first | ((with_reducible refine gD 2 rfl ?_); refine bE 2 #[.int .i64 a0_0, .int .i64 a0_1, .string a0_2, .string a0_3, .slice A0_4 l0_4.length c0_4] 29 ?_; intro gb194 hg w3 hbox hb; have BK194 := Aside0.mk hbox; have GW194 := Aside0.mk (zg (zL HB.out) hg : w.heap.size ≤ gb194); have GE194 := GW194; replace HB := zLB (zL HB.out) hb; clear hb hbox hg))
 go_loopg [5] k (fun kq v5 w' => ∃ (x5_1 : Int), v5 = .int .i64 x5_1 ∧ Aside0 (spec_l6Some.l0 kq l1 x5_1 a0_0 a0_1 a0_2 a0_3 l0_4 = some r) ∧ Aside0 (kq ≤ k) ∧ Aside0 (w'.heap[gb194]? = some (.cells #[.int .i64 a0_0, .int .i64 a0_1, .string a0_2, .string a0_3, (.slice A0_4 l0_4.length c0_4)] 29 (0, 0))) ∧ Aside0 (Below w.heap.size w w'))
 case atStart => exact ⟨(0), zV, H', ⟨Nat.le_refl _⟩, ⟨zB BK194.out⟩, ⟨zL1 HB.out GE194.out⟩⟩
 case round =>
  clear H'
  try clear c1
  try clear p2
  try clear BK194
  obtain ⟨x5_1, rfl, HA, HK1, BK194, HB⟩ := hrel
  cases gk with
  | zero => exact absurd HA.out (by simp [spec_l6Some.l0])
  | succ k1 =>
   have H := HA.out
   clear HA
   simp only [spec_l6Some.l0] at H
   by_cases c4 : x5_1 < (l1.length : Int)
   ·rw [if_pos c4] at H
    have c4b0 := decide_eq_true c4
    clear c4
    by_cases c5 : 0 ≤ x5_1
    ·rw [if_pos c5] at H
     have c5b0 := decide_eq_true c5
     clear c5
     obtain ⟨⟨t196, t197, t198, t199, t200⟩, A6, H⟩ := zO H; try dsimp only at H
     by_cases c7 : t200 = true
     ·subst c7
      rw [if_pos rfl] at H
      by_cases c8 : a0_0 = 4
      ·rw [if_pos c8] at H
       obtain ⟨c8b0, c8b1⟩ := zt c8
       clear c8
       by_cases c9 : t197 = true
       ·subst c9
        rw [if_pos rfl] at H
        by_cases c10 : a0_0 = 5
        ·rw [if_pos c10] at H
         obtain ⟨c10b0, c10b1⟩ := zt c10
         clear c10
         by_cases c11 : t198 ≥ a0_1
         ·rw [if_pos c11] at H
          have c11b0 := decide_eq_true c11
          clear c11
          obtain rfl := Option.some.inj H
          try go_wp2
          replace BK194 := zBD BK194; replace HB := zLD HB
          have p195 : 0 ≤ (x5_1 : Int) := zD
          have q195 : x5_1 < (l1.length : Int) := zD
          obtain ⟨ad195, A195_5, c195_5, e195, hx195_0, hx195_1, hx195_2, hx195_3, hx195_4, hx195_5, hl195_5, hi195_5⟩ := at_T73 HR1.out x5_1 p195 q195
          have hw195_5 := hx195_5
          have hw195_4 := hx195_4
          have hw195_3 := hx195_3
          have hw195_2 := hx195_2
          have hw195_1 := hx195_1
          have hw195_0 := hx195_0
          cases e195
          replace hx195_0 := zh HB.out hx195_0
          replace hx195_1 := zh HB.out hx195_1
          replace hx195_2 := zh HB.out hx195_2
          replace hx195_3 := zh HB.out hx195_3
          replace hx195_4 := zh HB.out hx195_4
          replace hx195_5 := zh HB.out hx195_5
          have HR195_5 := Aside0.mk hi195_5
          have HC195_5 := Aside0.mk hl195_5
          clear hi195_5 hl195_5
          replace p195 := eq_true p195
          replace q195 := eq_true q195
          refine start_ (n := 14) (S := fun w' => w'.cell? ⟨gb194, 0, none⟩ = some (.int .i64 a0_0) ∧ w'.cell? ⟨gb194, 1, none⟩ = some (.int .i64 a0_1) ∧ w'.cell? ⟨gb194, 2, none⟩ = some (.string a0_2) ∧ w'.cell? ⟨gb194, 3, none⟩ = some (.string a0_3) ∧ w'.cell? ⟨gb194, 4, none⟩ = some (.slice A0_4 l0_4.length c0_4) ∧ w'.cell? (ad195.add ((x5_1).toNat * 6)) = some (.int .i64 ((rd_T73 l1 x5_1).f0)) ∧ w'.cell? ⟨(ad195.add ((x5_1).toNat * 6)).block, (ad195.add ((x5_1).toNat * 6)).off + 1, none⟩ = some (.int .i64 ((rd_T73 l1 x5_1).f1)) ∧ w'.cell? ⟨(ad195.add ((x5_1).toNat * 6)).block, (ad195.add ((x5_1).toNat * 6)).off + 2, none⟩ = some (.int .i64 ((rd_T73 l1 x5_1).f2)) ∧ w'.cell? ⟨(ad195.add ((x5_1).toNat * 6)).block, (ad195.add ((x5_1).toNat * 6)).off + 3, none⟩ = some (.int .i64 ((rd_T73 l1 x5_1).f3)) ∧ w'.cell? ⟨(ad195.add ((x5_1).toNat * 6)).block, (ad195.add ((x5_1).toNat * 6)).off + 4, none⟩ = some (.bool ((rd_T73 l1 x5_1).f4)) ∧ w'.cell? ⟨(ad195.add ((x5_1).toNat * 6)).block, (ad195.add ((x5_1).toNat * 6)).off + 5, none⟩ = some (.slice A195_5 ((rd_T73 l1 x5_1).f5).length c195_5)) (ds := []) (fB 14 0) (by kernel_rfl) rfl rfl ⟨(bC BK194.out 0).trans rfl, (bC BK194.out 1).trans rfl, (bC BK194.out 2).trans rfl, (bC BK194.out 3).trans rfl, (bC BK194.out 4).trans rfl, (zh HB.out hw195_0), (zh HB.out hw195_1), (zh HB.out hw195_2), (zh HB.out hw195_3), (zh HB.out hw195_4), (zh HB.out hw195_5)⟩ (fun hHeld => ?_); refine with_tabW spec_l6Some.tab4 spec_l6Some.bits4 (fun HT_ HW_ => ?_)
          generalize wr.drew = w12 at BK194 HB HR195_5 hx195_0 hx195_1 hx195_2 hx195_3 hx195_4 hx195_5 hHeld ⊢
          refine pY 0 15 (fB 14 1) HT_.out ?_
          refine pY 1 16 (fB 14 3) HT_.out ?_
          refine pY 2 17 (fB 14 7) HT_.out ?_
          refine pY 3 18 (fB 14 15) HT_.out ?_
          refine pY 5 20 (fB 14 47) HT_.out ?_
          refine tY 4 19 (fB 14 63) HT_.out HW_.out hHeld ?_
          refine tY 6 21 (fB 14 127) HT_.out HW_.out hHeld ?_
          refine join_ (σ := Nat) 2 #[true, true, true, true, true, true, true, true, true, true, true, true, false, false] (fun s_ => [(22, .tuple #[.agg #[.string t196, .bool true, .int .i64 t198, .string t199], .bool true]), (6, .pointer (some ⟨s_, 0, none⟩)), (14, .tuple #[.agg #[.string t196, .bool true, .int .i64 t198, .string t199], .bool true]), (23, .agg #[.string t196, .bool true, .int .i64 t198, .string t199]), (24, .bool true)]) (fun s_ w' => (w'.cell? ⟨gb194, 0, none⟩ = some (.int .i64 a0_0) ∧ w'.cell? ⟨gb194, 1, none⟩ = some (.int .i64 a0_1) ∧ w'.cell? ⟨gb194, 2, none⟩ = some (.string a0_2) ∧ w'.cell? ⟨gb194, 3, none⟩ = some (.string a0_3) ∧ w'.cell? ⟨gb194, 4, none⟩ = some (.slice A0_4 l0_4.length c0_4) ∧ w'.cell? (ad195.add ((x5_1).toNat * 6)) = some (.int .i64 ((rd_T73 l1 x5_1).f0)) ∧ w'.cell? ⟨(ad195.add ((x5_1).toNat * 6)).block, (ad195.add ((x5_1).toNat * 6)).off + 1, none⟩ = some (.int .i64 ((rd_T73 l1 x5_1).f1)) ∧ w'.cell? ⟨(ad195.add ((x5_1).toNat * 6)).block, (ad195.add ((x5_1).toNat * 6)).off + 2, none⟩ = some (.int .i64 ((rd_T73 l1 x5_1).f2)) ∧ w'.cell? ⟨(ad195.add ((x5_1).toNat * 6)).block, (ad195.add ((x5_1).toNat * 6)).off + 3, none⟩ = some (.int .i64 ((rd_T73 l1 x5_1).f3)) ∧ w'.cell? ⟨(ad195.add ((x5_1).toNat * 6)).block, (ad195.add ((x5_1).toNat * 6)).off + 4, none⟩ = some (.bool ((rd_T73 l1 x5_1).f4)) ∧ w'.cell? ⟨(ad195.add ((x5_1).toNat * 6)).block, (ad195.add ((x5_1).toNat * 6)).off + 5, none⟩ = some (.slice A195_5 ((rd_T73 l1 x5_1).f5).length c195_5)) ∧ (w'.heap[gb194]? = some (.cells #[.int .i64 a0_0, .int .i64 a0_1, .string a0_2, .string a0_3, .slice A0_4 l0_4.length c0_4] 29 (0, 0))) ∧ (w'.heap[s_]? = some (.cells #[.string (⟨#[]⟩ : ByteArray), .bool false, .int .i64 0, .string (⟨#[]⟩ : ByteArray)] 83 (0, 0))) ∧ (w.heap.size ≤ s_) ∧ (w.heap.size ≤ s_) ∧ (gb194 ≠ s_) ∧ (s_ ≠ gb194) ∧ (Below w.heap.size w w')) ?_ ?_
          rotate_left
          ·intro hCont
           refine two_ (i := 7) (j := 11) (Ni := some 22) (Nj := some 6) #[true, true, true, true, true, true, true, true, false, false, false, false, false, false] #[true, true, true, true, true, true, true, false, false, false, false, true, false, false] rfl rfl rfl rfl (two_of HT_.out (by kernel_rfl)) (by decide) (by decide) (fun K hK => ?_) (fun K hK => ?_)
           ·skip
            refine gS Try.func86 #[.slice A195_5 ((rd_T73 l1 x5_1).f5).length c195_5, .string a0_2] ?_
            with_reducible refine (spec_FindAttr.calls k1 _ _ ((rd_T73 l1 x5_1).f5) a0_2 t196 true t198 t199 true _ ?side1 ?side2 A6.out).mono ?_
            (case side1 => exact zC (Kd.C_below HR195_5.out HB.out))
            (case side2 => exact HC195_5.out)
            rintro e w13 ⟨rfl, hb⟩
            refine ⟨_, rfl, ?_⟩
            replace BK194 := zBB BK194 hb; replace HB := zLB (zL1 HB.out GE194.out) hb
            clear hb
            refine hK.out _ _ ⟨(bC BK194.out 0).trans rfl, (bC BK194.out 1).trans rfl, (bC BK194.out 2).trans rfl, (bC BK194.out 3).trans rfl, (bC BK194.out 4).trans rfl, (zh HB.out hw195_0), (zh HB.out hw195_1), (zh HB.out hw195_2), (zh HB.out hw195_3), (zh HB.out hw195_4), (zh HB.out hw195_5)⟩ fun hHeld => ?_; clear hK K
            refine nZ 22 ?_
            refine pY 8 14 (fB 14 511) HT_.out ?_
            refine pY 9 23 (fB 14 1023) HT_.out ?_
            refine pY 10 24 (fB 14 2047) HT_.out ?_
            refine oN 11 6 (fB 14 4095) HT_.out fun K hK => ?_
            refine box_step ?hg (N := 6) ?hd (cs := #[.string (⟨#[]⟩ : ByteArray), .bool false, .int .i64 0, .string (⟨#[]⟩ : ByteArray)]) (t := 83) ?hr ?_; (case hd => rfl); (case hg => rfl); (case hr => first | (go_simp; done) | (go_simp; rfl))
            intro gb201 hg w14 hbox hb
            have BK201 := Aside0.mk hbox; have GW201 := Aside0.mk (zg (zL1 HB.out GE194.out) hg : w.heap.size ≤ gb201); have GE201 := GW201; replace HB := zLB (zL1 HB.out GE194.out) hb; have NB194_201 := Aside0.mk (zN BK194.out hg : gb194 ≠ gb201); have NB201_194 := Aside0.mk (zM BK194.out hg : gb201 ≠ gb194); replace BK194 := zBB BK194 hb
            clear hb hbox hg
            refine hK.out _ _ ⟨(bC BK194.out 0).trans rfl, (bC BK194.out 1).trans rfl, (bC BK194.out 2).trans rfl, (bC BK194.out 3).trans rfl, (bC BK194.out 4).trans rfl, (zh HB.out hw195_0), (zh HB.out hw195_1), (zh HB.out hw195_2), (zh HB.out hw195_3), (zh HB.out hw195_4), (zh HB.out hw195_5)⟩ fun hHeld => ?_; clear hK K
            refine nZ 6 ?_
            exact norm_ (by simp only [putAll, Act.put, List.setIfInBounds_toArray, List.set_cons_zero, List.set_cons_succ]) (hCont (gb201) _ ⟨hHeld, (zB BK194.out), (zB BK201.out), GW201.out, GE201.out, NB194_201.out, NB201_194.out, (zL2 HB.out GE194.out GE201.out)⟩)
           ·skip
            refine box_step ?hg (N := 6) ?hd (cs := #[.string (⟨#[]⟩ : ByteArray), .bool false, .int .i64 0, .string (⟨#[]⟩ : ByteArray)]) (t := 83) ?hr ?_; (case hd => rfl); (case hg => rfl); (case hr => first | (go_simp; done) | (go_simp; rfl))
            intro gb201 hg w13 hbox hb
            have BK201 := Aside0.mk hbox; have GW201 := Aside0.mk (zg (zL1 HB.out GE194.out) hg : w.heap.size ≤ gb201); have GE201 := GW201; replace HB := zLB (zL1 HB.out GE194.out) hb; have NB194_201 := Aside0.mk (zN BK194.out hg : gb194 ≠ gb201); have NB201_194 := Aside0.mk (zM BK194.out hg : gb201 ≠ gb194); replace BK194 := zBB BK194 hb
            clear hb hbox hg
            refine hK.out _ _ ⟨(bC BK194.out 0).trans rfl, (bC BK194.out 1).trans rfl, (bC BK194.out 2).trans rfl, (bC BK194.out 3).trans rfl, (bC BK194.out 4).trans rfl, (zh HB.out hw195_0), (zh HB.out hw195_1), (zh HB.out hw195_2), (zh HB.out hw195_3), (zh HB.out hw195_4), (zh HB.out hw195_5)⟩ fun hHeld => ?_; clear hK K
            refine nZ 6 ?_
            refine oN 7 22 (fB 14 2303) HT_.out fun K hK => ?_
            refine gS Try.func86 #[.slice A195_5 ((rd_T73 l1 x5_1).f5).length c195_5, .string a0_2] ?_
            with_reducible refine (spec_FindAttr.calls k1 _ _ ((rd_T73 l1 x5_1).f5) a0_2 t196 true t198 t199 true _ ?side1 ?side2 A6.out).mono ?_
            (case side1 => exact zC (Kd.C_below HR195_5.out HB.out))
            (case side2 => exact HC195_5.out)
            rintro e w14 ⟨rfl, hb⟩
            refine ⟨_, rfl, ?_⟩
            replace BK194 := zBB BK194 hb; replace BK201 := zBB BK201 hb; replace HB := zLB (zL2 HB.out GE194.out GE201.out) hb
            clear hb
            refine hK.out _ _ ⟨(bC BK194.out 0).trans rfl, (bC BK194.out 1).trans rfl, (bC BK194.out 2).trans rfl, (bC BK194.out 3).trans rfl, (bC BK194.out 4).trans rfl, (zh HB.out hw195_0), (zh HB.out hw195_1), (zh HB.out hw195_2), (zh HB.out hw195_3), (zh HB.out hw195_4), (zh HB.out hw195_5)⟩ fun hHeld => ?_; clear hK K
            refine nZ 22 ?_
            refine pY 8 14 (fB 14 2559) HT_.out ?_
            refine pY 9 23 (fB 14 3071) HT_.out ?_
            refine pY 10 24 (fB 14 4095) HT_.out ?_
            exact norm_ (by simp only [putAll, Act.put, List.setIfInBounds_toArray, List.set_cons_zero, List.set_cons_succ]) (hCont (gb201) _ ⟨hHeld, (zB BK194.out), (zB BK201.out), GW201.out, GE201.out, NB194_201.out, NB201_194.out, (zL2 HB.out GE194.out GE201.out)⟩)
          rintro gb201 w15 ⟨hS_, h0_, h1_, h2_, h3_, h4_, h5_, h6_⟩
          have n0_ : Aside0 (w15.heap[gb194]? = some (.cells #[.int .i64 a0_0, .int .i64 a0_1, .string a0_2, .string a0_3, .slice A0_4 l0_4.length c0_4] 29 (0, 0))) := ⟨h0_⟩
          have n1_ : Aside0 (w15.heap[gb201]? = some (.cells #[.string (⟨#[]⟩ : ByteArray), .bool false, .int .i64 0, .string (⟨#[]⟩ : ByteArray)] 83 (0, 0))) := ⟨h1_⟩
          have n2_ : Aside0 (w.heap.size ≤ gb201) := ⟨h2_⟩
          have n3_ : Aside0 (w.heap.size ≤ gb201) := ⟨h3_⟩
          have n4_ : Aside0 (gb194 ≠ gb201) := ⟨h4_⟩
          have n5_ : Aside0 (gb201 ≠ gb194) := ⟨h5_⟩
          have n6_ : Aside0 (Below w.heap.size w w15) := ⟨h6_⟩
          clear BK194
          clear HB
          clear h0_ h1_ h2_ h3_ h4_ h5_ h6_
          have BK194 := n0_
          have BK201 := n1_
          have GW201 := n2_
          have GE201 := n3_
          have NB194_201 := n4_
          have NB201_194 := n5_
          have HB := n6_
          clear n0_ n1_ n2_ n3_ n4_ n5_ n6_
          have hHeld : w15.cell? ⟨gb194, 0, none⟩ = some (.int .i64 a0_0) ∧ w15.cell? ⟨gb194, 1, none⟩ = some (.int .i64 a0_1) ∧ w15.cell? ⟨gb194, 2, none⟩ = some (.string a0_2) ∧ w15.cell? ⟨gb194, 3, none⟩ = some (.string a0_3) ∧ w15.cell? ⟨gb194, 4, none⟩ = some (.slice A0_4 l0_4.length c0_4) ∧ w15.cell? (ad195.add ((x5_1).toNat * 6)) = some (.int .i64 ((rd_T73 l1 x5_1).f0)) ∧ w15.cell? ⟨(ad195.add ((x5_1).toNat * 6)).block, (ad195.add ((x5_1).toNat * 6)).off + 1, none⟩ = some (.int .i64 ((rd_T73 l1 x5_1).f1)) ∧ w15.cell? ⟨(ad195.add ((x5_1).toNat * 6)).block, (ad195.add ((x5_1).toNat * 6)).off + 2, none⟩ = some (.int .i64 ((rd_T73 l1 x5_1).f2)) ∧ w15.cell? ⟨(ad195.add ((x5_1).toNat * 6)).block, (ad195.add ((x5_1).toNat * 6)).off + 3, none⟩ = some (.int .i64 ((rd_T73 l1 x5_1).f3)) ∧ w15.cell? ⟨(ad195.add ((x5_1).toNat * 6)).block, (ad195.add ((x5_1).toNat * 6)).off + 4, none⟩ = some (.bool ((rd_T73 l1 x5_1).f4)) ∧ w15.cell? ⟨(ad195.add ((x5_1).toNat * 6)).block, (ad195.add ((x5_1).toNat * 6)).off + 5, none⟩ = some (.slice A195_5 ((rd_T73 l1 x5_1).f5).length c195_5) := hS_
          refine norm_ (a' := ?_) ?_ ?_
          rotate_left
          ·simp only [putAll, Act.put, List.setIfInBounds_toArray, List.set_cons_zero, List.set_cons_succ]
           rfl
          refine one_ (i := 12) (N := none) (fB 14 8191) rfl rfl (one_of HT_.out (by kernel_rfl)) (by decide) (fun K hK => ?_)
          have hs16 : w15.cell? ⟨gb201, 0, none⟩ = some (.string (⟨#[]⟩ : ByteArray)) := (bC BK201.out 0).trans rfl
          have hfs16 := blk_frozen BK201.out 0
          have hns16_0 := NB194_201.out
          have hms16_0 := NB201_194.out
          have hs17 : w15.cell? ⟨gb201, 1, none⟩ = some (.bool false) := (bC BK201.out 1).trans rfl
          have hfs17 := blk_frozen BK201.out 1
          have hns17_0 := NB194_201.out
          have hms17_0 := NB201_194.out
          have hs18 : w15.cell? ⟨gb201, 2, none⟩ = some (.int .i64 0) := (bC BK201.out 2).trans rfl
          have hfs18 := blk_frozen BK201.out 2
          have hns18_0 := NB194_201.out
          have hms18_0 := NB201_194.out
          have hs19 : w15.cell? ⟨gb201, 3, none⟩ = some (.string (⟨#[]⟩ : ByteArray)) := (bC BK201.out 3).trans rfl
          have hfs19 := blk_frozen BK201.out 3
          have hns19_0 := NB194_201.out
          have hms19_0 := NB201_194.out
          refine skip_ (w1 := ?_) (by rfl) rfl ?_ ?_
          rotate_left
          ·go_simp
           rfl
          refine hK.out _ _ ⟨zcf4 NB194_201.out hHeld.1, zcf4 NB194_201.out hHeld.2.1, zcf4 NB194_201.out hHeld.2.2.1, zcf4 NB194_201.out hHeld.2.2.2.1, zcf4 NB194_201.out hHeld.2.2.2.2.1, zcg4 (zhn hw195_0 GW201.out) hHeld.2.2.2.2.2.1, zcg4 (zhn hw195_1 GW201.out) hHeld.2.2.2.2.2.2.1, zcg4 (zhn hw195_2 GW201.out) hHeld.2.2.2.2.2.2.2.1, zcg4 (zhn hw195_3 GW201.out) hHeld.2.2.2.2.2.2.2.2.1, zcg4 (zhn hw195_4 GW201.out) hHeld.2.2.2.2.2.2.2.2.2.1, zcg4 (zhn hw195_5 GW201.out) hHeld.2.2.2.2.2.2.2.2.2.2⟩ fun hHeld => ?_; clear hK K
          refine pY 13 7 (fB 14 16383) HT_.out ?_
          refine done_ (done_of HT_.out (by kernel_rfl)) ?_
          have hnb20 := NB194_201.out
          have hnc20 := NB201_194.out
          have hcz21 := zc5 BK194.out
          have hfz21 := zf5 BK194.out
          have hcz22_0 : w15.cell? ⟨gb201, 0, none⟩ = some (.string (⟨#[]⟩ : ByteArray)) := (bC BK201.out 0).trans rfl
          have hcz22_1 : w15.cell? ⟨gb201, 1, none⟩ = some (.bool false) := (bC BK201.out 1).trans rfl
          have hcz22_2 : w15.cell? ⟨gb201, 2, none⟩ = some (.int .i64 0) := (bC BK201.out 2).trans rfl
          have hcz22_3 : w15.cell? ⟨gb201, 3, none⟩ = some (.string (⟨#[]⟩ : ByteArray)) := (bC BK201.out 3).trans rfl
          have hfz22 := zf4 BK201.out
          try go_wp2
          go_ret
          exact ⟨zW, zL2 HB.out GE194.out GE201.out⟩
         ·rw [if_neg c11] at H
          have c11b0 := decide_eq_false c11
          clear c11
          have H' := Aside0.mk H
          clear H
          try go_wp2
          replace BK194 := zBD BK194; replace HB := zLD HB
          have p195 : 0 ≤ (x5_1 : Int) := zD
          have q195 : x5_1 < (l1.length : Int) := zD
          obtain ⟨ad195, A195_5, c195_5, e195, hx195_0, hx195_1, hx195_2, hx195_3, hx195_4, hx195_5, hl195_5, hi195_5⟩ := at_T73 HR1.out x5_1 p195 q195
          have hw195_5 := hx195_5
          have hw195_4 := hx195_4
          have hw195_3 := hx195_3
          have hw195_2 := hx195_2
          have hw195_1 := hx195_1
          have hw195_0 := hx195_0
          cases e195
          replace hx195_0 := zh HB.out hx195_0
          replace hx195_1 := zh HB.out hx195_1
          replace hx195_2 := zh HB.out hx195_2
          replace hx195_3 := zh HB.out hx195_3
          replace hx195_4 := zh HB.out hx195_4
          replace hx195_5 := zh HB.out hx195_5
          have HR195_5 := Aside0.mk hi195_5
          have HC195_5 := Aside0.mk hl195_5
          clear hi195_5 hl195_5
          replace p195 := eq_true p195
          replace q195 := eq_true q195
          refine start_ (n := 14) (S := fun w' => w'.cell? ⟨gb194, 0, none⟩ = some (.int .i64 a0_0) ∧ w'.cell? ⟨gb194, 1, none⟩ = some (.int .i64 a0_1) ∧ w'.cell? ⟨gb194, 2, none⟩ = some (.string a0_2) ∧ w'.cell? ⟨gb194, 3, none⟩ = some (.string a0_3) ∧ w'.cell? ⟨gb194, 4, none⟩ = some (.slice A0_4 l0_4.length c0_4) ∧ w'.cell? (ad195.add ((x5_1).toNat * 6)) = some (.int .i64 ((rd_T73 l1 x5_1).f0)) ∧ w'.cell? ⟨(ad195.add ((x5_1).toNat * 6)).block, (ad195.add ((x5_1).toNat * 6)).off + 1, none⟩ = some (.int .i64 ((rd_T73 l1 x5_1).f1)) ∧ w'.cell? ⟨(ad195.add ((x5_1).toNat * 6)).block, (ad195.add ((x5_1).toNat * 6)).off + 2, none⟩ = some (.int .i64 ((rd_T73 l1 x5_1).f2)) ∧ w'.cell? ⟨(ad195.add ((x5_1).toNat * 6)).block, (ad195.add ((x5_1).toNat * 6)).off + 3, none⟩ = some (.int .i64 ((rd_T73 l1 x5_1).f3)) ∧ w'.cell? ⟨(ad195.add ((x5_1).toNat * 6)).block, (ad195.add ((x5_1).toNat * 6)).off + 4, none⟩ = some (.bool ((rd_T73 l1 x5_1).f4)) ∧ w'.cell? ⟨(ad195.add ((x5_1).toNat * 6)).block, (ad195.add ((x5_1).toNat * 6)).off + 5, none⟩ = some (.slice A195_5 ((rd_T73 l1 x5_1).f5).length c195_5)) (ds := []) (fB 14 0) (by kernel_rfl) rfl rfl ⟨(bC BK194.out 0).trans rfl, (bC BK194.out 1).trans rfl, (bC BK194.out 2).trans rfl, (bC BK194.out 3).trans rfl, (bC BK194.out 4).trans rfl, (zh HB.out hw195_0), (zh HB.out hw195_1), (zh HB.out hw195_2), (zh HB.out hw195_3), (zh HB.out hw195_4), (zh HB.out hw195_5)⟩ (fun hHeld => ?_); refine with_tabW spec_l6Some.tab4 spec_l6Some.bits4 (fun HT_ HW_ => ?_)
          generalize wr.drew = w23 at BK194 HB HR195_5 hx195_0 hx195_1 hx195_2 hx195_3 hx195_4 hx195_5 hHeld ⊢
          refine pY 0 15 (fB 14 1) HT_.out ?_
          refine pY 1 16 (fB 14 3) HT_.out ?_
          refine pY 2 17 (fB 14 7) HT_.out ?_
          refine pY 3 18 (fB 14 15) HT_.out ?_
          refine pY 5 20 (fB 14 47) HT_.out ?_
          refine tY 4 19 (fB 14 63) HT_.out HW_.out hHeld ?_
          refine tY 6 21 (fB 14 127) HT_.out HW_.out hHeld ?_
          refine join_ (σ := Nat) 2 #[true, true, true, true, true, true, true, true, true, true, true, true, false, false] (fun s_ => [(22, .tuple #[.agg #[.string t196, .bool true, .int .i64 t198, .string t199], .bool true]), (6, .pointer (some ⟨s_, 0, none⟩)), (14, .tuple #[.agg #[.string t196, .bool true, .int .i64 t198, .string t199], .bool true]), (23, .agg #[.string t196, .bool true, .int .i64 t198, .string t199]), (24, .bool true)]) (fun s_ w' => (w'.cell? ⟨gb194, 0, none⟩ = some (.int .i64 a0_0) ∧ w'.cell? ⟨gb194, 1, none⟩ = some (.int .i64 a0_1) ∧ w'.cell? ⟨gb194, 2, none⟩ = some (.string a0_2) ∧ w'.cell? ⟨gb194, 3, none⟩ = some (.string a0_3) ∧ w'.cell? ⟨gb194, 4, none⟩ = some (.slice A0_4 l0_4.length c0_4) ∧ w'.cell? (ad195.add ((x5_1).toNat * 6)) = some (.int .i64 ((rd_T73 l1 x5_1).f0)) ∧ w'.cell? ⟨(ad195.add ((x5_1).toNat * 6)).block, (ad195.add ((x5_1).toNat * 6)).off + 1, none⟩ = some (.int .i64 ((rd_T73 l1 x5_1).f1)) ∧ w'.cell? ⟨(ad195.add ((x5_1).toNat * 6)).block, (ad195.add ((x5_1).toNat * 6)).off + 2, none⟩ = some (.int .i64 ((rd_T73 l1 x5_1).f2)) ∧ w'.cell? ⟨(ad195.add ((x5_1).toNat * 6)).block, (ad195.add ((x5_1).toNat * 6)).off + 3, none⟩ = some (.int .i64 ((rd_T73 l1 x5_1).f3)) ∧ w'.cell? ⟨(ad195.add ((x5_1).toNat * 6)).block, (ad195.add ((x5_1).toNat * 6)).off + 4, none⟩ = some (.bool ((rd_T73 l1 x5_1).f4)) ∧ w'.cell? ⟨(ad195.add ((x5_1).toNat * 6)).block, (ad195.add ((x5_1).toNat * 6)).off + 5, none⟩ = some (.slice A195_5 ((rd_T73 l1 x5_1).f5).length c195_5)) ∧ (w'.heap[gb194]? = some (.cells #[.int .i64 a0_0, .int .i64 a0_1, .string a0_2, .string a0_3, .slice A0_4 l0_4.length c0_4] 29 (0, 0))) ∧ (w'.heap[s_]? = some (.cells #[.string (⟨#[]⟩ : ByteArray), .bool false, .int .i64 0, .string (⟨#[]⟩ : ByteArray)] 83 (0, 0))) ∧ (w.heap.size ≤ s_) ∧ (w.heap.size ≤ s_) ∧ (gb194 ≠ s_) ∧ (s_ ≠ gb194) ∧ (Below w.heap.size w w')) ?_ ?_
          rotate_left
          ·intro hCont
           refine two_ (i := 7) (j := 11) (Ni := some 22) (Nj := some 6) #[true, true, true, true, true, true, true, true, false, false, false, false, false, false] #[true, true, true, true, true, true, true, false, false, false, false, true, false, false] rfl rfl rfl rfl (two_of HT_.out (by kernel_rfl)) (by decide) (by decide) (fun K hK => ?_) (fun K hK => ?_)
           ·skip
            refine gS Try.func86 #[.slice A195_5 ((rd_T73 l1 x5_1).f5).length c195_5, .string a0_2] ?_
            with_reducible refine (spec_FindAttr.calls k1 _ _ ((rd_T73 l1 x5_1).f5) a0_2 t196 true t198 t199 true _ ?side1 ?side2 A6.out).mono ?_
            (case side1 => exact zC (Kd.C_below HR195_5.out HB.out))
            (case side2 => exact HC195_5.out)
            rintro e w24 ⟨rfl, hb⟩
            refine ⟨_, rfl, ?_⟩
            replace BK194 := zBB BK194 hb; replace HB := zLB (zL1 HB.out GE194.out) hb
            clear hb
            refine hK.out _ _ ⟨(bC BK194.out 0).trans rfl, (bC BK194.out 1).trans rfl, (bC BK194.out 2).trans rfl, (bC BK194.out 3).trans rfl, (bC BK194.out 4).trans rfl, (zh HB.out hw195_0), (zh HB.out hw195_1), (zh HB.out hw195_2), (zh HB.out hw195_3), (zh HB.out hw195_4), (zh HB.out hw195_5)⟩ fun hHeld => ?_; clear hK K
            refine nZ 22 ?_
            refine pY 8 14 (fB 14 511) HT_.out ?_
            refine pY 9 23 (fB 14 1023) HT_.out ?_
            refine pY 10 24 (fB 14 2047) HT_.out ?_
            refine oN 11 6 (fB 14 4095) HT_.out fun K hK => ?_
            refine box_step ?hg (N := 6) ?hd (cs := #[.string (⟨#[]⟩ : ByteArray), .bool false, .int .i64 0, .string (⟨#[]⟩ : ByteArray)]) (t := 83) ?hr ?_; (case hd => rfl); (case hg => rfl); (case hr => first | (go_simp; done) | (go_simp; rfl))
            intro gb201 hg w25 hbox hb
            have BK201 := Aside0.mk hbox; have GW201 := Aside0.mk (zg (zL1 HB.out GE194.out) hg : w.heap.size ≤ gb201); have GE201 := GW201; replace HB := zLB (zL1 HB.out GE194.out) hb; have NB194_201 := Aside0.mk (zN BK194.out hg : gb194 ≠ gb201); have NB201_194 := Aside0.mk (zM BK194.out hg : gb201 ≠ gb194); replace BK194 := zBB BK194 hb
            clear hb hbox hg
            refine hK.out _ _ ⟨(bC BK194.out 0).trans rfl, (bC BK194.out 1).trans rfl, (bC BK194.out 2).trans rfl, (bC BK194.out 3).trans rfl, (bC BK194.out 4).trans rfl, (zh HB.out hw195_0), (zh HB.out hw195_1), (zh HB.out hw195_2), (zh HB.out hw195_3), (zh HB.out hw195_4), (zh HB.out hw195_5)⟩ fun hHeld => ?_; clear hK K
            refine nZ 6 ?_
            exact norm_ (by simp only [putAll, Act.put, List.setIfInBounds_toArray, List.set_cons_zero, List.set_cons_succ]) (hCont (gb201) _ ⟨hHeld, (zB BK194.out), (zB BK201.out), GW201.out, GE201.out, NB194_201.out, NB201_194.out, (zL2 HB.out GE194.out GE201.out)⟩)
           ·skip
            refine box_step ?hg (N := 6) ?hd (cs := #[.string (⟨#[]⟩ : ByteArray), .bool false, .int .i64 0, .string (⟨#[]⟩ : ByteArray)]) (t := 83) ?hr ?_; (case hd => rfl); (case hg => rfl); (case hr => first | (go_simp; done) | (go_simp; rfl))
            intro gb201 hg w24 hbox hb
            have BK201 := Aside0.mk hbox; have GW201 := Aside0.mk (zg (zL1 HB.out GE194.out) hg : w.heap.size ≤ gb201); have GE201 := GW201; replace HB := zLB (zL1 HB.out GE194.out) hb; have NB194_201 := Aside0.mk (zN BK194.out hg : gb194 ≠ gb201); have NB201_194 := Aside0.mk (zM BK194.out hg : gb201 ≠ gb194); replace BK194 := zBB BK194 hb
            clear hb hbox hg
            refine hK.out _ _ ⟨(bC BK194.out 0).trans rfl, (bC BK194.out 1).trans rfl, (bC BK194.out 2).trans rfl, (bC BK194.out 3).trans rfl, (bC BK194.out 4).trans rfl, (zh HB.out hw195_0), (zh HB.out hw195_1), (zh HB.out hw195_2), (zh HB.out hw195_3), (zh HB.out hw195_4), (zh HB.out hw195_5)⟩ fun hHeld => ?_; clear hK K
            refine nZ 6 ?_
            refine oN 7 22 (fB 14 2303) HT_.out fun K hK => ?_
            refine gS Try.func86 #[.slice A195_5 ((rd_T73 l1 x5_1).f5).length c195_5, .string a0_2] ?_
            with_reducible refine (spec_FindAttr.calls k1 _ _ ((rd_T73 l1 x5_1).f5) a0_2 t196 true t198 t199 true _ ?side1 ?side2 A6.out).mono ?_
            (case side1 => exact zC (Kd.C_below HR195_5.out HB.out))
            (case side2 => exact HC195_5.out)
            rintro e w25 ⟨rfl, hb⟩
            refine ⟨_, rfl, ?_⟩
            replace BK194 := zBB BK194 hb; replace BK201 := zBB BK201 hb; replace HB := zLB (zL2 HB.out GE194.out GE201.out) hb
            clear hb
            refine hK.out _ _ ⟨(bC BK194.out 0).trans rfl, (bC BK194.out 1).trans rfl, (bC BK194.out 2).trans rfl, (bC BK194.out 3).trans rfl, (bC BK194.out 4).trans rfl, (zh HB.out hw195_0), (zh HB.out hw195_1), (zh HB.out hw195_2), (zh HB.out hw195_3), (zh HB.out hw195_4), (zh HB.out hw195_5)⟩ fun hHeld => ?_; clear hK K
            refine nZ 22 ?_
            refine pY 8 14 (fB 14 2559) HT_.out ?_
            refine pY 9 23 (fB 14 3071) HT_.out ?_
            refine pY 10 24 (fB 14 4095) HT_.out ?_
            exact norm_ (by simp only [putAll, Act.put, List.setIfInBounds_toArray, List.set_cons_zero, List.set_cons_succ]) (hCont (gb201) _ ⟨hHeld, (zB BK194.out), (zB BK201.out), GW201.out, GE201.out, NB194_201.out, NB201_194.out, (zL2 HB.out GE194.out GE201.out)⟩)
          rintro gb201 w26 ⟨hS_, h0_, h1_, h2_, h3_, h4_, h5_, h6_⟩
          have n0_ : Aside0 (w26.heap[gb194]? = some (.cells #[.int .i64 a0_0, .int .i64 a0_1, .string a0_2, .string a0_3, .slice A0_4 l0_4.length c0_4] 29 (0, 0))) := ⟨h0_⟩
          have n1_ : Aside0 (w26.heap[gb201]? = some (.cells #[.string (⟨#[]⟩ : ByteArray), .bool false, .int .i64 0, .string (⟨#[]⟩ : ByteArray)] 83 (0, 0))) := ⟨h1_⟩
          have n2_ : Aside0 (w.heap.size ≤ gb201) := ⟨h2_⟩
          have n3_ : Aside0 (w.heap.size ≤ gb201) := ⟨h3_⟩
          have n4_ : Aside0 (gb194 ≠ gb201) := ⟨h4_⟩
          have n5_ : Aside0 (gb201 ≠ gb194) := ⟨h5_⟩
          have n6_ : Aside0 (Below w.heap.size w w26) := ⟨h6_⟩
          clear BK194
          clear HB
          clear h0_ h1_ h2_ h3_ h4_ h5_ h6_
          have BK194 := n0_
          have BK201 := n1_
          have GW201 := n2_
          have GE201 := n3_
          have NB194_201 := n4_
          have NB201_194 := n5_
          have HB := n6_
          clear n0_ n1_ n2_ n3_ n4_ n5_ n6_
          have hHeld : w26.cell? ⟨gb194, 0, none⟩ = some (.int .i64 a0_0) ∧ w26.cell? ⟨gb194, 1, none⟩ = some (.int .i64 a0_1) ∧ w26.cell? ⟨gb194, 2, none⟩ = some (.string a0_2) ∧ w26.cell? ⟨gb194, 3, none⟩ = some (.string a0_3) ∧ w26.cell? ⟨gb194, 4, none⟩ = some (.slice A0_4 l0_4.length c0_4) ∧ w26.cell? (ad195.add ((x5_1).toNat * 6)) = some (.int .i64 ((rd_T73 l1 x5_1).f0)) ∧ w26.cell? ⟨(ad195.add ((x5_1).toNat * 6)).block, (ad195.add ((x5_1).toNat * 6)).off + 1, none⟩ = some (.int .i64 ((rd_T73 l1 x5_1).f1)) ∧ w26.cell? ⟨(ad195.add ((x5_1).toNat * 6)).block, (ad195.add ((x5_1).toNat * 6)).off + 2, none⟩ = some (.int .i64 ((rd_T73 l1 x5_1).f2)) ∧ w26.cell? ⟨(ad195.add ((x5_1).toNat * 6)).block, (ad195.add ((x5_1).toNat * 6)).off + 3, none⟩ = some (.int .i64 ((rd_T73 l1 x5_1).f3)) ∧ w26.cell? ⟨(ad195.add ((x5_1).toNat * 6)).block, (ad195.add ((x5_1).toNat * 6)).off + 4, none⟩ = some (.bool ((rd_T73 l1 x5_1).f4)) ∧ w26.cell? ⟨(ad195.add ((x5_1).toNat * 6)).block, (ad195.add ((x5_1).toNat * 6)).off + 5, none⟩ = some (.slice A195_5 ((rd_T73 l1 x5_1).f5).length c195_5) := hS_
          refine norm_ (a' := ?_) ?_ ?_
          rotate_left
          ·simp only [putAll, Act.put, List.setIfInBounds_toArray, List.set_cons_zero, List.set_cons_succ]
           rfl
          refine one_ (i := 12) (N := none) (fB 14 8191) rfl rfl (one_of HT_.out (by kernel_rfl)) (by decide) (fun K hK => ?_)
          have hs27 : w26.cell? ⟨gb201, 0, none⟩ = some (.string (⟨#[]⟩ : ByteArray)) := (bC BK201.out 0).trans rfl
          have hfs27 := blk_frozen BK201.out 0
          have hns27_0 := NB194_201.out
          have hms27_0 := NB201_194.out
          have hs28 : w26.cell? ⟨gb201, 1, none⟩ = some (.bool false) := (bC BK201.out 1).trans rfl
          have hfs28 := blk_frozen BK201.out 1
          have hns28_0 := NB194_201.out
          have hms28_0 := NB201_194.out
          have hs29 : w26.cell? ⟨gb201, 2, none⟩ = some (.int .i64 0) := (bC BK201.out 2).trans rfl
          have hfs29 := blk_frozen BK201.out 2
          have hns29_0 := NB194_201.out
          have hms29_0 := NB201_194.out
          have hs30 : w26.cell? ⟨gb201, 3, none⟩ = some (.string (⟨#[]⟩ : ByteArray)) := (bC BK201.out 3).trans rfl
          have hfs30 := blk_frozen BK201.out 3
          have hns30_0 := NB194_201.out
          have hms30_0 := NB201_194.out
          refine skip_ (w1 := ?_) (by rfl) rfl ?_ ?_
          rotate_left
          ·go_simp
           rfl
          refine hK.out _ _ ⟨zcf4 NB194_201.out hHeld.1, zcf4 NB194_201.out hHeld.2.1, zcf4 NB194_201.out hHeld.2.2.1, zcf4 NB194_201.out hHeld.2.2.2.1, zcf4 NB194_201.out hHeld.2.2.2.2.1, zcg4 (zhn hw195_0 GW201.out) hHeld.2.2.2.2.2.1, zcg4 (zhn hw195_1 GW201.out) hHeld.2.2.2.2.2.2.1, zcg4 (zhn hw195_2 GW201.out) hHeld.2.2.2.2.2.2.2.1, zcg4 (zhn hw195_3 GW201.out) hHeld.2.2.2.2.2.2.2.2.1, zcg4 (zhn hw195_4 GW201.out) hHeld.2.2.2.2.2.2.2.2.2.1, zcg4 (zhn hw195_5 GW201.out) hHeld.2.2.2.2.2.2.2.2.2.2⟩ fun hHeld => ?_; clear hK K
          refine pY 13 7 (fB 14 16383) HT_.out ?_
          refine done_ (done_of HT_.out (by kernel_rfl)) ?_
          have hnb31 := NB194_201.out
          have hnc31 := NB201_194.out
          have hcz32 := zc5 BK194.out
          have hfz32 := zf5 BK194.out
          have hcz33_0 : w26.cell? ⟨gb201, 0, none⟩ = some (.string (⟨#[]⟩ : ByteArray)) := (bC BK201.out 0).trans rfl
          have hcz33_1 : w26.cell? ⟨gb201, 1, none⟩ = some (.bool false) := (bC BK201.out 1).trans rfl
          have hcz33_2 : w26.cell? ⟨gb201, 2, none⟩ = some (.int .i64 0) := (bC BK201.out 2).trans rfl
          have hcz33_3 : w26.cell? ⟨gb201, 3, none⟩ = some (.string (⟨#[]⟩ : ByteArray)) := (bC BK201.out 3).trans rfl
          have hfz33 := zf4 BK201.out
          try go_wp2
          go_roundg k1
          case measure => have := HK1.out; omega
          case rel => exact ⟨(wrap64 (x5_1 + 1)), zV, H', ⟨by have := HK1.out; omega⟩, ⟨by refine zB ?_; refine zr4 ?_ NB194_201.out; exact zB BK194.out⟩, ⟨zL2 HB.out GE194.out GE201.out⟩⟩
        ·rw [if_neg c10] at H
         obtain ⟨c10b0, c10b1⟩ := zf c10
         have H' := Aside0.mk H
         clear H
         try go_wp2
         replace BK194 := zBD BK194; replace HB := zLD HB
         have p195 : 0 ≤ (x5_1 : Int) := zD
         have q195 : x5_1 < (l1.length : Int) := zD
         obtain ⟨ad195, A195_5, c195_5, e195, hx195_0, hx195_1, hx195_2, hx195_3, hx195_4, hx195_5, hl195_5, hi195_5⟩ := at_T73 HR1.out x5_1 p195 q195
         have hw195_5 := hx195_5
         have hw195_4 := hx195_4
         have hw195_3 := hx195_3
         have hw195_2 := hx195_2
         have hw195_1 := hx195_1
         have hw195_0 := hx195_0
         cases e195
         replace hx195_0 := zh HB.out hx195_0
         replace hx195_1 := zh HB.out hx195_1
         replace hx195_2 := zh HB.out hx195_2
         replace hx195_3 := zh HB.out hx195_3
         replace hx195_4 := zh HB.out hx195_4
         replace hx195_5 := zh HB.out hx195_5
         have HR195_5 := Aside0.mk hi195_5
         have HC195_5 := Aside0.mk hl195_5
         clear hi195_5 hl195_5
         replace p195 := eq_true p195
         replace q195 := eq_true q195
         refine start_ (n := 14) (S := fun w' => w'.cell? ⟨gb194, 0, none⟩ = some (.int .i64 a0_0) ∧ w'.cell? ⟨gb194, 1, none⟩ = some (.int .i64 a0_1) ∧ w'.cell? ⟨gb194, 2, none⟩ = some (.string a0_2) ∧ w'.cell? ⟨gb194, 3, none⟩ = some (.string a0_3) ∧ w'.cell? ⟨gb194, 4, none⟩ = some (.slice A0_4 l0_4.length c0_4) ∧ w'.cell? (ad195.add ((x5_1).toNat * 6)) = some (.int .i64 ((rd_T73 l1 x5_1).f0)) ∧ w'.cell? ⟨(ad195.add ((x5_1).toNat * 6)).block, (ad195.add ((x5_1).toNat * 6)).off + 1, none⟩ = some (.int .i64 ((rd_T73 l1 x5_1).f1)) ∧ w'.cell? ⟨(ad195.add ((x5_1).toNat * 6)).block, (ad195.add ((x5_1).toNat * 6)).off + 2, none⟩ = some (.int .i64 ((rd_T73 l1 x5_1).f2)) ∧ w'.cell? ⟨(ad195.add ((x5_1).toNat * 6)).block, (ad195.add ((x5_1).toNat * 6)).off + 3, none⟩ = some (.int .i64 ((rd_T73 l1 x5_1).f3)) ∧ w'.cell? ⟨(ad195.add ((x5_1).toNat * 6)).block, (ad195.add ((x5_1).toNat * 6)).off + 4, none⟩ = some (.bool ((rd_T73 l1 x5_1).f4)) ∧ w'.cell? ⟨(ad195.add ((x5_1).toNat * 6)).block, (ad195.add ((x5_1).toNat * 6)).off + 5, none⟩ = some (.slice A195_5 ((rd_T73 l1 x5_1).f5).length c195_5)) (ds := []) (fB 14 0) (by kernel_rfl) rfl rfl ⟨(bC BK194.out 0).trans rfl, (bC BK194.out 1).trans rfl, (bC BK194.out 2).trans rfl, (bC BK194.out 3).trans rfl, (bC BK194.out 4).trans rfl, (zh HB.out hw195_0), (zh HB.out hw195_1), (zh HB.out hw195_2), (zh HB.out hw195_3), (zh HB.out hw195_4), (zh HB.out hw195_5)⟩ (fun hHeld => ?_); refine with_tabW spec_l6Some.tab4 spec_l6Some.bits4 (fun HT_ HW_ => ?_)
         generalize wr.drew = w34 at BK194 HB HR195_5 hx195_0 hx195_1 hx195_2 hx195_3 hx195_4 hx195_5 hHeld ⊢
         refine pY 0 15 (fB 14 1) HT_.out ?_
         refine pY 1 16 (fB 14 3) HT_.out ?_
         refine pY 2 17 (fB 14 7) HT_.out ?_
         refine pY 3 18 (fB 14 15) HT_.out ?_
         refine pY 5 20 (fB 14 47) HT_.out ?_
         refine tY 4 19 (fB 14 63) HT_.out HW_.out hHeld ?_
         refine tY 6 21 (fB 14 127) HT_.out HW_.out hHeld ?_
         refine join_ (σ := Nat) 2 #[true, true, true, true, true, true, true, true, true, true, true, true, false, false] (fun s_ => [(22, .tuple #[.agg #[.string t196, .bool true, .int .i64 t198, .string t199], .bool true]), (6, .pointer (some ⟨s_, 0, none⟩)), (14, .tuple #[.agg #[.string t196, .bool true, .int .i64 t198, .string t199], .bool true]), (23, .agg #[.string t196, .bool true, .int .i64 t198, .string t199]), (24, .bool true)]) (fun s_ w' => (w'.cell? ⟨gb194, 0, none⟩ = some (.int .i64 a0_0) ∧ w'.cell? ⟨gb194, 1, none⟩ = some (.int .i64 a0_1) ∧ w'.cell? ⟨gb194, 2, none⟩ = some (.string a0_2) ∧ w'.cell? ⟨gb194, 3, none⟩ = some (.string a0_3) ∧ w'.cell? ⟨gb194, 4, none⟩ = some (.slice A0_4 l0_4.length c0_4) ∧ w'.cell? (ad195.add ((x5_1).toNat * 6)) = some (.int .i64 ((rd_T73 l1 x5_1).f0)) ∧ w'.cell? ⟨(ad195.add ((x5_1).toNat * 6)).block, (ad195.add ((x5_1).toNat * 6)).off + 1, none⟩ = some (.int .i64 ((rd_T73 l1 x5_1).f1)) ∧ w'.cell? ⟨(ad195.add ((x5_1).toNat * 6)).block, (ad195.add ((x5_1).toNat * 6)).off + 2, none⟩ = some (.int .i64 ((rd_T73 l1 x5_1).f2)) ∧ w'.cell? ⟨(ad195.add ((x5_1).toNat * 6)).block, (ad195.add ((x5_1).toNat * 6)).off + 3, none⟩ = some (.int .i64 ((rd_T73 l1 x5_1).f3)) ∧ w'.cell? ⟨(ad195.add ((x5_1).toNat * 6)).block, (ad195.add ((x5_1).toNat * 6)).off + 4, none⟩ = some (.bool ((rd_T73 l1 x5_1).f4)) ∧ w'.cell? ⟨(ad195.add ((x5_1).toNat * 6)).block, (ad195.add ((x5_1).toNat * 6)).off + 5, none⟩ = some (.slice A195_5 ((rd_T73 l1 x5_1).f5).length c195_5)) ∧ (w'.heap[gb194]? = some (.cells #[.int .i64 a0_0, .int .i64 a0_1, .string a0_2, .string a0_3, .slice A0_4 l0_4.length c0_4] 29 (0, 0))) ∧ (w'.heap[s_]? = some (.cells #[.string (⟨#[]⟩ : ByteArray), .bool false, .int .i64 0, .string (⟨#[]⟩ : ByteArray)] 83 (0, 0))) ∧ (w.heap.size ≤ s_) ∧ (w.heap.size ≤ s_) ∧ (gb194 ≠ s_) ∧ (s_ ≠ gb194) ∧ (Below w.heap.size w w')) ?_ ?_
         rotate_left
         ·intro hCont
          refine two_ (i := 7) (j := 11) (Ni := some 22) (Nj := some 6) #[true, true, true, true, true, true, true, true, false, false, false, false, false, false] #[true, true, true, true, true, true, true, false, false, false, false, true, false, false] rfl rfl rfl rfl (two_of HT_.out (by kernel_rfl)) (by decide) (by decide) (fun K hK => ?_) (fun K hK => ?_)
          ·skip
           refine gS Try.func86 #[.slice A195_5 ((rd_T73 l1 x5_1).f5).length c195_5, .string a0_2] ?_
           with_reducible refine (spec_FindAttr.calls k1 _ _ ((rd_T73 l1 x5_1).f5) a0_2 t196 true t198 t199 true _ ?side1 ?side2 A6.out).mono ?_
           (case side1 => exact zC (Kd.C_below HR195_5.out HB.out))
           (case side2 => exact HC195_5.out)
           rintro e w35 ⟨rfl, hb⟩
           refine ⟨_, rfl, ?_⟩
           replace BK194 := zBB BK194 hb; replace HB := zLB (zL1 HB.out GE194.out) hb
           clear hb
           refine hK.out _ _ ⟨(bC BK194.out 0).trans rfl, (bC BK194.out 1).trans rfl, (bC BK194.out 2).trans rfl, (bC BK194.out 3).trans rfl, (bC BK194.out 4).trans rfl, (zh HB.out hw195_0), (zh HB.out hw195_1), (zh HB.out hw195_2), (zh HB.out hw195_3), (zh HB.out hw195_4), (zh HB.out hw195_5)⟩ fun hHeld => ?_; clear hK K
           refine nZ 22 ?_
           refine pY 8 14 (fB 14 511) HT_.out ?_
           refine pY 9 23 (fB 14 1023) HT_.out ?_
           refine pY 10 24 (fB 14 2047) HT_.out ?_
           refine oN 11 6 (fB 14 4095) HT_.out fun K hK => ?_
           refine box_step ?hg (N := 6) ?hd (cs := #[.string (⟨#[]⟩ : ByteArray), .bool false, .int .i64 0, .string (⟨#[]⟩ : ByteArray)]) (t := 83) ?hr ?_; (case hd => rfl); (case hg => rfl); (case hr => first | (go_simp; done) | (go_simp; rfl))
           intro gb201 hg w36 hbox hb
           have BK201 := Aside0.mk hbox; have GW201 := Aside0.mk (zg (zL1 HB.out GE194.out) hg : w.heap.size ≤ gb201); have GE201 := GW201; replace HB := zLB (zL1 HB.out GE194.out) hb; have NB194_201 := Aside0.mk (zN BK194.out hg : gb194 ≠ gb201); have NB201_194 := Aside0.mk (zM BK194.out hg : gb201 ≠ gb194); replace BK194 := zBB BK194 hb
           clear hb hbox hg
           refine hK.out _ _ ⟨(bC BK194.out 0).trans rfl, (bC BK194.out 1).trans rfl, (bC BK194.out 2).trans rfl, (bC BK194.out 3).trans rfl, (bC BK194.out 4).trans rfl, (zh HB.out hw195_0), (zh HB.out hw195_1), (zh HB.out hw195_2), (zh HB.out hw195_3), (zh HB.out hw195_4), (zh HB.out hw195_5)⟩ fun hHeld => ?_; clear hK K
           refine nZ 6 ?_
           exact norm_ (by simp only [putAll, Act.put, List.setIfInBounds_toArray, List.set_cons_zero, List.set_cons_succ]) (hCont (gb201) _ ⟨hHeld, (zB BK194.out), (zB BK201.out), GW201.out, GE201.out, NB194_201.out, NB201_194.out, (zL2 HB.out GE194.out GE201.out)⟩)
          ·skip
           refine box_step ?hg (N := 6) ?hd (cs := #[.string (⟨#[]⟩ : ByteArray), .bool false, .int .i64 0, .string (⟨#[]⟩ : ByteArray)]) (t := 83) ?hr ?_; (case hd => rfl); (case hg => rfl); (case hr => first | (go_simp; done) | (go_simp; rfl))
           intro gb201 hg w35 hbox hb
           have BK201 := Aside0.mk hbox; have GW201 := Aside0.mk (zg (zL1 HB.out GE194.out) hg : w.heap.size ≤ gb201); have GE201 := GW201; replace HB := zLB (zL1 HB.out GE194.out) hb; have NB194_201 := Aside0.mk (zN BK194.out hg : gb194 ≠ gb201); have NB201_194 := Aside0.mk (zM BK194.out hg : gb201 ≠ gb194); replace BK194 := zBB BK194 hb
           clear hb hbox hg
           refine hK.out _ _ ⟨(bC BK194.out 0).trans rfl, (bC BK194.out 1).trans rfl, (bC BK194.out 2).trans rfl, (bC BK194.out 3).trans rfl, (bC BK194.out 4).trans rfl, (zh HB.out hw195_0), (zh HB.out hw195_1), (zh HB.out hw195_2), (zh HB.out hw195_3), (zh HB.out hw195_4), (zh HB.out hw195_5)⟩ fun hHeld => ?_; clear hK K
           refine nZ 6 ?_
           refine oN 7 22 (fB 14 2303) HT_.out fun K hK => ?_
           refine gS Try.func86 #[.slice A195_5 ((rd_T73 l1 x5_1).f5).length c195_5, .string a0_2] ?_
           with_reducible refine (spec_FindAttr.calls k1 _ _ ((rd_T73 l1 x5_1).f5) a0_2 t196 true t198 t199 true _ ?side1 ?side2 A6.out).mono ?_
           (case side1 => exact zC (Kd.C_below HR195_5.out HB.out))
           (case side2 => exact HC195_5.out)
           rintro e w36 ⟨rfl, hb⟩
           refine ⟨_, rfl, ?_⟩
           replace BK194 := zBB BK194 hb; replace BK201 := zBB BK201 hb; replace HB := zLB (zL2 HB.out GE194.out GE201.out) hb
           clear hb
           refine hK.out _ _ ⟨(bC BK194.out 0).trans rfl, (bC BK194.out 1).trans rfl, (bC BK194.out 2).trans rfl, (bC BK194.out 3).trans rfl, (bC BK194.out 4).trans rfl, (zh HB.out hw195_0), (zh HB.out hw195_1), (zh HB.out hw195_2), (zh HB.out hw195_3), (zh HB.out hw195_4), (zh HB.out hw195_5)⟩ fun hHeld => ?_; clear hK K
           refine nZ 22 ?_
           refine pY 8 14 (fB 14 2559) HT_.out ?_
           refine pY 9 23 (fB 14 3071) HT_.out ?_
           refine pY 10 24 (fB 14 4095) HT_.out ?_
           exact norm_ (by simp only [putAll, Act.put, List.setIfInBounds_toArray, List.set_cons_zero, List.set_cons_succ]) (hCont (gb201) _ ⟨hHeld, (zB BK194.out), (zB BK201.out), GW201.out, GE201.out, NB194_201.out, NB201_194.out, (zL2 HB.out GE194.out GE201.out)⟩)
         rintro gb201 w37 ⟨hS_, h0_, h1_, h2_, h3_, h4_, h5_, h6_⟩
         have n0_ : Aside0 (w37.heap[gb194]? = some (.cells #[.int .i64 a0_0, .int .i64 a0_1, .string a0_2, .string a0_3, .slice A0_4 l0_4.length c0_4] 29 (0, 0))) := ⟨h0_⟩
         have n1_ : Aside0 (w37.heap[gb201]? = some (.cells #[.string (⟨#[]⟩ : ByteArray), .bool false, .int .i64 0, .string (⟨#[]⟩ : ByteArray)] 83 (0, 0))) := ⟨h1_⟩
         have n2_ : Aside0 (w.heap.size ≤ gb201) := ⟨h2_⟩
         have n3_ : Aside0 (w.heap.size ≤ gb201) := ⟨h3_⟩
         have n4_ : Aside0 (gb194 ≠ gb201) := ⟨h4_⟩
         have n5_ : Aside0 (gb201 ≠ gb194) := ⟨h5_⟩
         have n6_ : Aside0 (Below w.heap.size w w37) := ⟨h6_⟩
         clear BK194
         clear HB
         clear h0_ h1_ h2_ h3_ h4_ h5_ h6_
         have BK194 := n0_
         have BK201 := n1_
         have GW201 := n2_
         have GE201 := n3_
         have NB194_201 := n4_
         have NB201_194 := n5_
         have HB := n6_
         clear n0_ n1_ n2_ n3_ n4_ n5_ n6_
         have hHeld : w37.cell? ⟨gb194, 0, none⟩ = some (.int .i64 a0_0) ∧ w37.cell? ⟨gb194, 1, none⟩ = some (.int .i64 a0_1) ∧ w37.cell? ⟨gb194, 2, none⟩ = some (.string a0_2) ∧ w37.cell? ⟨gb194, 3, none⟩ = some (.string a0_3) ∧ w37.cell? ⟨gb194, 4, none⟩ = some (.slice A0_4 l0_4.length c0_4) ∧ w37.cell? (ad195.add ((x5_1).toNat * 6)) = some (.int .i64 ((rd_T73 l1 x5_1).f0)) ∧ w37.cell? ⟨(ad195.add ((x5_1).toNat * 6)).block, (ad195.add ((x5_1).toNat * 6)).off + 1, none⟩ = some (.int .i64 ((rd_T73 l1 x5_1).f1)) ∧ w37.cell? ⟨(ad195.add ((x5_1).toNat * 6)).block, (ad195.add ((x5_1).toNat * 6)).off + 2, none⟩ = some (.int .i64 ((rd_T73 l1 x5_1).f2)) ∧ w37.cell? ⟨(ad195.add ((x5_1).toNat * 6)).block, (ad195.add ((x5_1).toNat * 6)).off + 3, none⟩ = some (.int .i64 ((rd_T73 l1 x5_1).f3)) ∧ w37.cell? ⟨(ad195.add ((x5_1).toNat * 6)).block, (ad195.add ((x5_1).toNat * 6)).off + 4, none⟩ = some (.bool ((rd_T73 l1 x5_1).f4)) ∧ w37.cell? ⟨(ad195.add ((x5_1).toNat * 6)).block, (ad195.add ((x5_1).toNat * 6)).off + 5, none⟩ = some (.slice A195_5 ((rd_T73 l1 x5_1).f5).length c195_5) := hS_
         refine norm_ (a' := ?_) ?_ ?_
         rotate_left
         ·simp only [putAll, Act.put, List.setIfInBounds_toArray, List.set_cons_zero, List.set_cons_succ]
          rfl
         refine one_ (i := 12) (N := none) (fB 14 8191) rfl rfl (one_of HT_.out (by kernel_rfl)) (by decide) (fun K hK => ?_)
         have hs38 : w37.cell? ⟨gb201, 0, none⟩ = some (.string (⟨#[]⟩ : ByteArray)) := (bC BK201.out 0).trans rfl
         have hfs38 := blk_frozen BK201.out 0
         have hns38_0 := NB194_201.out
         have hms38_0 := NB201_194.out
         have hs39 : w37.cell? ⟨gb201, 1, none⟩ = some (.bool false) := (bC BK201.out 1).trans rfl
         have hfs39 := blk_frozen BK201.out 1
         have hns39_0 := NB194_201.out
         have hms39_0 := NB201_194.out
         have hs40 : w37.cell? ⟨gb201, 2, none⟩ = some (.int .i64 0) := (bC BK201.out 2).trans rfl
         have hfs40 := blk_frozen BK201.out 2
         have hns40_0 := NB194_201.out
         have hms40_0 := NB201_194.out
         have hs41 : w37.cell? ⟨gb201, 3, none⟩ = some (.string (⟨#[]⟩ : ByteArray)) := (bC BK201.out 3).trans rfl
         have hfs41 := blk_frozen BK201.out 3
         have hns41_0 := NB194_201.out
         have hms41_0 := NB201_194.out
         refine skip_ (w1 := ?_) (by rfl) rfl ?_ ?_
         rotate_left
         ·go_simp
          rfl
         refine hK.out _ _ ⟨zcf4 NB194_201.out hHeld.1, zcf4 NB194_201.out hHeld.2.1, zcf4 NB194_201.out hHeld.2.2.1, zcf4 NB194_201.out hHeld.2.2.2.1, zcf4 NB194_201.out hHeld.2.2.2.2.1, zcg4 (zhn hw195_0 GW201.out) hHeld.2.2.2.2.2.1, zcg4 (zhn hw195_1 GW201.out) hHeld.2.2.2.2.2.2.1, zcg4 (zhn hw195_2 GW201.out) hHeld.2.2.2.2.2.2.2.1, zcg4 (zhn hw195_3 GW201.out) hHeld.2.2.2.2.2.2.2.2.1, zcg4 (zhn hw195_4 GW201.out) hHeld.2.2.2.2.2.2.2.2.2.1, zcg4 (zhn hw195_5 GW201.out) hHeld.2.2.2.2.2.2.2.2.2.2⟩ fun hHeld => ?_; clear hK K
         refine pY 13 7 (fB 14 16383) HT_.out ?_
         refine done_ (done_of HT_.out (by kernel_rfl)) ?_
         have hnb42 := NB194_201.out
         have hnc42 := NB201_194.out
         have hcz43 := zc5 BK194.out
         have hfz43 := zf5 BK194.out
         have hcz44_0 : w37.cell? ⟨gb201, 0, none⟩ = some (.string (⟨#[]⟩ : ByteArray)) := (bC BK201.out 0).trans rfl
         have hcz44_1 : w37.cell? ⟨gb201, 1, none⟩ = some (.bool false) := (bC BK201.out 1).trans rfl
         have hcz44_2 : w37.cell? ⟨gb201, 2, none⟩ = some (.int .i64 0) := (bC BK201.out 2).trans rfl
         have hcz44_3 : w37.cell? ⟨gb201, 3, none⟩ = some (.string (⟨#[]⟩ : ByteArray)) := (bC BK201.out 3).trans rfl
         have hfz44 := zf4 BK201.out
         try go_wp2
         go_roundg k1
         case measure => have := HK1.out; omega
         case rel => exact ⟨(wrap64 (x5_1 + 1)), zV, H', ⟨by have := HK1.out; omega⟩, ⟨by refine zB ?_; refine zr4 ?_ NB194_201.out; exact zB BK194.out⟩, ⟨zL2 HB.out GE194.out GE201.out⟩⟩
       ·obtain rfl := Bool.eq_false_iff.mpr c9
        rw [if_neg zn] at H
        by_cases c45 : t199.toList = a0_3.toList
        ·rw [if_pos c45] at H
         obtain ⟨c45b0, c45b1⟩ := zt c45
         clear c45
         obtain rfl := Option.some.inj H
         try go_wp2
         replace BK194 := zBD BK194; replace HB := zLD HB
         have p195 : 0 ≤ (x5_1 : Int) := zD
         have q195 : x5_1 < (l1.length : Int) := zD
         obtain ⟨ad195, A195_5, c195_5, e195, hx195_0, hx195_1, hx195_2, hx195_3, hx195_4, hx195_5, hl195_5, hi195_5⟩ := at_T73 HR1.out x5_1 p195 q195
         have hw195_5 := hx195_5
         have hw195_4 := hx195_4
         have hw195_3 := hx195_3
         have hw195_2 := hx195_2
         have hw195_1 := hx195_1
         have hw195_0 := hx195_0
         cases e195
         replace hx195_0 := zh HB.out hx195_0
         replace hx195_1 := zh HB.out hx195_1
         replace hx195_2 := zh HB.out hx195_2
         replace hx195_3 := zh HB.out hx195_3
         replace hx195_4 := zh HB.out hx195_4
         replace hx195_5 := zh HB.out hx195_5
         have HR195_5 := Aside0.mk hi195_5
         have HC195_5 := Aside0.mk hl195_5
         clear hi195_5 hl195_5
         replace p195 := eq_true p195
         replace q195 := eq_true q195
         refine start_ (n := 14) (S := fun w' => w'.cell? ⟨gb194, 0, none⟩ = some (.int .i64 a0_0) ∧ w'.cell? ⟨gb194, 1, none⟩ = some (.int .i64 a0_1) ∧ w'.cell? ⟨gb194, 2, none⟩ = some (.string a0_2) ∧ w'.cell? ⟨gb194, 3, none⟩ = some (.string a0_3) ∧ w'.cell? ⟨gb194, 4, none⟩ = some (.slice A0_4 l0_4.length c0_4) ∧ w'.cell? (ad195.add ((x5_1).toNat * 6)) = some (.int .i64 ((rd_T73 l1 x5_1).f0)) ∧ w'.cell? ⟨(ad195.add ((x5_1).toNat * 6)).block, (ad195.add ((x5_1).toNat * 6)).off + 1, none⟩ = some (.int .i64 ((rd_T73 l1 x5_1).f1)) ∧ w'.cell? ⟨(ad195.add ((x5_1).toNat * 6)).block, (ad195.add ((x5_1).toNat * 6)).off + 2, none⟩ = some (.int .i64 ((rd_T73 l1 x5_1).f2)) ∧ w'.cell? ⟨(ad195.add ((x5_1).toNat * 6)).block, (ad195.add ((x5_1).toNat * 6)).off + 3, none⟩ = some (.int .i64 ((rd_T73 l1 x5_1).f3)) ∧ w'.cell? ⟨(ad195.add ((x5_1).toNat * 6)).block, (ad195.add ((x5_1).toNat * 6)).off + 4, none⟩ = some (.bool ((rd_T73 l1 x5_1).f4)) ∧ w'.cell? ⟨(ad195.add ((x5_1).toNat * 6)).block, (ad195.add ((x5_1).toNat * 6)).off + 5, none⟩ = some (.slice A195_5 ((rd_T73 l1 x5_1).f5).length c195_5)) (ds := []) (fB 14 0) (by kernel_rfl) rfl rfl ⟨(bC BK194.out 0).trans rfl, (bC BK194.out 1).trans rfl, (bC BK194.out 2).trans rfl, (bC BK194.out 3).trans rfl, (bC BK194.out 4).trans rfl, (zh HB.out hw195_0), (zh HB.out hw195_1), (zh HB.out hw195_2), (zh HB.out hw195_3), (zh HB.out hw195_4), (zh HB.out hw195_5)⟩ (fun hHeld => ?_); refine with_tabW spec_l6Some.tab4 spec_l6Some.bits4 (fun HT_ HW_ => ?_)
         generalize wr.drew = w46 at BK194 HB HR195_5 hx195_0 hx195_1 hx195_2 hx195_3 hx195_4 hx195_5 hHeld ⊢
         refine pY 0 15 (fB 14 1) HT_.out ?_
         refine pY 1 16 (fB 14 3) HT_.out ?_
         refine pY 2 17 (fB 14 7) HT_.out ?_
         refine pY 3 18 (fB 14 15) HT_.out ?_
         refine pY 5 20 (fB 14 47) HT_.out ?_
         refine tY 4 19 (fB 14 63) HT_.out HW_.out hHeld ?_
         refine tY 6 21 (fB 14 127) HT_.out HW_.out hHeld ?_
         refine join_ (σ := Nat) 2 #[true, true, true, true, true, true, true, true, true, true, true, true, false, false] (fun s_ => [(22, .tuple #[.agg #[.string t196, .bool false, .int .i64 t198, .string t199], .bool true]), (6, .pointer (some ⟨s_, 0, none⟩)), (14, .tuple #[.agg #[.string t196, .bool false, .int .i64 t198, .string t199], .bool true]), (23, .agg #[.string t196, .bool false, .int .i64 t198, .string t199]), (24, .bool true)]) (fun s_ w' => (w'.cell? ⟨gb194, 0, none⟩ = some (.int .i64 a0_0) ∧ w'.cell? ⟨gb194, 1, none⟩ = some (.int .i64 a0_1) ∧ w'.cell? ⟨gb194, 2, none⟩ = some (.string a0_2) ∧ w'.cell? ⟨gb194, 3, none⟩ = some (.string a0_3) ∧ w'.cell? ⟨gb194, 4, none⟩ = some (.slice A0_4 l0_4.length c0_4) ∧ w'.cell? (ad195.add ((x5_1).toNat * 6)) = some (.int .i64 ((rd_T73 l1 x5_1).f0)) ∧ w'.cell? ⟨(ad195.add ((x5_1).toNat * 6)).block, (ad195.add ((x5_1).toNat * 6)).off + 1, none⟩ = some (.int .i64 ((rd_T73 l1 x5_1).f1)) ∧ w'.cell? ⟨(ad195.add ((x5_1).toNat * 6)).block, (ad195.add ((x5_1).toNat * 6)).off + 2, none⟩ = some (.int .i64 ((rd_T73 l1 x5_1).f2)) ∧ w'.cell? ⟨(ad195.add ((x5_1).toNat * 6)).block, (ad195.add ((x5_1).toNat * 6)).off + 3, none⟩ = some (.int .i64 ((rd_T73 l1 x5_1).f3)) ∧ w'.cell? ⟨(ad195.add ((x5_1).toNat * 6)).block, (ad195.add ((x5_1).toNat * 6)).off + 4, none⟩ = some (.bool ((rd_T73 l1 x5_1).f4)) ∧ w'.cell? ⟨(ad195.add ((x5_1).toNat * 6)).block, (ad195.add ((x5_1).toNat * 6)).off + 5, none⟩ = some (.slice A195_5 ((rd_T73 l1 x5_1).f5).length c195_5)) ∧ (w'.heap[gb194]? = some (.cells #[.int .i64 a0_0, .int .i64 a0_1, .string a0_2, .string a0_3, .slice A0_4 l0_4.length c0_4] 29 (0, 0))) ∧ (w'.heap[s_]? = some (.cells #[.string (⟨#[]⟩ : ByteArray), .bool false, .int .i64 0, .string (⟨#[]⟩ : ByteArray)] 83 (0, 0))) ∧ (w.heap.size ≤ s_) ∧ (w.heap.size ≤ s_) ∧ (gb194 ≠ s_) ∧ (s_ ≠ gb194) ∧ (Below w.heap.size w w')) ?_ ?_
         rotate_left
         ·intro hCont
          refine two_ (i := 7) (j := 11) (Ni := some 22) (Nj := some 6) #[true, true, true, true, true, true, true, true, false, false, false, false, false, false] #[true, true, true, true, true, true, true, false, false, false, false, true, false, false] rfl rfl rfl rfl (two_of HT_.out (by kernel_rfl)) (by decide) (by decide) (fun K hK => ?_) (fun K hK => ?_)
          ·skip
           refine gS Try.func86 #[.slice A195_5 ((rd_T73 l1 x5_1).f5).length c195_5, .string a0_2] ?_
           with_reducible refine (spec_FindAttr.calls k1 _ _ ((rd_T73 l1 x5_1).f5) a0_2 t196 false t198 t199 true _ ?side1 ?side2 A6.out).mono ?_
           (case side1 => exact zC (Kd.C_below HR195_5.out HB.out))
           (case side2 => exact HC195_5.out)
           rintro e w47 ⟨rfl, hb⟩
           refine ⟨_, rfl, ?_⟩
           replace BK194 := zBB BK194 hb; replace HB := zLB (zL1 HB.out GE194.out) hb
           clear hb
           refine hK.out _ _ ⟨(bC BK194.out 0).trans rfl, (bC BK194.out 1).trans rfl, (bC BK194.out 2).trans rfl, (bC BK194.out 3).trans rfl, (bC BK194.out 4).trans rfl, (zh HB.out hw195_0), (zh HB.out hw195_1), (zh HB.out hw195_2), (zh HB.out hw195_3), (zh HB.out hw195_4), (zh HB.out hw195_5)⟩ fun hHeld => ?_; clear hK K
           refine nZ 22 ?_
           refine pY 8 14 (fB 14 511) HT_.out ?_
           refine pY 9 23 (fB 14 1023) HT_.out ?_
           refine pY 10 24 (fB 14 2047) HT_.out ?_
           refine oN 11 6 (fB 14 4095) HT_.out fun K hK => ?_
           refine box_step ?hg (N := 6) ?hd (cs := #[.string (⟨#[]⟩ : ByteArray), .bool false, .int .i64 0, .string (⟨#[]⟩ : ByteArray)]) (t := 83) ?hr ?_; (case hd => rfl); (case hg => rfl); (case hr => first | (go_simp; done) | (go_simp; rfl))
           intro gb201 hg w48 hbox hb
           have BK201 := Aside0.mk hbox; have GW201 := Aside0.mk (zg (zL1 HB.out GE194.out) hg : w.heap.size ≤ gb201); have GE201 := GW201; replace HB := zLB (zL1 HB.out GE194.out) hb; have NB194_201 := Aside0.mk (zN BK194.out hg : gb194 ≠ gb201); have NB201_194 := Aside0.mk (zM BK194.out hg : gb201 ≠ gb194); replace BK194 := zBB BK194 hb
           clear hb hbox hg
           refine hK.out _ _ ⟨(bC BK194.out 0).trans rfl, (bC BK194.out 1).trans rfl, (bC BK194.out 2).trans rfl, (bC BK194.out 3).trans rfl, (bC BK194.out 4).trans rfl, (zh HB.out hw195_0), (zh HB.out hw195_1), (zh HB.out hw195_2), (zh HB.out hw195_3), (zh HB.out hw195_4), (zh HB.out hw195_5)⟩ fun hHeld => ?_; clear hK K
           refine nZ 6 ?_
           exact norm_ (by simp only [putAll, Act.put, List.setIfInBounds_toArray, List.set_cons_zero, List.set_cons_succ]) (hCont (gb201) _ ⟨hHeld, (zB BK194.out), (zB BK201.out), GW201.out, GE201.out, NB194_201.out, NB201_194.out, (zL2 HB.out GE194.out GE201.out)⟩)
          ·skip
           refine box_step ?hg (N := 6) ?hd (cs := #[.string (⟨#[]⟩ : ByteArray), .bool false, .int .i64 0, .string (⟨#[]⟩ : ByteArray)]) (t := 83) ?hr ?_; (case hd => rfl); (case hg => rfl); (case hr => first | (go_simp; done) | (go_simp; rfl))
           intro gb201 hg w47 hbox hb
           have BK201 := Aside0.mk hbox; have GW201 := Aside0.mk (zg (zL1 HB.out GE194.out) hg : w.heap.size ≤ gb201); have GE201 := GW201; replace HB := zLB (zL1 HB.out GE194.out) hb; have NB194_201 := Aside0.mk (zN BK194.out hg : gb194 ≠ gb201); have NB201_194 := Aside0.mk (zM BK194.out hg : gb201 ≠ gb194); replace BK194 := zBB BK194 hb
           clear hb hbox hg
           refine hK.out _ _ ⟨(bC BK194.out 0).trans rfl, (bC BK194.out 1).trans rfl, (bC BK194.out 2).trans rfl, (bC BK194.out 3).trans rfl, (bC BK194.out 4).trans rfl, (zh HB.out hw195_0), (zh HB.out hw195_1), (zh HB.out hw195_2), (zh HB.out hw195_3), (zh HB.out hw195_4), (zh HB.out hw195_5)⟩ fun hHeld => ?_; clear hK K
           refine nZ 6 ?_
           refine oN 7 22 (fB 14 2303) HT_.out fun K hK => ?_
           refine gS Try.func86 #[.slice A195_5 ((rd_T73 l1 x5_1).f5).length c195_5, .string a0_2] ?_
           with_reducible refine (spec_FindAttr.calls k1 _ _ ((rd_T73 l1 x5_1).f5) a0_2 t196 false t198 t199 true _ ?side1 ?side2 A6.out).mono ?_
           (case side1 => exact zC (Kd.C_below HR195_5.out HB.out))
           (case side2 => exact HC195_5.out)
           rintro e w48 ⟨rfl, hb⟩
           refine ⟨_, rfl, ?_⟩
           replace BK194 := zBB BK194 hb; replace BK201 := zBB BK201 hb; replace HB := zLB (zL2 HB.out GE194.out GE201.out) hb
           clear hb
           refine hK.out _ _ ⟨(bC BK194.out 0).trans rfl, (bC BK194.out 1).trans rfl, (bC BK194.out 2).trans rfl, (bC BK194.out 3).trans rfl, (bC BK194.out 4).trans rfl, (zh HB.out hw195_0), (zh HB.out hw195_1), (zh HB.out hw195_2), (zh HB.out hw195_3), (zh HB.out hw195_4), (zh HB.out hw195_5)⟩ fun hHeld => ?_; clear hK K
           refine nZ 22 ?_
           refine pY 8 14 (fB 14 2559) HT_.out ?_
           refine pY 9 23 (fB 14 3071) HT_.out ?_
           refine pY 10 24 (fB 14 4095) HT_.out ?_
           exact norm_ (by simp only [putAll, Act.put, List.setIfInBounds_toArray, List.set_cons_zero, List.set_cons_succ]) (hCont (gb201) _ ⟨hHeld, (zB BK194.out), (zB BK201.out), GW201.out, GE201.out, NB194_201.out, NB201_194.out, (zL2 HB.out GE194.out GE201.out)⟩)
         rintro gb201 w49 ⟨hS_, h0_, h1_, h2_, h3_, h4_, h5_, h6_⟩
         have n0_ : Aside0 (w49.heap[gb194]? = some (.cells #[.int .i64 a0_0, .int .i64 a0_1, .string a0_2, .string a0_3, .slice A0_4 l0_4.length c0_4] 29 (0, 0))) := ⟨h0_⟩
         have n1_ : Aside0 (w49.heap[gb201]? = some (.cells #[.string (⟨#[]⟩ : ByteArray), .bool false, .int .i64 0, .string (⟨#[]⟩ : ByteArray)] 83 (0, 0))) := ⟨h1_⟩
         have n2_ : Aside0 (w.heap.size ≤ gb201) := ⟨h2_⟩
         have n3_ : Aside0 (w.heap.size ≤ gb201) := ⟨h3_⟩
         have n4_ : Aside0 (gb194 ≠ gb201) := ⟨h4_⟩
         have n5_ : Aside0 (gb201 ≠ gb194) := ⟨h5_⟩
         have n6_ : Aside0 (Below w.heap.size w w49) := ⟨h6_⟩
         clear BK194
         clear HB
         clear h0_ h1_ h2_ h3_ h4_ h5_ h6_
         have BK194 := n0_
         have BK201 := n1_
         have GW201 := n2_
         have GE201 := n3_
         have NB194_201 := n4_
         have NB201_194 := n5_
         have HB := n6_
         clear n0_ n1_ n2_ n3_ n4_ n5_ n6_
         have hHeld : w49.cell? ⟨gb194, 0, none⟩ = some (.int .i64 a0_0) ∧ w49.cell? ⟨gb194, 1, none⟩ = some (.int .i64 a0_1) ∧ w49.cell? ⟨gb194, 2, none⟩ = some (.string a0_2) ∧ w49.cell? ⟨gb194, 3, none⟩ = some (.string a0_3) ∧ w49.cell? ⟨gb194, 4, none⟩ = some (.slice A0_4 l0_4.length c0_4) ∧ w49.cell? (ad195.add ((x5_1).toNat * 6)) = some (.int .i64 ((rd_T73 l1 x5_1).f0)) ∧ w49.cell? ⟨(ad195.add ((x5_1).toNat * 6)).block, (ad195.add ((x5_1).toNat * 6)).off + 1, none⟩ = some (.int .i64 ((rd_T73 l1 x5_1).f1)) ∧ w49.cell? ⟨(ad195.add ((x5_1).toNat * 6)).block, (ad195.add ((x5_1).toNat * 6)).off + 2, none⟩ = some (.int .i64 ((rd_T73 l1 x5_1).f2)) ∧ w49.cell? ⟨(ad195.add ((x5_1).toNat * 6)).block, (ad195.add ((x5_1).toNat * 6)).off + 3, none⟩ = some (.int .i64 ((rd_T73 l1 x5_1).f3)) ∧ w49.cell? ⟨(ad195.add ((x5_1).toNat * 6)).block, (ad195.add ((x5_1).toNat * 6)).off + 4, none⟩ = some (.bool ((rd_T73 l1 x5_1).f4)) ∧ w49.cell? ⟨(ad195.add ((x5_1).toNat * 6)).block, (ad195.add ((x5_1).toNat * 6)).off + 5, none⟩ = some (.slice A195_5 ((rd_T73 l1 x5_1).f5).length c195_5) := hS_
         refine norm_ (a' := ?_) ?_ ?_
         rotate_left
         ·simp only [putAll, Act.put, List.setIfInBounds_toArray, List.set_cons_zero, List.set_cons_succ]
          rfl
         refine one_ (i := 12) (N := none) (fB 14 8191) rfl rfl (one_of HT_.out (by kernel_rfl)) (by decide) (fun K hK => ?_)
         have hs50 : w49.cell? ⟨gb201, 0, none⟩ = some (.string (⟨#[]⟩ : ByteArray)) := (bC BK201.out 0).trans rfl
         have hfs50 := blk_frozen BK201.out 0
         have hns50_0 := NB194_201.out
         have hms50_0 := NB201_194.out
         have hs51 : w49.cell? ⟨gb201, 1, none⟩ = some (.bool false) := (bC BK201.out 1).trans rfl
         have hfs51 := blk_frozen BK201.out 1
         have hns51_0 := NB194_201.out
         have hms51_0 := NB201_194.out
         have hs52 : w49.cell? ⟨gb201, 2, none⟩ = some (.int .i64 0) := (bC BK201.out 2).trans rfl
         have hfs52 := blk_frozen BK201.out 2
         have hns52_0 := NB194_201.out
         have hms52_0 := NB201_194.out
         have hs53 : w49.cell? ⟨gb201, 3, none⟩ = some (.string (⟨#[]⟩ : ByteArray)) := (bC BK201.out 3).trans rfl
         have hfs53 := blk_frozen BK201.out 3
         have hns53_0 := NB194_201.out
         have hms53_0 := NB201_194.out
         refine skip_ (w1 := ?_) (by rfl) rfl ?_ ?_
         rotate_left
         ·go_simp
          rfl
         refine hK.out _ _ ⟨zcf4 NB194_201.out hHeld.1, zcf4 NB194_201.out hHeld.2.1, zcf4 NB194_201.out hHeld.2.2.1, zcf4 NB194_201.out hHeld.2.2.2.1, zcf4 NB194_201.out hHeld.2.2.2.2.1, zcg4 (zhn hw195_0 GW201.out) hHeld.2.2.2.2.2.1, zcg4 (zhn hw195_1 GW201.out) hHeld.2.2.2.2.2.2.1, zcg4 (zhn hw195_2 GW201.out) hHeld.2.2.2.2.2.2.2.1, zcg4 (zhn hw195_3 GW201.out) hHeld.2.2.2.2.2.2.2.2.1, zcg4 (zhn hw195_4 GW201.out) hHeld.2.2.2.2.2.2.2.2.2.1, zcg4 (zhn hw195_5 GW201.out) hHeld.2.2.2.2.2.2.2.2.2.2⟩ fun hHeld => ?_; clear hK K
         refine pY 13 7 (fB 14 16383) HT_.out ?_
         refine done_ (done_of HT_.out (by kernel_rfl)) ?_
         have hnb54 := NB194_201.out
         have hnc54 := NB201_194.out
         have hcz55 := zc5 BK194.out
         have hfz55 := zf5 BK194.out
         have hcz56_0 : w49.cell? ⟨gb201, 0, none⟩ = some (.string (⟨#[]⟩ : ByteArray)) := (bC BK201.out 0).trans rfl
         have hcz56_1 : w49.cell? ⟨gb201, 1, none⟩ = some (.bool false) := (bC BK201.out 1).trans rfl
         have hcz56_2 : w49.cell? ⟨gb201, 2, none⟩ = some (.int .i64 0) := (bC BK201.out 2).trans rfl
         have hcz56_3 : w49.cell? ⟨gb201, 3, none⟩ = some (.string (⟨#[]⟩ : ByteArray)) := (bC BK201.out 3).trans rfl
         have hfz56 := zf4 BK201.out
         try go_wp2
         go_ret
         exact ⟨zW, zL2 HB.out GE194.out GE201.out⟩
        ·rw [if_neg c45] at H
         obtain ⟨c45b0, c45b1⟩ := zf c45
         by_cases c57 : a0_0 = 5
         ·rw [if_pos c57] at H
          obtain ⟨c57b0, c57b1⟩ := zt c57
          clear c57
          have H' := Aside0.mk H
          clear H
          try go_wp2
          replace BK194 := zBD BK194; replace HB := zLD HB
          have p195 : 0 ≤ (x5_1 : Int) := zD
          have q195 : x5_1 < (l1.length : Int) := zD
          obtain ⟨ad195, A195_5, c195_5, e195, hx195_0, hx195_1, hx195_2, hx195_3, hx195_4, hx195_5, hl195_5, hi195_5⟩ := at_T73 HR1.out x5_1 p195 q195
          have hw195_5 := hx195_5
          have hw195_4 := hx195_4
          have hw195_3 := hx195_3
          have hw195_2 := hx195_2
          have hw195_1 := hx195_1
          have hw195_0 := hx195_0
          cases e195
          replace hx195_0 := zh HB.out hx195_0
          replace hx195_1 := zh HB.out hx195_1
          replace hx195_2 := zh HB.out hx195_2
          replace hx195_3 := zh HB.out hx195_3
          replace hx195_4 := zh HB.out hx195_4
          replace hx195_5 := zh HB.out hx195_5
          have HR195_5 := Aside0.mk hi195_5
          have HC195_5 := Aside0.mk hl195_5
          clear hi195_5 hl195_5
          replace p195 := eq_true p195
          replace q195 := eq_true q195
          refine start_ (n := 14) (S := fun w' => w'.cell? ⟨gb194, 0, none⟩ = some (.int .i64 a0_0) ∧ w'.cell? ⟨gb194, 1, none⟩ = some (.int .i64 a0_1) ∧ w'.cell? ⟨gb194, 2, none⟩ = some (.string a0_2) ∧ w'.cell? ⟨gb194, 3, none⟩ = some (.string a0_3) ∧ w'.cell? ⟨gb194, 4, none⟩ = some (.slice A0_4 l0_4.length c0_4) ∧ w'.cell? (ad195.add ((x5_1).toNat * 6)) = some (.int .i64 ((rd_T73 l1 x5_1).f0)) ∧ w'.cell? ⟨(ad195.add ((x5_1).toNat * 6)).block, (ad195.add ((x5_1).toNat * 6)).off + 1, none⟩ = some (.int .i64 ((rd_T73 l1 x5_1).f1)) ∧ w'.cell? ⟨(ad195.add ((x5_1).toNat * 6)).block, (ad195.add ((x5_1).toNat * 6)).off + 2, none⟩ = some (.int .i64 ((rd_T73 l1 x5_1).f2)) ∧ w'.cell? ⟨(ad195.add ((x5_1).toNat * 6)).block, (ad195.add ((x5_1).toNat * 6)).off + 3, none⟩ = some (.int .i64 ((rd_T73 l1 x5_1).f3)) ∧ w'.cell? ⟨(ad195.add ((x5_1).toNat * 6)).block, (ad195.add ((x5_1).toNat * 6)).off + 4, none⟩ = some (.bool ((rd_T73 l1 x5_1).f4)) ∧ w'.cell? ⟨(ad195.add ((x5_1).toNat * 6)).block, (ad195.add ((x5_1).toNat * 6)).off + 5, none⟩ = some (.slice A195_5 ((rd_T73 l1 x5_1).f5).length c195_5)) (ds := []) (fB 14 0) (by kernel_rfl) rfl rfl ⟨(bC BK194.out 0).trans rfl, (bC BK194.out 1).trans rfl, (bC BK194.out 2).trans rfl, (bC BK194.out 3).trans rfl, (bC BK194.out 4).trans rfl, (zh HB.out hw195_0), (zh HB.out hw195_1), (zh HB.out hw195_2), (zh HB.out hw195_3), (zh HB.out hw195_4), (zh HB.out hw195_5)⟩ (fun hHeld => ?_); refine with_tabW spec_l6Some.tab4 spec_l6Some.bits4 (fun HT_ HW_ => ?_)
          generalize wr.drew = w58 at BK194 HB HR195_5 hx195_0 hx195_1 hx195_2 hx195_3 hx195_4 hx195_5 hHeld ⊢
          refine pY 0 15 (fB 14 1) HT_.out ?_
          refine pY 1 16 (fB 14 3) HT_.out ?_
          refine pY 2 17 (fB 14 7) HT_.out ?_
          refine pY 3 18 (fB 14 15) HT_.out ?_
          refine pY 5 20 (fB 14 47) HT_.out ?_
          refine tY 4 19 (fB 14 63) HT_.out HW_.out hHeld ?_
          refine tY 6 21 (fB 14 127) HT_.out HW_.out hHeld ?_
          refine join_ (σ := Nat) 2 #[true, true, true, true, true, true, true, true, true, true, true, true, false, false] (fun s_ => [(22, .tuple #[.agg #[.string t196, .bool false, .int .i64 t198, .string t199], .bool true]), (6, .pointer (some ⟨s_, 0, none⟩)), (14, .tuple #[.agg #[.string t196, .bool false, .int .i64 t198, .string t199], .bool true]), (23, .agg #[.string t196, .bool false, .int .i64 t198, .string t199]), (24, .bool true)]) (fun s_ w' => (w'.cell? ⟨gb194, 0, none⟩ = some (.int .i64 a0_0) ∧ w'.cell? ⟨gb194, 1, none⟩ = some (.int .i64 a0_1) ∧ w'.cell? ⟨gb194, 2, none⟩ = some (.string a0_2) ∧ w'.cell? ⟨gb194, 3, none⟩ = some (.string a0_3) ∧ w'.cell? ⟨gb194, 4, none⟩ = some (.slice A0_4 l0_4.length c0_4) ∧ w'.cell? (ad195.add ((x5_1).toNat * 6)) = some (.int .i64 ((rd_T73 l1 x5_1).f0)) ∧ w'.cell? ⟨(ad195.add ((x5_1).toNat * 6)).block, (ad195.add ((x5_1).toNat * 6)).off + 1, none⟩ = some (.int .i64 ((rd_T73 l1 x5_1).f1)) ∧ w'.cell? ⟨(ad195.add ((x5_1).toNat * 6)).block, (ad195.add ((x5_1).toNat * 6)).off + 2, none⟩ = some (.int .i64 ((rd_T73 l1 x5_1).f2)) ∧ w'.cell? ⟨(ad195.add ((x5_1).toNat * 6)).block, (ad195.add ((x5_1).toNat * 6)).off + 3, none⟩ = some (.int .i64 ((rd_T73 l1 x5_1).f3)) ∧ w'.cell? ⟨(ad195.add ((x5_1).toNat * 6)).block, (ad195.add ((x5_1).toNat * 6)).off + 4, none⟩ = some (.bool ((rd_T73 l1 x5_1).f4)) ∧ w'.cell? ⟨(ad195.add ((x5_1).toNat * 6)).block, (ad195.add ((x5_1).toNat * 6)).off + 5, none⟩ = some (.slice A195_5 ((rd_T73 l1 x5_1).f5).length c195_5)) ∧ (w'.heap[gb194]? = some (.cells #[.int .i64 a0_0, .int .i64 a0_1, .string a0_2, .string a0_3, .slice A0_4 l0_4.length c0_4] 29 (0, 0))) ∧ (w'.heap[s_]? = some (.cells #[.string (⟨#[]⟩ : ByteArray), .bool false, .int .i64 0, .string (⟨#[]⟩ : ByteArray)] 83 (0, 0))) ∧ (w.heap.size ≤ s_) ∧ (w.heap.size ≤ s_) ∧ (gb194 ≠ s_) ∧ (s_ ≠ gb194) ∧ (Below w.heap.size w w')) ?_ ?_
          rotate_left
          ·intro hCont
           refine two_ (i := 7) (j := 11) (Ni := some 22) (Nj := some 6) #[true, true, true, true, true, true, true, true, false, false, false, false, false, false] #[true, true, true, true, true, true, true, false, false, false, false, true, false, false] rfl rfl rfl rfl (two_of HT_.out (by kernel_rfl)) (by decide) (by decide) (fun K hK => ?_) (fun K hK => ?_)
           ·skip
            refine gS Try.func86 #[.slice A195_5 ((rd_T73 l1 x5_1).f5).length c195_5, .string a0_2] ?_
            with_reducible refine (spec_FindAttr.calls k1 _ _ ((rd_T73 l1 x5_1).f5) a0_2 t196 false t198 t199 true _ ?side1 ?side2 A6.out).mono ?_
            (case side1 => exact zC (Kd.C_below HR195_5.out HB.out))
            (case side2 => exact HC195_5.out)
            rintro e w59 ⟨rfl, hb⟩
            refine ⟨_, rfl, ?_⟩
            replace BK194 := zBB BK194 hb; replace HB := zLB (zL1 HB.out GE194.out) hb
            clear hb
            refine hK.out _ _ ⟨(bC BK194.out 0).trans rfl, (bC BK194.out 1).trans rfl, (bC BK194.out 2).trans rfl, (bC BK194.out 3).trans rfl, (bC BK194.out 4).trans rfl, (zh HB.out hw195_0), (zh HB.out hw195_1), (zh HB.out hw195_2), (zh HB.out hw195_3), (zh HB.out hw195_4), (zh HB.out hw195_5)⟩ fun hHeld => ?_; clear hK K
            refine nZ 22 ?_
            refine pY 8 14 (fB 14 511) HT_.out ?_
            refine pY 9 23 (fB 14 1023) HT_.out ?_
            refine pY 10 24 (fB 14 2047) HT_.out ?_
            refine oN 11 6 (fB 14 4095) HT_.out fun K hK => ?_
            refine box_step ?hg (N := 6) ?hd (cs := #[.string (⟨#[]⟩ : ByteArray), .bool false, .int .i64 0, .string (⟨#[]⟩ : ByteArray)]) (t := 83) ?hr ?_; (case hd => rfl); (case hg => rfl); (case hr => first | (go_simp; done) | (go_simp; rfl))
            intro gb201 hg w60 hbox hb
            have BK201 := Aside0.mk hbox; have GW201 := Aside0.mk (zg (zL1 HB.out GE194.out) hg : w.heap.size ≤ gb201); have GE201 := GW201; replace HB := zLB (zL1 HB.out GE194.out) hb; have NB194_201 := Aside0.mk (zN BK194.out hg : gb194 ≠ gb201); have NB201_194 := Aside0.mk (zM BK194.out hg : gb201 ≠ gb194); replace BK194 := zBB BK194 hb
            clear hb hbox hg
            refine hK.out _ _ ⟨(bC BK194.out 0).trans rfl, (bC BK194.out 1).trans rfl, (bC BK194.out 2).trans rfl, (bC BK194.out 3).trans rfl, (bC BK194.out 4).trans rfl, (zh HB.out hw195_0), (zh HB.out hw195_1), (zh HB.out hw195_2), (zh HB.out hw195_3), (zh HB.out hw195_4), (zh HB.out hw195_5)⟩ fun hHeld => ?_; clear hK K
            refine nZ 6 ?_
            exact norm_ (by simp only [putAll, Act.put, List.setIfInBounds_toArray, List.set_cons_zero, List.set_cons_succ]) (hCont (gb201) _ ⟨hHeld, (zB BK194.out), (zB BK201.out), GW201.out, GE201.out, NB194_201.out, NB201_194.out, (zL2 HB.out GE194.out GE201.out)⟩)
           ·skip
            refine box_step ?hg (N := 6) ?hd (cs := #[.string (⟨#[]⟩ : ByteArray), .bool false, .int .i64 0, .string (⟨#[]⟩ : ByteArray)]) (t := 83) ?hr ?_; (case hd => rfl); (case hg => rfl); (case hr => first | (go_simp; done) | (go_simp; rfl))
            intro gb201 hg w59 hbox hb
            have BK201 := Aside0.mk hbox; have GW201 := Aside0.mk (zg (zL1 HB.out GE194.out) hg : w.heap.size ≤ gb201); have GE201 := GW201; replace HB := zLB (zL1 HB.out GE194.out) hb; have NB194_201 := Aside0.mk (zN BK194.out hg : gb194 ≠ gb201); have NB201_194 := Aside0.mk (zM BK194.out hg : gb201 ≠ gb194); replace BK194 := zBB BK194 hb
            clear hb hbox hg
            refine hK.out _ _ ⟨(bC BK194.out 0).trans rfl, (bC BK194.out 1).trans rfl, (bC BK194.out 2).trans rfl, (bC BK194.out 3).trans rfl, (bC BK194.out 4).trans rfl, (zh HB.out hw195_0), (zh HB.out hw195_1), (zh HB.out hw195_2), (zh HB.out hw195_3), (zh HB.out hw195_4), (zh HB.out hw195_5)⟩ fun hHeld => ?_; clear hK K
            refine nZ 6 ?_
            refine oN 7 22 (fB 14 2303) HT_.out fun K hK => ?_
            refine gS Try.func86 #[.slice A195_5 ((rd_T73 l1 x5_1).f5).length c195_5, .string a0_2] ?_
            with_reducible refine (spec_FindAttr.calls k1 _ _ ((rd_T73 l1 x5_1).f5) a0_2 t196 false t198 t199 true _ ?side1 ?side2 A6.out).mono ?_
            (case side1 => exact zC (Kd.C_below HR195_5.out HB.out))
            (case side2 => exact HC195_5.out)
            rintro e w60 ⟨rfl, hb⟩
            refine ⟨_, rfl, ?_⟩
            replace BK194 := zBB BK194 hb; replace BK201 := zBB BK201 hb; replace HB := zLB (zL2 HB.out GE194.out GE201.out) hb
            clear hb
            refine hK.out _ _ ⟨(bC BK194.out 0).trans rfl, (bC BK194.out 1).trans rfl, (bC BK194.out 2).trans rfl, (bC BK194.out 3).trans rfl, (bC BK194.out 4).trans rfl, (zh HB.out hw195_0), (zh HB.out hw195_1), (zh HB.out hw195_2), (zh HB.out hw195_3), (zh HB.out hw195_4), (zh HB.out hw195_5)⟩ fun hHeld => ?_; clear hK K
            refine nZ 22 ?_
            refine pY 8 14 (fB 14 2559) HT_.out ?_
            refine pY 9 23 (fB 14 3071) HT_.out ?_
            refine pY 10 24 (fB 14 4095) HT_.out ?_
            exact norm_ (by simp only [putAll, Act.put, List.setIfInBounds_toArray, List.set_cons_zero, List.set_cons_succ]) (hCont (gb201) _ ⟨hHeld, (zB BK194.out), (zB BK201.out), GW201.out, GE201.out, NB194_201.out, NB201_194.out, (zL2 HB.out GE194.out GE201.out)⟩)
          rintro gb201 w61 ⟨hS_, h0_, h1_, h2_, h3_, h4_, h5_, h6_⟩
          have n0_ : Aside0 (w61.heap[gb194]? = some (.cells #[.int .i64 a0_0, .int .i64 a0_1, .string a0_2, .string a0_3, .slice A0_4 l0_4.length c0_4] 29 (0, 0))) := ⟨h0_⟩
          have n1_ : Aside0 (w61.heap[gb201]? = some (.cells #[.string (⟨#[]⟩ : ByteArray), .bool false, .int .i64 0, .string (⟨#[]⟩ : ByteArray)] 83 (0, 0))) := ⟨h1_⟩
          have n2_ : Aside0 (w.heap.size ≤ gb201) := ⟨h2_⟩
          have n3_ : Aside0 (w.heap.size ≤ gb201) := ⟨h3_⟩
          have n4_ : Aside0 (gb194 ≠ gb201) := ⟨h4_⟩
          have n5_ : Aside0 (gb201 ≠ gb194) := ⟨h5_⟩
          have n6_ : Aside0 (Below w.heap.size w w61) := ⟨h6_⟩
          clear BK194
          clear HB
          clear h0_ h1_ h2_ h3_ h4_ h5_ h6_
          have BK194 := n0_
          have BK201 := n1_
          have GW201 := n2_
          have GE201 := n3_
          have NB194_201 := n4_
          have NB201_194 := n5_
          have HB := n6_
          clear n0_ n1_ n2_ n3_ n4_ n5_ n6_
          have hHeld : w61.cell? ⟨gb194, 0, none⟩ = some (.int .i64 a0_0) ∧ w61.cell? ⟨gb194, 1, none⟩ = some (.int .i64 a0_1) ∧ w61.cell? ⟨gb194, 2, none⟩ = some (.string a0_2) ∧ w61.cell? ⟨gb194, 3, none⟩ = some (.string a0_3) ∧ w61.cell? ⟨gb194, 4, none⟩ = some (.slice A0_4 l0_4.length c0_4) ∧ w61.cell? (ad195.add ((x5_1).toNat * 6)) = some (.int .i64 ((rd_T73 l1 x5_1).f0)) ∧ w61.cell? ⟨(ad195.add ((x5_1).toNat * 6)).block, (ad195.add ((x5_1).toNat * 6)).off + 1, none⟩ = some (.int .i64 ((rd_T73 l1 x5_1).f1)) ∧ w61.cell? ⟨(ad195.add ((x5_1).toNat * 6)).block, (ad195.add ((x5_1).toNat * 6)).off + 2, none⟩ = some (.int .i64 ((rd_T73 l1 x5_1).f2)) ∧ w61.cell? ⟨(ad195.add ((x5_1).toNat * 6)).block, (ad195.add ((x5_1).toNat * 6)).off + 3, none⟩ = some (.int .i64 ((rd_T73 l1 x5_1).f3)) ∧ w61.cell? ⟨(ad195.add ((x5_1).toNat * 6)).block, (ad195.add ((x5_1).toNat * 6)).off + 4, none⟩ = some (.bool ((rd_T73 l1 x5_1).f4)) ∧ w61.cell? ⟨(ad195.add ((x5_1).toNat * 6)).block, (ad195.add ((x5_1).toNat * 6)).off + 5, none⟩ = some (.slice A195_5 ((rd_T73 l1 x5_1).f5).length c195_5) := hS_
          refine norm_ (a' := ?_) ?_ ?_
          rotate_left
          ·simp only [putAll, Act.put, List.setIfInBounds_toArray, List.set_cons_zero, List.set_cons_succ]
           rfl
          refine one_ (i := 12) (N := none) (fB 14 8191) rfl rfl (one_of HT_.out (by kernel_rfl)) (by decide) (fun K hK => ?_)
          have hs62 : w61.cell? ⟨gb201, 0, none⟩ = some (.string (⟨#[]⟩ : ByteArray)) := (bC BK201.out 0).trans rfl
          have hfs62 := blk_frozen BK201.out 0
          have hns62_0 := NB194_201.out
          have hms62_0 := NB201_194.out
          have hs63 : w61.cell? ⟨gb201, 1, none⟩ = some (.bool false) := (bC BK201.out 1).trans rfl
          have hfs63 := blk_frozen BK201.out 1
          have hns63_0 := NB194_201.out
          have hms63_0 := NB201_194.out
          have hs64 : w61.cell? ⟨gb201, 2, none⟩ = some (.int .i64 0) := (bC BK201.out 2).trans rfl
          have hfs64 := blk_frozen BK201.out 2
          have hns64_0 := NB194_201.out
          have hms64_0 := NB201_194.out
          have hs65 : w61.cell? ⟨gb201, 3, none⟩ = some (.string (⟨#[]⟩ : ByteArray)) := (bC BK201.out 3).trans rfl
          have hfs65 := blk_frozen BK201.out 3
          have hns65_0 := NB194_201.out
          have hms65_0 := NB201_194.out
          refine skip_ (w1 := ?_) (by rfl) rfl ?_ ?_
          rotate_left
          ·go_simp
           rfl
          refine hK.out _ _ ⟨zcf4 NB194_201.out hHeld.1, zcf4 NB194_201.out hHeld.2.1, zcf4 NB194_201.out hHeld.2.2.1, zcf4 NB194_201.out hHeld.2.2.2.1, zcf4 NB194_201.out hHeld.2.2.2.2.1, zcg4 (zhn hw195_0 GW201.out) hHeld.2.2.2.2.2.1, zcg4 (zhn hw195_1 GW201.out) hHeld.2.2.2.2.2.2.1, zcg4 (zhn hw195_2 GW201.out) hHeld.2.2.2.2.2.2.2.1, zcg4 (zhn hw195_3 GW201.out) hHeld.2.2.2.2.2.2.2.2.1, zcg4 (zhn hw195_4 GW201.out) hHeld.2.2.2.2.2.2.2.2.2.1, zcg4 (zhn hw195_5 GW201.out) hHeld.2.2.2.2.2.2.2.2.2.2⟩ fun hHeld => ?_; clear hK K
          refine pY 13 7 (fB 14 16383) HT_.out ?_
          refine done_ (done_of HT_.out (by kernel_rfl)) ?_
          have hnb66 := NB194_201.out
          have hnc66 := NB201_194.out
          have hcz67 := zc5 BK194.out
          have hfz67 := zf5 BK194.out
          have hcz68_0 : w61.cell? ⟨gb201, 0, none⟩ = some (.string (⟨#[]⟩ : ByteArray)) := (bC BK201.out 0).trans rfl
          have hcz68_1 : w61.cell? ⟨gb201, 1, none⟩ = some (.bool false) := (bC BK201.out 1).trans rfl
          have hcz68_2 : w61.cell? ⟨gb201, 2, none⟩ = some (.int .i64 0) := (bC BK201.out 2).trans rfl
          have hcz68_3 : w61.cell? ⟨gb201, 3, none⟩ = some (.string (⟨#[]⟩ : ByteArray)) := (bC BK201.out 3).trans rfl
          have hfz68 := zf4 BK201.out
          try go_wp2
          go_roundg k1
          case measure => have := HK1.out; omega
          case rel => exact ⟨(wrap64 (x5_1 + 1)), zV, H', ⟨by have := HK1.out; omega⟩, ⟨by refine zB ?_; refine zr4 ?_ NB194_201.out; exact zB BK194.out⟩, ⟨zL2 HB.out GE194.out GE201.out⟩⟩
         ·rw [if_neg c57] at H
          obtain ⟨c57b0, c57b1⟩ := zf c57
          have H' := Aside0.mk H
          clear H
          try go_wp2
          replace BK194 := zBD BK194; replace HB := zLD HB
          have p195 : 0 ≤ (x5_1 : Int) := zD
          have q195 : x5_1 < (l1.length : Int) := zD
          obtain ⟨ad195, A195_5, c195_5, e195, hx195_0, hx195_1, hx195_2, hx195_3, hx195_4, hx195_5, hl195_5, hi195_5⟩ := at_T73 HR1.out x5_1 p195 q195
          have hw195_5 := hx195_5
          have hw195_4 := hx195_4
          have hw195_3 := hx195_3
          have hw195_2 := hx195_2
          have hw195_1 := hx195_1
          have hw195_0 := hx195_0
          cases e195
          replace hx195_0 := zh HB.out hx195_0
          replace hx195_1 := zh HB.out hx195_1
          replace hx195_2 := zh HB.out hx195_2
          replace hx195_3 := zh HB.out hx195_3
          replace hx195_4 := zh HB.out hx195_4
          replace hx195_5 := zh HB.out hx195_5
          have HR195_5 := Aside0.mk hi195_5
          have HC195_5 := Aside0.mk hl195_5
          clear hi195_5 hl195_5
          replace p195 := eq_true p195
          replace q195 := eq_true q195
          refine start_ (n := 14) (S := fun w' => w'.cell? ⟨gb194, 0, none⟩ = some (.int .i64 a0_0) ∧ w'.cell? ⟨gb194, 1, none⟩ = some (.int .i64 a0_1) ∧ w'.cell? ⟨gb194, 2, none⟩ = some (.string a0_2) ∧ w'.cell? ⟨gb194, 3, none⟩ = some (.string a0_3) ∧ w'.cell? ⟨gb194, 4, none⟩ = some (.slice A0_4 l0_4.length c0_4) ∧ w'.cell? (ad195.add ((x5_1).toNat * 6)) = some (.int .i64 ((rd_T73 l1 x5_1).f0)) ∧ w'.cell? ⟨(ad195.add ((x5_1).toNat * 6)).block, (ad195.add ((x5_1).toNat * 6)).off + 1, none⟩ = some (.int .i64 ((rd_T73 l1 x5_1).f1)) ∧ w'.cell? ⟨(ad195.add ((x5_1).toNat * 6)).block, (ad195.add ((x5_1).toNat * 6)).off + 2, none⟩ = some (.int .i64 ((rd_T73 l1 x5_1).f2)) ∧ w'.cell? ⟨(ad195.add ((x5_1).toNat * 6)).block, (ad195.add ((x5_1).toNat * 6)).off + 3, none⟩ = some (.int .i64 ((rd_T73 l1 x5_1).f3)) ∧ w'.cell? ⟨(ad195.add ((x5_1).toNat * 6)).block, (ad195.add ((x5_1).toNat * 6)).off + 4, none⟩ = some (.bool ((rd_T73 l1 x5_1).f4)) ∧ w'.cell? ⟨(ad195.add ((x5_1).toNat * 6)).block, (ad195.add ((x5_1).toNat * 6)).off + 5, none⟩ = some (.slice A195_5 ((rd_T73 l1 x5_1).f5).length c195_5)) (ds := []) (fB 14 0) (by kernel_rfl) rfl rfl ⟨(bC BK194.out 0).trans rfl, (bC BK194.out 1).trans rfl, (bC BK194.out 2).trans rfl, (bC BK194.out 3).trans rfl, (bC BK194.out 4).trans rfl, (zh HB.out hw195_0), (zh HB.out hw195_1), (zh HB.out hw195_2), (zh HB.out hw195_3), (zh HB.out hw195_4), (zh HB.out hw195_5)⟩ (fun hHeld => ?_); refine with_tabW spec_l6Some.tab4 spec_l6Some.bits4 (fun HT_ HW_ => ?_)
          generalize wr.drew = w69 at BK194 HB HR195_5 hx195_0 hx195_1 hx195_2 hx195_3 hx195_4 hx195_5 hHeld ⊢
          refine pY 0 15 (fB 14 1) HT_.out ?_
          refine pY 1 16 (fB 14 3) HT_.out ?_
          refine pY 2 17 (fB 14 7) HT_.out ?_
          refine pY 3 18 (fB 14 15) HT_.out ?_
          refine pY 5 20 (fB 14 47) HT_.out ?_
          refine tY 4 19 (fB 14 63) HT_.out HW_.out hHeld ?_
          refine tY 6 21 (fB 14 127) HT_.out HW_.out hHeld ?_
          refine join_ (σ := Nat) 2 #[true, true, true, true, true, true, true, true, true, true, true, true, false, false] (fun s_ => [(22, .tuple #[.agg #[.string t196, .bool false, .int .i64 t198, .string t199], .bool true]), (6, .pointer (some ⟨s_, 0, none⟩)), (14, .tuple #[.agg #[.string t196, .bool false, .int .i64 t198, .string t199], .bool true]), (23, .agg #[.string t196, .bool false, .int .i64 t198, .string t199]), (24, .bool true)]) (fun s_ w' => (w'.cell? ⟨gb194, 0, none⟩ = some (.int .i64 a0_0) ∧ w'.cell? ⟨gb194, 1, none⟩ = some (.int .i64 a0_1) ∧ w'.cell? ⟨gb194, 2, none⟩ = some (.string a0_2) ∧ w'.cell? ⟨gb194, 3, none⟩ = some (.string a0_3) ∧ w'.cell? ⟨gb194, 4, none⟩ = some (.slice A0_4 l0_4.length c0_4) ∧ w'.cell? (ad195.add ((x5_1).toNat * 6)) = some (.int .i64 ((rd_T73 l1 x5_1).f0)) ∧ w'.cell? ⟨(ad195.add ((x5_1).toNat * 6)).block, (ad195.add ((x5_1).toNat * 6)).off + 1, none⟩ = some (.int .i64 ((rd_T73 l1 x5_1).f1)) ∧ w'.cell? ⟨(ad195.add ((x5_1).toNat * 6)).block, (ad195.add ((x5_1).toNat * 6)).off + 2, none⟩ = some (.int .i64 ((rd_T73 l1 x5_1).f2)) ∧ w'.cell? ⟨(ad195.add ((x5_1).toNat * 6)).block, (ad195.add ((x5_1).toNat * 6)).off + 3, none⟩ = some (.int .i64 ((rd_T73 l1 x5_1).f3)) ∧ w'.cell? ⟨(ad195.add ((x5_1).toNat * 6)).block, (ad195.add ((x5_1).toNat * 6)).off + 4, none⟩ = some (.bool ((rd_T73 l1 x5_1).f4)) ∧ w'.cell? ⟨(ad195.add ((x5_1).toNat * 6)).block, (ad195.add ((x5_1).toNat * 6)).off + 5, none⟩ = some (.slice A195_5 ((rd_T73 l1 x5_1).f5).length c195_5)) ∧ (w'.heap[gb194]? = some (.cells #[.int .i64 a0_0, .int .i64 a0_1, .string a0_2, .string a0_3, .slice A0_4 l0_4.length c0_4] 29 (0, 0))) ∧ (w'.heap[s_]? = some (.cells #[.string (⟨#[]⟩ : ByteArray), .bool false, .int .i64 0, .string (⟨#[]⟩ : ByteArray)] 83 (0, 0))) ∧ (w.heap.size ≤ s_) ∧ (w.heap.size ≤ s_) ∧ (gb194 ≠ s_) ∧ (s_ ≠ gb194) ∧ (Below w.heap.size w w')) ?_ ?_
          rotate_left
          ·intro hCont
           refine two_ (i := 7) (j := 11) (Ni := some 22) (Nj := some 6) #[true, true, true, true, true, true, true, true, false, false, false, false, false, false] #[true, true, true, true, true, true, true, false, false, false, false, true, false, false] rfl rfl rfl rfl (two_of HT_.out (by kernel_rfl)) (by decide) (by decide) (fun K hK => ?_) (fun K hK => ?_)
           ·skip
            refine gS Try.func86 #[.slice A195_5 ((rd_T73 l1 x5_1).f5).length c195_5, .string a0_2] ?_
            with_reducible refine (spec_FindAttr.calls k1 _ _ ((rd_T73 l1 x5_1).f5) a0_2 t196 false t198 t199 true _ ?side1 ?side2 A6.out).mono ?_
            (case side1 => exact zC (Kd.C_below HR195_5.out HB.out))
            (case side2 => exact HC195_5.out)
            rintro e w70 ⟨rfl, hb⟩
            refine ⟨_, rfl, ?_⟩
            replace BK194 := zBB BK194 hb; replace HB := zLB (zL1 HB.out GE194.out) hb
            clear hb
            refine hK.out _ _ ⟨(bC BK194.out 0).trans rfl, (bC BK194.out 1).trans rfl, (bC BK194.out 2).trans rfl, (bC BK194.out 3).trans rfl, (bC BK194.out 4).trans rfl, (zh HB.out hw195_0), (zh HB.out hw195_1), (zh HB.out hw195_2), (zh HB.out hw195_3), (zh HB.out hw195_4), (zh HB.out hw195_5)⟩ fun hHeld => ?_; clear hK K
            refine nZ 22 ?_
            refine pY 8 14 (fB 14 511) HT_.out ?_
            refine pY 9 23 (fB 14 1023) HT_.out ?_
            refine pY 10 24 (fB 14 2047) HT_.out ?_
            refine oN 11 6 (fB 14 4095) HT_.out fun K hK => ?_
            refine box_step ?hg (N := 6) ?hd (cs := #[.string (⟨#[]⟩ : ByteArray), .bool false, .int .i64 0, .string (⟨#[]⟩ : ByteArray)]) (t := 83) ?hr ?_; (case hd => rfl); (case hg => rfl); (case hr => first | (go_simp; done) | (go_simp; rfl))
            intro gb201 hg w71 hbox hb
            have BK201 := Aside0.mk hbox; have GW201 := Aside0.mk (zg (zL1 HB.out GE194.out) hg : w.heap.size ≤ gb201); have GE201 := GW201; replace HB := zLB (zL1 HB.out GE194.out) hb; have NB194_201 := Aside0.mk (zN BK194.out hg : gb194 ≠ gb201); have NB201_194 := Aside0.mk (zM BK194.out hg : gb201 ≠ gb194); replace BK194 := zBB BK194 hb
            clear hb hbox hg
            refine hK.out _ _ ⟨(bC BK194.out 0).trans rfl, (bC BK194.out 1).trans rfl, (bC BK194.out 2).trans rfl, (bC BK194.out 3).trans rfl, (bC BK194.out 4).trans rfl, (zh HB.out hw195_0), (zh HB.out hw195_1), (zh HB.out hw195_2), (zh HB.out hw195_3), (zh HB.out hw195_4), (zh HB.out hw195_5)⟩ fun hHeld => ?_; clear hK K
            refine nZ 6 ?_
            exact norm_ (by simp only [putAll, Act.put, List.setIfInBounds_toArray, List.set_cons_zero, List.set_cons_succ]) (hCont (gb201) _ ⟨hHeld, (zB BK194.out), (zB BK201.out), GW201.out, GE201.out, NB194_201.out, NB201_194.out, (zL2 HB.out GE194.out GE201.out)⟩)
           ·skip
            refine box_step ?hg (N := 6) ?hd (cs := #[.string (⟨#[]⟩ : ByteArray), .bool false, .int .i64 0, .string (⟨#[]⟩ : ByteArray)]) (t := 83) ?hr ?_; (case hd => rfl); (case hg => rfl); (case hr => first | (go_simp; done) | (go_simp; rfl))
            intro gb201 hg w70 hbox hb
            have BK201 := Aside0.mk hbox; have GW201 := Aside0.mk (zg (zL1 HB.out GE194.out) hg : w.heap.size ≤ gb201); have GE201 := GW201; replace HB := zLB (zL1 HB.out GE194.out) hb; have NB194_201 := Aside0.mk (zN BK194.out hg : gb194 ≠ gb201); have NB201_194 := Aside0.mk (zM BK194.out hg : gb201 ≠ gb194); replace BK194 := zBB BK194 hb
            clear hb hbox hg
            refine hK.out _ _ ⟨(bC BK194.out 0).trans rfl, (bC BK194.out 1).trans rfl, (bC BK194.out 2).trans rfl, (bC BK194.out 3).trans rfl, (bC BK194.out 4).trans rfl, (zh HB.out hw195_0), (zh HB.out hw195_1), (zh HB.out hw195_2), (zh HB.out hw195_3), (zh HB.out hw195_4), (zh HB.out hw195_5)⟩ fun hHeld => ?_; clear hK K
            refine nZ 6 ?_
            refine oN 7 22 (fB 14 2303) HT_.out fun K hK => ?_
            refine gS Try.func86 #[.slice A195_5 ((rd_T73 l1 x5_1).f5).length c195_5, .string a0_2] ?_
            with_reducible refine (spec_FindAttr.calls k1 _ _ ((rd_T73 l1 x5_1).f5) a0_2 t196 false t198 t199 true _ ?side1 ?side2 A6.out).mono ?_
            (case side1 => exact zC (Kd.C_below HR195_5.out HB.out))
            (case side2 => exact HC195_5.out)
            rintro e w71 ⟨rfl, hb⟩
            refine ⟨_, rfl, ?_⟩
            replace BK194 := zBB BK194 hb; replace BK201 := zBB BK201 hb; replace HB := zLB (zL2 HB.out GE194.out GE201.out) hb
            clear hb
            refine hK.out _ _ ⟨(bC BK194.out 0).trans rfl, (bC BK194.out 1).trans rfl, (bC BK194.out 2).trans rfl, (bC BK194.out 3).trans rfl, (bC BK194.out 4).trans rfl, (zh HB.out hw195_0), (zh HB.out hw195_1), (zh HB.out hw195_2), (zh HB.out hw195_3), (zh HB.out hw195_4), (zh HB.out hw195_5)⟩ fun hHeld => ?_; clear hK K
            refine nZ 22 ?_
            refine pY 8 14 (fB 14 2559) HT_.out ?_
            refine pY 9 23 (fB 14 3071) HT_.out ?_
            refine pY 10 24 (fB 14 4095) HT_.out ?_
            exact norm_ (by simp only [putAll, Act.put, List.setIfInBounds_toArray, List.set_cons_zero, List.set_cons_succ]) (hCont (gb201) _ ⟨hHeld, (zB BK194.out), (zB BK201.out), GW201.out, GE201.out, NB194_201.out, NB201_194.out, (zL2 HB.out GE194.out GE201.out)⟩)
          rintro gb201 w72 ⟨hS_, h0_, h1_, h2_, h3_, h4_, h5_, h6_⟩
          have n0_ : Aside0 (w72.heap[gb194]? = some (.cells #[.int .i64 a0_0, .int .i64 a0_1, .string a0_2, .string a0_3, .slice A0_4 l0_4.length c0_4] 29 (0, 0))) := ⟨h0_⟩
          have n1_ : Aside0 (w72.heap[gb201]? = some (.cells #[.string (⟨#[]⟩ : ByteArray), .bool false, .int .i64 0, .string (⟨#[]⟩ : ByteArray)] 83 (0, 0))) := ⟨h1_⟩
          have n2_ : Aside0 (w.heap.size ≤ gb201) := ⟨h2_⟩
          have n3_ : Aside0 (w.heap.size ≤ gb201) := ⟨h3_⟩
          have n4_ : Aside0 (gb194 ≠ gb201) := ⟨h4_⟩
          have n5_ : Aside0 (gb201 ≠ gb194) := ⟨h5_⟩
          have n6_ : Aside0 (Below w.heap.size w w72) := ⟨h6_⟩
          clear BK194
          clear HB
          clear h0_ h1_ h2_ h3_ h4_ h5_ h6_
          have BK194 := n0_
          have BK201 := n1_
          have GW201 := n2_
          have GE201 := n3_
          have NB194_201 := n4_
          have NB201_194 := n5_
          have HB := n6_
          clear n0_ n1_ n2_ n3_ n4_ n5_ n6_
          have hHeld : w72.cell? ⟨gb194, 0, none⟩ = some (.int .i64 a0_0) ∧ w72.cell? ⟨gb194, 1, none⟩ = some (.int .i64 a0_1) ∧ w72.cell? ⟨gb194, 2, none⟩ = some (.string a0_2) ∧ w72.cell? ⟨gb194, 3, none⟩ = some (.string a0_3) ∧ w72.cell? ⟨gb194, 4, none⟩ = some (.slice A0_4 l0_4.length c0_4) ∧ w72.cell? (ad195.add ((x5_1).toNat * 6)) = some (.int .i64 ((rd_T73 l1 x5_1).f0)) ∧ w72.cell? ⟨(ad195.add ((x5_1).toNat * 6)).block, (ad195.add ((x5_1).toNat * 6)).off + 1, none⟩ = some (.int .i64 ((rd_T73 l1 x5_1).f1)) ∧ w72.cell? ⟨(ad195.add ((x5_1).toNat * 6)).block, (ad195.add ((x5_1).toNat * 6)).off + 2, none⟩ = some (.int .i64 ((rd_T73 l1 x5_1).f2)) ∧ w72.cell? ⟨(ad195.add ((x5_1).toNat * 6)).block, (ad195.add ((x5_1).toNat * 6)).off + 3, none⟩ = some (.int .i64 ((rd_T73 l1 x5_1).f3)) ∧ w72.cell? ⟨(ad195.add ((x5_1).toNat * 6)).block, (ad195.add ((x5_1).toNat * 6)).off + 4, none⟩ = some (.bool ((rd_T73 l1 x5_1).f4)) ∧ w72.cell? ⟨(ad195.add ((x5_1).toNat * 6)).block, (ad195.add ((x5_1).toNat * 6)).off + 5, none⟩ = some (.slice A195_5 ((rd_T73 l1 x5_1).f5).length c195_5) := hS_
          refine norm_ (a' := ?_) ?_ ?_
          rotate_left
          ·simp only [putAll, Act.put, List.setIfInBounds_toArray, List.set_cons_zero, List.set_cons_succ]
           rfl
          refine one_ (i := 12) (N := none) (fB 14 8191) rfl rfl (one_of HT_.out (by kernel_rfl)) (by decide) (fun K hK => ?_)
          have hs73 : w72.cell? ⟨gb201, 0, none⟩ = some (.string (⟨#[]⟩ : ByteArray)) := (bC BK201.out 0).trans rfl
          have hfs73 := blk_frozen BK201.out 0
          have hns73_0 := NB194_201.out
          have hms73_0 := NB201_194.out
          have hs74 : w72.cell? ⟨gb201, 1, none⟩ = some (.bool false) := (bC BK201.out 1).trans rfl
          have hfs74 := blk_frozen BK201.out 1
          have hns74_0 := NB194_201.out
          have hms74_0 := NB201_194.out
          have hs75 : w72.cell? ⟨gb201, 2, none⟩ = some (.int .i64 0) := (bC BK201.out 2).trans rfl
          have hfs75 := blk_frozen BK201.out 2
          have hns75_0 := NB194_201.out
          have hms75_0 := NB201_194.out
          have hs76 : w72.cell? ⟨gb201, 3, none⟩ = some (.string (⟨#[]⟩ : ByteArray)) := (bC BK201.out 3).trans rfl
          have hfs76 := blk_frozen BK201.out 3
          have hns76_0 := NB194_201.out
          have hms76_0 := NB201_194.out
          refine skip_ (w1 := ?_) (by rfl) rfl ?_ ?_
          rotate_left
          ·go_simp
           rfl
          refine hK.out _ _ ⟨zcf4 NB194_201.out hHeld.1, zcf4 NB194_201.out hHeld.2.1, zcf4 NB194_201.out hHeld.2.2.1, zcf4 NB194_201.out hHeld.2.2.2.1, zcf4 NB194_201.out hHeld.2.2.2.2.1, zcg4 (zhn hw195_0 GW201.out) hHeld.2.2.2.2.2.1, zcg4 (zhn hw195_1 GW201.out) hHeld.2.2.2.2.2.2.1, zcg4 (zhn hw195_2 GW201.out) hHeld.2.2.2.2.2.2.2.1, zcg4 (zhn hw195_3 GW201.out) hHeld.2.2.2.2.2.2.2.2.1, zcg4 (zhn hw195_4 GW201.out) hHeld.2.2.2.2.2.2.2.2.2.1, zcg4 (zhn hw195_5 GW201.out) hHeld.2.2.2.2.2.2.2.2.2.2⟩ fun hHeld => ?_; clear hK K
          refine pY 13 7 (fB 14 16383) HT_.out ?_
          refine done_ (done_of HT_.out (by kernel_rfl)) ?_
          have hnb77 := NB194_201.out
          have hnc77 := NB201_194.out
          have hcz78 := zc5 BK194.out
          have hfz78 := zf5 BK194.out
          have hcz79_0 : w72.cell? ⟨gb201, 0, none⟩ = some (.string (⟨#[]⟩ : ByteArray)) := (bC BK201.out 0).trans rfl
          have hcz79_1 : w72.cell? ⟨gb201, 1, none⟩ = some (.bool false) := (bC BK201.out 1).trans rfl
          have hcz79_2 : w72.cell? ⟨gb201, 2, none⟩ = some (.int .i64 0) := (bC BK201.out 2).trans rfl
          have hcz79_3 : w72.cell? ⟨gb201, 3, none⟩ = some (.string (⟨#[]⟩ : ByteArray)) := (bC BK201.out 3).trans rfl
          have hfz79 := zf4 BK201.out
          try go_wp2
          go_roundg k1
          case measure => have := HK1.out; omega
          case rel => exact ⟨(wrap64 (x5_1 + 1)), zV, H', ⟨by have := HK1.out; omega⟩, ⟨by refine zB ?_; refine zr4 ?_ NB194_201.out; exact zB BK194.out⟩, ⟨zL2 HB.out GE194.out GE201.out⟩⟩
      ·rw [if_neg c8] at H
       obtain ⟨c8b0, c8b1⟩ := zf c8
       by_cases c80 : a0_0 = 5
       ·rw [if_pos c80] at H
        obtain ⟨c80b0, c80b1⟩ := zt c80
        clear c80
        by_cases c81 : t197 = true
        ·subst c81
         rw [if_pos rfl] at H
         by_cases c82 : t198 ≥ a0_1
         ·rw [if_pos c82] at H
          have c82b0 := decide_eq_true c82
          clear c82
          obtain rfl := Option.some.inj H
          try go_wp2
          replace BK194 := zBD BK194; replace HB := zLD HB
          have p195 : 0 ≤ (x5_1 : Int) := zD
          have q195 : x5_1 < (l1.length : Int) := zD
          obtain ⟨ad195, A195_5, c195_5, e195, hx195_0, hx195_1, hx195_2, hx195_3, hx195_4, hx195_5, hl195_5, hi195_5⟩ := at_T73 HR1.out x5_1 p195 q195
          have hw195_5 := hx195_5
          have hw195_4 := hx195_4
          have hw195_3 := hx195_3
          have hw195_2 := hx195_2
          have hw195_1 := hx195_1
          have hw195_0 := hx195_0
          cases e195
          replace hx195_0 := zh HB.out hx195_0
          replace hx195_1 := zh HB.out hx195_1
          replace hx195_2 := zh HB.out hx195_2
          replace hx195_3 := zh HB.out hx195_3
          replace hx195_4 := zh HB.out hx195_4
          replace hx195_5 := zh HB.out hx195_5
          have HR195_5 := Aside0.mk hi195_5
          have HC195_5 := Aside0.mk hl195_5
          clear hi195_5 hl195_5
          replace p195 := eq_true p195
          replace q195 := eq_true q195
          refine start_ (n := 14) (S := fun w' => w'.cell? ⟨gb194, 0, none⟩ = some (.int .i64 a0_0) ∧ w'.cell? ⟨gb194, 1, none⟩ = some (.int .i64 a0_1) ∧ w'.cell? ⟨gb194, 2, none⟩ = some (.string a0_2) ∧ w'.cell? ⟨gb194, 3, none⟩ = some (.string a0_3) ∧ w'.cell? ⟨gb194, 4, none⟩ = some (.slice A0_4 l0_4.length c0_4) ∧ w'.cell? (ad195.add ((x5_1).toNat * 6)) = some (.int .i64 ((rd_T73 l1 x5_1).f0)) ∧ w'.cell? ⟨(ad195.add ((x5_1).toNat * 6)).block, (ad195.add ((x5_1).toNat * 6)).off + 1, none⟩ = some (.int .i64 ((rd_T73 l1 x5_1).f1)) ∧ w'.cell? ⟨(ad195.add ((x5_1).toNat * 6)).block, (ad195.add ((x5_1).toNat * 6)).off + 2, none⟩ = some (.int .i64 ((rd_T73 l1 x5_1).f2)) ∧ w'.cell? ⟨(ad195.add ((x5_1).toNat * 6)).block, (ad195.add ((x5_1).toNat * 6)).off + 3, none⟩ = some (.int .i64 ((rd_T73 l1 x5_1).f3)) ∧ w'.cell? ⟨(ad195.add ((x5_1).toNat * 6)).block, (ad195.add ((x5_1).toNat * 6)).off + 4, none⟩ = some (.bool ((rd_T73 l1 x5_1).f4)) ∧ w'.cell? ⟨(ad195.add ((x5_1).toNat * 6)).block, (ad195.add ((x5_1).toNat * 6)).off + 5, none⟩ = some (.slice A195_5 ((rd_T73 l1 x5_1).f5).length c195_5)) (ds := []) (fB 14 0) (by kernel_rfl) rfl rfl ⟨(bC BK194.out 0).trans rfl, (bC BK194.out 1).trans rfl, (bC BK194.out 2).trans rfl, (bC BK194.out 3).trans rfl, (bC BK194.out 4).trans rfl, (zh HB.out hw195_0), (zh HB.out hw195_1), (zh HB.out hw195_2), (zh HB.out hw195_3), (zh HB.out hw195_4), (zh HB.out hw195_5)⟩ (fun hHeld => ?_); refine with_tabW spec_l6Some.tab4 spec_l6Some.bits4 (fun HT_ HW_ => ?_)
          generalize wr.drew = w83 at BK194 HB HR195_5 hx195_0 hx195_1 hx195_2 hx195_3 hx195_4 hx195_5 hHeld ⊢
          refine pY 0 15 (fB 14 1) HT_.out ?_
          refine pY 1 16 (fB 14 3) HT_.out ?_
          refine pY 2 17 (fB 14 7) HT_.out ?_
          refine pY 3 18 (fB 14 15) HT_.out ?_
          refine pY 5 20 (fB 14 47) HT_.out ?_
          refine tY 4 19 (fB 14 63) HT_.out HW_.out hHeld ?_
          refine tY 6 21 (fB 14 127) HT_.out HW_.out hHeld ?_
          refine join_ (σ := Nat) 2 #[true, true, true, true, true, true, true, true, true, true, true, true, false, false] (fun s_ => [(22, .tuple #[.agg #[.string t196, .bool true, .int .i64 t198, .string t199], .bool true]), (6, .pointer (some ⟨s_, 0, none⟩)), (14, .tuple #[.agg #[.string t196, .bool true, .int .i64 t198, .string t199], .bool true]), (23, .agg #[.string t196, .bool true, .int .i64 t198, .string t199]), (24, .bool true)]) (fun s_ w' => (w'.cell? ⟨gb194, 0, none⟩ = some (.int .i64 a0_0) ∧ w'.cell? ⟨gb194, 1, none⟩ = some (.int .i64 a0_1) ∧ w'.cell? ⟨gb194, 2, none⟩ = some (.string a0_2) ∧ w'.cell? ⟨gb194, 3, none⟩ = some (.string a0_3) ∧ w'.cell? ⟨gb194, 4, none⟩ = some (.slice A0_4 l0_4.length c0_4) ∧ w'.cell? (ad195.add ((x5_1).toNat * 6)) = some (.int .i64 ((rd_T73 l1 x5_1).f0)) ∧ w'.cell? ⟨(ad195.add ((x5_1).toNat * 6)).block, (ad195.add ((x5_1).toNat * 6)).off + 1, none⟩ = some (.int .i64 ((rd_T73 l1 x5_1).f1)) ∧ w'.cell? ⟨(ad195.add ((x5_1).toNat * 6)).block, (ad195.add ((x5_1).toNat * 6)).off + 2, none⟩ = some (.int .i64 ((rd_T73 l1 x5_1).f2)) ∧ w'.cell? ⟨(ad195.add ((x5_1).toNat * 6)).block, (ad195.add ((x5_1).toNat * 6)).off + 3, none⟩ = some (.int .i64 ((rd_T73 l1 x5_1).f3)) ∧ w'.cell? ⟨(ad195.add ((x5_1).toNat * 6)).block, (ad195.add ((x5_1).toNat * 6)).off + 4, none⟩ = some (.bool ((rd_T73 l1 x5_1).f4)) ∧ w'.cell? ⟨(ad195.add ((x5_1).toNat * 6)).block, (ad195.add ((x5_1).toNat * 6)).off + 5, none⟩ = some (.slice A195_5 ((rd_T73 l1 x5_1).f5).length c195_5)) ∧ (w'.heap[gb194]? = some (.cells #[.int .i64 a0_0, .int .i64 a0_1, .string a0_2, .string a0_3, .slice A0_4 l0_4.length c0_4] 29 (0, 0))) ∧ (w'.heap[s_]? = some (.cells #[.string (⟨#[]⟩ : ByteArray), .bool false, .int .i64 0, .string (⟨#[]⟩ : ByteArray)] 83 (0, 0))) ∧ (w.heap.size ≤ s_) ∧ (w.heap.size ≤ s_) ∧ (gb194 ≠ s_) ∧ (s_ ≠ gb194) ∧ (Below w.heap.size w w')) ?_ ?_
          rotate_left
          ·intro hCont
           refine two_ (i := 7) (j := 11) (Ni := some 22) (Nj := some 6) #[true, true, true, true, true, true, true, true, false, false, false, false, false, false] #[true, true, true, true, true, true, true, false, false, false, false, true, false, false] rfl rfl rfl rfl (two_of HT_.out (by kernel_rfl)) (by decide) (by decide) (fun K hK => ?_) (fun K hK => ?_)
           ·skip
            refine gS Try.func86 #[.slice A195_5 ((rd_T73 l1 x5_1).f5).length c195_5, .string a0_2] ?_
            with_reducible refine (spec_FindAttr.calls k1 _ _ ((rd_T73 l1 x5_1).f5) a0_2 t196 true t198 t199 true _ ?side1 ?side2 A6.out).mono ?_
            (case side1 => exact zC (Kd.C_below HR195_5.out HB.out))
            (case side2 => exact HC195_5.out)
            rintro e w84 ⟨rfl, hb⟩
            refine ⟨_, rfl, ?_⟩
            replace BK194 := zBB BK194 hb; replace HB := zLB (zL1 HB.out GE194.out) hb
            clear hb
            refine hK.out _ _ ⟨(bC BK194.out 0).trans rfl, (bC BK194.out 1).trans rfl, (bC BK194.out 2).trans rfl, (bC BK194.out 3).trans rfl, (bC BK194.out 4).trans rfl, (zh HB.out hw195_0), (zh HB.out hw195_1), (zh HB.out hw195_2), (zh HB.out hw195_3), (zh HB.out hw195_4), (zh HB.out hw195_5)⟩ fun hHeld => ?_; clear hK K
            refine nZ 22 ?_
            refine pY 8 14 (fB 14 511) HT_.out ?_
            refine pY 9 23 (fB 14 1023) HT_.out ?_
            refine pY 10 24 (fB 14 2047) HT_.out ?_
            refine oN 11 6 (fB 14 4095) HT_.out fun K hK => ?_
            refine box_step ?hg (N := 6) ?hd (cs := #[.string (⟨#[]⟩ : ByteArray), .bool false, .int .i64 0, .string (⟨#[]⟩ : ByteArray)]) (t := 83) ?hr ?_; (case hd => rfl); (case hg => rfl); (case hr => first | (go_simp; done) | (go_simp; rfl))
            intro gb201 hg w85 hbox hb
            have BK201 := Aside0.mk hbox; have GW201 := Aside0.mk (zg (zL1 HB.out GE194.out) hg : w.heap.size ≤ gb201); have GE201 := GW201; replace HB := zLB (zL1 HB.out GE194.out) hb; have NB194_201 := Aside0.mk (zN BK194.out hg : gb194 ≠ gb201); have NB201_194 := Aside0.mk (zM BK194.out hg : gb201 ≠ gb194); replace BK194 := zBB BK194 hb
            clear hb hbox hg
            refine hK.out _ _ ⟨(bC BK194.out 0).trans rfl, (bC BK194.out 1).trans rfl, (bC BK194.out 2).trans rfl, (bC BK194.out 3).trans rfl, (bC BK194.out 4).trans rfl, (zh HB.out hw195_0), (zh HB.out hw195_1), (zh HB.out hw195_2), (zh HB.out hw195_3), (zh HB.out hw195_4), (zh HB.out hw195_5)⟩ fun hHeld => ?_; clear hK K
            refine nZ 6 ?_
            exact norm_ (by simp only [putAll, Act.put, List.setIfInBounds_toArray, List.set_cons_zero, List.set_cons_succ]) (hCont (gb201) _ ⟨hHeld, (zB BK194.out), (zB BK201.out), GW201.out, GE201.out, NB194_201.out, NB201_194.out, (zL2 HB.out GE194.out GE201.out)⟩)
           ·skip
            refine box_step ?hg (N := 6) ?hd (cs := #[.string (⟨#[]⟩ : ByteArray), .bool false, .int .i64 0, .string (⟨#[]⟩ : ByteArray)]) (t := 83) ?hr ?_; (case hd => rfl); (case hg => rfl); (case hr => first | (go_simp; done) | (go_simp; rfl))
            intro gb201 hg w84 hbox hb
            have BK201 := Aside0.mk hbox; have GW201 := Aside0.mk (zg (zL1 HB.out GE194.out) hg : w.heap.size ≤ gb201); have GE201 := GW201; replace HB := zLB (zL1 HB.out GE194.out) hb; have NB194_201 := Aside0.mk (zN BK194.out hg : gb194 ≠ gb201); have NB201_194 := Aside0.mk (zM BK194.out hg : gb201 ≠ gb194); replace BK194 := zBB BK194 hb
            clear hb hbox hg
            refine hK.out _ _ ⟨(bC BK194.out 0).trans rfl, (bC BK194.out 1).trans rfl, (bC BK194.out 2).trans rfl, (bC BK194.out 3).trans rfl, (bC BK194.out 4).trans rfl, (zh HB.out hw195_0), (zh HB.out hw195_1), (zh HB.out hw195_2), (zh HB.out hw195_3), (zh HB.out hw195_4), (zh HB.out hw195_5)⟩ fun hHeld => ?_; clear hK K
            refine nZ 6 ?_
            refine oN 7 22 (fB 14 2303) HT_.out fun K hK => ?_
            refine gS Try.func86 #[.slice A195_5 ((rd_T73 l1 x5_1).f5).length c195_5, .string a0_2] ?_
            with_reducible refine (spec_FindAttr.calls k1 _ _ ((rd_T73 l1 x5_1).f5) a0_2 t196 true t198 t199 true _ ?side1 ?side2 A6.out).mono ?_
            (case side1 => exact zC (Kd.C_below HR195_5.out HB.out))
            (case side2 => exact HC195_5.out)
            rintro e w85 ⟨rfl, hb⟩
            refine ⟨_, rfl, ?_⟩
            replace BK194 := zBB BK194 hb; replace BK201 := zBB BK201 hb; replace HB := zLB (zL2 HB.out GE194.out GE201.out) hb
            clear hb
            refine hK.out _ _ ⟨(bC BK194.out 0).trans rfl, (bC BK194.out 1).trans rfl, (bC BK194.out 2).trans rfl, (bC BK194.out 3).trans rfl, (bC BK194.out 4).trans rfl, (zh HB.out hw195_0), (zh HB.out hw195_1), (zh HB.out hw195_2), (zh HB.out hw195_3), (zh HB.out hw195_4), (zh HB.out hw195_5)⟩ fun hHeld => ?_; clear hK K
            refine nZ 22 ?_
            refine pY 8 14 (fB 14 2559) HT_.out ?_
            refine pY 9 23 (fB 14 3071) HT_.out ?_
            refine pY 10 24 (fB 14 4095) HT_.out ?_
            exact norm_ (by simp only [putAll, Act.put, List.setIfInBounds_toArray, List.set_cons_zero, List.set_cons_succ]) (hCont (gb201) _ ⟨hHeld, (zB BK194.out), (zB BK201.out), GW201.out, GE201.out, NB194_201.out, NB201_194.out, (zL2 HB.out GE194.out GE201.out)⟩)
          rintro gb201 w86 ⟨hS_, h0_, h1_, h2_, h3_, h4_, h5_, h6_⟩
          have n0_ : Aside0 (w86.heap[gb194]? = some (.cells #[.int .i64 a0_0, .int .i64 a0_1, .string a0_2, .string a0_3, .slice A0_4 l0_4.length c0_4] 29 (0, 0))) := ⟨h0_⟩
          have n1_ : Aside0 (w86.heap[gb201]? = some (.cells #[.string (⟨#[]⟩ : ByteArray), .bool false, .int .i64 0, .string (⟨#[]⟩ : ByteArray)] 83 (0, 0))) := ⟨h1_⟩
          have n2_ : Aside0 (w.heap.size ≤ gb201) := ⟨h2_⟩
          have n3_ : Aside0 (w.heap.size ≤ gb201) := ⟨h3_⟩
          have n4_ : Aside0 (gb194 ≠ gb201) := ⟨h4_⟩
          have n5_ : Aside0 (gb201 ≠ gb194) := ⟨h5_⟩
          have n6_ : Aside0 (Below w.heap.size w w86) := ⟨h6_⟩
          clear BK194
          clear HB
          clear h0_ h1_ h2_ h3_ h4_ h5_ h6_
          have BK194 := n0_
          have BK201 := n1_
          have GW201 := n2_
          have GE201 := n3_
          have NB194_201 := n4_
          have NB201_194 := n5_
          have HB := n6_
          clear n0_ n1_ n2_ n3_ n4_ n5_ n6_
          have hHeld : w86.cell? ⟨gb194, 0, none⟩ = some (.int .i64 a0_0) ∧ w86.cell? ⟨gb194, 1, none⟩ = some (.int .i64 a0_1) ∧ w86.cell? ⟨gb194, 2, none⟩ = some (.string a0_2) ∧ w86.cell? ⟨gb194, 3, none⟩ = some (.string a0_3) ∧ w86.cell? ⟨gb194, 4, none⟩ = some (.slice A0_4 l0_4.length c0_4) ∧ w86.cell? (ad195.add ((x5_1).toNat * 6)) = some (.int .i64 ((rd_T73 l1 x5_1).f0)) ∧ w86.cell? ⟨(ad195.add ((x5_1).toNat * 6)).block, (ad195.add ((x5_1).toNat * 6)).off + 1, none⟩ = some (.int .i64 ((rd_T73 l1 x5_1).f1)) ∧ w86.cell? ⟨(ad195.add ((x5_1).toNat * 6)).block, (ad195.add ((x5_1).toNat * 6)).off + 2, none⟩ = some (.int .i64 ((rd_T73 l1 x5_1).f2)) ∧ w86.cell? ⟨(ad195.add ((x5_1).toNat * 6)).block, (ad195.add ((x5_1).toNat * 6)).off + 3, none⟩ = some (.int .i64 ((rd_T73 l1 x5_1).f3)) ∧ w86.cell? ⟨(ad195.add ((x5_1).toNat * 6)).block, (ad195.add ((x5_1).toNat * 6)).off + 4, none⟩ = some (.bool ((rd_T73 l1 x5_1).f4)) ∧ w86.cell? ⟨(ad195.add ((x5_1).toNat * 6)).block, (ad195.add ((x5_1).toNat * 6)).off + 5, none⟩ = some (.slice A195_5 ((rd_T73 l1 x5_1).f5).length c195_5) := hS_
          refine norm_ (a' := ?_) ?_ ?_
          rotate_left
          ·simp only [putAll, Act.put, List.setIfInBounds_toArray, List.set_cons_zero, List.set_cons_succ]
           rfl
          refine one_ (i := 12) (N := none) (fB 14 8191) rfl rfl (one_of HT_.out (by kernel_rfl)) (by decide) (fun K hK => ?_)
          have hs87 : w86.cell? ⟨gb201, 0, none⟩ = some (.string (⟨#[]⟩ : ByteArray)) := (bC BK201.out 0).trans rfl
          have hfs87 := blk_frozen BK201.out 0
          have hns87_0 := NB194_201.out
          have hms87_0 := NB201_194.out
          have hs88 : w86.cell? ⟨gb201, 1, none⟩ = some (.bool false) := (bC BK201.out 1).trans rfl
          have hfs88 := blk_frozen BK201.out 1
          have hns88_0 := NB194_201.out
          have hms88_0 := NB201_194.out
          have hs89 : w86.cell? ⟨gb201, 2, none⟩ = some (.int .i64 0) := (bC BK201.out 2).trans rfl
          have hfs89 := blk_frozen BK201.out 2
          have hns89_0 := NB194_201.out
          have hms89_0 := NB201_194.out
          have hs90 : w86.cell? ⟨gb201, 3, none⟩ = some (.string (⟨#[]⟩ : ByteArray)) := (bC BK201.out 3).trans rfl
          have hfs90 := blk_frozen BK201.out 3
          have hns90_0 := NB194_201.out
          have hms90_0 := NB201_194.out
          refine skip_ (w1 := ?_) (by rfl) rfl ?_ ?_
          rotate_left
          ·go_simp
           rfl
          refine hK.out _ _ ⟨zcf4 NB194_201.out hHeld.1, zcf4 NB194_201.out hHeld.2.1, zcf4 NB194_201.out hHeld.2.2.1, zcf4 NB194_201.out hHeld.2.2.2.1, zcf4 NB194_201.out hHeld.2.2.2.2.1, zcg4 (zhn hw195_0 GW201.out) hHeld.2.2.2.2.2.1, zcg4 (zhn hw195_1 GW201.out) hHeld.2.2.2.2.2.2.1, zcg4 (zhn hw195_2 GW201.out) hHeld.2.2.2.2.2.2.2.1, zcg4 (zhn hw195_3 GW201.out) hHeld.2.2.2.2.2.2.2.2.1, zcg4 (zhn hw195_4 GW201.out) hHeld.2.2.2.2.2.2.2.2.2.1, zcg4 (zhn hw195_5 GW201.out) hHeld.2.2.2.2.2.2.2.2.2.2⟩ fun hHeld => ?_; clear hK K
          refine pY 13 7 (fB 14 16383) HT_.out ?_
          refine done_ (done_of HT_.out (by kernel_rfl)) ?_
          have hnb91 := NB194_201.out
          have hnc91 := NB201_194.out
          have hcz92 := zc5 BK194.out
          have hfz92 := zf5 BK194.out
          have hcz93_0 : w86.cell? ⟨gb201, 0, none⟩ = some (.string (⟨#[]⟩ : ByteArray)) := (bC BK201.out 0).trans rfl
          have hcz93_1 : w86.cell? ⟨gb201, 1, none⟩ = some (.bool false) := (bC BK201.out 1).trans rfl
          have hcz93_2 : w86.cell? ⟨gb201, 2, none⟩ = some (.int .i64 0) := (bC BK201.out 2).trans rfl
          have hcz93_3 : w86.cell? ⟨gb201, 3, none⟩ = some (.string (⟨#[]⟩ : ByteArray)) := (bC BK201.out 3).trans rfl
          have hfz93 := zf4 BK201.out
          try go_wp2
          go_ret
          exact ⟨zW, zL2 HB.out GE194.out GE201.out⟩
         ·rw [if_neg c82] at H
          have c82b0 := decide_eq_false c82
          clear c82
          have H' := Aside0.mk H
          clear H
          try go_wp2
          replace BK194 := zBD BK194; replace HB := zLD HB
          have p195 : 0 ≤ (x5_1 : Int) := zD
          have q195 : x5_1 < (l1.length : Int) := zD
          obtain ⟨ad195, A195_5, c195_5, e195, hx195_0, hx195_1, hx195_2, hx195_3, hx195_4, hx195_5, hl195_5, hi195_5⟩ := at_T73 HR1.out x5_1 p195 q195
          have hw195_5 := hx195_5
          have hw195_4 := hx195_4
          have hw195_3 := hx195_3
          have hw195_2 := hx195_2
          have hw195_1 := hx195_1
          have hw195_0 := hx195_0
          cases e195
          replace hx195_0 := zh HB.out hx195_0
          replace hx195_1 := zh HB.out hx195_1
          replace hx195_2 := zh HB.out hx195_2
          replace hx195_3 := zh HB.out hx195_3
          replace hx195_4 := zh HB.out hx195_4
          replace hx195_5 := zh HB.out hx195_5
          have HR195_5 := Aside0.mk hi195_5
          have HC195_5 := Aside0.mk hl195_5
          clear hi195_5 hl195_5
          replace p195 := eq_true p195
          replace q195 := eq_true q195
          refine start_ (n := 14) (S := fun w' => w'.cell? ⟨gb194, 0, none⟩ = some (.int .i64 a0_0) ∧ w'.cell? ⟨gb194, 1, none⟩ = some (.int .i64 a0_1) ∧ w'.cell? ⟨gb194, 2, none⟩ = some (.string a0_2) ∧ w'.cell? ⟨gb194, 3, none⟩ = some (.string a0_3) ∧ w'.cell? ⟨gb194, 4, none⟩ = some (.slice A0_4 l0_4.length c0_4) ∧ w'.cell? (ad195.add ((x5_1).toNat * 6)) = some (.int .i64 ((rd_T73 l1 x5_1).f0)) ∧ w'.cell? ⟨(ad195.add ((x5_1).toNat * 6)).block, (ad195.add ((x5_1).toNat * 6)).off + 1, none⟩ = some (.int .i64 ((rd_T73 l1 x5_1).f1)) ∧ w'.cell? ⟨(ad195.add ((x5_1).toNat * 6)).block, (ad195.add ((x5_1).toNat * 6)).off + 2, none⟩ = some (.int .i64 ((rd_T73 l1 x5_1).f2)) ∧ w'.cell? ⟨(ad195.add ((x5_1).toNat * 6)).block, (ad195.add ((x5_1).toNat * 6)).off + 3, none⟩ = some (.int .i64 ((rd_T73 l1 x5_1).f3)) ∧ w'.cell? ⟨(ad195.add ((x5_1).toNat * 6)).block, (ad195.add ((x5_1).toNat * 6)).off + 4, none⟩ = some (.bool ((rd_T73 l1 x5_1).f4)) ∧ w'.cell? ⟨(ad195.add ((x5_1).toNat * 6)).block, (ad195.add ((x5_1).toNat * 6)).off + 5, none⟩ = some (.slice A195_5 ((rd_T73 l1 x5_1).f5).length c195_5)) (ds := []) (fB 14 0) (by kernel_rfl) rfl rfl ⟨(bC BK194.out 0).trans rfl, (bC BK194.out 1).trans rfl, (bC BK194.out 2).trans rfl, (bC BK194.out 3).trans rfl, (bC BK194.out 4).trans rfl, (zh HB.out hw195_0), (zh HB.out hw195_1), (zh HB.out hw195_2), (zh HB.out hw195_3), (zh HB.out hw195_4), (zh HB.out hw195_5)⟩ (fun hHeld => ?_); refine with_tabW spec_l6Some.tab4 spec_l6Some.bits4 (fun HT_ HW_ => ?_)
          generalize wr.drew = w94 at BK194 HB HR195_5 hx195_0 hx195_1 hx195_2 hx195_3 hx195_4 hx195_5 hHeld ⊢
          refine pY 0 15 (fB 14 1) HT_.out ?_
          refine pY 1 16 (fB 14 3) HT_.out ?_
          refine pY 2 17 (fB 14 7) HT_.out ?_
          refine pY 3 18 (fB 14 15) HT_.out ?_
          refine pY 5 20 (fB 14 47) HT_.out ?_
          refine tY 4 19 (fB 14 63) HT_.out HW_.out hHeld ?_
          refine tY 6 21 (fB 14 127) HT_.out HW_.out hHeld ?_
          refine join_ (σ := Nat) 2 #[true, true, true, true, true, true, true, true, true, true, true, true, false, false] (fun s_ => [(22, .tuple #[.agg #[.string t196, .bool true, .int .i64 t198, .string t199], .bool true]), (6, .pointer (some ⟨s_, 0, none⟩)), (14, .tuple #[.agg #[.string t196, .bool true, .int .i64 t198, .string t199], .bool true]), (23, .agg #[.string t196, .bool true, .int .i64 t198, .string t199]), (24, .bool true)]) (fun s_ w' => (w'.cell? ⟨gb194, 0, none⟩ = some (.int .i64 a0_0) ∧ w'.cell? ⟨gb194, 1, none⟩ = some (.int .i64 a0_1) ∧ w'.cell? ⟨gb194, 2, none⟩ = some (.string a0_2) ∧ w'.cell? ⟨gb194, 3, none⟩ = some (.string a0_3) ∧ w'.cell? ⟨gb194, 4, none⟩ = some (.slice A0_4 l0_4.length c0_4) ∧ w'.cell? (ad195.add ((x5_1).toNat * 6)) = some (.int .i64 ((rd_T73 l1 x5_1).f0)) ∧ w'.cell? ⟨(ad195.add ((x5_1).toNat * 6)).block, (ad195.add ((x5_1).toNat * 6)).off + 1, none⟩ = some (.int .i64 ((rd_T73 l1 x5_1).f1)) ∧ w'.cell? ⟨(ad195.add ((x5_1).toNat * 6)).block, (ad195.add ((x5_1).toNat * 6)).off + 2, none⟩ = some (.int .i64 ((rd_T73 l1 x5_1).f2)) ∧ w'.cell? ⟨(ad195.add ((x5_1).toNat * 6)).block, (ad195.add ((x5_1).toNat * 6)).off + 3, none⟩ = some (.int .i64 ((rd_T73 l1 x5_1).f3)) ∧ w'.cell? ⟨(ad195.add ((x5_1).toNat * 6)).block, (ad195.add ((x5_1).toNat * 6)).off + 4, none⟩ = some (.bool ((rd_T73 l1 x5_1).f4)) ∧ w'.cell? ⟨(ad195.add ((x5_1).toNat * 6)).block, (ad195.add ((x5_1).toNat * 6)).off + 5, none⟩ = some (.slice A195_5 ((rd_T73 l1 x5_1).f5).length c195_5)) ∧ (w'.heap[gb194]? = some (.cells #[.int .i64 a0_0, .int .i64 a0_1, .string a0_2, .string a0_3, .slice A0_4 l0_4.length c0_4] 29 (0, 0))) ∧ (w'.heap[s_]? = some (.cells #[.string (⟨#[]⟩ : ByteArray), .bool false, .int .i64 0, .string (⟨#[]⟩ : ByteArray)] 83 (0, 0))) ∧ (w.heap.size ≤ s_) ∧ (w.heap.size ≤ s_) ∧ (gb194 ≠ s_) ∧ (s_ ≠ gb194) ∧ (Below w.heap.size w w')) ?_ ?_
          rotate_left
          ·intro hCont
           refine two_ (i := 7) (j := 11) (Ni := some 22) (Nj := some 6) #[true, true, true, true, true, true, true, true, false, false, false, false, false, false] #[true, true, true, true, true, true, true, false, false, false, false, true, false, false] rfl rfl rfl rfl (two_of HT_.out (by kernel_rfl)) (by decide) (by decide) (fun K hK => ?_) (fun K hK => ?_)
           ·skip
            refine gS Try.func86 #[.slice A195_5 ((rd_T73 l1 x5_1).f5).length c195_5, .string a0_2] ?_
            with_reducible refine (spec_FindAttr.calls k1 _ _ ((rd_T73 l1 x5_1).f5) a0_2 t196 true t198 t199 true _ ?side1 ?side2 A6.out).mono ?_
            (case side1 => exact zC (Kd.C_below HR195_5.out HB.out))
            (case side2 => exact HC195_5.out)
            rintro e w95 ⟨rfl, hb⟩
            refine ⟨_, rfl, ?_⟩
            replace BK194 := zBB BK194 hb; replace HB := zLB (zL1 HB.out GE194.out) hb
            clear hb
            refine hK.out _ _ ⟨(bC BK194.out 0).trans rfl, (bC BK194.out 1).trans rfl, (bC BK194.out 2).trans rfl, (bC BK194.out 3).trans rfl, (bC BK194.out 4).trans rfl, (zh HB.out hw195_0), (zh HB.out hw195_1), (zh HB.out hw195_2), (zh HB.out hw195_3), (zh HB.out hw195_4), (zh HB.out hw195_5)⟩ fun hHeld => ?_; clear hK K
            refine nZ 22 ?_
            refine pY 8 14 (fB 14 511) HT_.out ?_
            refine pY 9 23 (fB 14 1023) HT_.out ?_
            refine pY 10 24 (fB 14 2047) HT_.out ?_
            refine oN 11 6 (fB 14 4095) HT_.out fun K hK => ?_
            refine box_step ?hg (N := 6) ?hd (cs := #[.string (⟨#[]⟩ : ByteArray), .bool false, .int .i64 0, .string (⟨#[]⟩ : ByteArray)]) (t := 83) ?hr ?_; (case hd => rfl); (case hg => rfl); (case hr => first | (go_simp; done) | (go_simp; rfl))
            intro gb201 hg w96 hbox hb
            have BK201 := Aside0.mk hbox; have GW201 := Aside0.mk (zg (zL1 HB.out GE194.out) hg : w.heap.size ≤ gb201); have GE201 := GW201; replace HB := zLB (zL1 HB.out GE194.out) hb; have NB194_201 := Aside0.mk (zN BK194.out hg : gb194 ≠ gb201); have NB201_194 := Aside0.mk (zM BK194.out hg : gb201 ≠ gb194); replace BK194 := zBB BK194 hb
            clear hb hbox hg
            refine hK.out _ _ ⟨(bC BK194.out 0).trans rfl, (bC BK194.out 1).trans rfl, (bC BK194.out 2).trans rfl, (bC BK194.out 3).trans rfl, (bC BK194.out 4).trans rfl, (zh HB.out hw195_0), (zh HB.out hw195_1), (zh HB.out hw195_2), (zh HB.out hw195_3), (zh HB.out hw195_4), (zh HB.out hw195_5)⟩ fun hHeld => ?_; clear hK K
            refine nZ 6 ?_
            exact norm_ (by simp only [putAll, Act.put, List.setIfInBounds_toArray, List.set_cons_zero, List.set_cons_succ]) (hCont (gb201) _ ⟨hHeld, (zB BK194.out), (zB BK201.out), GW201.out, GE201.out, NB194_201.out, NB201_194.out, (zL2 HB.out GE194.out GE201.out)⟩)
           ·skip
            refine box_step ?hg (N := 6) ?hd (cs := #[.string (⟨#[]⟩ : ByteArray), .bool false, .int .i64 0, .string (⟨#[]⟩ : ByteArray)]) (t := 83) ?hr ?_; (case hd => rfl); (case hg => rfl); (case hr => first | (go_simp; done) | (go_simp; rfl))
            intro gb201 hg w95 hbox hb
            have BK201 := Aside0.mk hbox; have GW201 := Aside0.mk (zg (zL1 HB.out GE194.out) hg : w.heap.size ≤ gb201); have GE201 := GW201; replace HB := zLB (zL1 HB.out GE194.out) hb; have NB194_201 := Aside0.mk (zN BK194.out hg : gb194 ≠ gb201); have NB201_194 := Aside0.mk (zM BK194.out hg : gb201 ≠ gb194); replace BK194 := zBB BK194 hb
            clear hb hbox hg
            refine hK.out _ _ ⟨(bC BK194.out 0).trans rfl, (bC BK194.out 1).trans rfl, (bC BK194.out 2).trans rfl, (bC BK194.out 3).trans rfl, (bC BK194.out 4).trans rfl, (zh HB.out hw195_0), (zh HB.out hw195_1), (zh HB.out hw195_2), (zh HB.out hw195_3), (zh HB.out hw195_4), (zh HB.out hw195_5)⟩ fun hHeld => ?_; clear hK K
            refine nZ 6 ?_
            refine oN 7 22 (fB 14 2303) HT_.out fun K hK => ?_
            refine gS Try.func86 #[.slice A195_5 ((rd_T73 l1 x5_1).f5).length c195_5, .string a0_2] ?_
            with_reducible refine (spec_FindAttr.calls k1 _ _ ((rd_T73 l1 x5_1).f5) a0_2 t196 true t198 t199 true _ ?side1 ?side2 A6.out).mono ?_
            (case side1 => exact zC (Kd.C_below HR195_5.out HB.out))
            (case side2 => exact HC195_5.out)
            rintro e w96 ⟨rfl, hb⟩
            refine ⟨_, rfl, ?_⟩
            replace BK194 := zBB BK194 hb; replace BK201 := zBB BK201 hb; replace HB := zLB (zL2 HB.out GE194.out GE201.out) hb
            clear hb
            refine hK.out _ _ ⟨(bC BK194.out 0).trans rfl, (bC BK194.out 1).trans rfl, (bC BK194.out 2).trans rfl, (bC BK194.out 3).trans rfl, (bC BK194.out 4).trans rfl, (zh HB.out hw195_0), (zh HB.out hw195_1), (zh HB.out hw195_2), (zh HB.out hw195_3), (zh HB.out hw195_4), (zh HB.out hw195_5)⟩ fun hHeld => ?_; clear hK K
            refine nZ 22 ?_
            refine pY 8 14 (fB 14 2559) HT_.out ?_
            refine pY 9 23 (fB 14 3071) HT_.out ?_
            refine pY 10 24 (fB 14 4095) HT_.out ?_
            exact norm_ (by simp only [putAll, Act.put, List.setIfInBounds_toArray, List.set_cons_zero, List.set_cons_succ]) (hCont (gb201) _ ⟨hHeld, (zB BK194.out), (zB BK201.out), GW201.out, GE201.out, NB194_201.out, NB201_194.out, (zL2 HB.out GE194.out GE201.out)⟩)
          rintro gb201 w97 ⟨hS_, h0_, h1_, h2_, h3_, h4_, h5_, h6_⟩
          have n0_ : Aside0 (w97.heap[gb194]? = some (.cells #[.int .i64 a0_0, .int .i64 a0_1, .string a0_2, .string a0_3, .slice A0_4 l0_4.length c0_4] 29 (0, 0))) := ⟨h0_⟩
          have n1_ : Aside0 (w97.heap[gb201]? = some (.cells #[.string (⟨#[]⟩ : ByteArray), .bool false, .int .i64 0, .string (⟨#[]⟩ : ByteArray)] 83 (0, 0))) := ⟨h1_⟩
          have n2_ : Aside0 (w.heap.size ≤ gb201) := ⟨h2_⟩
          have n3_ : Aside0 (w.heap.size ≤ gb201) := ⟨h3_⟩
          have n4_ : Aside0 (gb194 ≠ gb201) := ⟨h4_⟩
          have n5_ : Aside0 (gb201 ≠ gb194) := ⟨h5_⟩
          have n6_ : Aside0 (Below w.heap.size w w97) := ⟨h6_⟩
          clear BK194
          clear HB
          clear h0_ h1_ h2_ h3_ h4_ h5_ h6_
          have BK194 := n0_
          have BK201 := n1_
          have GW201 := n2_
          have GE201 := n3_
          have NB194_201 := n4_
          have NB201_194 := n5_
          have HB := n6_
          clear n0_ n1_ n2_ n3_ n4_ n5_ n6_
          have hHeld : w97.cell? ⟨gb194, 0, none⟩ = some (.int .i64 a0_0) ∧ w97.cell? ⟨gb194, 1, none⟩ = some (.int .i64 a0_1) ∧ w97.cell? ⟨gb194, 2, none⟩ = some (.string a0_2) ∧ w97.cell? ⟨gb194, 3, none⟩ = some (.string a0_3) ∧ w97.cell? ⟨gb194, 4, none⟩ = some (.slice A0_4 l0_4.length c0_4) ∧ w97.cell? (ad195.add ((x5_1).toNat * 6)) = some (.int .i64 ((rd_T73 l1 x5_1).f0)) ∧ w97.cell? ⟨(ad195.add ((x5_1).toNat * 6)).block, (ad195.add ((x5_1).toNat * 6)).off + 1, none⟩ = some (.int .i64 ((rd_T73 l1 x5_1).f1)) ∧ w97.cell? ⟨(ad195.add ((x5_1).toNat * 6)).block, (ad195.add ((x5_1).toNat * 6)).off + 2, none⟩ = some (.int .i64 ((rd_T73 l1 x5_1).f2)) ∧ w97.cell? ⟨(ad195.add ((x5_1).toNat * 6)).block, (ad195.add ((x5_1).toNat * 6)).off + 3, none⟩ = some (.int .i64 ((rd_T73 l1 x5_1).f3)) ∧ w97.cell? ⟨(ad195.add ((x5_1).toNat * 6)).block, (ad195.add ((x5_1).toNat * 6)).off + 4, none⟩ = some (.bool ((rd_T73 l1 x5_1).f4)) ∧ w97.cell? ⟨(ad195.add ((x5_1).toNat * 6)).block, (ad195.add ((x5_1).toNat * 6)).off + 5, none⟩ = some (.slice A195_5 ((rd_T73 l1 x5_1).f5).length c195_5) := hS_
          refine norm_ (a' := ?_) ?_ ?_
          rotate_left
          ·simp only [putAll, Act.put, List.setIfInBounds_toArray, List.set_cons_zero, List.set_cons_succ]
           rfl
          refine one_ (i := 12) (N := none) (fB 14 8191) rfl rfl (one_of HT_.out (by kernel_rfl)) (by decide) (fun K hK => ?_)
          have hs98 : w97.cell? ⟨gb201, 0, none⟩ = some (.string (⟨#[]⟩ : ByteArray)) := (bC BK201.out 0).trans rfl
          have hfs98 := blk_frozen BK201.out 0
          have hns98_0 := NB194_201.out
          have hms98_0 := NB201_194.out
          have hs99 : w97.cell? ⟨gb201, 1, none⟩ = some (.bool false) := (bC BK201.out 1).trans rfl
          have hfs99 := blk_frozen BK201.out 1
          have hns99_0 := NB194_201.out
          have hms99_0 := NB201_194.out
          have hs100 : w97.cell? ⟨gb201, 2, none⟩ = some (.int .i64 0) := (bC BK201.out 2).trans rfl
          have hfs100 := blk_frozen BK201.out 2
          have hns100_0 := NB194_201.out
          have hms100_0 := NB201_194.out
          have hs101 : w97.cell? ⟨gb201, 3, none⟩ = some (.string (⟨#[]⟩ : ByteArray)) := (bC BK201.out 3).trans rfl
          have hfs101 := blk_frozen BK201.out 3
          have hns101_0 := NB194_201.out
          have hms101_0 := NB201_194.out
          refine skip_ (w1 := ?_) (by rfl) rfl ?_ ?_
          rotate_left
          ·go_simp
           rfl
          refine hK.out _ _ ⟨zcf4 NB194_201.out hHeld.1, zcf4 NB194_201.out hHeld.2.1, zcf4 NB194_201.out hHeld.2.2.1, zcf4 NB194_201.out hHeld.2.2.2.1, zcf4 NB194_201.out hHeld.2.2.2.2.1, zcg4 (zhn hw195_0 GW201.out) hHeld.2.2.2.2.2.1, zcg4 (zhn hw195_1 GW201.out) hHeld.2.2.2.2.2.2.1, zcg4 (zhn hw195_2 GW201.out) hHeld.2.2.2.2.2.2.2.1, zcg4 (zhn hw195_3 GW201.out) hHeld.2.2.2.2.2.2.2.2.1, zcg4 (zhn hw195_4 GW201.out) hHeld.2.2.2.2.2.2.2.2.2.1, zcg4 (zhn hw195_5 GW201.out) hHeld.2.2.2.2.2.2.2.2.2.2⟩ fun hHeld => ?_; clear hK K
          refine pY 13 7 (fB 14 16383) HT_.out ?_
          refine done_ (done_of HT_.out (by kernel_rfl)) ?_
          have hnb102 := NB194_201.out
          have hnc102 := NB201_194.out
          have hcz103 := zc5 BK194.out
          have hfz103 := zf5 BK194.out
          have hcz104_0 : w97.cell? ⟨gb201, 0, none⟩ = some (.string (⟨#[]⟩ : ByteArray)) := (bC BK201.out 0).trans rfl
          have hcz104_1 : w97.cell? ⟨gb201, 1, none⟩ = some (.bool false) := (bC BK201.out 1).trans rfl
          have hcz104_2 : w97.cell? ⟨gb201, 2, none⟩ = some (.int .i64 0) := (bC BK201.out 2).trans rfl
          have hcz104_3 : w97.cell? ⟨gb201, 3, none⟩ = some (.string (⟨#[]⟩ : ByteArray)) := (bC BK201.out 3).trans rfl
          have hfz104 := zf4 BK201.out
          try go_wp2
          go_roundg k1
          case measure => have := HK1.out; omega
          case rel => exact ⟨(wrap64 (x5_1 + 1)), zV, H', ⟨by have := HK1.out; omega⟩, ⟨by refine zB ?_; refine zr4 ?_ NB194_201.out; exact zB BK194.out⟩, ⟨zL2 HB.out GE194.out GE201.out⟩⟩
        ·obtain rfl := Bool.eq_false_iff.mpr c81
         rw [if_neg zn] at H
         have H' := Aside0.mk H
         clear H
         try go_wp2
         replace BK194 := zBD BK194; replace HB := zLD HB
         have p195 : 0 ≤ (x5_1 : Int) := zD
         have q195 : x5_1 < (l1.length : Int) := zD
         obtain ⟨ad195, A195_5, c195_5, e195, hx195_0, hx195_1, hx195_2, hx195_3, hx195_4, hx195_5, hl195_5, hi195_5⟩ := at_T73 HR1.out x5_1 p195 q195
         have hw195_5 := hx195_5
         have hw195_4 := hx195_4
         have hw195_3 := hx195_3
         have hw195_2 := hx195_2
         have hw195_1 := hx195_1
         have hw195_0 := hx195_0
         cases e195
         replace hx195_0 := zh HB.out hx195_0
         replace hx195_1 := zh HB.out hx195_1
         replace hx195_2 := zh HB.out hx195_2
         replace hx195_3 := zh HB.out hx195_3
         replace hx195_4 := zh HB.out hx195_4
         replace hx195_5 := zh HB.out hx195_5
         have HR195_5 := Aside0.mk hi195_5
         have HC195_5 := Aside0.mk hl195_5
         clear hi195_5 hl195_5
         replace p195 := eq_true p195
         replace q195 := eq_true q195
         refine start_ (n := 14) (S := fun w' => w'.cell? ⟨gb194, 0, none⟩ = some (.int .i64 a0_0) ∧ w'.cell? ⟨gb194, 1, none⟩ = some (.int .i64 a0_1) ∧ w'.cell? ⟨gb194, 2, none⟩ = some (.string a0_2) ∧ w'.cell? ⟨gb194, 3, none⟩ = some (.string a0_3) ∧ w'.cell? ⟨gb194, 4, none⟩ = some (.slice A0_4 l0_4.length c0_4) ∧ w'.cell? (ad195.add ((x5_1).toNat * 6)) = some (.int .i64 ((rd_T73 l1 x5_1).f0)) ∧ w'.cell? ⟨(ad195.add ((x5_1).toNat * 6)).block, (ad195.add ((x5_1).toNat * 6)).off + 1, none⟩ = some (.int .i64 ((rd_T73 l1 x5_1).f1)) ∧ w'.cell? ⟨(ad195.add ((x5_1).toNat * 6)).block, (ad195.add ((x5_1).toNat * 6)).off + 2, none⟩ = some (.int .i64 ((rd_T73 l1 x5_1).f2)) ∧ w'.cell? ⟨(ad195.add ((x5_1).toNat * 6)).block, (ad195.add ((x5_1).toNat * 6)).off + 3, none⟩ = some (.int .i64 ((rd_T73 l1 x5_1).f3)) ∧ w'.cell? ⟨(ad195.add ((x5_1).toNat * 6)).block, (ad195.add ((x5_1).toNat * 6)).off + 4, none⟩ = some (.bool ((rd_T73 l1 x5_1).f4)) ∧ w'.cell? ⟨(ad195.add ((x5_1).toNat * 6)).block, (ad195.add ((x5_1).toNat * 6)).off + 5, none⟩ = some (.slice A195_5 ((rd_T73 l1 x5_1).f5).length c195_5)) (ds := []) (fB 14 0) (by kernel_rfl) rfl rfl ⟨(bC BK194.out 0).trans rfl, (bC BK194.out 1).trans rfl, (bC BK194.out 2).trans rfl, (bC BK194.out 3).trans rfl, (bC BK194.out 4).trans rfl, (zh HB.out hw195_0), (zh HB.out hw195_1), (zh HB.out hw195_2), (zh HB.out hw195_3), (zh HB.out hw195_4), (zh HB.out hw195_5)⟩ (fun hHeld => ?_); refine with_tabW spec_l6Some.tab4 spec_l6Some.bits4 (fun HT_ HW_ => ?_)
         generalize wr.drew = w105 at BK194 HB HR195_5 hx195_0 hx195_1 hx195_2 hx195_3 hx195_4 hx195_5 hHeld ⊢
         refine pY 0 15 (fB 14 1) HT_.out ?_
         refine pY 1 16 (fB 14 3) HT_.out ?_
         refine pY 2 17 (fB 14 7) HT_.out ?_
         refine pY 3 18 (fB 14 15) HT_.out ?_
         refine pY 5 20 (fB 14 47) HT_.out ?_
         refine tY 4 19 (fB 14 63) HT_.out HW_.out hHeld ?_
         refine tY 6 21 (fB 14 127) HT_.out HW_.out hHeld ?_
         refine join_ (σ := Nat) 2 #[true, true, true, true, true, true, true, true, true, true, true, true, false, false] (fun s_ => [(22, .tuple #[.agg #[.string t196, .bool false, .int .i64 t198, .string t199], .bool true]), (6, .pointer (some ⟨s_, 0, none⟩)), (14, .tuple #[.agg #[.string t196, .bool false, .int .i64 t198, .string t199], .bool true]), (23, .agg #[.string t196, .bool false, .int .i64 t198, .string t199]), (24, .bool true)]) (fun s_ w' => (w'.cell? ⟨gb194, 0, none⟩ = some (.int .i64 a0_0) ∧ w'.cell? ⟨gb194, 1, none⟩ = some (.int .i64 a0_1) ∧ w'.cell? ⟨gb194, 2, none⟩ = some (.string a0_2) ∧ w'.cell? ⟨gb194, 3, none⟩ = some (.string a0_3) ∧ w'.cell? ⟨gb194, 4, none⟩ = some (.slice A0_4 l0_4.length c0_4) ∧ w'.cell? (ad195.add ((x5_1).toNat * 6)) = some (.int .i64 ((rd_T73 l1 x5_1).f0)) ∧ w'.cell? ⟨(ad195.add ((x5_1).toNat * 6)).block, (ad195.add ((x5_1).toNat * 6)).off + 1, none⟩ = some (.int .i64 ((rd_T73 l1 x5_1).f1)) ∧ w'.cell? ⟨(ad195.add ((x5_1).toNat * 6)).block, (ad195.add ((x5_1).toNat * 6)).off + 2, none⟩ = some (.int .i64 ((rd_T73 l1 x5_1).f2)) ∧ w'.cell? ⟨(ad195.add ((x5_1).toNat * 6)).block, (ad195.add ((x5_1).toNat * 6)).off + 3, none⟩ = some (.int .i64 ((rd_T73 l1 x5_1).f3)) ∧ w'.cell? ⟨(ad195.add ((x5_1).toNat * 6)).block, (ad195.add ((x5_1).toNat * 6)).off + 4, none⟩ = some (.bool ((rd_T73 l1 x5_1).f4)) ∧ w'.cell? ⟨(ad195.add ((x5_1).toNat * 6)).block, (ad195.add ((x5_1).toNat * 6)).off + 5, none⟩ = some (.slice A195_5 ((rd_T73 l1 x5_1).f5).length c195_5)) ∧ (w'.heap[gb194]? = some (.cells #[.int .i64 a0_0, .int .i64 a0_1, .string a0_2, .string a0_3, .slice A0_4 l0_4.length c0_4] 29 (0, 0))) ∧ (w'.heap[s_]? = some (.cells #[.string (⟨#[]⟩ : ByteArray), .bool false, .int .i64 0, .string (⟨#[]⟩ : ByteArray)] 83 (0, 0))) ∧ (w.heap.size ≤ s_) ∧ (w.heap.size ≤ s_) ∧ (gb194 ≠ s_) ∧ (s_ ≠ gb194) ∧ (Below w.heap.size w w')) ?_ ?_
         rotate_left
         ·intro hCont
          refine two_ (i := 7) (j := 11) (Ni := some 22) (Nj := some 6) #[true, true, true, true, true, true, true, true, false, false, false, false, false, false] #[true, true, true, true, true, true, true, false, false, false, false, true, false, false] rfl rfl rfl rfl (two_of HT_.out (by kernel_rfl)) (by decide) (by decide) (fun K hK => ?_) (fun K hK => ?_)
          ·skip
           refine gS Try.func86 #[.slice A195_5 ((rd_T73 l1 x5_1).f5).length c195_5, .string a0_2] ?_
           with_reducible refine (spec_FindAttr.calls k1 _ _ ((rd_T73 l1 x5_1).f5) a0_2 t196 false t198 t199 true _ ?side1 ?side2 A6.out).mono ?_
           (case side1 => exact zC (Kd.C_below HR195_5.out HB.out))
           (case side2 => exact HC195_5.out)
           rintro e w106 ⟨rfl, hb⟩
           refine ⟨_, rfl, ?_⟩
           replace BK194 := zBB BK194 hb; replace HB := zLB (zL1 HB.out GE194.out) hb
           clear hb
           refine hK.out _ _ ⟨(bC BK194.out 0).trans rfl, (bC BK194.out 1).trans rfl, (bC BK194.out 2).trans rfl, (bC BK194.out 3).trans rfl, (bC BK194.out 4).trans rfl, (zh HB.out hw195_0), (zh HB.out hw195_1), (zh HB.out hw195_2), (zh HB.out hw195_3), (zh HB.out hw195_4), (zh HB.out hw195_5)⟩ fun hHeld => ?_; clear hK K
           refine nZ 22 ?_
           refine pY 8 14 (fB 14 511) HT_.out ?_
           refine pY 9 23 (fB 14 1023) HT_.out ?_
           refine pY 10 24 (fB 14 2047) HT_.out ?_
           refine oN 11 6 (fB 14 4095) HT_.out fun K hK => ?_
           refine box_step ?hg (N := 6) ?hd (cs := #[.string (⟨#[]⟩ : ByteArray), .bool false, .int .i64 0, .string (⟨#[]⟩ : ByteArray)]) (t := 83) ?hr ?_; (case hd => rfl); (case hg => rfl); (case hr => first | (go_simp; done) | (go_simp; rfl))
           intro gb201 hg w107 hbox hb
           have BK201 := Aside0.mk hbox; have GW201 := Aside0.mk (zg (zL1 HB.out GE194.out) hg : w.heap.size ≤ gb201); have GE201 := GW201; replace HB := zLB (zL1 HB.out GE194.out) hb; have NB194_201 := Aside0.mk (zN BK194.out hg : gb194 ≠ gb201); have NB201_194 := Aside0.mk (zM BK194.out hg : gb201 ≠ gb194); replace BK194 := zBB BK194 hb
           clear hb hbox hg
           refine hK.out _ _ ⟨(bC BK194.out 0).trans rfl, (bC BK194.out 1).trans rfl, (bC BK194.out 2).trans rfl, (bC BK194.out 3).trans rfl, (bC BK194.out 4).trans rfl, (zh HB.out hw195_0), (zh HB.out hw195_1), (zh HB.out hw195_2), (zh HB.out hw195_3), (zh HB.out hw195_4), (zh HB.out hw195_5)⟩ fun hHeld => ?_; clear hK K
           refine nZ 6 ?_
           exact norm_ (by simp only [putAll, Act.put, List.setIfInBounds_toArray, List.set_cons_zero, List.set_cons_succ]) (hCont (gb201) _ ⟨hHeld, (zB BK194.out), (zB BK201.out), GW201.out, GE201.out, NB194_201.out, NB201_194.out, (zL2 HB.out GE194.out GE201.out)⟩)
          ·skip
           refine box_step ?hg (N := 6) ?hd (cs := #[.string (⟨#[]⟩ : ByteArray), .bool false, .int .i64 0, .string (⟨#[]⟩ : ByteArray)]) (t := 83) ?hr ?_; (case hd => rfl); (case hg => rfl); (case hr => first | (go_simp; done) | (go_simp; rfl))
           intro gb201 hg w106 hbox hb
           have BK201 := Aside0.mk hbox; have GW201 := Aside0.mk (zg (zL1 HB.out GE194.out) hg : w.heap.size ≤ gb201); have GE201 := GW201; replace HB := zLB (zL1 HB.out GE194.out) hb; have NB194_201 := Aside0.mk (zN BK194.out hg : gb194 ≠ gb201); have NB201_194 := Aside0.mk (zM BK194.out hg : gb201 ≠ gb194); replace BK194 := zBB BK194 hb
           clear hb hbox hg
           refine hK.out _ _ ⟨(bC BK194.out 0).trans rfl, (bC BK194.out 1).trans rfl, (bC BK194.out 2).trans rfl, (bC BK194.out 3).trans rfl, (bC BK194.out 4).trans rfl, (zh HB.out hw195_0), (zh HB.out hw195_1), (zh HB.out hw195_2), (zh HB.out hw195_3), (zh HB.out hw195_4), (zh HB.out hw195_5)⟩ fun hHeld => ?_; clear hK K
           refine nZ 6 ?_
           refine oN 7 22 (fB 14 2303) HT_.out fun K hK => ?_
           refine gS Try.func86 #[.slice A195_5 ((rd_T73 l1 x5_1).f5).length c195_5, .string a0_2] ?_
           with_reducible refine (spec_FindAttr.calls k1 _ _ ((rd_T73 l1 x5_1).f5) a0_2 t196 false t198 t199 true _ ?side1 ?side2 A6.out).mono ?_
           (case side1 => exact zC (Kd.C_below HR195_5.out HB.out))
           (case side2 => exact HC195_5.out)
           rintro e w107 ⟨rfl, hb⟩
           refine ⟨_, rfl, ?_⟩
           replace BK194 := zBB BK194 hb; replace BK201 := zBB BK201 hb; replace HB := zLB (zL2 HB.out GE194.out GE201.out) hb
           clear hb
           refine hK.out _ _ ⟨(bC BK194.out 0).trans rfl, (bC BK194.out 1).trans rfl, (bC BK194.out 2).trans rfl, (bC BK194.out 3).trans rfl, (bC BK194.out 4).trans rfl, (zh HB.out hw195_0), (zh HB.out hw195_1), (zh HB.out hw195_2), (zh HB.out hw195_3), (zh HB.out hw195_4), (zh HB.out hw195_5)⟩ fun hHeld => ?_; clear hK K
           refine nZ 22 ?_
           refine pY 8 14 (fB 14 2559) HT_.out ?_
           refine pY 9 23 (fB 14 3071) HT_.out ?_
           refine pY 10 24 (fB 14 4095) HT_.out ?_
           exact norm_ (by simp only [putAll, Act.put, List.setIfInBounds_toArray, List.set_cons_zero, List.set_cons_succ]) (hCont (gb201) _ ⟨hHeld, (zB BK194.out), (zB BK201.out), GW201.out, GE201.out, NB194_201.out, NB201_194.out, (zL2 HB.out GE194.out GE201.out)⟩)
         rintro gb201 w108 ⟨hS_, h0_, h1_, h2_, h3_, h4_, h5_, h6_⟩
         have n0_ : Aside0 (w108.heap[gb194]? = some (.cells #[.int .i64 a0_0, .int .i64 a0_1, .string a0_2, .string a0_3, .slice A0_4 l0_4.length c0_4] 29 (0, 0))) := ⟨h0_⟩
         have n1_ : Aside0 (w108.heap[gb201]? = some (.cells #[.string (⟨#[]⟩ : ByteArray), .bool false, .int .i64 0, .string (⟨#[]⟩ : ByteArray)] 83 (0, 0))) := ⟨h1_⟩
         have n2_ : Aside0 (w.heap.size ≤ gb201) := ⟨h2_⟩
         have n3_ : Aside0 (w.heap.size ≤ gb201) := ⟨h3_⟩
         have n4_ : Aside0 (gb194 ≠ gb201) := ⟨h4_⟩
         have n5_ : Aside0 (gb201 ≠ gb194) := ⟨h5_⟩
         have n6_ : Aside0 (Below w.heap.size w w108) := ⟨h6_⟩
         clear BK194
         clear HB
         clear h0_ h1_ h2_ h3_ h4_ h5_ h6_
         have BK194 := n0_
         have BK201 := n1_
         have GW201 := n2_
         have GE201 := n3_
         have NB194_201 := n4_
         have NB201_194 := n5_
         have HB := n6_
         clear n0_ n1_ n2_ n3_ n4_ n5_ n6_
         have hHeld : w108.cell? ⟨gb194, 0, none⟩ = some (.int .i64 a0_0) ∧ w108.cell? ⟨gb194, 1, none⟩ = some (.int .i64 a0_1) ∧ w108.cell? ⟨gb194, 2, none⟩ = some (.string a0_2) ∧ w108.cell? ⟨gb194, 3, none⟩ = some (.string a0_3) ∧ w108.cell? ⟨gb194, 4, none⟩ = some (.slice A0_4 l0_4.length c0_4) ∧ w108.cell? (ad195.add ((x5_1).toNat * 6)) = some (.int .i64 ((rd_T73 l1 x5_1).f0)) ∧ w108.cell? ⟨(ad195.add ((x5_1).toNat * 6)).block, (ad195.add ((x5_1).toNat * 6)).off + 1, none⟩ = some (.int .i64 ((rd_T73 l1 x5_1).f1)) ∧ w108.cell? ⟨(ad195.add ((x5_1).toNat * 6)).block, (ad195.add ((x5_1).toNat * 6)).off + 2, none⟩ = some (.int .i64 ((rd_T73 l1 x5_1).f2)) ∧ w108.cell? ⟨(ad195.add ((x5_1).toNat * 6)).block, (ad195.add ((x5_1).toNat * 6)).off + 3, none⟩ = some (.int .i64 ((rd_T73 l1 x5_1).f3)) ∧ w108.cell? ⟨(ad195.add ((x5_1).toNat * 6)).block, (ad195.add ((x5_1).toNat * 6)).off + 4, none⟩ = some (.bool ((rd_T73 l1 x5_1).f4)) ∧ w108.cell? ⟨(ad195.add ((x5_1).toNat * 6)).block, (ad195.add ((x5_1).toNat * 6)).off + 5, none⟩ = some (.slice A195_5 ((rd_T73 l1 x5_1).f5).length c195_5) := hS_
         refine norm_ (a' := ?_) ?_ ?_
         rotate_left
         ·simp only [putAll, Act.put, List.setIfInBounds_toArray, List.set_cons_zero, List.set_cons_succ]
          rfl
         refine one_ (i := 12) (N := none) (fB 14 8191) rfl rfl (one_of HT_.out (by kernel_rfl)) (by decide) (fun K hK => ?_)
         have hs109 : w108.cell? ⟨gb201, 0, none⟩ = some (.string (⟨#[]⟩ : ByteArray)) := (bC BK201.out 0).trans rfl
         have hfs109 := blk_frozen BK201.out 0
         have hns109_0 := NB194_201.out
         have hms109_0 := NB201_194.out
         have hs110 : w108.cell? ⟨gb201, 1, none⟩ = some (.bool false) := (bC BK201.out 1).trans rfl
         have hfs110 := blk_frozen BK201.out 1
         have hns110_0 := NB194_201.out
         have hms110_0 := NB201_194.out
         have hs111 : w108.cell? ⟨gb201, 2, none⟩ = some (.int .i64 0) := (bC BK201.out 2).trans rfl
         have hfs111 := blk_frozen BK201.out 2
         have hns111_0 := NB194_201.out
         have hms111_0 := NB201_194.out
         have hs112 : w108.cell? ⟨gb201, 3, none⟩ = some (.string (⟨#[]⟩ : ByteArray)) := (bC BK201.out 3).trans rfl
         have hfs112 := blk_frozen BK201.out 3
         have hns112_0 := NB194_201.out
         have hms112_0 := NB201_194.out
         refine skip_ (w1 := ?_) (by rfl) rfl ?_ ?_
         rotate_left
         ·go_simp
          rfl
         refine hK.out _ _ ⟨zcf4 NB194_201.out hHeld.1, zcf4 NB194_201.out hHeld.2.1, zcf4 NB194_201.out hHeld.2.2.1, zcf4 NB194_201.out hHeld.2.2.2.1, zcf4 NB194_201.out hHeld.2.2.2.2.1, zcg4 (zhn hw195_0 GW201.out) hHeld.2.2.2.2.2.1, zcg4 (zhn hw195_1 GW201.out) hHeld.2.2.2.2.2.2.1, zcg4 (zhn hw195_2 GW201.out) hHeld.2.2.2.2.2.2.2.1, zcg4 (zhn hw195_3 GW201.out) hHeld.2.2.2.2.2.2.2.2.1, zcg4 (zhn hw195_4 GW201.out) hHeld.2.2.2.2.2.2.2.2.2.1, zcg4 (zhn hw195_5 GW201.out) hHeld.2.2.2.2.2.2.2.2.2.2⟩ fun hHeld => ?_; clear hK K
         refine pY 13 7 (fB 14 16383) HT_.out ?_
         refine done_ (done_of HT_.out (by kernel_rfl)) ?_
         have hnb113 := NB194_201.out
         have hnc113 := NB201_194.out
         have hcz114 := zc5 BK194.out
         have hfz114 := zf5 BK194.out
         have hcz115_0 : w108.cell? ⟨gb201, 0, none⟩ = some (.string (⟨#[]⟩ : ByteArray)) := (bC BK201.out 0).trans rfl
         have hcz115_1 : w108.cell? ⟨gb201, 1, none⟩ = some (.bool false) := (bC BK201.out 1).trans rfl
         have hcz115_2 : w108.cell? ⟨gb201, 2, none⟩ = some (.int .i64 0) := (bC BK201.out 2).trans rfl
         have hcz115_3 : w108.cell? ⟨gb201, 3, none⟩ = some (.string (⟨#[]⟩ : ByteArray)) := (bC BK201.out 3).trans rfl
         have hfz115 := zf4 BK201.out
         try go_wp2
         go_roundg k1
         case measure => have := HK1.out; omega
         case rel => exact ⟨(wrap64 (x5_1 + 1)), zV, H', ⟨by have := HK1.out; omega⟩, ⟨by refine zB ?_; refine zr4 ?_ NB194_201.out; exact zB BK194.out⟩, ⟨zL2 HB.out GE194.out GE201.out⟩⟩
       ·rw [if_neg c80] at H
        obtain ⟨c80b0, c80b1⟩ := zf c80
        have H' := Aside0.mk H
        clear H
        try go_wp2
        replace BK194 := zBD BK194; replace HB := zLD HB
        have p195 : 0 ≤ (x5_1 : Int) := zD
        have q195 : x5_1 < (l1.length : Int) := zD
        obtain ⟨ad195, A195_5, c195_5, e195, hx195_0, hx195_1, hx195_2, hx195_3, hx195_4, hx195_5, hl195_5, hi195_5⟩ := at_T73 HR1.out x5_1 p195 q195
        have hw195_5 := hx195_5
        have hw195_4 := hx195_4
        have hw195_3 := hx195_3
        have hw195_2 := hx195_2
        have hw195_1 := hx195_1
        have hw195_0 := hx195_0
        cases e195
        replace hx195_0 := zh HB.out hx195_0
        replace hx195_1 := zh HB.out hx195_1
        replace hx195_2 := zh HB.out hx195_2
        replace hx195_3 := zh HB.out hx195_3
        replace hx195_4 := zh HB.out hx195_4
        replace hx195_5 := zh HB.out hx195_5
        have HR195_5 := Aside0.mk hi195_5
        have HC195_5 := Aside0.mk hl195_5
        clear hi195_5 hl195_5
        replace p195 := eq_true p195
        replace q195 := eq_true q195
        refine start_ (n := 14) (S := fun w' => w'.cell? ⟨gb194, 0, none⟩ = some (.int .i64 a0_0) ∧ w'.cell? ⟨gb194, 1, none⟩ = some (.int .i64 a0_1) ∧ w'.cell? ⟨gb194, 2, none⟩ = some (.string a0_2) ∧ w'.cell? ⟨gb194, 3, none⟩ = some (.string a0_3) ∧ w'.cell? ⟨gb194, 4, none⟩ = some (.slice A0_4 l0_4.length c0_4) ∧ w'.cell? (ad195.add ((x5_1).toNat * 6)) = some (.int .i64 ((rd_T73 l1 x5_1).f0)) ∧ w'.cell? ⟨(ad195.add ((x5_1).toNat * 6)).block, (ad195.add ((x5_1).toNat * 6)).off + 1, none⟩ = some (.int .i64 ((rd_T73 l1 x5_1).f1)) ∧ w'.cell? ⟨(ad195.add ((x5_1).toNat * 6)).block, (ad195.add ((x5_1).toNat * 6)).off + 2, none⟩ = some (.int .i64 ((rd_T73 l1 x5_1).f2)) ∧ w'.cell? ⟨(ad195.add ((x5_1).toNat * 6)).block, (ad195.add ((x5_1).toNat * 6)).off + 3, none⟩ = some (.int .i64 ((rd_T73 l1 x5_1).f3)) ∧ w'.cell? ⟨(ad195.add ((x5_1).toNat * 6)).block, (ad195.add ((x5_1).toNat * 6)).off + 4, none⟩ = some (.bool ((rd_T73 l1 x5_1).f4)) ∧ w'.cell? ⟨(ad195.add ((x5_1).toNat * 6)).block, (ad195.add ((x5_1).toNat * 6)).off + 5, none⟩ = some (.slice A195_5 ((rd_T73 l1 x5_1).f5).length c195_5)) (ds := []) (fB 14 0) (by kernel_rfl) rfl rfl ⟨(bC BK194.out 0).trans rfl, (bC BK194.out 1).trans rfl, (bC BK194.out 2).trans rfl, (bC BK194.out 3).trans rfl, (bC BK194.out 4).trans rfl, (zh HB.out hw195_0), (zh HB.out hw195_1), (zh HB.out hw195_2), (zh HB.out hw195_3), (zh HB.out hw195_4), (zh HB.out hw195_5)⟩ (fun hHeld => ?_); refine with_tabW spec_l6Some.tab4 spec_l6Some.bits4 (fun HT_ HW_ => ?_)
        generalize wr.drew = w116 at BK194 HB HR195_5 hx195_0 hx195_1 hx195_2 hx195_3 hx195_4 hx195_5 hHeld ⊢
        refine pY 0 15 (fB 14 1) HT_.out ?_
        refine pY 1 16 (fB 14 3) HT_.out ?_
        refine pY 2 17 (fB 14 7) HT_.out ?_
        refine pY 3 18 (fB 14 15) HT_.out ?_
        refine pY 5 20 (fB 14 47) HT_.out ?_
        refine tY 4 19 (fB 14 63) HT_.out HW_.out hHeld ?_
        refine tY 6 21 (fB 14 127) HT_.out HW_.out hHeld ?_
        refine join_ (σ := Nat) 2 #[true, true, true, true, true, true, true, true, true, true, true, true, false, false] (fun s_ => [(22, .tuple #[.agg #[.string t196, .bool t197, .int .i64 t198, .string t199], .bool true]), (6, .pointer (some ⟨s_, 0, none⟩)), (14, .tuple #[.agg #[.string t196, .bool t197, .int .i64 t198, .string t199], .bool true]), (23, .agg #[.string t196, .bool t197, .int .i64 t198, .string t199]), (24, .bool true)]) (fun s_ w' => (w'.cell? ⟨gb194, 0, none⟩ = some (.int .i64 a0_0) ∧ w'.cell? ⟨gb194, 1, none⟩ = some (.int .i64 a0_1) ∧ w'.cell? ⟨gb194, 2, none⟩ = some (.string a0_2) ∧ w'.cell? ⟨gb194, 3, none⟩ = some (.string a0_3) ∧ w'.cell? ⟨gb194, 4, none⟩ = some (.slice A0_4 l0_4.length c0_4) ∧ w'.cell? (ad195.add ((x5_1).toNat * 6)) = some (.int .i64 ((rd_T73 l1 x5_1).f0)) ∧ w'.cell? ⟨(ad195.add ((x5_1).toNat * 6)).block, (ad195.add ((x5_1).toNat * 6)).off + 1, none⟩ = some (.int .i64 ((rd_T73 l1 x5_1).f1)) ∧ w'.cell? ⟨(ad195.add ((x5_1).toNat * 6)).block, (ad195.add ((x5_1).toNat * 6)).off + 2, none⟩ = some (.int .i64 ((rd_T73 l1 x5_1).f2)) ∧ w'.cell? ⟨(ad195.add ((x5_1).toNat * 6)).block, (ad195.add ((x5_1).toNat * 6)).off + 3, none⟩ = some (.int .i64 ((rd_T73 l1 x5_1).f3)) ∧ w'.cell? ⟨(ad195.add ((x5_1).toNat * 6)).block, (ad195.add ((x5_1).toNat * 6)).off + 4, none⟩ = some (.bool ((rd_T73 l1 x5_1).f4)) ∧ w'.cell? ⟨(ad195.add ((x5_1).toNat * 6)).block, (ad195.add ((x5_1).toNat * 6)).off + 5, none⟩ = some (.slice A195_5 ((rd_T73 l1 x5_1).f5).length c195_5)) ∧ (w'.heap[gb194]? = some (.cells #[.int .i64 a0_0, .int .i64 a0_1, .string a0_2, .string a0_3, .slice A0_4 l0_4.length c0_4] 29 (0, 0))) ∧ (w'.heap[s_]? = some (.cells #[.string (⟨#[]⟩ : ByteArray), .bool false, .int .i64 0, .string (⟨#[]⟩ : ByteArray)] 83 (0, 0))) ∧ (w.heap.size ≤ s_) ∧ (w.heap.size ≤ s_) ∧ (gb194 ≠ s_) ∧ (s_ ≠ gb194) ∧ (Below w.heap.size w w')) ?_ ?_
        rotate_left
        ·intro hCont
         refine two_ (i := 7) (j := 11) (Ni := some 22) (Nj := some 6) #[true, true, true, true, true, true, true, true, false, false, false, false, false, false] #[true, true, true, true, true, true, true, false, false, false, false, true, false, false] rfl rfl rfl rfl (two_of HT_.out (by kernel_rfl)) (by decide) (by decide) (fun K hK => ?_) (fun K hK => ?_)
         ·skip
          refine gS Try.func86 #[.slice A195_5 ((rd_T73 l1 x5_1).f5).length c195_5, .string a0_2] ?_
          with_reducible refine (spec_FindAttr.calls k1 _ _ ((rd_T73 l1 x5_1).f5) a0_2 t196 t197 t198 t199 true _ ?side1 ?side2 A6.out).mono ?_
          (case side1 => exact zC (Kd.C_below HR195_5.out HB.out))
          (case side2 => exact HC195_5.out)
          rintro e w117 ⟨rfl, hb⟩
          refine ⟨_, rfl, ?_⟩
          replace BK194 := zBB BK194 hb; replace HB := zLB (zL1 HB.out GE194.out) hb
          clear hb
          refine hK.out _ _ ⟨(bC BK194.out 0).trans rfl, (bC BK194.out 1).trans rfl, (bC BK194.out 2).trans rfl, (bC BK194.out 3).trans rfl, (bC BK194.out 4).trans rfl, (zh HB.out hw195_0), (zh HB.out hw195_1), (zh HB.out hw195_2), (zh HB.out hw195_3), (zh HB.out hw195_4), (zh HB.out hw195_5)⟩ fun hHeld => ?_; clear hK K
          refine nZ 22 ?_
          refine pY 8 14 (fB 14 511) HT_.out ?_
          refine pY 9 23 (fB 14 1023) HT_.out ?_
          refine pY 10 24 (fB 14 2047) HT_.out ?_
          refine oN 11 6 (fB 14 4095) HT_.out fun K hK => ?_
          refine box_step ?hg (N := 6) ?hd (cs := #[.string (⟨#[]⟩ : ByteArray), .bool false, .int .i64 0, .string (⟨#[]⟩ : ByteArray)]) (t := 83) ?hr ?_; (case hd => rfl); (case hg => rfl); (case hr => first | (go_simp; done) | (go_simp; rfl))
          intro gb201 hg w118 hbox hb
          have BK201 := Aside0.mk hbox; have GW201 := Aside0.mk (zg (zL1 HB.out GE194.out) hg : w.heap.size ≤ gb201); have GE201 := GW201; replace HB := zLB (zL1 HB.out GE194.out) hb; have NB194_201 := Aside0.mk (zN BK194.out hg : gb194 ≠ gb201); have NB201_194 := Aside0.mk (zM BK194.out hg : gb201 ≠ gb194); replace BK194 := zBB BK194 hb
          clear hb hbox hg
          refine hK.out _ _ ⟨(bC BK194.out 0).trans rfl, (bC BK194.out 1).trans rfl, (bC BK194.out 2).trans rfl, (bC BK194.out 3).trans rfl, (bC BK194.out 4).trans rfl, (zh HB.out hw195_0), (zh HB.out hw195_1), (zh HB.out hw195_2), (zh HB.out hw195_3), (zh HB.out hw195_4), (zh HB.out hw195_5)⟩ fun hHeld => ?_; clear hK K
          refine nZ 6 ?_
          exact norm_ (by simp only [putAll, Act.put, List.setIfInBounds_toArray, List.set_cons_zero, List.set_cons_succ]) (hCont (gb201) _ ⟨hHeld, (zB BK194.out), (zB BK201.out), GW201.out, GE201.out, NB194_201.out, NB201_194.out, (zL2 HB.out GE194.out GE201.out)⟩)
         ·skip
          refine box_step ?hg (N := 6) ?hd (cs := #[.string (⟨#[]⟩ : ByteArray), .bool false, .int .i64 0, .string (⟨#[]⟩ : ByteArray)]) (t := 83) ?hr ?_; (case hd => rfl); (case hg => rfl); (case hr => first | (go_simp; done) | (go_simp; rfl))
          intro gb201 hg w117 hbox hb
          have BK201 := Aside0.mk hbox; have GW201 := Aside0.mk (zg (zL1 HB.out GE194.out) hg : w.heap.size ≤ gb201); have GE201 := GW201; replace HB := zLB (zL1 HB.out GE194.out) hb; have NB194_201 := Aside0.mk (zN BK194.out hg : gb194 ≠ gb201); have NB201_194 := Aside0.mk (zM BK194.out hg : gb201 ≠ gb194); replace BK194 := zBB BK194 hb
          clear hb hbox hg
          refine hK.out _ _ ⟨(bC BK194.out 0).trans rfl, (bC BK194.out 1).trans rfl, (bC BK194.out 2).trans rfl, (bC BK194.out 3).trans rfl, (bC BK194.out 4).trans rfl, (zh HB.out hw195_0), (zh HB.out hw195_1), (zh HB.out hw195_2), (zh HB.out hw195_3), (zh HB.out hw195_4), (zh HB.out hw195_5)⟩ fun hHeld => ?_; clear hK K
          refine nZ 6 ?_
          refine oN 7 22 (fB 14 2303) HT_.out fun K hK => ?_
          refine gS Try.func86 #[.slice A195_5 ((rd_T73 l1 x5_1).f5).length c195_5, .string a0_2] ?_
          with_reducible refine (spec_FindAttr.calls k1 _ _ ((rd_T73 l1 x5_1).f5) a0_2 t196 t197 t198 t199 true _ ?side1 ?side2 A6.out).mono ?_
          (case side1 => exact zC (Kd.C_below HR195_5.out HB.out))
          (case side2 => exact HC195_5.out)
          rintro e w118 ⟨rfl, hb⟩
          refine ⟨_, rfl, ?_⟩
          replace BK194 := zBB BK194 hb; replace BK201 := zBB BK201 hb; replace HB := zLB (zL2 HB.out GE194.out GE201.out) hb
          clear hb
          refine hK.out _ _ ⟨(bC BK194.out 0).trans rfl, (bC BK194.out 1).trans rfl, (bC BK194.out 2).trans rfl, (bC BK194.out 3).trans rfl, (bC BK194.out 4).trans rfl, (zh HB.out hw195_0), (zh HB.out hw195_1), (zh HB.out hw195_2), (zh HB.out hw195_3), (zh HB.out hw195_4), (zh HB.out hw195_5)⟩ fun hHeld => ?_; clear hK K
          refine nZ 22 ?_
          refine pY 8 14 (fB 14 2559) HT_.out ?_
          refine pY 9 23 (fB 14 3071) HT_.out ?_
          refine pY 10 24 (fB 14 4095) HT_.out ?_
          exact norm_ (by simp only [putAll, Act.put, List.setIfInBounds_toArray, List.set_cons_zero, List.set_cons_succ]) (hCont (gb201) _ ⟨hHeld, (zB BK194.out), (zB BK201.out), GW201.out, GE201.out, NB194_201.out, NB201_194.out, (zL2 HB.out GE194.out GE201.out)⟩)
        rintro gb201 w119 ⟨hS_, h0_, h1_, h2_, h3_, h4_, h5_, h6_⟩
        have n0_ : Aside0 (w119.heap[gb194]? = some (.cells #[.int .i64 a0_0, .int .i64 a0_1, .string a0_2, .string a0_3, .slice A0_4 l0_4.length c0_4] 29 (0, 0))) := ⟨h0_⟩
        have n1_ : Aside0 (w119.heap[gb201]? = some (.cells #[.string (⟨#[]⟩ : ByteArray), .bool false, .int .i64 0, .string (⟨#[]⟩ : ByteArray)] 83 (0, 0))) := ⟨h1_⟩
        have n2_ : Aside0 (w.heap.size ≤ gb201) := ⟨h2_⟩
        have n3_ : Aside0 (w.heap.size ≤ gb201) := ⟨h3_⟩
        have n4_ : Aside0 (gb194 ≠ gb201) := ⟨h4_⟩
        have n5_ : Aside0 (gb201 ≠ gb194) := ⟨h5_⟩
        have n6_ : Aside0 (Below w.heap.size w w119) := ⟨h6_⟩
        clear BK194
        clear HB
        clear h0_ h1_ h2_ h3_ h4_ h5_ h6_
        have BK194 := n0_
        have BK201 := n1_
        have GW201 := n2_
        have GE201 := n3_
        have NB194_201 := n4_
        have NB201_194 := n5_
        have HB := n6_
        clear n0_ n1_ n2_ n3_ n4_ n5_ n6_
        have hHeld : w119.cell? ⟨gb194, 0, none⟩ = some (.int .i64 a0_0) ∧ w119.cell? ⟨gb194, 1, none⟩ = some (.int .i64 a0_1) ∧ w119.cell? ⟨gb194, 2, none⟩ = some (.string a0_2) ∧ w119.cell? ⟨gb194, 3, none⟩ = some (.string a0_3) ∧ w119.cell? ⟨gb194, 4, none⟩ = some (.slice A0_4 l0_4.length c0_4) ∧ w119.cell? (ad195.add ((x5_1).toNat * 6)) = some (.int .i64 ((rd_T73 l1 x5_1).f0)) ∧ w119.cell? ⟨(ad195.add ((x5_1).toNat * 6)).block, (ad195.add ((x5_1).toNat * 6)).off + 1, none⟩ = some (.int .i64 ((rd_T73 l1 x5_1).f1)) ∧ w119.cell? ⟨(ad195.add ((x5_1).toNat * 6)).block, (ad195.add ((x5_1).toNat * 6)).off + 2, none⟩ = some (.int .i64 ((rd_T73 l1 x5_1).f2)) ∧ w119.cell? ⟨(ad195.add ((x5_1).toNat * 6)).block, (ad195.add ((x5_1).toNat * 6)).off + 3, none⟩ = some (.int .i64 ((rd_T73 l1 x5_1).f3)) ∧ w119.cell? ⟨(ad195.add ((x5_1).toNat * 6)).block, (ad195.add ((x5_1).toNat * 6)).off + 4, none⟩ = some (.bool ((rd_T73 l1 x5_1).f4)) ∧ w119.cell? ⟨(ad195.add ((x5_1).toNat * 6)).block, (ad195.add ((x5_1).toNat * 6)).off + 5, none⟩ = some (.slice A195_5 ((rd_T73 l1 x5_1).f5).length c195_5) := hS_
        refine norm_ (a' := ?_) ?_ ?_
        rotate_left
        ·simp only [putAll, Act.put, List.setIfInBounds_toArray, List.set_cons_zero, List.set_cons_succ]
         rfl
        refine one_ (i := 12) (N := none) (fB 14 8191) rfl rfl (one_of HT_.out (by kernel_rfl)) (by decide) (fun K hK => ?_)
        have hs120 : w119.cell? ⟨gb201, 0, none⟩ = some (.string (⟨#[]⟩ : ByteArray)) := (bC BK201.out 0).trans rfl
        have hfs120 := blk_frozen BK201.out 0
        have hns120_0 := NB194_201.out
        have hms120_0 := NB201_194.out
        have hs121 : w119.cell? ⟨gb201, 1, none⟩ = some (.bool false) := (bC BK201.out 1).trans rfl
        have hfs121 := blk_frozen BK201.out 1
        have hns121_0 := NB194_201.out
        have hms121_0 := NB201_194.out
        have hs122 : w119.cell? ⟨gb201, 2, none⟩ = some (.int .i64 0) := (bC BK201.out 2).trans rfl
        have hfs122 := blk_frozen BK201.out 2
        have hns122_0 := NB194_201.out
        have hms122_0 := NB201_194.out
        have hs123 : w119.cell? ⟨gb201, 3, none⟩ = some (.string (⟨#[]⟩ : ByteArray)) := (bC BK201.out 3).trans rfl
        have hfs123 := blk_frozen BK201.out 3
        have hns123_0 := NB194_201.out
        have hms123_0 := NB201_194.out
        refine skip_ (w1 := ?_) (by rfl) rfl ?_ ?_
        rotate_left
        ·go_simp
         rfl
        refine hK.out _ _ ⟨zcf4 NB194_201.out hHeld.1, zcf4 NB194_201.out hHeld.2.1, zcf4 NB194_201.out hHeld.2.2.1, zcf4 NB194_201.out hHeld.2.2.2.1, zcf4 NB194_201.out hHeld.2.2.2.2.1, zcg4 (zhn hw195_0 GW201.out) hHeld.2.2.2.2.2.1, zcg4 (zhn hw195_1 GW201.out) hHeld.2.2.2.2.2.2.1, zcg4 (zhn hw195_2 GW201.out) hHeld.2.2.2.2.2.2.2.1, zcg4 (zhn hw195_3 GW201.out) hHeld.2.2.2.2.2.2.2.2.1, zcg4 (zhn hw195_4 GW201.out) hHeld.2.2.2.2.2.2.2.2.2.1, zcg4 (zhn hw195_5 GW201.out) hHeld.2.2.2.2.2.2.2.2.2.2⟩ fun hHeld => ?_; clear hK K
        refine pY 13 7 (fB 14 16383) HT_.out ?_
        refine done_ (done_of HT_.out (by kernel_rfl)) ?_
        have hnb124 := NB194_201.out
        have hnc124 := NB201_194.out
        have hcz125 := zc5 BK194.out
        have hfz125 := zf5 BK194.out
        try go_wp2
        go_roundg k1
        case measure => have := HK1.out; omega
        case rel => exact ⟨(wrap64 (x5_1 + 1)), zV, H', ⟨by have := HK1.out; omega⟩, ⟨by refine zB ?_; refine zr4 ?_ NB194_201.out; exact zB BK194.out⟩, ⟨zL2 HB.out GE194.out GE201.out⟩⟩
     ·obtain rfl := Bool.eq_false_iff.mpr c7
      rw [if_neg zn] at H
      have H' := Aside0.mk H
      clear H
      try go_wp2
      replace BK194 := zBD BK194; replace HB := zLD HB
      have p195 : 0 ≤ (x5_1 : Int) := zD
      have q195 : x5_1 < (l1.length : Int) := zD
      obtain ⟨ad195, A195_5, c195_5, e195, hx195_0, hx195_1, hx195_2, hx195_3, hx195_4, hx195_5, hl195_5, hi195_5⟩ := at_T73 HR1.out x5_1 p195 q195
      have hw195_5 := hx195_5
      have hw195_4 := hx195_4
      have hw195_3 := hx195_3
      have hw195_2 := hx195_2
      have hw195_1 := hx195_1
      have hw195_0 := hx195_0
      cases e195
      replace hx195_0 := zh HB.out hx195_0
      replace hx195_1 := zh HB.out hx195_1
      replace hx195_2 := zh HB.out hx195_2
      replace hx195_3 := zh HB.out hx195_3
      replace hx195_4 := zh HB.out hx195_4
      replace hx195_5 := zh HB.out hx195_5
      have HR195_5 := Aside0.mk hi195_5
      have HC195_5 := Aside0.mk hl195_5
      clear hi195_5 hl195_5
      replace p195 := eq_true p195
      replace q195 := eq_true q195
      refine start_ (n := 14) (S := fun w' => w'.cell? ⟨gb194, 0, none⟩ = some (.int .i64 a0_0) ∧ w'.cell? ⟨gb194, 1, none⟩ = some (.int .i64 a0_1) ∧ w'.cell? ⟨gb194, 2, none⟩ = some (.string a0_2) ∧ w'.cell? ⟨gb194, 3, none⟩ = some (.string a0_3) ∧ w'.cell? ⟨gb194, 4, none⟩ = some (.slice A0_4 l0_4.length c0_4) ∧ w'.cell? (ad195.add ((x5_1).toNat * 6)) = some (.int .i64 ((rd_T73 l1 x5_1).f0)) ∧ w'.cell? ⟨(ad195.add ((x5_1).toNat * 6)).block, (ad195.add ((x5_1).toNat * 6)).off + 1, none⟩ = some (.int .i64 ((rd_T73 l1 x5_1).f1)) ∧ w'.cell? ⟨(ad195.add ((x5_1).toNat * 6)).block, (ad195.add ((x5_1).toNat * 6)).off + 2, none⟩ = some (.int .i64 ((rd_T73 l1 x5_1).f2)) ∧ w'.cell? ⟨(ad195.add ((x5_1).toNat * 6)).block, (ad195.add ((x5_1).toNat * 6)).off + 3, none⟩ = some (.int .i64 ((rd_T73 l1 x5_1).f3)) ∧ w'.cell? ⟨(ad195.add ((x5_1).toNat * 6)).block, (ad195.add ((x5_1).toNat * 6)).off + 4, none⟩ = some (.bool ((rd_T73 l1 x5_1).f4)) ∧ w'.cell? ⟨(ad195.add ((x5_1).toNat * 6)).block, (ad195.add ((x5_1).toNat * 6)).off + 5, none⟩ = some (.slice A195_5 ((rd_T73 l1 x5_1).f5).length c195_5)) (ds := []) (fB 14 0) (by kernel_rfl) rfl rfl ⟨(bC BK194.out 0).trans rfl, (bC BK194.out 1).trans rfl, (bC BK194.out 2).trans rfl, (bC BK194.out 3).trans rfl, (bC BK194.out 4).trans rfl, (zh HB.out hw195_0), (zh HB.out hw195_1), (zh HB.out hw195_2), (zh HB.out hw195_3), (zh HB.out hw195_4), (zh HB.out hw195_5)⟩ (fun hHeld => ?_); refine with_tabW spec_l6Some.tab4 spec_l6Some.bits4 (fun HT_ HW_ => ?_)
      generalize wr.drew = w126 at BK194 HB HR195_5 hx195_0 hx195_1 hx195_2 hx195_3 hx195_4 hx195_5 hHeld ⊢
      refine pY 0 15 (fB 14 1) HT_.out ?_
      refine pY 1 16 (fB 14 3) HT_.out ?_
      refine pY 2 17 (fB 14 7) HT_.out ?_
      refine pY 3 18 (fB 14 15) HT_.out ?_
      refine pY 5 20 (fB 14 47) HT_.out ?_
      refine tY 4 19 (fB 14 63) HT_.out HW_.out hHeld ?_
      refine tY 6 21 (fB 14 127) HT_.out HW_.out hHeld ?_
      refine join_ (σ := Nat) 2 #[true, true, true, true, true, true, true, true, true, true, true, true, false, false] (fun s_ => [(22, .tuple #[.agg #[.string t196, .bool t197, .int .i64 t198, .string t199], .bool false]), (6, .pointer (some ⟨s_, 0, none⟩)), (14, .tuple #[.agg #[.string t196, .bool t197, .int .i64 t198, .string t199], .bool false]), (23, .agg #[.string t196, .bool t197, .int .i64 t198, .string t199]), (24, .bool false)]) (fun s_ w' => (w'.cell? ⟨gb194, 0, none⟩ = some (.int .i64 a0_0) ∧ w'.cell? ⟨gb194, 1, none⟩ = some (.int .i64 a0_1) ∧ w'.cell? ⟨gb194, 2, none⟩ = some (.string a0_2) ∧ w'.cell? ⟨gb194, 3, none⟩ = some (.string a0_3) ∧ w'.cell? ⟨gb194, 4, none⟩ = some (.slice A0_4 l0_4.length c0_4) ∧ w'.cell? (ad195.add ((x5_1).toNat * 6)) = some (.int .i64 ((rd_T73 l1 x5_1).f0)) ∧ w'.cell? ⟨(ad195.add ((x5_1).toNat * 6)).block, (ad195.add ((x5_1).toNat * 6)).off + 1, none⟩ = some (.int .i64 ((rd_T73 l1 x5_1).f1)) ∧ w'.cell? ⟨(ad195.add ((x5_1).toNat * 6)).block, (ad195.add ((x5_1).toNat * 6)).off + 2, none⟩ = some (.int .i64 ((rd_T73 l1 x5_1).f2)) ∧ w'.cell? ⟨(ad195.add ((x5_1).toNat * 6)).block, (ad195.add ((x5_1).toNat * 6)).off + 3, none⟩ = some (.int .i64 ((rd_T73 l1 x5_1).f3)) ∧ w'.cell? ⟨(ad195.add ((x5_1).toNat * 6)).block, (ad195.add ((x5_1).toNat * 6)).off + 4, none⟩ = some (.bool ((rd_T73 l1 x5_1).f4)) ∧ w'.cell? ⟨(ad195.add ((x5_1).toNat * 6)).block, (ad195.add ((x5_1).toNat * 6)).off + 5, none⟩ = some (.slice A195_5 ((rd_T73 l1 x5_1).f5).length c195_5)) ∧ (w'.heap[gb194]? = some (.cells #[.int .i64 a0_0, .int .i64 a0_1, .string a0_2, .string a0_3, .slice A0_4 l0_4.length c0_4] 29 (0, 0))) ∧ (w'.heap[s_]? = some (.cells #[.string (⟨#[]⟩ : ByteArray), .bool false, .int .i64 0, .string (⟨#[]⟩ : ByteArray)] 83 (0, 0))) ∧ (w.heap.size ≤ s_) ∧ (w.heap.size ≤ s_) ∧ (gb194 ≠ s_) ∧ (s_ ≠ gb194) ∧ (Below w.heap.size w w')) ?_ ?_
      rotate_left
      ·intro hCont
       refine two_ (i := 7) (j := 11) (Ni := some 22) (Nj := some 6) #[true, true, true, true, true, true, true, true, false, false, false, false, false, false] #[true, true, true, true, true, true, true, false, false, false, false, true, false, false] rfl rfl rfl rfl (two_of HT_.out (by kernel_rfl)) (by decide) (by decide) (fun K hK => ?_) (fun K hK => ?_)
       ·skip
        refine gS Try.func86 #[.slice A195_5 ((rd_T73 l1 x5_1).f5).length c195_5, .string a0_2] ?_
        with_reducible refine (spec_FindAttr.calls k1 _ _ ((rd_T73 l1 x5_1).f5) a0_2 t196 t197 t198 t199 false _ ?side1 ?side2 A6.out).mono ?_
        (case side1 => exact zC (Kd.C_below HR195_5.out HB.out))
        (case side2 => exact HC195_5.out)
        rintro e w127 ⟨rfl, hb⟩
        refine ⟨_, rfl, ?_⟩
        replace BK194 := zBB BK194 hb; replace HB := zLB (zL1 HB.out GE194.out) hb
        clear hb
        refine hK.out _ _ ⟨(bC BK194.out 0).trans rfl, (bC BK194.out 1).trans rfl, (bC BK194.out 2).trans rfl, (bC BK194.out 3).trans rfl, (bC BK194.out 4).trans rfl, (zh HB.out hw195_0), (zh HB.out hw195_1), (zh HB.out hw195_2), (zh HB.out hw195_3), (zh HB.out hw195_4), (zh HB.out hw195_5)⟩ fun hHeld => ?_; clear hK K
        refine nZ 22 ?_
        refine pY 8 14 (fB 14 511) HT_.out ?_
        refine pY 9 23 (fB 14 1023) HT_.out ?_
        refine pY 10 24 (fB 14 2047) HT_.out ?_
        refine oN 11 6 (fB 14 4095) HT_.out fun K hK => ?_
        refine box_step ?hg (N := 6) ?hd (cs := #[.string (⟨#[]⟩ : ByteArray), .bool false, .int .i64 0, .string (⟨#[]⟩ : ByteArray)]) (t := 83) ?hr ?_; (case hd => rfl); (case hg => rfl); (case hr => first | (go_simp; done) | (go_simp; rfl))
        intro gb201 hg w128 hbox hb
        have BK201 := Aside0.mk hbox; have GW201 := Aside0.mk (zg (zL1 HB.out GE194.out) hg : w.heap.size ≤ gb201); have GE201 := GW201; replace HB := zLB (zL1 HB.out GE194.out) hb; have NB194_201 := Aside0.mk (zN BK194.out hg : gb194 ≠ gb201); have NB201_194 := Aside0.mk (zM BK194.out hg : gb201 ≠ gb194); replace BK194 := zBB BK194 hb
        clear hb hbox hg
        refine hK.out _ _ ⟨(bC BK194.out 0).trans rfl, (bC BK194.out 1).trans rfl, (bC BK194.out 2).trans rfl, (bC BK194.out 3).trans rfl, (bC BK194.out 4).trans rfl, (zh HB.out hw195_0), (zh HB.out hw195_1), (zh HB.out hw195_2), (zh HB.out hw195_3), (zh HB.out hw195_4), (zh HB.out hw195_5)⟩ fun hHeld => ?_; clear hK K
        refine nZ 6 ?_
        exact norm_ (by simp only [putAll, Act.put, List.setIfInBounds_toArray, List.set_cons_zero, List.set_cons_succ]) (hCont (gb201) _ ⟨hHeld, (zB BK194.out), (zB BK201.out), GW201.out, GE201.out, NB194_201.out, NB201_194.out, (zL2 HB.out GE194.out GE201.out)⟩)
       ·skip
        refine box_step ?hg (N := 6) ?hd (cs := #[.string (⟨#[]⟩ : ByteArray), .bool false, .int .i64 0, .string (⟨#[]⟩ : ByteArray)]) (t := 83) ?hr ?_; (case hd => rfl); (case hg => rfl); (case hr => first | (go_simp; done) | (go_simp; rfl))
        intro gb201 hg w127 hbox hb
        have BK201 := Aside0.mk hbox; have GW201 := Aside0.mk (zg (zL1 HB.out GE194.out) hg : w.heap.size ≤ gb201); have GE201 := GW201; replace HB := zLB (zL1 HB.out GE194.out) hb; have NB194_201 := Aside0.mk (zN BK194.out hg : gb194 ≠ gb201); have NB201_194 := Aside0.mk (zM BK194.out hg : gb201 ≠ gb194); replace BK194 := zBB BK194 hb
        clear hb hbox hg
        refine hK.out _ _ ⟨(bC BK194.out 0).trans rfl, (bC BK194.out 1).trans rfl, (bC BK194.out 2).trans rfl, (bC BK194.out 3).trans rfl, (bC BK194.out 4).trans rfl, (zh HB.out hw195_0), (zh HB.out hw195_1), (zh HB.out hw195_2), (zh HB.out hw195_3), (zh HB.out hw195_4), (zh HB.out hw195_5)⟩ fun hHeld => ?_; clear hK K
        refine nZ 6 ?_
        refine oN 7 22 (fB 14 2303) HT_.out fun K hK => ?_
        refine gS Try.func86 #[.slice A195_5 ((rd_T73 l1 x5_1).f5).length c195_5, .string a0_2] ?_
        with_reducible refine (spec_FindAttr.calls k1 _ _ ((rd_T73 l1 x5_1).f5) a0_2 t196 t197 t198 t199 false _ ?side1 ?side2 A6.out).mono ?_
        (case side1 => exact zC (Kd.C_below HR195_5.out HB.out))
        (case side2 => exact HC195_5.out)
        rintro e w128 ⟨rfl, hb⟩
        refine ⟨_, rfl, ?_⟩
        replace BK194 := zBB BK194 hb; replace BK201 := zBB BK201 hb; replace HB := zLB (zL2 HB.out GE194.out GE201.out) hb
        clear hb
        refine hK.out _ _ ⟨(bC BK194.out 0).trans rfl, (bC BK194.out 1).trans rfl, (bC BK194.out 2).trans rfl, (bC BK194.out 3).trans rfl, (bC BK194.out 4).trans rfl, (zh HB.out hw195_0), (zh HB.out hw195_1), (zh HB.out hw195_2), (zh HB.out hw195_3), (zh HB.out hw195_4), (zh HB.out hw195_5)⟩ fun hHeld => ?_; clear hK K
        refine nZ 22 ?_
        refine pY 8 14 (fB 14 2559) HT_.out ?_
        refine pY 9 23 (fB 14 3071) HT_.out ?_
        refine pY 10 24 (fB 14 4095) HT_.out ?_
        exact norm_ (by simp only [putAll, Act.put, List.setIfInBounds_toArray, List.set_cons_zero, List.set_cons_succ]) (hCont (gb201) _ ⟨hHeld, (zB BK194.out), (zB BK201.out), GW201.out, GE201.out, NB194_201.out, NB201_194.out, (zL2 HB.out GE194.out GE201.out)⟩)
      rintro gb201 w129 ⟨hS_, h0_, h1_, h2_, h3_, h4_, h5_, h6_⟩
      have n0_ : Aside0 (w129.heap[gb194]? = some (.cells #[.int .i64 a0_0, .int .i64 a0_1, .string a0_2, .string a0_3, .slice A0_4 l0_4.length c0_4] 29 (0, 0))) := ⟨h0_⟩
      have n1_ : Aside0 (w129.heap[gb201]? = some (.cells #[.string (⟨#[]⟩ : ByteArray), .bool false, .int .i64 0, .string (⟨#[]⟩ : ByteArray)] 83 (0, 0))) := ⟨h1_⟩
      have n2_ : Aside0 (w.heap.size ≤ gb201) := ⟨h2_⟩
      have n3_ : Aside0 (w.heap.size ≤ gb201) := ⟨h3_⟩
      have n4_ : Aside0 (gb194 ≠ gb201) := ⟨h4_⟩
      have n5_ : Aside0 (gb201 ≠ gb194) := ⟨h5_⟩
      have n6_ : Aside0 (Below w.heap.size w w129) := ⟨h6_⟩
      clear BK194
      clear HB
      clear h0_ h1_ h2_ h3_ h4_ h5_ h6_
      have BK194 := n0_
      have BK201 := n1_
      have GW201 := n2_
      have GE201 := n3_
      have NB194_201 := n4_
      have NB201_194 := n5_
      have HB := n6_
      clear n0_ n1_ n2_ n3_ n4_ n5_ n6_
      have hHeld : w129.cell? ⟨gb194, 0, none⟩ = some (.int .i64 a0_0) ∧ w129.cell? ⟨gb194, 1, none⟩ = some (.int .i64 a0_1) ∧ w129.cell? ⟨gb194, 2, none⟩ = some (.string a0_2) ∧ w129.cell? ⟨gb194, 3, none⟩ = some (.string a0_3) ∧ w129.cell? ⟨gb194, 4, none⟩ = some (.slice A0_4 l0_4.length c0_4) ∧ w129.cell? (ad195.add ((x5_1).toNat * 6)) = some (.int .i64 ((rd_T73 l1 x5_1).f0)) ∧ w129.cell? ⟨(ad195.add ((x5_1).toNat * 6)).block, (ad195.add ((x5_1).toNat * 6)).off + 1, none⟩ = some (.int .i64 ((rd_T73 l1 x5_1).f1)) ∧ w129.cell? ⟨(ad195.add ((x5_1).toNat * 6)).block, (ad195.add ((x5_1).toNat * 6)).off + 2, none⟩ = some (.int .i64 ((rd_T73 l1 x5_1).f2)) ∧ w129.cell? ⟨(ad195.add ((x5_1).toNat * 6)).block, (ad195.add ((x5_1).toNat * 6)).off + 3, none⟩ = some (.int .i64 ((rd_T73 l1 x5_1).f3)) ∧ w129.cell? ⟨(ad195.add ((x5_1).toNat * 6)).block, (ad195.add ((x5_1).toNat * 6)).off + 4, none⟩ = some (.bool ((rd_T73 l1 x5_1).f4)) ∧ w129.cell? ⟨(ad195.add ((x5_1).toNat * 6)).block, (ad195.add ((x5_1).toNat * 6)).off + 5, none⟩ = some (.slice A195_5 ((rd_T73 l1 x5_1).f5).length c195_5) := hS_
      refine norm_ (a' := ?_) ?_ ?_
      rotate_left
      ·simp only [putAll, Act.put, List.setIfInBounds_toArray, List.set_cons_zero, List.set_cons_succ]
       rfl
      refine one_ (i := 12) (N := none) (fB 14 8191) rfl rfl (one_of HT_.out (by kernel_rfl)) (by decide) (fun K hK => ?_)
      have hs130 : w129.cell? ⟨gb201, 0, none⟩ = some (.string (⟨#[]⟩ : ByteArray)) := (bC BK201.out 0).trans rfl
      have hfs130 := blk_frozen BK201.out 0
      have hns130_0 := NB194_201.out
      have hms130_0 := NB201_194.out
      have hs131 : w129.cell? ⟨gb201, 1, none⟩ = some (.bool false) := (bC BK201.out 1).trans rfl
      have hfs131 := blk_frozen BK201.out 1
      have hns131_0 := NB194_201.out
      have hms131_0 := NB201_194.out
      have hs132 : w129.cell? ⟨gb201, 2, none⟩ = some (.int .i64 0) := (bC BK201.out 2).trans rfl
      have hfs132 := blk_frozen BK201.out 2
      have hns132_0 := NB194_201.out
      have hms132_0 := NB201_194.out
      have hs133 : w129.cell? ⟨gb201, 3, none⟩ = some (.string (⟨#[]⟩ : ByteArray)) := (bC BK201.out 3).trans rfl
      have hfs133 := blk_frozen BK201.out 3
      have hns133_0 := NB194_201.out
      have hms133_0 := NB201_194.out
      refine skip_ (w1 := ?_) (by rfl) rfl ?_ ?_
      rotate_left
      ·go_simp
       rfl
      refine hK.out _ _ ⟨zcf4 NB194_201.out hHeld.1, zcf4 NB194_201.out hHeld.2.1, zcf4 NB194_201.out hHeld.2.2.1, zcf4 NB194_201.out hHeld.2.2.2.1, zcf4 NB194_201.out hHeld.2.2.2.2.1, zcg4 (zhn hw195_0 GW201.out) hHeld.2.2.2.2.2.1, zcg4 (zhn hw195_1 GW201.out) hHeld.2.2.2.2.2.2.1, zcg4 (zhn hw195_2 GW201.out) hHeld.2.2.2.2.2.2.2.1, zcg4 (zhn hw195_3 GW201.out) hHeld.2.2.2.2.2.2.2.2.1, zcg4 (zhn hw195_4 GW201.out) hHeld.2.2.2.2.2.2.2.2.2.1, zcg4 (zhn hw195_5 GW201.out) hHeld.2.2.2.2.2.2.2.2.2.2⟩ fun hHeld => ?_; clear hK K
      refine pY 13 7 (fB 14 16383) HT_.out ?_
      refine done_ (done_of HT_.out (by kernel_rfl)) ?_
      try go_wp2
      go_roundg k1
      case measure => have := HK1.out; omega
      case rel => exact ⟨(wrap64 (x5_1 + 1)), zV, H', ⟨by have := HK1.out; omega⟩, ⟨by refine zB ?_; refine zr4 ?_ NB194_201.out; exact zB BK194.out⟩, ⟨zL2 HB.out GE194.out GE201.out⟩⟩
    ·rw [if_neg c5] at H
     exact absurd H (by simp)
   ·rw [if_neg c4] at H
    have c4b0 := decide_eq_false c4
    clear c4
    obtain rfl := Option.some.inj H
    go_wp2
    go_ret
    exact ⟨zW, zL1 HB.out GE194.out⟩

end Go.Proofs.Ytfhblnbicnmndaa.QFnExactJudge
