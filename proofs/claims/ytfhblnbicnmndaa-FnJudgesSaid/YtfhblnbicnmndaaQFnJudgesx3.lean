/- What the Go functions that the law FnJudges reaches answer: each as a Lean function, with its walk. Written by a program of this session. Conditions: those that each theorem names. -/
import Derived.Test.YtfhblnbicnmndaaQFnJudgesx0
import Derived.Test.YtfhblnbicnmndaaQFnJudgesx2
namespace Go.Proofs.Ytfhblnbicnmndaa.QFnJudges
open Go.RowKit Go.Proofs.YtfhblnbicnmndaaW.PrintWords Go.Proofs.YtfhblnbicnmndaaW.PrintLast Go.Proofs.YtfhblnbicnmndaaW.PrintMore
attribute [local go_sem] max2_int min2_int max_two min_two max_three min_three max_four min_four   -- for this text's walks alone
set_option linter.unusedVariables false
set_option linter.unusedSimpArgs false

open Go.Proofs.YtfhblnbicnmndaaW.PrintWords renaming blk_drewN → bN, blk_drew → bD, blk_alloc → bA, blk_cell → bC, blk_below → bB, below_set → bS
/-! ### spec_l6Some: function 61 -/
def spec_l6Some.l0 : Nat → List (S73) → Int → Int → Int → ByteArray → ByteArray → List (S29) → Option (Bool)
 | 0, _, _, _, _, _, _, _ => none
 | k + 1, x1, x5, x198000, x198001, x198002, x198003, x198004 => if x5 < (x1.length : Int) then (if 0 ≤ x5 then ((spec_FindAttr.f k ((rd_T73 x1 x5).f5) x198002).bind fun bt199 => (if bt199.2.2.2.2 = true then (if x198000 = 4 then (if bt199.2.1 = true then (if x198000 = 5 then (if bt199.2.2.1 ≥ x198001 then (some true) else (spec_l6Some.l0 k x1 (wrap64 (x5 + 1)) x198000 x198001 x198002 x198003 x198004)) else (spec_l6Some.l0 k x1 (wrap64 (x5 + 1)) x198000 x198001 x198002 x198003 x198004)) else (if bt199.2.2.2.1.toList = x198003.toList then (some true) else (if x198000 = 5 then (spec_l6Some.l0 k x1 (wrap64 (x5 + 1)) x198000 x198001 x198002 x198003 x198004) else (spec_l6Some.l0 k x1 (wrap64 (x5 + 1)) x198000 x198001 x198002 x198003 x198004)))) else (if x198000 = 5 then (if bt199.2.1 = true then (if bt199.2.2.1 ≥ x198001 then (some true) else (spec_l6Some.l0 k x1 (wrap64 (x5 + 1)) x198000 x198001 x198002 x198003 x198004)) else (spec_l6Some.l0 k x1 (wrap64 (x5 + 1)) x198000 x198001 x198002 x198003 x198004)) else (spec_l6Some.l0 k x1 (wrap64 (x5 + 1)) x198000 x198001 x198002 x198003 x198004))) else (spec_l6Some.l0 k x1 (wrap64 (x5 + 1)) x198000 x198001 x198002 x198003 x198004))) else (none)) else (some false)
def spec_l6Some.f (k : Nat) (a0_0 : Int) (a0_1 : Int) (a0_2 : ByteArray) (a0_3 : ByteArray) (l0_4 : List (S29)) (l1 : List (S73)) : Option (Bool) := spec_l6Some.l0 k l1 0 a0_0 a0_1 a0_2 a0_3 l0_4
theorem spec_l6Some.mono_l : ∀ k, (∀ y0 y1 y2 y3 y4 y5 y6, LeO (spec_l6Some.l0 k y0 y1 y2 y3 y4 y5 y6) (spec_l6Some.l0 (k + 1) y0 y1 y2 y3 y4 y5 y6))
 | 0 => fun _ _ _ _ _ _ _ r h => by simp [spec_l6Some.l0] at h
 | k + 1 => by
  have ih0 := spec_l6Some.mono_l k
  ·intro y0 y1 y2 y3 y4 y5 y6
   unfold spec_l6Some.l0
   repeat' first
   | (with_reducible exact ih0 _ _ _ _ _ _ _)
   | (with_reducible apply spec_FindAttr.mono)
   | (with_reducible exact LeO.refl _)
   | (with_reducible exact LeO.none _)
   | (with_reducible refine LeO.ite ?_ ?_)
   | (with_reducible refine LeO.bind ?_ (fun _ => ?_))
   | exact ih0 _ _ _ _ _ _ _
   | apply spec_FindAttr.mono
   | exact LeO.none _
   | refine LeO.ite ?_ ?_
   | refine LeO.bind ?_ (fun _ => ?_)
theorem spec_l6Some.mono : ∀ a0 a1 a2 a3 a4 a5 k, LeO (spec_l6Some.f k a0 a1 a2 a3 a4 a5) (spec_l6Some.f (k + 1) a0 a1 a2 a3 a4 a5) := by
 intro a0 a1 a2 a3 a4 a5 k
 have ih0 := spec_l6Some.mono_l k
 unfold spec_l6Some.f
 repeat' first
   | (with_reducible exact ih0 _ _ _ _ _ _ _)
   | (with_reducible apply spec_FindAttr.mono)
   | (with_reducible exact LeO.refl _)
   | (with_reducible exact LeO.none _)
   | (with_reducible refine LeO.ite ?_ ?_)
   | (with_reducible refine LeO.bind ?_ (fun _ => ?_))
   | exact ih0 _ _ _ _ _ _ _
   | apply spec_FindAttr.mono
   | exact LeO.none _
   | refine LeO.ite ?_ ?_
   | refine LeO.bind ?_ (fun _ => ?_)
def spec_l6Some.T4 : Bool × List (List Nat × List Nat) := (true, [([], []), ([], []), ([0, 1], [0, 1]), ([2], [2]), ([3], [3]), ([], []), ([5], [5]), ([4, 6], [4, 6]), ([7], [7]), ([8], [8]), ([8], [8]), ([], []), ([11, 9, 7, 0, 1, 2, 3, 4, 5, 6, 7, 8, 9, 11], [9, 11]), ([10, 12, 0, 1, 2, 3, 4, 5, 6, 7, 8, 9, 10, 11, 12], [10])])
def spec_l6Some.B4 : List Nat := [0, 0, 3, 7, 15, 0, 32, 127, 255, 511, 511, 0, 3071, 8191]
theorem spec_l6Some.tab4 : rtab .any (opsOf Try.f61 4) = spec_l6Some.T4 := by kernel_rfl
theorem spec_l6Some.bits4 : waitsOk spec_l6Some.T4.2 spec_l6Some.B4 = true := by kernel_rfl
set_option maxHeartbeats 8000000 in
set_option maxRecDepth 100000 in
theorem spec_l6Some.calls (k : Nat) (a0_0 : Int) (a0_1 : Int) (a0_2 : ByteArray) (a0_3 : ByteArray) (A0_4 : Option Addr) (c0_4 : Nat) (l0_4 : List (S29)) (A1 : Option Addr) (c1 : Nat) (l1 : List (S73)) (r : Bool) (w : World) (hr0_4 : Kd.C k29 w A0_4 l0_4.length l0_4) (hc0_4 : l0_4.length ≤ c0_4) (hr1 : Kd.C k73 w A1 l1.length l1) (hc1 : l1.length ≤ c1) (h : spec_l6Some.f k a0_0 a0_1 a0_2 a0_3 l0_4 l1 = some r) :
  Calls Try.prog 61 #[.agg #[.int .i64 a0_0, .int .i64 a0_1, .string a0_2, .string a0_3, .slice A0_4 l0_4.length c0_4], .slice A1 l1.length c1] w fun e w' => e = .returned (.bool r) ∧ Below w.heap.size w w' := by
 have hu29 := Try.underlying29
 have hu83 := Try.underlying83
 have HR0_4 := Aside0.mk hr0_4
 have HC0_4 := Aside0.mk hc0_4
 clear hr0_4 hc0_4
 have HR1 := Aside0.mk hr1
 have HC1 := Aside0.mk hc1
 clear hr1 hc1
 have HB := Aside0.mk (Below.refl w.heap.size w)
 unfold spec_l6Some.f at h; have H := h
 clear h
 have H' := Aside0.mk H
 clear H
 go_enter Try.func61, Try.ntmps61
 go_wp2_with (first | ((with_reducible refine gD 2 rfl ?_); refine bE 2 #[.int .i64 a0_0, .int .i64 a0_1, .string a0_2, .string a0_3, .slice A0_4 l0_4.length c0_4] 29 ?_; intro gb197 hg w3 hbox hb; have BK197 := Aside0.mk hbox; have GW197 := Aside0.mk (zg (zL HB.out) hg : w.heap.size ≤ gb197); have GE197 := GW197; replace HB := zLB (zL HB.out) hb; clear hb hbox hg))
 go_loopg [5] k (fun kq v5 w' => ∃ (x5_1 : Int), v5 = .int .i64 x5_1 ∧ Aside0 (spec_l6Some.l0 kq l1 x5_1 a0_0 a0_1 a0_2 a0_3 l0_4 = some r) ∧ Aside0 (kq ≤ k) ∧ Aside0 (w'.heap[gb197]? = some (.cells #[.int .i64 a0_0, .int .i64 a0_1, .string a0_2, .string a0_3, (.slice A0_4 l0_4.length c0_4)] 29 (0, 0))) ∧ Aside0 (Below w.heap.size w w'))
 case atStart => exact ⟨(0), zV, H', ⟨Nat.le_refl _⟩, ⟨zB BK197.out⟩, ⟨zL1 HB.out GE197.out⟩⟩
 case round =>
  clear H'
  try clear c1
  try clear p2
  try clear BK197
  obtain ⟨x5_1, rfl, HA, HK1, BK197, HB⟩ := hrel
  cases gk with
  | zero => exact absurd HA.out (by simp [spec_l6Some.l0])
  | succ k1 =>
   have H := HA.out
   clear HA
   simp only [spec_l6Some.l0] at H
   by_cases c4 : x5_1 < (l1.length : Int)
   ·rw [if_pos c4] at H
    have c4b0 := decide_eq_true c4
    clear c4
    by_cases c5 : 0 ≤ x5_1
    ·rw [if_pos c5] at H
     have c5b0 := decide_eq_true c5
     clear c5
     obtain ⟨⟨t199, t200, t201, t202, t203⟩, A6, H⟩ := zO H; try dsimp only at H
     try go_wp2
     replace BK197 := zBD BK197; replace HB := zLD HB
     have p198 : 0 ≤ (x5_1 : Int) := zD
     have q198 : x5_1 < (l1.length : Int) := zD
     obtain ⟨ad198, A198_5, c198_5, e198, hx198_0, hx198_1, hx198_2, hx198_3, hx198_4, hx198_5, hl198_5, hi198_5⟩ := at_T73 HR1.out x5_1 p198 q198
     have hw198_5 := hx198_5
     have hw198_4 := hx198_4
     have hw198_3 := hx198_3
     have hw198_2 := hx198_2
     have hw198_1 := hx198_1
     have hw198_0 := hx198_0
     cases e198
     replace hx198_0 := zh HB.out hx198_0
     replace hx198_1 := zh HB.out hx198_1
     replace hx198_2 := zh HB.out hx198_2
     replace hx198_3 := zh HB.out hx198_3
     replace hx198_4 := zh HB.out hx198_4
     replace hx198_5 := zh HB.out hx198_5
     have HR198_5 := Aside0.mk hi198_5
     have HC198_5 := Aside0.mk hl198_5
     clear hi198_5 hl198_5
     replace p198 := eq_true p198
     replace q198 := eq_true q198
     refine start_ (n := 14) (S := fun w' => w'.cell? ⟨gb197, 0, none⟩ = some (.int .i64 a0_0) ∧ w'.cell? ⟨gb197, 1, none⟩ = some (.int .i64 a0_1) ∧ w'.cell? ⟨gb197, 2, none⟩ = some (.string a0_2) ∧ w'.cell? ⟨gb197, 3, none⟩ = some (.string a0_3) ∧ w'.cell? ⟨gb197, 4, none⟩ = some (.slice A0_4 l0_4.length c0_4) ∧ w'.cell? (ad198.add ((x5_1).toNat * 6)) = some (.int .i64 ((rd_T73 l1 x5_1).f0)) ∧ w'.cell? ⟨(ad198.add ((x5_1).toNat * 6)).block, (ad198.add ((x5_1).toNat * 6)).off + 1, none⟩ = some (.int .i64 ((rd_T73 l1 x5_1).f1)) ∧ w'.cell? ⟨(ad198.add ((x5_1).toNat * 6)).block, (ad198.add ((x5_1).toNat * 6)).off + 2, none⟩ = some (.int .i64 ((rd_T73 l1 x5_1).f2)) ∧ w'.cell? ⟨(ad198.add ((x5_1).toNat * 6)).block, (ad198.add ((x5_1).toNat * 6)).off + 3, none⟩ = some (.int .i64 ((rd_T73 l1 x5_1).f3)) ∧ w'.cell? ⟨(ad198.add ((x5_1).toNat * 6)).block, (ad198.add ((x5_1).toNat * 6)).off + 4, none⟩ = some (.bool ((rd_T73 l1 x5_1).f4)) ∧ w'.cell? ⟨(ad198.add ((x5_1).toNat * 6)).block, (ad198.add ((x5_1).toNat * 6)).off + 5, none⟩ = some (.slice A198_5 ((rd_T73 l1 x5_1).f5).length c198_5)) (ds := []) (fB 14 0) (by kernel_rfl) rfl rfl ⟨(bC BK197.out 0).trans rfl, (bC BK197.out 1).trans rfl, (bC BK197.out 2).trans rfl, (bC BK197.out 3).trans rfl, (bC BK197.out 4).trans rfl, (zh HB.out hw198_0), (zh HB.out hw198_1), (zh HB.out hw198_2), (zh HB.out hw198_3), (zh HB.out hw198_4), (zh HB.out hw198_5)⟩ (fun hHeld => ?_); refine with_tabW spec_l6Some.tab4 spec_l6Some.bits4 (fun HT_ HW_ => ?_)
     generalize wr.drew = w12 at BK197 HB HR198_5 hx198_0 hx198_1 hx198_2 hx198_3 hx198_4 hx198_5 hHeld ⊢
     refine pY 0 15 (fB 14 1) HT_.out ?_
     refine pY 1 16 (fB 14 3) HT_.out ?_
     refine pY 2 17 (fB 14 7) HT_.out ?_
     refine pY 3 18 (fB 14 15) HT_.out ?_
     refine pY 5 20 (fB 14 47) HT_.out ?_
     refine tY 4 19 (fB 14 63) HT_.out HW_.out hHeld ?_
     refine tY 6 21 (fB 14 127) HT_.out HW_.out hHeld ?_
     refine join_ (σ := Nat) 2 #[true, true, true, true, true, true, true, true, true, true, true, true, false, false] (fun s_ => [(22, .tuple #[.agg #[.string t199, .bool t200, .int .i64 t201, .string t202], .bool t203]), (6, .pointer (some ⟨s_, 0, none⟩)), (14, .tuple #[.agg #[.string t199, .bool t200, .int .i64 t201, .string t202], .bool t203]), (23, .agg #[.string t199, .bool t200, .int .i64 t201, .string t202]), (24, .bool t203)]) (fun s_ w' => (w'.cell? ⟨gb197, 0, none⟩ = some (.int .i64 a0_0) ∧ w'.cell? ⟨gb197, 1, none⟩ = some (.int .i64 a0_1) ∧ w'.cell? ⟨gb197, 2, none⟩ = some (.string a0_2) ∧ w'.cell? ⟨gb197, 3, none⟩ = some (.string a0_3) ∧ w'.cell? ⟨gb197, 4, none⟩ = some (.slice A0_4 l0_4.length c0_4) ∧ w'.cell? (ad198.add ((x5_1).toNat * 6)) = some (.int .i64 ((rd_T73 l1 x5_1).f0)) ∧ w'.cell? ⟨(ad198.add ((x5_1).toNat * 6)).block, (ad198.add ((x5_1).toNat * 6)).off + 1, none⟩ = some (.int .i64 ((rd_T73 l1 x5_1).f1)) ∧ w'.cell? ⟨(ad198.add ((x5_1).toNat * 6)).block, (ad198.add ((x5_1).toNat * 6)).off + 2, none⟩ = some (.int .i64 ((rd_T73 l1 x5_1).f2)) ∧ w'.cell? ⟨(ad198.add ((x5_1).toNat * 6)).block, (ad198.add ((x5_1).toNat * 6)).off + 3, none⟩ = some (.int .i64 ((rd_T73 l1 x5_1).f3)) ∧ w'.cell? ⟨(ad198.add ((x5_1).toNat * 6)).block, (ad198.add ((x5_1).toNat * 6)).off + 4, none⟩ = some (.bool ((rd_T73 l1 x5_1).f4)) ∧ w'.cell? ⟨(ad198.add ((x5_1).toNat * 6)).block, (ad198.add ((x5_1).toNat * 6)).off + 5, none⟩ = some (.slice A198_5 ((rd_T73 l1 x5_1).f5).length c198_5)) ∧ (w'.heap[gb197]? = some (.cells #[.int .i64 a0_0, .int .i64 a0_1, .string a0_2, .string a0_3, .slice A0_4 l0_4.length c0_4] 29 (0, 0))) ∧ (w'.heap[s_]? = some (.cells #[.string (⟨#[]⟩ : ByteArray), .bool false, .int .i64 0, .string (⟨#[]⟩ : ByteArray)] 83 (0, 0))) ∧ (w.heap.size ≤ s_) ∧ (w.heap.size ≤ s_) ∧ (gb197 ≠ s_) ∧ (s_ ≠ gb197) ∧ (Below w.heap.size w w')) ?_ ?_
     rotate_left
     ·intro hCont
      refine two_ (i := 7) (j := 11) (Ni := some 22) (Nj := some 6) #[true, true, true, true, true, true, true, true, false, false, false, false, false, false] #[true, true, true, true, true, true, true, false, false, false, false, true, false, false] rfl rfl rfl rfl (two_of HT_.out (by kernel_rfl)) (by decide) (by decide) (fun K hK => ?_) (fun K hK => ?_)
      ·skip
       refine gS Try.func86 #[.slice A198_5 ((rd_T73 l1 x5_1).f5).length c198_5, .string a0_2] ?_
       with_reducible refine (spec_FindAttr.calls k1 _ _ ((rd_T73 l1 x5_1).f5) a0_2 t199 t200 t201 t202 t203 _ ?side1 ?side2 A6.out).mono ?_
       (case side1 => exact zC (Kd.C_below HR198_5.out HB.out))
       (case side2 => exact HC198_5.out)
       rintro e w13 ⟨rfl, hb⟩
       refine ⟨_, rfl, ?_⟩
       replace BK197 := zBB BK197 hb; replace HB := zLB (zL1 HB.out GE197.out) hb
       clear hb
       refine hK.out _ _ ⟨(bC BK197.out 0).trans rfl, (bC BK197.out 1).trans rfl, (bC BK197.out 2).trans rfl, (bC BK197.out 3).trans rfl, (bC BK197.out 4).trans rfl, (zh HB.out hw198_0), (zh HB.out hw198_1), (zh HB.out hw198_2), (zh HB.out hw198_3), (zh HB.out hw198_4), (zh HB.out hw198_5)⟩ fun hHeld => ?_; clear hK K
       refine nZ 22 ?_
       refine pY 8 14 (fB 14 511) HT_.out ?_
       refine pY 9 23 (fB 14 1023) HT_.out ?_
       refine pY 10 24 (fB 14 2047) HT_.out ?_
       refine oN 11 6 (fB 14 4095) HT_.out fun K hK => ?_
       refine box_step ?hg (N := 6) ?hd (cs := #[.string (⟨#[]⟩ : ByteArray), .bool false, .int .i64 0, .string (⟨#[]⟩ : ByteArray)]) (t := 83) ?hr ?_; (case hd => rfl); (case hg => rfl); (case hr => first | (go_simp; done) | (go_simp; rfl))
       intro gb204 hg w14 hbox hb
       have BK204 := Aside0.mk hbox; have GW204 := Aside0.mk (zg (zL1 HB.out GE197.out) hg : w.heap.size ≤ gb204); have GE204 := GW204; replace HB := zLB (zL1 HB.out GE197.out) hb; have NB197_204 := Aside0.mk (zN BK197.out hg : gb197 ≠ gb204); have NB204_197 := Aside0.mk (zM BK197.out hg : gb204 ≠ gb197); replace BK197 := zBB BK197 hb
       clear hb hbox hg
       refine hK.out _ _ ⟨(bC BK197.out 0).trans rfl, (bC BK197.out 1).trans rfl, (bC BK197.out 2).trans rfl, (bC BK197.out 3).trans rfl, (bC BK197.out 4).trans rfl, (zh HB.out hw198_0), (zh HB.out hw198_1), (zh HB.out hw198_2), (zh HB.out hw198_3), (zh HB.out hw198_4), (zh HB.out hw198_5)⟩ fun hHeld => ?_; clear hK K
       refine nZ 6 ?_
       exact norm_ (by simp only [putAll, Act.put, List.setIfInBounds_toArray, List.set_cons_zero, List.set_cons_succ]) (hCont (gb204) _ ⟨hHeld, (zB BK197.out), (zB BK204.out), GW204.out, GE204.out, NB197_204.out, NB204_197.out, (zL2 HB.out GE197.out GE204.out)⟩)
      ·skip
       refine box_step ?hg (N := 6) ?hd (cs := #[.string (⟨#[]⟩ : ByteArray), .bool false, .int .i64 0, .string (⟨#[]⟩ : ByteArray)]) (t := 83) ?hr ?_; (case hd => rfl); (case hg => rfl); (case hr => first | (go_simp; done) | (go_simp; rfl))
       intro gb204 hg w13 hbox hb
       have BK204 := Aside0.mk hbox; have GW204 := Aside0.mk (zg (zL1 HB.out GE197.out) hg : w.heap.size ≤ gb204); have GE204 := GW204; replace HB := zLB (zL1 HB.out GE197.out) hb; have NB197_204 := Aside0.mk (zN BK197.out hg : gb197 ≠ gb204); have NB204_197 := Aside0.mk (zM BK197.out hg : gb204 ≠ gb197); replace BK197 := zBB BK197 hb
       clear hb hbox hg
       refine hK.out _ _ ⟨(bC BK197.out 0).trans rfl, (bC BK197.out 1).trans rfl, (bC BK197.out 2).trans rfl, (bC BK197.out 3).trans rfl, (bC BK197.out 4).trans rfl, (zh HB.out hw198_0), (zh HB.out hw198_1), (zh HB.out hw198_2), (zh HB.out hw198_3), (zh HB.out hw198_4), (zh HB.out hw198_5)⟩ fun hHeld => ?_; clear hK K
       refine nZ 6 ?_
       refine oN 7 22 (fB 14 2303) HT_.out fun K hK => ?_
       refine gS Try.func86 #[.slice A198_5 ((rd_T73 l1 x5_1).f5).length c198_5, .string a0_2] ?_
       with_reducible refine (spec_FindAttr.calls k1 _ _ ((rd_T73 l1 x5_1).f5) a0_2 t199 t200 t201 t202 t203 _ ?side1 ?side2 A6.out).mono ?_
       (case side1 => exact zC (Kd.C_below HR198_5.out HB.out))
       (case side2 => exact HC198_5.out)
       rintro e w14 ⟨rfl, hb⟩
       refine ⟨_, rfl, ?_⟩
       replace BK197 := zBB BK197 hb; replace BK204 := zBB BK204 hb; replace HB := zLB (zL2 HB.out GE197.out GE204.out) hb
       clear hb
       refine hK.out _ _ ⟨(bC BK197.out 0).trans rfl, (bC BK197.out 1).trans rfl, (bC BK197.out 2).trans rfl, (bC BK197.out 3).trans rfl, (bC BK197.out 4).trans rfl, (zh HB.out hw198_0), (zh HB.out hw198_1), (zh HB.out hw198_2), (zh HB.out hw198_3), (zh HB.out hw198_4), (zh HB.out hw198_5)⟩ fun hHeld => ?_; clear hK K
       refine nZ 22 ?_
       refine pY 8 14 (fB 14 2559) HT_.out ?_
       refine pY 9 23 (fB 14 3071) HT_.out ?_
       refine pY 10 24 (fB 14 4095) HT_.out ?_
       exact norm_ (by simp only [putAll, Act.put, List.setIfInBounds_toArray, List.set_cons_zero, List.set_cons_succ]) (hCont (gb204) _ ⟨hHeld, (zB BK197.out), (zB BK204.out), GW204.out, GE204.out, NB197_204.out, NB204_197.out, (zL2 HB.out GE197.out GE204.out)⟩)
     rintro gb204 w15 ⟨hS_, h0_, h1_, h2_, h3_, h4_, h5_, h6_⟩
     have n0_ : Aside0 (w15.heap[gb197]? = some (.cells #[.int .i64 a0_0, .int .i64 a0_1, .string a0_2, .string a0_3, .slice A0_4 l0_4.length c0_4] 29 (0, 0))) := ⟨h0_⟩
     have n1_ : Aside0 (w15.heap[gb204]? = some (.cells #[.string (⟨#[]⟩ : ByteArray), .bool false, .int .i64 0, .string (⟨#[]⟩ : ByteArray)] 83 (0, 0))) := ⟨h1_⟩
     have n2_ : Aside0 (w.heap.size ≤ gb204) := ⟨h2_⟩
     have n3_ : Aside0 (w.heap.size ≤ gb204) := ⟨h3_⟩
     have n4_ : Aside0 (gb197 ≠ gb204) := ⟨h4_⟩
     have n5_ : Aside0 (gb204 ≠ gb197) := ⟨h5_⟩
     have n6_ : Aside0 (Below w.heap.size w w15) := ⟨h6_⟩
     clear BK197
     clear HB
     clear h0_ h1_ h2_ h3_ h4_ h5_ h6_
     have BK197 := n0_
     have BK204 := n1_
     have GW204 := n2_
     have GE204 := n3_
     have NB197_204 := n4_
     have NB204_197 := n5_
     have HB := n6_
     clear n0_ n1_ n2_ n3_ n4_ n5_ n6_
     have hHeld : w15.cell? ⟨gb197, 0, none⟩ = some (.int .i64 a0_0) ∧ w15.cell? ⟨gb197, 1, none⟩ = some (.int .i64 a0_1) ∧ w15.cell? ⟨gb197, 2, none⟩ = some (.string a0_2) ∧ w15.cell? ⟨gb197, 3, none⟩ = some (.string a0_3) ∧ w15.cell? ⟨gb197, 4, none⟩ = some (.slice A0_4 l0_4.length c0_4) ∧ w15.cell? (ad198.add ((x5_1).toNat * 6)) = some (.int .i64 ((rd_T73 l1 x5_1).f0)) ∧ w15.cell? ⟨(ad198.add ((x5_1).toNat * 6)).block, (ad198.add ((x5_1).toNat * 6)).off + 1, none⟩ = some (.int .i64 ((rd_T73 l1 x5_1).f1)) ∧ w15.cell? ⟨(ad198.add ((x5_1).toNat * 6)).block, (ad198.add ((x5_1).toNat * 6)).off + 2, none⟩ = some (.int .i64 ((rd_T73 l1 x5_1).f2)) ∧ w15.cell? ⟨(ad198.add ((x5_1).toNat * 6)).block, (ad198.add ((x5_1).toNat * 6)).off + 3, none⟩ = some (.int .i64 ((rd_T73 l1 x5_1).f3)) ∧ w15.cell? ⟨(ad198.add ((x5_1).toNat * 6)).block, (ad198.add ((x5_1).toNat * 6)).off + 4, none⟩ = some (.bool ((rd_T73 l1 x5_1).f4)) ∧ w15.cell? ⟨(ad198.add ((x5_1).toNat * 6)).block, (ad198.add ((x5_1).toNat * 6)).off + 5, none⟩ = some (.slice A198_5 ((rd_T73 l1 x5_1).f5).length c198_5) := hS_
     refine norm_ (a' := ?_) ?_ ?_
     rotate_left
     ·simp only [putAll, Act.put, List.setIfInBounds_toArray, List.set_cons_zero, List.set_cons_succ]
      rfl
     refine one_ (i := 12) (N := none) (fB 14 8191) rfl rfl (one_of HT_.out (by kernel_rfl)) (by decide) (fun K hK => ?_)
     have hs16 : w15.cell? ⟨gb204, 0, none⟩ = some (.string (⟨#[]⟩ : ByteArray)) := (bC BK204.out 0).trans rfl
     have hfs16 := blk_frozen BK204.out 0
     have hns16_0 := NB197_204.out
     have hms16_0 := NB204_197.out
     have hs17 : w15.cell? ⟨gb204, 1, none⟩ = some (.bool false) := (bC BK204.out 1).trans rfl
     have hfs17 := blk_frozen BK204.out 1
     have hns17_0 := NB197_204.out
     have hms17_0 := NB204_197.out
     have hs18 : w15.cell? ⟨gb204, 2, none⟩ = some (.int .i64 0) := (bC BK204.out 2).trans rfl
     have hfs18 := blk_frozen BK204.out 2
     have hns18_0 := NB197_204.out
     have hms18_0 := NB204_197.out
     have hs19 : w15.cell? ⟨gb204, 3, none⟩ = some (.string (⟨#[]⟩ : ByteArray)) := (bC BK204.out 3).trans rfl
     have hfs19 := blk_frozen BK204.out 3
     have hns19_0 := NB197_204.out
     have hms19_0 := NB204_197.out
     refine skip_ (w1 := ?_) (by rfl) rfl ?_ ?_
     rotate_left
     ·go_simp
      rfl
     refine hK.out _ _ ⟨zcf4 NB197_204.out hHeld.1, zcf4 NB197_204.out hHeld.2.1, zcf4 NB197_204.out hHeld.2.2.1, zcf4 NB197_204.out hHeld.2.2.2.1, zcf4 NB197_204.out hHeld.2.2.2.2.1, zcg4 (zhn hw198_0 GW204.out) hHeld.2.2.2.2.2.1, zcg4 (zhn hw198_1 GW204.out) hHeld.2.2.2.2.2.2.1, zcg4 (zhn hw198_2 GW204.out) hHeld.2.2.2.2.2.2.2.1, zcg4 (zhn hw198_3 GW204.out) hHeld.2.2.2.2.2.2.2.2.1, zcg4 (zhn hw198_4 GW204.out) hHeld.2.2.2.2.2.2.2.2.2.1, zcg4 (zhn hw198_5 GW204.out) hHeld.2.2.2.2.2.2.2.2.2.2⟩ fun hHeld => ?_; clear hK K
     refine pY 13 7 (fB 14 16383) HT_.out ?_
     refine done_ (done_of HT_.out (by kernel_rfl)) ?_
     by_cases c7 : t203 = true
     ·subst c7
      rw [if_pos rfl] at H
      by_cases c8 : a0_0 = 4
      ·rw [if_pos c8] at H
       obtain ⟨c8b0, c8b1⟩ := zt c8
       clear c8
       by_cases c9 : t200 = true
       ·subst c9
        rw [if_pos rfl] at H
        by_cases c10 : a0_0 = 5
        ·rw [if_pos c10] at H
         obtain ⟨c10b0, c10b1⟩ := zt c10
         clear c10
         by_cases c11 : t201 ≥ a0_1
         ·rw [if_pos c11] at H
          have c11b0 := decide_eq_true c11
          clear c11
          obtain rfl := Option.some.inj H
          have hnb20 := NB197_204.out
          have hnc20 := NB204_197.out
          have hcz21 := zc5 BK197.out
          have hfz21 := zf5 BK197.out
          have hcz22_0 : w15.cell? ⟨gb204, 0, none⟩ = some (.string (⟨#[]⟩ : ByteArray)) := (bC BK204.out 0).trans rfl
          have hcz22_1 : w15.cell? ⟨gb204, 1, none⟩ = some (.bool false) := (bC BK204.out 1).trans rfl
          have hcz22_2 : w15.cell? ⟨gb204, 2, none⟩ = some (.int .i64 0) := (bC BK204.out 2).trans rfl
          have hcz22_3 : w15.cell? ⟨gb204, 3, none⟩ = some (.string (⟨#[]⟩ : ByteArray)) := (bC BK204.out 3).trans rfl
          have hfz22 := zf4 BK204.out
          try go_wp2
          go_ret
          exact ⟨zW, zL2 HB.out GE197.out GE204.out⟩
         ·rw [if_neg c11] at H
          have c11b0 := decide_eq_false c11
          clear c11
          have H' := Aside0.mk H
          clear H
          have hnb31 := NB197_204.out
          have hnc31 := NB204_197.out
          have hcz32 := zc5 BK197.out
          have hfz32 := zf5 BK197.out
          have hcz33_0 : w15.cell? ⟨gb204, 0, none⟩ = some (.string (⟨#[]⟩ : ByteArray)) := (bC BK204.out 0).trans rfl
          have hcz33_1 : w15.cell? ⟨gb204, 1, none⟩ = some (.bool false) := (bC BK204.out 1).trans rfl
          have hcz33_2 : w15.cell? ⟨gb204, 2, none⟩ = some (.int .i64 0) := (bC BK204.out 2).trans rfl
          have hcz33_3 : w15.cell? ⟨gb204, 3, none⟩ = some (.string (⟨#[]⟩ : ByteArray)) := (bC BK204.out 3).trans rfl
          have hfz33 := zf4 BK204.out
          try go_wp2
          go_roundg k1
          case measure => have := HK1.out; omega
          case rel => exact ⟨(wrap64 (x5_1 + 1)), zV, H', ⟨by have := HK1.out; omega⟩, ⟨by refine zB ?_; refine zr4 ?_ NB197_204.out; exact zB BK197.out⟩, ⟨zL2 HB.out GE197.out GE204.out⟩⟩
        ·rw [if_neg c10] at H
         obtain ⟨c10b0, c10b1⟩ := zf c10
         have H' := Aside0.mk H
         clear H
         have hnb42 := NB197_204.out
         have hnc42 := NB204_197.out
         have hcz43 := zc5 BK197.out
         have hfz43 := zf5 BK197.out
         have hcz44_0 : w15.cell? ⟨gb204, 0, none⟩ = some (.string (⟨#[]⟩ : ByteArray)) := (bC BK204.out 0).trans rfl
         have hcz44_1 : w15.cell? ⟨gb204, 1, none⟩ = some (.bool false) := (bC BK204.out 1).trans rfl
         have hcz44_2 : w15.cell? ⟨gb204, 2, none⟩ = some (.int .i64 0) := (bC BK204.out 2).trans rfl
         have hcz44_3 : w15.cell? ⟨gb204, 3, none⟩ = some (.string (⟨#[]⟩ : ByteArray)) := (bC BK204.out 3).trans rfl
         have hfz44 := zf4 BK204.out
         try go_wp2
         go_roundg k1
         case measure => have := HK1.out; omega
         case rel => exact ⟨(wrap64 (x5_1 + 1)), zV, H', ⟨by have := HK1.out; omega⟩, ⟨by refine zB ?_; refine zr4 ?_ NB197_204.out; exact zB BK197.out⟩, ⟨zL2 HB.out GE197.out GE204.out⟩⟩
       ·obtain rfl := Bool.eq_false_iff.mpr c9
        rw [if_neg zn] at H
        by_cases c45 : t202.toList = a0_3.toList
        ·rw [if_pos c45] at H
         obtain ⟨c45b0, c45b1⟩ := zt c45
         clear c45
         obtain rfl := Option.some.inj H
         have hnb54 := NB197_204.out
         have hnc54 := NB204_197.out
         have hcz55 := zc5 BK197.out
         have hfz55 := zf5 BK197.out
         have hcz56_0 : w15.cell? ⟨gb204, 0, none⟩ = some (.string (⟨#[]⟩ : ByteArray)) := (bC BK204.out 0).trans rfl
         have hcz56_1 : w15.cell? ⟨gb204, 1, none⟩ = some (.bool false) := (bC BK204.out 1).trans rfl
         have hcz56_2 : w15.cell? ⟨gb204, 2, none⟩ = some (.int .i64 0) := (bC BK204.out 2).trans rfl
         have hcz56_3 : w15.cell? ⟨gb204, 3, none⟩ = some (.string (⟨#[]⟩ : ByteArray)) := (bC BK204.out 3).trans rfl
         have hfz56 := zf4 BK204.out
         try go_wp2
         go_ret
         exact ⟨zW, zL2 HB.out GE197.out GE204.out⟩
        ·rw [if_neg c45] at H
         obtain ⟨c45b0, c45b1⟩ := zf c45
         by_cases c57 : a0_0 = 5
         ·rw [if_pos c57] at H
          obtain ⟨c57b0, c57b1⟩ := zt c57
          clear c57
          have H' := Aside0.mk H
          clear H
          have hnb66 := NB197_204.out
          have hnc66 := NB204_197.out
          have hcz67 := zc5 BK197.out
          have hfz67 := zf5 BK197.out
          have hcz68_0 : w15.cell? ⟨gb204, 0, none⟩ = some (.string (⟨#[]⟩ : ByteArray)) := (bC BK204.out 0).trans rfl
          have hcz68_1 : w15.cell? ⟨gb204, 1, none⟩ = some (.bool false) := (bC BK204.out 1).trans rfl
          have hcz68_2 : w15.cell? ⟨gb204, 2, none⟩ = some (.int .i64 0) := (bC BK204.out 2).trans rfl
          have hcz68_3 : w15.cell? ⟨gb204, 3, none⟩ = some (.string (⟨#[]⟩ : ByteArray)) := (bC BK204.out 3).trans rfl
          have hfz68 := zf4 BK204.out
          try go_wp2
          go_roundg k1
          case measure => have := HK1.out; omega
          case rel => exact ⟨(wrap64 (x5_1 + 1)), zV, H', ⟨by have := HK1.out; omega⟩, ⟨by refine zB ?_; refine zr4 ?_ NB197_204.out; exact zB BK197.out⟩, ⟨zL2 HB.out GE197.out GE204.out⟩⟩
         ·rw [if_neg c57] at H
          obtain ⟨c57b0, c57b1⟩ := zf c57
          have H' := Aside0.mk H
          clear H
          have hnb77 := NB197_204.out
          have hnc77 := NB204_197.out
          have hcz78 := zc5 BK197.out
          have hfz78 := zf5 BK197.out
          have hcz79_0 : w15.cell? ⟨gb204, 0, none⟩ = some (.string (⟨#[]⟩ : ByteArray)) := (bC BK204.out 0).trans rfl
          have hcz79_1 : w15.cell? ⟨gb204, 1, none⟩ = some (.bool false) := (bC BK204.out 1).trans rfl
          have hcz79_2 : w15.cell? ⟨gb204, 2, none⟩ = some (.int .i64 0) := (bC BK204.out 2).trans rfl
          have hcz79_3 : w15.cell? ⟨gb204, 3, none⟩ = some (.string (⟨#[]⟩ : ByteArray)) := (bC BK204.out 3).trans rfl
          have hfz79 := zf4 BK204.out
          try go_wp2
          go_roundg k1
          case measure => have := HK1.out; omega
          case rel => exact ⟨(wrap64 (x5_1 + 1)), zV, H', ⟨by have := HK1.out; omega⟩, ⟨by refine zB ?_; refine zr4 ?_ NB197_204.out; exact zB BK197.out⟩, ⟨zL2 HB.out GE197.out GE204.out⟩⟩
      ·rw [if_neg c8] at H
       obtain ⟨c8b0, c8b1⟩ := zf c8
       by_cases c80 : a0_0 = 5
       ·rw [if_pos c80] at H
        obtain ⟨c80b0, c80b1⟩ := zt c80
        clear c80
        by_cases c81 : t200 = true
        ·subst c81
         rw [if_pos rfl] at H
         by_cases c82 : t201 ≥ a0_1
         ·rw [if_pos c82] at H
          have c82b0 := decide_eq_true c82
          clear c82
          obtain rfl := Option.some.inj H
          have hnb91 := NB197_204.out
          have hnc91 := NB204_197.out
          have hcz92 := zc5 BK197.out
          have hfz92 := zf5 BK197.out
          have hcz93_0 : w15.cell? ⟨gb204, 0, none⟩ = some (.string (⟨#[]⟩ : ByteArray)) := (bC BK204.out 0).trans rfl
          have hcz93_1 : w15.cell? ⟨gb204, 1, none⟩ = some (.bool false) := (bC BK204.out 1).trans rfl
          have hcz93_2 : w15.cell? ⟨gb204, 2, none⟩ = some (.int .i64 0) := (bC BK204.out 2).trans rfl
          have hcz93_3 : w15.cell? ⟨gb204, 3, none⟩ = some (.string (⟨#[]⟩ : ByteArray)) := (bC BK204.out 3).trans rfl
          have hfz93 := zf4 BK204.out
          try go_wp2
          go_ret
          exact ⟨zW, zL2 HB.out GE197.out GE204.out⟩
         ·rw [if_neg c82] at H
          have c82b0 := decide_eq_false c82
          clear c82
          have H' := Aside0.mk H
          clear H
          have hnb102 := NB197_204.out
          have hnc102 := NB204_197.out
          have hcz103 := zc5 BK197.out
          have hfz103 := zf5 BK197.out
          have hcz104_0 : w15.cell? ⟨gb204, 0, none⟩ = some (.string (⟨#[]⟩ : ByteArray)) := (bC BK204.out 0).trans rfl
          have hcz104_1 : w15.cell? ⟨gb204, 1, none⟩ = some (.bool false) := (bC BK204.out 1).trans rfl
          have hcz104_2 : w15.cell? ⟨gb204, 2, none⟩ = some (.int .i64 0) := (bC BK204.out 2).trans rfl
          have hcz104_3 : w15.cell? ⟨gb204, 3, none⟩ = some (.string (⟨#[]⟩ : ByteArray)) := (bC BK204.out 3).trans rfl
          have hfz104 := zf4 BK204.out
          try go_wp2
          go_roundg k1
          case measure => have := HK1.out; omega
          case rel => exact ⟨(wrap64 (x5_1 + 1)), zV, H', ⟨by have := HK1.out; omega⟩, ⟨by refine zB ?_; refine zr4 ?_ NB197_204.out; exact zB BK197.out⟩, ⟨zL2 HB.out GE197.out GE204.out⟩⟩
        ·obtain rfl := Bool.eq_false_iff.mpr c81
         rw [if_neg zn] at H
         have H' := Aside0.mk H
         clear H
         have hnb113 := NB197_204.out
         have hnc113 := NB204_197.out
         have hcz114 := zc5 BK197.out
         have hfz114 := zf5 BK197.out
         have hcz115_0 : w15.cell? ⟨gb204, 0, none⟩ = some (.string (⟨#[]⟩ : ByteArray)) := (bC BK204.out 0).trans rfl
         have hcz115_1 : w15.cell? ⟨gb204, 1, none⟩ = some (.bool false) := (bC BK204.out 1).trans rfl
         have hcz115_2 : w15.cell? ⟨gb204, 2, none⟩ = some (.int .i64 0) := (bC BK204.out 2).trans rfl
         have hcz115_3 : w15.cell? ⟨gb204, 3, none⟩ = some (.string (⟨#[]⟩ : ByteArray)) := (bC BK204.out 3).trans rfl
         have hfz115 := zf4 BK204.out
         try go_wp2
         go_roundg k1
         case measure => have := HK1.out; omega
         case rel => exact ⟨(wrap64 (x5_1 + 1)), zV, H', ⟨by have := HK1.out; omega⟩, ⟨by refine zB ?_; refine zr4 ?_ NB197_204.out; exact zB BK197.out⟩, ⟨zL2 HB.out GE197.out GE204.out⟩⟩
       ·rw [if_neg c80] at H
        obtain ⟨c80b0, c80b1⟩ := zf c80
        have H' := Aside0.mk H
        clear H
        have hnb124 := NB197_204.out
        have hnc124 := NB204_197.out
        have hcz125 := zc5 BK197.out
        have hfz125 := zf5 BK197.out
        try go_wp2
        go_roundg k1
        case measure => have := HK1.out; omega
        case rel => exact ⟨(wrap64 (x5_1 + 1)), zV, H', ⟨by have := HK1.out; omega⟩, ⟨by refine zB ?_; refine zr4 ?_ NB197_204.out; exact zB BK197.out⟩, ⟨zL2 HB.out GE197.out GE204.out⟩⟩
     ·obtain rfl := Bool.eq_false_iff.mpr c7
      rw [if_neg zn] at H
      have H' := Aside0.mk H
      clear H
      try go_wp2
      go_roundg k1
      case measure => have := HK1.out; omega
      case rel => exact ⟨(wrap64 (x5_1 + 1)), zV, H', ⟨by have := HK1.out; omega⟩, ⟨by refine zB ?_; refine zr4 ?_ NB197_204.out; exact zB BK197.out⟩, ⟨zL2 HB.out GE197.out GE204.out⟩⟩
    ·rw [if_neg c5] at H
     exact absurd H (by simp)
   ·rw [if_neg c4] at H
    have c4b0 := decide_eq_false c4
    clear c4
    obtain rfl := Option.some.inj H
    go_wp2
    go_ret
    exact ⟨zW, zL1 HB.out GE197.out⟩

end Go.Proofs.Ytfhblnbicnmndaa.QFnJudges
