/- What the Go functions that the law FnSpans reaches answer: each as a Lean function, with its walk. Written by a program of this session. Conditions: those that each theorem names. -/
import Derived.Test.YtkhbhdchakbmhaaDoorQFnSpansx0
import Derived.Test.YtkhbhdchakbmhaaDoorQFnSpansx2
namespace Go.Proofs.YtkhbhdchakbmhaaDoor.QFnSpans
open Go.RowKit Go.Proofs.YtkhbhdchakbmhaaDoorW.PrintWords Go.Proofs.YtkhbhdchakbmhaaDoorW.PrintLast Go.Proofs.YtkhbhdchakbmhaaDoorW.PrintMore
attribute [local go_sem] max2_int min2_int max_two min_two max_three min_three max_four min_four   -- for this text's walks alone
set_option linter.unusedVariables false
set_option linter.unusedSimpArgs false

open Go.Proofs.YtkhbhdchakbmhaaDoorW.PrintWords renaming blk_drewN → bN, blk_drew → bD, blk_alloc → bA, blk_cell → bC, blk_below → bB, below_set → bS
/-! ### spec_AttrsOk: function 32 -/
def spec_AttrsOk.l0 : Nat → List (S28) → Int → Option (Bool)
 | 0, _, _ => none
 | k + 1, x0, x3 => if x3 < (x0.length : Int) then (if 0 ≤ x3 then ((spec_AttrOk.f k ((rd_T28 x0 x3).f0) ((rd_T28 x0 x3).f1) ((rd_T28 x0 x3).f2) ((rd_T28 x0 x3).f3)).bind fun t116 => (if t116 = true then (if x3 > 0 then (if 0 ≤ (wrap64 (x3 - 1)) then (if (wrap64 (x3 - 1)) < (x0.length : Int) then (if ((Op.bytesLess (((rd_T28 x0 (wrap64 (x3 - 1))).f0).toList) (((rd_T28 x0 x3).f0).toList)) = true) then (spec_AttrsOk.l0 k x0 (wrap64 (x3 + 1))) else (some false)) else (none)) else (none)) else (spec_AttrsOk.l0 k x0 (wrap64 (x3 + 1)))) else (some false))) else (none)) else (some (decide ((x0.length : Int) ≤ 4)))
def spec_AttrsOk.f (k : Nat) (l0 : List (S28)) : Option (Bool) := spec_AttrsOk.l0 k l0 0
theorem spec_AttrsOk.mono_l : ∀ k, (∀ y0 y1, LeO (spec_AttrsOk.l0 k y0 y1) (spec_AttrsOk.l0 (k + 1) y0 y1))
 | 0 => fun _ _ r h => by simp [spec_AttrsOk.l0] at h
 | k + 1 => by
  have ih0 := spec_AttrsOk.mono_l k
  ·intro y0 y1
   unfold spec_AttrsOk.l0
   repeat' first
   | (with_reducible exact ih0 _ _)
   | (with_reducible apply spec_AttrOk.mono)
   | (with_reducible exact LeO.refl _)
   | (with_reducible exact LeO.none _)
   | (with_reducible refine LeO.ite ?_ ?_)
   | (with_reducible refine LeO.bind ?_ (fun _ => ?_))
   | exact ih0 _ _
   | apply spec_AttrOk.mono
   | exact LeO.none _
   | refine LeO.ite ?_ ?_
   | refine LeO.bind ?_ (fun _ => ?_)
theorem spec_AttrsOk.mono : ∀ a0 k, LeO (spec_AttrsOk.f k a0) (spec_AttrsOk.f (k + 1) a0) := by
 intro a0 k
 have ih0 := spec_AttrsOk.mono_l k
 unfold spec_AttrsOk.f
 repeat' first
   | (with_reducible exact ih0 _ _)
   | (with_reducible apply spec_AttrOk.mono)
   | (with_reducible exact LeO.refl _)
   | (with_reducible exact LeO.none _)
   | (with_reducible refine LeO.ite ?_ ?_)
   | (with_reducible refine LeO.bind ?_ (fun _ => ?_))
   | exact ih0 _ _
   | apply spec_AttrOk.mono
   | exact LeO.none _
   | refine LeO.ite ?_ ?_
   | refine LeO.bind ?_ (fun _ => ?_)
def spec_AttrsOk.T4 : Bool × List (List Nat × List Nat) := (true, [([], []), ([], []), ([0, 1], [0, 1]), ([2], [2]), ([3], [3]), ([4], [4]), ([5, 4], [5]), ([6], [6]), ([7, 6], [6, 7]), ([8, 6, 6], [6, 8]), ([9], [9]), ([9], [9]), ([11, 9], [9, 11]), ([10, 12, 9], [9, 10, 12]), ([13, 9], [9, 13]), ([14, 9], [9, 14]), ([9], [9]), ([9], [9]), ([16, 17, 9], [9, 16, 17]), ([18, 9], [9, 18]), ([19, 9], [9, 19]), ([15, 20, 9], [9, 15, 20]), ([9, 21, 6], [6, 9, 21]), ([6, 22], [6, 22])])
def spec_AttrsOk.B4 : List Nat := [0, 0, 3, 7, 15, 31, 63, 127, 255, 511, 1023, 1023, 3071, 8191, 16383, 32767, 1023, 1023, 197631, 459775, 984063, 2097151, 4194303, 8388607]
theorem spec_AttrsOk.tab4 : rtab .any (opsOf Tryd.f32 4) = spec_AttrsOk.T4 := by kernel_rfl
theorem spec_AttrsOk.bits4 : waitsOk spec_AttrsOk.T4.2 spec_AttrsOk.B4 = true := by kernel_rfl
set_option maxHeartbeats 8000000 in
set_option maxRecDepth 100000 in
theorem spec_AttrsOk.calls (k : Nat) (A0 : Option Addr) (c0 : Nat) (l0 : List (S28)) (r : Bool) (w : World) (hr0 : Kd.C k28 w A0 l0.length l0) (hc0 : l0.length ≤ c0) (h : spec_AttrsOk.f k l0 = some r) :
  Calls Tryd.prog 32 #[.slice A0 l0.length c0] w fun e w' => e = .returned (.bool r) ∧ Below w.heap.size w w' := by
 have hu28 := Tryd.underlying28
 have HR0 := Aside0.mk hr0
 have HC0 := Aside0.mk hc0
 clear hr0 hc0
 have HB := Aside0.mk (Below.refl w.heap.size w)
 unfold spec_AttrsOk.f at h; have H := h
 clear h
 have H' := Aside0.mk H
 clear H
 go_enter Tryd.func32, Tryd.ntmps32
 go_wp2
 go_loopg [3] k (fun kq v3 w' => ∃ (x3_1 : Int), v3 = .int .i64 x3_1 ∧ Aside0 (spec_AttrsOk.l0 kq l0 x3_1 = some r) ∧ Aside0 (kq ≤ k) ∧ Aside0 (Below w.heap.size w w'))
 case atStart => exact ⟨(0), zV, H', ⟨Nat.le_refl _⟩, ⟨zL HB.out⟩⟩
 case round =>
  clear H'
  obtain ⟨x3_1, rfl, HA, HK1, HB⟩ := hrel
  cases gk with
  | zero => exact absurd HA.out (by simp [spec_AttrsOk.l0])
  | succ k1 =>
   have H := HA.out
   clear HA
   simp only [spec_AttrsOk.l0] at H
   by_cases c2 : x3_1 < (l0.length : Int)
   ·rw [if_pos c2] at H
    have c2b0 := decide_eq_true c2
    clear c2
    by_cases c3 : 0 ≤ x3_1
    ·rw [if_pos c3] at H
     have c3b0 := decide_eq_true c3
     clear c3
     obtain ⟨t116, A4, H⟩ := zO H; try dsimp only at H
     by_cases c5 : t116 = true
     ·subst c5
      rw [if_pos rfl] at H
      by_cases c6 : x3_1 > 0
      ·rw [if_pos c6] at H
       have c6b0 := decide_eq_true c6
       clear c6
       obtain ⟨ji7, hji7⟩ : ∃ j_ : Int, (wrap64 (x3_1 - 1)) = j_ := ⟨_, rfl⟩
       replace H : (if 0 ≤ (ji7) then (if (ji7) < (l0.length : Int) then (if ((Op.bytesLess (((rd_T28 l0 (ji7)).f0).toList) (((rd_T28 l0 x3_1).f0).toList)) = true) then (spec_AttrsOk.l0 k1 l0 (wrap64 (x3_1 + 1))) else (some false)) else (none)) else (none)) = some r := by first | (rw [hji7] at H; exact H) | (simp only [hji7] at H ⊢; exact H)
       (try rw [hji7] at A4)
       have hji7w : (IntKind.i64.wrap (x3_1 - 1)) = ji7 := (i64_w _).trans hji7
       by_cases c8 : 0 ≤ (ji7)
       ·rw [if_pos c8] at H
        have c8b0 := decide_eq_true c8
        clear c8
        by_cases c9 : (ji7) < (l0.length : Int)
        ·rw [if_pos c9] at H
         have c9b0 := decide_eq_true c9
         clear c9
         by_cases c10 : ((Op.bytesLess (((rd_T28 l0 (ji7)).f0).toList) (((rd_T28 l0 x3_1).f0).toList)) = true)
         ·rw [if_pos c10] at H
          have c10b0 := c10
          clear c10
          have H' := Aside0.mk H
          clear H
          try go_wp2
          replace HB := zLD HB
          have p115 : 0 ≤ (x3_1 : Int) := zD
          have q115 : x3_1 < (l0.length : Int) := zD
          obtain ⟨ad115, e115, hx115_0, hx115_1, hx115_2, hx115_3⟩ := at_T28 HR0.out x3_1 p115 q115
          have hw115_3 := hx115_3
          have hw115_2 := hx115_2
          have hw115_1 := hx115_1
          have hw115_0 := hx115_0
          cases e115
          replace hx115_0 := zh HB.out hx115_0
          replace hx115_1 := zh HB.out hx115_1
          replace hx115_2 := zh HB.out hx115_2
          replace hx115_3 := zh HB.out hx115_3
          replace p115 := eq_true p115
          replace q115 := eq_true q115
          have p117 : 0 ≤ ((ji7) : Int) := zD
          have q117 : (ji7) < (l0.length : Int) := zD
          obtain ⟨ad117, e117, hx117_0, hx117_1, hx117_2, hx117_3⟩ := at_T28 HR0.out (ji7) p117 q117
          have hw117_3 := hx117_3
          have hw117_2 := hx117_2
          have hw117_1 := hx117_1
          have hw117_0 := hx117_0
          obtain rfl : ad115 = ad117 := (by injection e117)
          replace hx117_0 := zh HB.out hx117_0
          replace hx117_1 := zh HB.out hx117_1
          replace hx117_2 := zh HB.out hx117_2
          replace hx117_3 := zh HB.out hx117_3
          replace p117 := eq_true p117
          replace q117 := eq_true q117
          have p118 : 0 ≤ (x3_1 : Int) := zD
          have q118 : x3_1 < (l0.length : Int) := zD
          obtain ⟨ad118, e118, hx118_0, hx118_1, hx118_2, hx118_3⟩ := at_T28 HR0.out x3_1 p118 q118
          have hw118_3 := hx118_3
          have hw118_2 := hx118_2
          have hw118_1 := hx118_1
          have hw118_0 := hx118_0
          obtain rfl : ad115 = ad118 := (by injection e118)
          replace hx118_0 := zh HB.out hx118_0
          replace hx118_1 := zh HB.out hx118_1
          replace hx118_2 := zh HB.out hx118_2
          replace hx118_3 := zh HB.out hx118_3
          replace p118 := eq_true p118
          replace q118 := eq_true q118
          refine start_ (n := 24) (S := fun w' => w'.cell? (ad115.add ((x3_1).toNat * 4)) = some (.string ((rd_T28 l0 x3_1).f0)) ∧ w'.cell? ⟨(ad115.add ((x3_1).toNat * 4)).block, (ad115.add ((x3_1).toNat * 4)).off + 1, none⟩ = some (.bool ((rd_T28 l0 x3_1).f1)) ∧ w'.cell? ⟨(ad115.add ((x3_1).toNat * 4)).block, (ad115.add ((x3_1).toNat * 4)).off + 2, none⟩ = some (.int .i64 ((rd_T28 l0 x3_1).f2)) ∧ w'.cell? ⟨(ad115.add ((x3_1).toNat * 4)).block, (ad115.add ((x3_1).toNat * 4)).off + 3, none⟩ = some (.string ((rd_T28 l0 x3_1).f3)) ∧ w'.cell? (ad115.add (((ji7)).toNat * 4)) = some (.string ((rd_T28 l0 (ji7)).f0)) ∧ w'.cell? ⟨(ad115.add (((ji7)).toNat * 4)).block, (ad115.add (((ji7)).toNat * 4)).off + 1, none⟩ = some (.bool ((rd_T28 l0 (ji7)).f1)) ∧ w'.cell? ⟨(ad115.add (((ji7)).toNat * 4)).block, (ad115.add (((ji7)).toNat * 4)).off + 2, none⟩ = some (.int .i64 ((rd_T28 l0 (ji7)).f2)) ∧ w'.cell? ⟨(ad115.add (((ji7)).toNat * 4)).block, (ad115.add (((ji7)).toNat * 4)).off + 3, none⟩ = some (.string ((rd_T28 l0 (ji7)).f3)) ∧ w'.cell? (ad115.add ((x3_1).toNat * 4)) = some (.string ((rd_T28 l0 x3_1).f0)) ∧ w'.cell? ⟨(ad115.add ((x3_1).toNat * 4)).block, (ad115.add ((x3_1).toNat * 4)).off + 1, none⟩ = some (.bool ((rd_T28 l0 x3_1).f1)) ∧ w'.cell? ⟨(ad115.add ((x3_1).toNat * 4)).block, (ad115.add ((x3_1).toNat * 4)).off + 2, none⟩ = some (.int .i64 ((rd_T28 l0 x3_1).f2)) ∧ w'.cell? ⟨(ad115.add ((x3_1).toNat * 4)).block, (ad115.add ((x3_1).toNat * 4)).off + 3, none⟩ = some (.string ((rd_T28 l0 x3_1).f3))) (ds := []) (fB 24 0) (by kernel_rfl) rfl rfl ⟨(zh HB.out hw115_0), (zh HB.out hw115_1), (zh HB.out hw115_2), (zh HB.out hw115_3), (zh HB.out hw117_0), (zh HB.out hw117_1), (zh HB.out hw117_2), (zh HB.out hw117_3), (zh HB.out hw118_0), (zh HB.out hw118_1), (zh HB.out hw118_2), (zh HB.out hw118_3)⟩ (fun hHeld => ?_); refine with_tabW spec_AttrsOk.tab4 spec_AttrsOk.bits4 (fun HT_ HW_ => ?_)
          generalize wr.drew = w11 at HB hx115_0 hx115_1 hx115_2 hx115_3 hx117_0 hx117_1 hx117_2 hx117_3 hx118_0 hx118_1 hx118_2 hx118_3 hHeld ⊢
          refine pY 0 10 (fB 24 1) HT_.out ?_
          refine pY 1 11 (fB 24 3) HT_.out ?_
          refine pY 2 12 (fB 24 7) HT_.out ?_
          refine tY 3 13 (fB 24 15) HT_.out HW_.out hHeld ?_
          refine oN 4 14 (fB 24 31) HT_.out fun K hK => ?_
          refine gS Tryd.func30 #[.agg #[.string ((rd_T28 l0 x3_1).f0), .bool ((rd_T28 l0 x3_1).f1), .int .i64 ((rd_T28 l0 x3_1).f2), .string ((rd_T28 l0 x3_1).f3)]] ?_
          with_reducible refine (spec_AttrOk.calls k1 ((rd_T28 l0 x3_1).f0) ((rd_T28 l0 x3_1).f1) ((rd_T28 l0 x3_1).f2) ((rd_T28 l0 x3_1).f3) true _ A4.out).mono ?_
          rintro e w12 ⟨rfl, hb⟩
          refine ⟨_, rfl, ?_⟩
          replace HB := zLB (zL HB.out) hb
          clear hb
          refine hK.out _ _ ⟨(zh HB.out hw115_0), (zh HB.out hw115_1), (zh HB.out hw115_2), (zh HB.out hw115_3), (zh HB.out hw117_0), (zh HB.out hw117_1), (zh HB.out hw117_2), (zh HB.out hw117_3), (zh HB.out hw118_0), (zh HB.out hw118_1), (zh HB.out hw118_2), (zh HB.out hw118_3)⟩ fun hHeld => ?_; clear hK K
          refine nZ 14 ?_
          refine pY 5 15 (fB 24 63) HT_.out ?_
          refine pY 6 16 (fB 24 127) HT_.out ?_
          refine pY 7 17 (fB 24 255) HT_.out ?_
          refine pY 8 18 (fB 24 511) HT_.out ?_
          refine pY 9 19 (fB 24 1023) HT_.out ?_
          refine pY 10 20 (fB 24 2047) HT_.out ?_
          refine pY 11 21 (fB 24 4095) HT_.out ?_
          refine pY 12 22 (fB 24 8191) HT_.out ?_
          refine pY 13 23 (fB 24 16383) HT_.out ?_
          refine pY 14 24 (fB 24 32767) HT_.out ?_
          refine pY 16 26 (fB 24 98303) HT_.out ?_
          refine pY 17 27 (fB 24 229375) HT_.out ?_
          refine pY 18 28 (fB 24 491519) HT_.out ?_
          refine pY 19 29 (fB 24 1015807) HT_.out ?_
          refine tY 15 25 (fB 24 1048575) HT_.out HW_.out hHeld ?_
          refine tY 20 30 (fB 24 2097151) HT_.out HW_.out hHeld ?_
          refine pY 21 31 (fB 24 4194303) HT_.out ?_
          refine pY 22 32 (fB 24 8388607) HT_.out ?_
          refine pY 23 33 (fB 24 16777215) HT_.out ?_
          refine done_ (done_of HT_.out (by kernel_rfl)) ?_
          try go_wp2
          go_roundg k1
          case measure => have := HK1.out; omega
          case rel => exact ⟨(wrap64 (x3_1 + 1)), zV, H', ⟨by have := HK1.out; omega⟩, ⟨zL HB.out⟩⟩
         ·rw [if_neg c10] at H
          have c10b0 : (Op.bytesLess (((rd_T28 l0 (ji7)).f0).toList) (((rd_T28 l0 x3_1).f0).toList)) = false := by simpa using c10
          clear c10
          obtain rfl := Option.some.inj H
          try go_wp2
          replace HB := zLD HB
          have p115 : 0 ≤ (x3_1 : Int) := zD
          have q115 : x3_1 < (l0.length : Int) := zD
          obtain ⟨ad115, e115, hx115_0, hx115_1, hx115_2, hx115_3⟩ := at_T28 HR0.out x3_1 p115 q115
          have hw115_3 := hx115_3
          have hw115_2 := hx115_2
          have hw115_1 := hx115_1
          have hw115_0 := hx115_0
          cases e115
          replace hx115_0 := zh HB.out hx115_0
          replace hx115_1 := zh HB.out hx115_1
          replace hx115_2 := zh HB.out hx115_2
          replace hx115_3 := zh HB.out hx115_3
          replace p115 := eq_true p115
          replace q115 := eq_true q115
          have p117 : 0 ≤ ((ji7) : Int) := zD
          have q117 : (ji7) < (l0.length : Int) := zD
          obtain ⟨ad117, e117, hx117_0, hx117_1, hx117_2, hx117_3⟩ := at_T28 HR0.out (ji7) p117 q117
          have hw117_3 := hx117_3
          have hw117_2 := hx117_2
          have hw117_1 := hx117_1
          have hw117_0 := hx117_0
          obtain rfl : ad115 = ad117 := (by injection e117)
          replace hx117_0 := zh HB.out hx117_0
          replace hx117_1 := zh HB.out hx117_1
          replace hx117_2 := zh HB.out hx117_2
          replace hx117_3 := zh HB.out hx117_3
          replace p117 := eq_true p117
          replace q117 := eq_true q117
          have p118 : 0 ≤ (x3_1 : Int) := zD
          have q118 : x3_1 < (l0.length : Int) := zD
          obtain ⟨ad118, e118, hx118_0, hx118_1, hx118_2, hx118_3⟩ := at_T28 HR0.out x3_1 p118 q118
          have hw118_3 := hx118_3
          have hw118_2 := hx118_2
          have hw118_1 := hx118_1
          have hw118_0 := hx118_0
          obtain rfl : ad115 = ad118 := (by injection e118)
          replace hx118_0 := zh HB.out hx118_0
          replace hx118_1 := zh HB.out hx118_1
          replace hx118_2 := zh HB.out hx118_2
          replace hx118_3 := zh HB.out hx118_3
          replace p118 := eq_true p118
          replace q118 := eq_true q118
          refine start_ (n := 24) (S := fun w' => w'.cell? (ad115.add ((x3_1).toNat * 4)) = some (.string ((rd_T28 l0 x3_1).f0)) ∧ w'.cell? ⟨(ad115.add ((x3_1).toNat * 4)).block, (ad115.add ((x3_1).toNat * 4)).off + 1, none⟩ = some (.bool ((rd_T28 l0 x3_1).f1)) ∧ w'.cell? ⟨(ad115.add ((x3_1).toNat * 4)).block, (ad115.add ((x3_1).toNat * 4)).off + 2, none⟩ = some (.int .i64 ((rd_T28 l0 x3_1).f2)) ∧ w'.cell? ⟨(ad115.add ((x3_1).toNat * 4)).block, (ad115.add ((x3_1).toNat * 4)).off + 3, none⟩ = some (.string ((rd_T28 l0 x3_1).f3)) ∧ w'.cell? (ad115.add (((ji7)).toNat * 4)) = some (.string ((rd_T28 l0 (ji7)).f0)) ∧ w'.cell? ⟨(ad115.add (((ji7)).toNat * 4)).block, (ad115.add (((ji7)).toNat * 4)).off + 1, none⟩ = some (.bool ((rd_T28 l0 (ji7)).f1)) ∧ w'.cell? ⟨(ad115.add (((ji7)).toNat * 4)).block, (ad115.add (((ji7)).toNat * 4)).off + 2, none⟩ = some (.int .i64 ((rd_T28 l0 (ji7)).f2)) ∧ w'.cell? ⟨(ad115.add (((ji7)).toNat * 4)).block, (ad115.add (((ji7)).toNat * 4)).off + 3, none⟩ = some (.string ((rd_T28 l0 (ji7)).f3)) ∧ w'.cell? (ad115.add ((x3_1).toNat * 4)) = some (.string ((rd_T28 l0 x3_1).f0)) ∧ w'.cell? ⟨(ad115.add ((x3_1).toNat * 4)).block, (ad115.add ((x3_1).toNat * 4)).off + 1, none⟩ = some (.bool ((rd_T28 l0 x3_1).f1)) ∧ w'.cell? ⟨(ad115.add ((x3_1).toNat * 4)).block, (ad115.add ((x3_1).toNat * 4)).off + 2, none⟩ = some (.int .i64 ((rd_T28 l0 x3_1).f2)) ∧ w'.cell? ⟨(ad115.add ((x3_1).toNat * 4)).block, (ad115.add ((x3_1).toNat * 4)).off + 3, none⟩ = some (.string ((rd_T28 l0 x3_1).f3))) (ds := []) (fB 24 0) (by kernel_rfl) rfl rfl ⟨(zh HB.out hw115_0), (zh HB.out hw115_1), (zh HB.out hw115_2), (zh HB.out hw115_3), (zh HB.out hw117_0), (zh HB.out hw117_1), (zh HB.out hw117_2), (zh HB.out hw117_3), (zh HB.out hw118_0), (zh HB.out hw118_1), (zh HB.out hw118_2), (zh HB.out hw118_3)⟩ (fun hHeld => ?_); refine with_tabW spec_AttrsOk.tab4 spec_AttrsOk.bits4 (fun HT_ HW_ => ?_)
          generalize wr.drew = w13 at HB hx115_0 hx115_1 hx115_2 hx115_3 hx117_0 hx117_1 hx117_2 hx117_3 hx118_0 hx118_1 hx118_2 hx118_3 hHeld ⊢
          refine pY 0 10 (fB 24 1) HT_.out ?_
          refine pY 1 11 (fB 24 3) HT_.out ?_
          refine pY 2 12 (fB 24 7) HT_.out ?_
          refine tY 3 13 (fB 24 15) HT_.out HW_.out hHeld ?_
          refine oN 4 14 (fB 24 31) HT_.out fun K hK => ?_
          refine gS Tryd.func30 #[.agg #[.string ((rd_T28 l0 x3_1).f0), .bool ((rd_T28 l0 x3_1).f1), .int .i64 ((rd_T28 l0 x3_1).f2), .string ((rd_T28 l0 x3_1).f3)]] ?_
          with_reducible refine (spec_AttrOk.calls k1 ((rd_T28 l0 x3_1).f0) ((rd_T28 l0 x3_1).f1) ((rd_T28 l0 x3_1).f2) ((rd_T28 l0 x3_1).f3) true _ A4.out).mono ?_
          rintro e w14 ⟨rfl, hb⟩
          refine ⟨_, rfl, ?_⟩
          replace HB := zLB (zL HB.out) hb
          clear hb
          refine hK.out _ _ ⟨(zh HB.out hw115_0), (zh HB.out hw115_1), (zh HB.out hw115_2), (zh HB.out hw115_3), (zh HB.out hw117_0), (zh HB.out hw117_1), (zh HB.out hw117_2), (zh HB.out hw117_3), (zh HB.out hw118_0), (zh HB.out hw118_1), (zh HB.out hw118_2), (zh HB.out hw118_3)⟩ fun hHeld => ?_; clear hK K
          refine nZ 14 ?_
          refine pY 5 15 (fB 24 63) HT_.out ?_
          refine pY 6 16 (fB 24 127) HT_.out ?_
          refine pY 7 17 (fB 24 255) HT_.out ?_
          refine pY 8 18 (fB 24 511) HT_.out ?_
          refine pY 9 19 (fB 24 1023) HT_.out ?_
          refine pY 10 20 (fB 24 2047) HT_.out ?_
          refine pY 11 21 (fB 24 4095) HT_.out ?_
          refine pY 12 22 (fB 24 8191) HT_.out ?_
          refine pY 13 23 (fB 24 16383) HT_.out ?_
          refine pY 14 24 (fB 24 32767) HT_.out ?_
          refine pY 16 26 (fB 24 98303) HT_.out ?_
          refine pY 17 27 (fB 24 229375) HT_.out ?_
          refine pY 18 28 (fB 24 491519) HT_.out ?_
          refine pY 19 29 (fB 24 1015807) HT_.out ?_
          refine tY 15 25 (fB 24 1048575) HT_.out HW_.out hHeld ?_
          refine tY 20 30 (fB 24 2097151) HT_.out HW_.out hHeld ?_
          refine pY 21 31 (fB 24 4194303) HT_.out ?_
          refine pY 22 32 (fB 24 8388607) HT_.out ?_
          refine pY 23 33 (fB 24 16777215) HT_.out ?_
          refine done_ (done_of HT_.out (by kernel_rfl)) ?_
          try go_wp2
          go_ret
          exact ⟨by first | rfl | (simp [errW_none, errW_some] <;> rfl) | (simp only [← hji7]; first | rfl | (simp [errW_none, errW_some] <;> rfl)) | (simp [*, errW_none, errW_some] <;> rfl), zL HB.out⟩
        ·rw [if_neg c9] at H
         exact absurd H (by simp)
       ·rw [if_neg c8] at H
        exact absurd H (by simp)
      ·rw [if_neg c6] at H
       have c6b0 := decide_eq_false c6
       clear c6
       have H' := Aside0.mk H
       clear H
       try go_wp2
       replace HB := zLD HB
       have p115 : 0 ≤ (x3_1 : Int) := zD
       have q115 : x3_1 < (l0.length : Int) := zD
       obtain ⟨ad115, e115, hx115_0, hx115_1, hx115_2, hx115_3⟩ := at_T28 HR0.out x3_1 p115 q115
       have hw115_3 := hx115_3
       have hw115_2 := hx115_2
       have hw115_1 := hx115_1
       have hw115_0 := hx115_0
       cases e115
       replace hx115_0 := zh HB.out hx115_0
       replace hx115_1 := zh HB.out hx115_1
       replace hx115_2 := zh HB.out hx115_2
       replace hx115_3 := zh HB.out hx115_3
       replace p115 := eq_true p115
       replace q115 := eq_true q115
       refine start_ (n := 24) (S := fun w' => w'.cell? (ad115.add ((x3_1).toNat * 4)) = some (.string ((rd_T28 l0 x3_1).f0)) ∧ w'.cell? ⟨(ad115.add ((x3_1).toNat * 4)).block, (ad115.add ((x3_1).toNat * 4)).off + 1, none⟩ = some (.bool ((rd_T28 l0 x3_1).f1)) ∧ w'.cell? ⟨(ad115.add ((x3_1).toNat * 4)).block, (ad115.add ((x3_1).toNat * 4)).off + 2, none⟩ = some (.int .i64 ((rd_T28 l0 x3_1).f2)) ∧ w'.cell? ⟨(ad115.add ((x3_1).toNat * 4)).block, (ad115.add ((x3_1).toNat * 4)).off + 3, none⟩ = some (.string ((rd_T28 l0 x3_1).f3))) (ds := []) (fB 24 0) (by kernel_rfl) rfl rfl ⟨(zh HB.out hw115_0), (zh HB.out hw115_1), (zh HB.out hw115_2), (zh HB.out hw115_3)⟩ (fun hHeld => ?_); refine with_tabW spec_AttrsOk.tab4 spec_AttrsOk.bits4 (fun HT_ HW_ => ?_)
       generalize wr.drew = w15 at HB hx115_0 hx115_1 hx115_2 hx115_3 hHeld ⊢
       refine pY 0 10 (fB 24 1) HT_.out ?_
       refine pY 1 11 (fB 24 3) HT_.out ?_
       refine pY 2 12 (fB 24 7) HT_.out ?_
       refine tY 3 13 (fB 24 15) HT_.out HW_.out hHeld ?_
       refine oN 4 14 (fB 24 31) HT_.out fun K hK => ?_
       refine gS Tryd.func30 #[.agg #[.string ((rd_T28 l0 x3_1).f0), .bool ((rd_T28 l0 x3_1).f1), .int .i64 ((rd_T28 l0 x3_1).f2), .string ((rd_T28 l0 x3_1).f3)]] ?_
       with_reducible refine (spec_AttrOk.calls k1 ((rd_T28 l0 x3_1).f0) ((rd_T28 l0 x3_1).f1) ((rd_T28 l0 x3_1).f2) ((rd_T28 l0 x3_1).f3) true _ A4.out).mono ?_
       rintro e w16 ⟨rfl, hb⟩
       refine ⟨_, rfl, ?_⟩
       replace HB := zLB (zL HB.out) hb
       clear hb
       refine hK.out _ _ ⟨(zh HB.out hw115_0), (zh HB.out hw115_1), (zh HB.out hw115_2), (zh HB.out hw115_3)⟩ fun hHeld => ?_; clear hK K
       refine nZ 14 ?_
       refine pY 5 15 (fB 24 63) HT_.out ?_
       refine pY 6 16 (fB 24 127) HT_.out ?_
       refine pY 7 17 (fB 24 255) HT_.out ?_
       refine pY 8 18 (fB 24 511) HT_.out ?_
       refine pY 9 19 (fB 24 1023) HT_.out ?_
       refine pN 10 20 (fB 24 2047) HT_.out ?_
       refine pN 11 21 (fB 24 4095) HT_.out ?_
       refine pN 12 22 (fB 24 8191) HT_.out ?_
       refine pN 13 23 (fB 24 16383) HT_.out ?_
       refine pN 14 24 (fB 24 32767) HT_.out ?_
       refine pN 15 25 (fB 24 65535) HT_.out ?_
       refine pN 16 26 (fB 24 131071) HT_.out ?_
       refine pN 17 27 (fB 24 262143) HT_.out ?_
       refine pN 18 28 (fB 24 524287) HT_.out ?_
       refine pN 19 29 (fB 24 1048575) HT_.out ?_
       refine pN 20 30 (fB 24 2097151) HT_.out ?_
       refine pN 21 31 (fB 24 4194303) HT_.out ?_
       refine pY 22 32 (fB 24 8388607) HT_.out ?_
       refine pY 23 33 (fB 24 16777215) HT_.out ?_
       refine done_ (done_of HT_.out (by kernel_rfl)) ?_
       try go_wp2
       go_roundg k1
       case measure => have := HK1.out; omega
       case rel => exact ⟨(wrap64 (x3_1 + 1)), zV, H', ⟨by have := HK1.out; omega⟩, ⟨zL HB.out⟩⟩
     ·obtain rfl := Bool.eq_false_iff.mpr c5
      rw [if_neg zn] at H
      obtain rfl := Option.some.inj H
      try go_wp2
      replace HB := zLD HB
      have p115 : 0 ≤ (x3_1 : Int) := zD
      have q115 : x3_1 < (l0.length : Int) := zD
      obtain ⟨ad115, e115, hx115_0, hx115_1, hx115_2, hx115_3⟩ := at_T28 HR0.out x3_1 p115 q115
      have hw115_3 := hx115_3
      have hw115_2 := hx115_2
      have hw115_1 := hx115_1
      have hw115_0 := hx115_0
      cases e115
      replace hx115_0 := zh HB.out hx115_0
      replace hx115_1 := zh HB.out hx115_1
      replace hx115_2 := zh HB.out hx115_2
      replace hx115_3 := zh HB.out hx115_3
      replace p115 := eq_true p115
      replace q115 := eq_true q115
      refine start_ (n := 24) (S := fun w' => w'.cell? (ad115.add ((x3_1).toNat * 4)) = some (.string ((rd_T28 l0 x3_1).f0)) ∧ w'.cell? ⟨(ad115.add ((x3_1).toNat * 4)).block, (ad115.add ((x3_1).toNat * 4)).off + 1, none⟩ = some (.bool ((rd_T28 l0 x3_1).f1)) ∧ w'.cell? ⟨(ad115.add ((x3_1).toNat * 4)).block, (ad115.add ((x3_1).toNat * 4)).off + 2, none⟩ = some (.int .i64 ((rd_T28 l0 x3_1).f2)) ∧ w'.cell? ⟨(ad115.add ((x3_1).toNat * 4)).block, (ad115.add ((x3_1).toNat * 4)).off + 3, none⟩ = some (.string ((rd_T28 l0 x3_1).f3))) (ds := []) (fB 24 0) (by kernel_rfl) rfl rfl ⟨(zh HB.out hw115_0), (zh HB.out hw115_1), (zh HB.out hw115_2), (zh HB.out hw115_3)⟩ (fun hHeld => ?_); refine with_tabW spec_AttrsOk.tab4 spec_AttrsOk.bits4 (fun HT_ HW_ => ?_)
      generalize wr.drew = w17 at HB hx115_0 hx115_1 hx115_2 hx115_3 hHeld ⊢
      refine pY 0 10 (fB 24 1) HT_.out ?_
      refine pY 1 11 (fB 24 3) HT_.out ?_
      refine pY 2 12 (fB 24 7) HT_.out ?_
      refine tY 3 13 (fB 24 15) HT_.out HW_.out hHeld ?_
      refine oN 4 14 (fB 24 31) HT_.out fun K hK => ?_
      refine gS Tryd.func30 #[.agg #[.string ((rd_T28 l0 x3_1).f0), .bool ((rd_T28 l0 x3_1).f1), .int .i64 ((rd_T28 l0 x3_1).f2), .string ((rd_T28 l0 x3_1).f3)]] ?_
      with_reducible refine (spec_AttrOk.calls k1 ((rd_T28 l0 x3_1).f0) ((rd_T28 l0 x3_1).f1) ((rd_T28 l0 x3_1).f2) ((rd_T28 l0 x3_1).f3) false _ A4.out).mono ?_
      rintro e w18 ⟨rfl, hb⟩
      refine ⟨_, rfl, ?_⟩
      replace HB := zLB (zL HB.out) hb
      clear hb
      refine hK.out _ _ ⟨(zh HB.out hw115_0), (zh HB.out hw115_1), (zh HB.out hw115_2), (zh HB.out hw115_3)⟩ fun hHeld => ?_; clear hK K
      refine nZ 14 ?_
      refine pY 5 15 (fB 24 63) HT_.out ?_
      refine pY 6 16 (fB 24 127) HT_.out ?_
      refine pN 7 17 (fB 24 255) HT_.out ?_
      refine pN 8 18 (fB 24 511) HT_.out ?_
      refine pN 9 19 (fB 24 1023) HT_.out ?_
      refine pN 10 20 (fB 24 2047) HT_.out ?_
      refine pN 11 21 (fB 24 4095) HT_.out ?_
      refine pN 12 22 (fB 24 8191) HT_.out ?_
      refine pN 13 23 (fB 24 16383) HT_.out ?_
      refine pN 14 24 (fB 24 32767) HT_.out ?_
      refine pN 15 25 (fB 24 65535) HT_.out ?_
      refine pN 16 26 (fB 24 131071) HT_.out ?_
      refine pN 17 27 (fB 24 262143) HT_.out ?_
      refine pN 18 28 (fB 24 524287) HT_.out ?_
      refine pN 19 29 (fB 24 1048575) HT_.out ?_
      refine pN 20 30 (fB 24 2097151) HT_.out ?_
      refine pN 21 31 (fB 24 4194303) HT_.out ?_
      refine pN 22 32 (fB 24 8388607) HT_.out ?_
      refine pY 23 33 (fB 24 16777215) HT_.out ?_
      refine done_ (done_of HT_.out (by kernel_rfl)) ?_
      try go_wp2
      go_ret
      exact ⟨zW, zL HB.out⟩
    ·rw [if_neg c3] at H
     exact absurd H (by simp)
   ·rw [if_neg c2] at H
    have c2b0 := decide_eq_false c2
    clear c2
    obtain rfl := Option.some.inj H
    go_wp2
    go_ret
    exact ⟨zW, zL HB.out⟩

open Go.Proofs.YtkhbhdchakbmhaaDoorW.PrintWords renaming blk_drewN → bN, blk_drew → bD, blk_alloc → bA, blk_cell → bC, blk_below → bB, below_set → bS
/-! ### spec_AttrSize: function 34 -/
def spec_AttrSize.f (a0_0 : ByteArray) (a0_1 : Bool) (a0_2 : Int) (a0_3 : ByteArray) : Option (Int) := if a0_1 = true then (some (wrap64 ((a0_0.size : Int) + 4))) else (some (wrap64 ((a0_0.size : Int) + (a0_3.size : Int))))
set_option maxHeartbeats 8000000 in
set_option maxRecDepth 100000 in
theorem spec_AttrSize.calls (a0_0 : ByteArray) (a0_1 : Bool) (a0_2 : Int) (a0_3 : ByteArray) (r : Int) (w : World) (h : spec_AttrSize.f a0_0 a0_1 a0_2 a0_3 = some r) :
  Calls Tryd.prog 34 #[.agg #[.string a0_0, .bool a0_1, .int .i64 a0_2, .string a0_3]] w fun e w' => e = .returned (.int .i64 r) ∧ Below w.heap.size w w' := by
 have hu28 := Tryd.underlying28
 have HB := Aside0.mk (Below.refl w.heap.size w)
 unfold spec_AttrSize.f at h; have H := h
 clear h
 by_cases c2 : a0_1 = true
 ·subst c2
  rw [if_pos rfl] at H
  obtain rfl := Option.some.inj H
  go_enter Tryd.func34, Tryd.ntmps34
  go_wp2_with (first | ((with_reducible refine gD 1 rfl ?_); refine bE 1 #[.string a0_0, .bool true, .int .i64 a0_2, .string a0_3] 28 ?_; intro gb119 hg w3 hbox hb; have BK119 := Aside0.mk hbox; have GW119 := Aside0.mk (zg (zL HB.out) hg : w.heap.size ≤ gb119); have GE119 := GW119; replace HB := zLB (zL HB.out) hb; clear hb hbox hg; have hcz4 := zc4 BK119.out; have hfz4 := zf4 BK119.out))
  go_ret
  exact ⟨zW, zL1 HB.out GE119.out⟩
 ·obtain rfl := Bool.eq_false_iff.mpr c2
  rw [if_neg zn] at H
  obtain rfl := Option.some.inj H
  go_enter Tryd.func34, Tryd.ntmps34
  go_wp2_with (first | ((with_reducible refine gD 1 rfl ?_); refine bE 1 #[.string a0_0, .bool false, .int .i64 a0_2, .string a0_3] 28 ?_; intro gb119 hg w5 hbox hb; have BK119 := Aside0.mk hbox; have GW119 := Aside0.mk (zg (zL HB.out) hg : w.heap.size ≤ gb119); have GE119 := GW119; replace HB := zLB (zL HB.out) hb; clear hb hbox hg; have hcz6 := zc4 BK119.out; have hfz6 := zf4 BK119.out))
  go_ret
  exact ⟨zW, zL1 HB.out GE119.out⟩

end Go.Proofs.YtkhbhdchakbmhaaDoor.QFnSpans
