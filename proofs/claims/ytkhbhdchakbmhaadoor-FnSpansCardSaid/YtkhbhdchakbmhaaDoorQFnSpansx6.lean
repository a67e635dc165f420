/- What the Go functions that the law FnSpans reaches answer: each as a Lean function, with its walk. Written by a program of this session. Conditions: those that each theorem names. -/
import Derived.Test.YtkhbhdchakbmhaaDoorQFnSpansx0
import Derived.Test.YtkhbhdchakbmhaaDoorQFnSpansx5
namespace Go.Proofs.YtkhbhdchakbmhaaDoor.QFnSpans
open Go.RowKit Go.Proofs.YtkhbhdchakbmhaaDoorW.PrintWords Go.Proofs.YtkhbhdchakbmhaaDoorW.PrintLast Go.Proofs.YtkhbhdchakbmhaaDoorW.PrintMore
attribute [local go_sem] max2_int min2_int max_two min_two max_three min_three max_four min_four   -- for this text's walks alone
set_option linter.unusedVariables false
set_option linter.unusedSimpArgs false

open Go.Proofs.YtkhbhdchakbmhaaDoorW.PrintWords renaming blk_drewN → bN, blk_drew → bD, blk_alloc → bA, blk_cell → bC, blk_below → bB, below_set → bS
/-! ### impl_AttrsOk: function 31 -/
def impl_AttrsOk.l0 : Nat → List (S28) → List (S28) → Int → Int → Option (Bool)
 | 0, _, _, _, _ => none
 | k + 1, x0, x5, x6, x7 => if x7 < x6 then (if 0 ≤ x7 then (if x7 < (x5.length : Int) then ((impl_AttrOk.f k ((rd_T28 x5 x7).f0) ((rd_T28 x5 x7).f1) ((rd_T28 x5 x7).f2) ((rd_T28 x5 x7).f3)).bind fun t151 => (if t151 = true then (if x7 > 0 then (if 0 ≤ (wrap64 (x7 - 1)) then (if (wrap64 (x7 - 1)) < (x0.length : Int) then (if ((Op.bytesLess (((rd_T28 x0 (wrap64 (x7 - 1))).f0).toList) (((rd_T28 x5 x7).f0).toList)) = true) then (impl_AttrsOk.l0 k x0 x5 x6 (wrap64 (x7 + 1))) else (some false)) else (none)) else (none)) else (impl_AttrsOk.l0 k x0 x5 x6 (wrap64 (x7 + 1)))) else (some false))) else (none)) else (none)) else (some (decide ((x0.length : Int) ≤ 4)))
def impl_AttrsOk.f (k : Nat) (l0 : List (S28)) : Option (Bool) := impl_AttrsOk.l0 k l0 l0 (l0.length : Int) 0
theorem impl_AttrsOk.mono_l : ∀ k, (∀ y0 y1 y2 y3, LeO (impl_AttrsOk.l0 k y0 y1 y2 y3) (impl_AttrsOk.l0 (k + 1) y0 y1 y2 y3))
 | 0 => fun _ _ _ _ r h => by simp [impl_AttrsOk.l0] at h
 | k + 1 => by
  have ih0 := impl_AttrsOk.mono_l k
  ·intro y0 y1 y2 y3
   unfold impl_AttrsOk.l0
   repeat' first
   | (with_reducible exact ih0 _ _ _ _)
   | (with_reducible apply impl_AttrOk.mono)
   | (with_reducible exact LeO.refl _)
   | (with_reducible exact LeO.none _)
   | (with_reducible refine LeO.ite ?_ ?_)
   | (with_reducible refine LeO.bind ?_ (fun _ => ?_))
   | exact ih0 _ _ _ _
   | apply impl_AttrOk.mono
   | exact LeO.none _
   | refine LeO.ite ?_ ?_
   | refine LeO.bind ?_ (fun _ => ?_)
theorem impl_AttrsOk.mono : ∀ a0 k, LeO (impl_AttrsOk.f k a0) (impl_AttrsOk.f (k + 1) a0) := by
 intro a0 k
 have ih0 := impl_AttrsOk.mono_l k
 unfold impl_AttrsOk.f
 repeat' first
   | (with_reducible exact ih0 _ _ _ _)
   | (with_reducible apply impl_AttrOk.mono)
   | (with_reducible exact LeO.refl _)
   | (with_reducible exact LeO.none _)
   | (with_reducible refine LeO.ite ?_ ?_)
   | (with_reducible refine LeO.bind ?_ (fun _ => ?_))
   | exact ih0 _ _ _ _
   | apply impl_AttrOk.mono
   | exact LeO.none _
   | refine LeO.ite ?_ ?_
   | refine LeO.bind ?_ (fun _ => ?_)
def impl_AttrsOk.T4 : Bool × List (List Nat × List Nat) := (true, [([], []), ([0], [0]), ([1], [1]), ([2, 1], [2]), ([3], [3]), ([4, 3], [3, 4]), ([5, 3, 3], [3, 5]), ([6], [6]), ([6], [6]), ([8, 6], [6, 8]), ([7, 9, 6], [6, 7, 9]), ([10, 6], [6, 10]), ([11, 6], [6, 11]), ([6], [6]), ([13, 6], [6, 13]), ([12, 14, 6], [6, 12, 14]), ([6, 15, 3], [3, 6, 15]), ([3, 16], [3, 16])])
def impl_AttrsOk.B4 : List Nat := [0, 1, 3, 7, 15, 31, 63, 127, 127, 383, 1023, 2047, 4095, 127, 8319, 32767, 65535, 131071]
theorem impl_AttrsOk.tab4 : rtab .any (opsOf Tryd.f31 4) = impl_AttrsOk.T4 := by kernel_rfl
theorem impl_AttrsOk.bits4 : waitsOk impl_AttrsOk.T4.2 impl_AttrsOk.B4 = true := by kernel_rfl
set_option maxHeartbeats 8000000 in
set_option maxRecDepth 100000 in
theorem impl_AttrsOk.calls (k : Nat) (A0 : Option Addr) (c0 : Nat) (l0 : List (S28)) (r : Bool) (w : World) (hr0 : Kd.C k28 w A0 l0.length l0) (hc0 : l0.length ≤ c0) (h : impl_AttrsOk.f k l0 = some r) :
  Calls Tryd.prog 31 #[.slice A0 l0.length c0] w fun e w' => e = .returned (.bool r) ∧ Below w.heap.size w w' := by
 have hu28 := Tryd.underlying28
 have HR0 := Aside0.mk hr0
 have HC0 := Aside0.mk hc0
 clear hr0 hc0
 have HB := Aside0.mk (Below.refl w.heap.size w)
 unfold impl_AttrsOk.f at h; have H := h
 clear h
 have H' := Aside0.mk H
 clear H
 go_enter Tryd.func31, Tryd.ntmps31
 go_wp2
 go_loopg [7] k (fun kq v7 w' => ∃ (x7_1 : Int), v7 = .int .i64 x7_1 ∧ Aside0 (impl_AttrsOk.l0 kq l0 l0 (l0.length : Int) x7_1 = some r) ∧ Aside0 (kq ≤ k) ∧ Aside0 (Below w.heap.size w w'))
 case atStart => exact ⟨(0), zV, H', ⟨Nat.le_refl _⟩, ⟨zL HB.out⟩⟩
 case round =>
  clear H'
  obtain ⟨x7_1, rfl, HA, HK1, HB⟩ := hrel
  cases gk with
  | zero => exact absurd HA.out (by simp [impl_AttrsOk.l0])
  | succ k1 =>
   have H := HA.out
   clear HA
   simp only [impl_AttrsOk.l0] at H
   by_cases c2 : x7_1 < (l0.length : Int)
   ·rw [if_pos c2] at H
    have c2b0 := decide_eq_true c2
    clear c2
    by_cases c3 : 0 ≤ x7_1
    ·rw [if_pos c3] at H
     have c3b0 := decide_eq_true c3
     clear c3
     by_cases c4 : x7_1 < (l0.length : Int)
     ·rw [if_pos c4] at H
      have c4b0 := decide_eq_true c4
      clear c4
      obtain ⟨t151, A5, H⟩ := zO H; try dsimp only at H
      by_cases c6 : t151 = true
      ·subst c6
       rw [if_pos rfl] at H
       by_cases c7 : x7_1 > 0
       ·rw [if_pos c7] at H
        have c7b0 := decide_eq_true c7
        clear c7
        obtain ⟨ji8, hji8⟩ : ∃ j_ : Int, (wrap64 (x7_1 - 1)) = j_ := ⟨_, rfl⟩
        replace H : (if 0 ≤ (ji8) then (if (ji8) < (l0.length : Int) then (if ((Op.bytesLess (((rd_T28 l0 (ji8)).f0).toList) (((rd_T28 l0 x7_1).f0).toList)) = true) then (impl_AttrsOk.l0 k1 l0 l0 (l0.length : Int) (wrap64 (x7_1 + 1))) else (some false)) else (none)) else (none)) = some r := by first | (rw [hji8] at H; exact H) | (simp only [hji8] at H ⊢; exact H)
        (try rw [hji8] at A5)
        have hji8w : (IntKind.i64.wrap (x7_1 - 1)) = ji8 := (i64_w _).trans hji8
        by_cases c9 : 0 ≤ (ji8)
        ·rw [if_pos c9] at H
         have c9b0 := decide_eq_true c9
         clear c9
         by_cases c10 : (ji8) < (l0.length : Int)
         ·rw [if_pos c10] at H
          have c10b0 := decide_eq_true c10
          clear c10
          by_cases c11 : ((Op.bytesLess (((rd_T28 l0 (ji8)).f0).toList) (((rd_T28 l0 x7_1).f0).toList)) = true)
          ·rw [if_pos c11] at H
           have c11b0 := c11
           clear c11
           have H' := Aside0.mk H
           clear H
           have p149 : 0 ≤ (x7_1 : Int) := zD
           have q149 : x7_1 < (l0.length : Int) := zD
           obtain ⟨ad149, e149, hx149_0, hx149_1, hx149_2, hx149_3⟩ := at_T28 HR0.out x7_1 p149 q149
           cases e149
           replace hx149_0 := zh HB.out hx149_0
           replace hx149_1 := zh HB.out hx149_1
           replace hx149_2 := zh HB.out hx149_2
           replace hx149_3 := zh HB.out hx149_3
           replace p149 := eq_true p149
           replace q149 := eq_true q149
           try go_wp2_with (first | ((with_reducible refine gD 4 rfl ?_); refine bE 4 #[.string (⟨#[]⟩ : ByteArray), .bool false, .int .i64 0, .string (⟨#[]⟩ : ByteArray)] 28 ?_; intro gb150 hg w12 hbox hb; have BK150 := Aside0.mk hbox; have GW150 := Aside0.mk (zg (zL HB.out) hg : w.heap.size ≤ gb150); have GE150 := GW150; replace HB := zLB (zL HB.out) hb; clear hb hbox hg; have hcz13 := zc4 BK150.out; have hfz13 := zf4 BK150.out))
           have n0_ : Aside0 (((((w12.setCell ⟨gb150, 0, none⟩ (.string ((rd_T28 l0 x7_1).f0))).setCell ⟨gb150, 1, none⟩ (.bool ((rd_T28 l0 x7_1).f1))).setCell ⟨gb150, 2, none⟩ (.int .i64 ((rd_T28 l0 x7_1).f2))).setCell ⟨gb150, 3, none⟩ (.string ((rd_T28 l0 x7_1).f3))).heap[gb150]? = some (.cells #[.string ((rd_T28 l0 x7_1).f0), .bool ((rd_T28 l0 x7_1).f1), .int .i64 ((rd_T28 l0 x7_1).f2), .string ((rd_T28 l0 x7_1).f3)] 28 (0, 0))) := ⟨by refine zB ?_; refine zp4 (cs := #[.string (⟨#[]⟩ : ByteArray), .bool false, .int .i64 0, .string (⟨#[]⟩ : ByteArray)]) ?_; exact zB BK150.out⟩
           have n1_ : Aside0 (Below w.heap.size w ((((w12.setCell ⟨gb150, 0, none⟩ (.string ((rd_T28 l0 x7_1).f0))).setCell ⟨gb150, 1, none⟩ (.bool ((rd_T28 l0 x7_1).f1))).setCell ⟨gb150, 2, none⟩ (.int .i64 ((rd_T28 l0 x7_1).f2))).setCell ⟨gb150, 3, none⟩ (.string ((rd_T28 l0 x7_1).f3)))) := ⟨zL1 HB.out GE150.out⟩
           (try clear BK150)
           (try clear HB)
           generalize ((((w12.setCell ⟨gb150, 0, none⟩ (.string ((rd_T28 l0 x7_1).f0))).setCell ⟨gb150, 1, none⟩ (.bool ((rd_T28 l0 x7_1).f1))).setCell ⟨gb150, 2, none⟩ (.int .i64 ((rd_T28 l0 x7_1).f2))).setCell ⟨gb150, 3, none⟩ (.string ((rd_T28 l0 x7_1).f3))) = w14 at n0_ n1_ ⊢
           have BK150 := n0_
           have HB := n1_
           clear n0_ n1_
           replace BK150 := zBD BK150; replace HB := zLD HB
           have p152 : 0 ≤ ((ji8) : Int) := zD
           have q152 : (ji8) < (l0.length : Int) := zD
           obtain ⟨ad152, e152, hx152_0, hx152_1, hx152_2, hx152_3⟩ := at_T28 HR0.out (ji8) p152 q152
           have hw152_3 := hx152_3
           have hw152_2 := hx152_2
           have hw152_1 := hx152_1
           have hw152_0 := hx152_0
           obtain rfl : ad149 = ad152 := (by injection e152)
           replace hx152_0 := zh HB.out hx152_0
           replace hx152_1 := zh HB.out hx152_1
           replace hx152_2 := zh HB.out hx152_2
           replace hx152_3 := zh HB.out hx152_3
           replace p152 := eq_true p152
           replace q152 := eq_true q152
           refine start_ (n := 18) (S := fun w' => w'.cell? ⟨gb150, 0, none⟩ = some (.string ((rd_T28 l0 x7_1).f0)) ∧ w'.cell? ⟨gb150, 1, none⟩ = some (.bool ((rd_T28 l0 x7_1).f1)) ∧ w'.cell? ⟨gb150, 2, none⟩ = some (.int .i64 ((rd_T28 l0 x7_1).f2)) ∧ w'.cell? ⟨gb150, 3, none⟩ = some (.string ((rd_T28 l0 x7_1).f3)) ∧ w'.cell? (ad149.add (((ji8)).toNat * 4)) = some (.string ((rd_T28 l0 (ji8)).f0)) ∧ w'.cell? ⟨(ad149.add (((ji8)).toNat * 4)).block, (ad149.add (((ji8)).toNat * 4)).off + 1, none⟩ = some (.bool ((rd_T28 l0 (ji8)).f1)) ∧ w'.cell? ⟨(ad149.add (((ji8)).toNat * 4)).block, (ad149.add (((ji8)).toNat * 4)).off + 2, none⟩ = some (.int .i64 ((rd_T28 l0 (ji8)).f2)) ∧ w'.cell? ⟨(ad149.add (((ji8)).toNat * 4)).block, (ad149.add (((ji8)).toNat * 4)).off + 3, none⟩ = some (.string ((rd_T28 l0 (ji8)).f3))) (ds := []) (fB 18 0) (by kernel_rfl) rfl rfl ⟨(bC BK150.out 0).trans rfl, (bC BK150.out 1).trans rfl, (bC BK150.out 2).trans rfl, (bC BK150.out 3).trans rfl, (zh HB.out hw152_0), (zh HB.out hw152_1), (zh HB.out hw152_2), (zh HB.out hw152_3)⟩ (fun hHeld => ?_); refine with_tabW impl_AttrsOk.tab4 impl_AttrsOk.bits4 (fun HT_ HW_ => ?_)
           generalize w14.drew = w15 at BK150 HB hx152_0 hx152_1 hx152_2 hx152_3 hHeld ⊢
           refine tY 0 12 (fB 18 1) HT_.out HW_.out hHeld ?_
           refine oN 1 13 (fB 18 3) HT_.out fun K hK => ?_
           refine gS Tryd.func29 #[.agg #[.string ((rd_T28 l0 x7_1).f0), .bool ((rd_T28 l0 x7_1).f1), .int .i64 ((rd_T28 l0 x7_1).f2), .string ((rd_T28 l0 x7_1).f3)]] ?_
           with_reducible refine (impl_AttrOk.calls k1 ((rd_T28 l0 x7_1).f0) ((rd_T28 l0 x7_1).f1) ((rd_T28 l0 x7_1).f2) ((rd_T28 l0 x7_1).f3) true _ A5.out).mono ?_
           rintro e w16 ⟨rfl, hb⟩
           refine ⟨_, rfl, ?_⟩
           replace BK150 := zBB BK150 hb; replace HB := zLB (zL1 HB.out GE150.out) hb
           clear hb
           refine hK.out _ _ ⟨(bC BK150.out 0).trans rfl, (bC BK150.out 1).trans rfl, (bC BK150.out 2).trans rfl, (bC BK150.out 3).trans rfl, (zh HB.out hw152_0), (zh HB.out hw152_1), (zh HB.out hw152_2), (zh HB.out hw152_3)⟩ fun hHeld => ?_; clear hK K
           refine nZ 13 ?_
           refine pY 2 14 (fB 18 7) HT_.out ?_
           refine pY 3 15 (fB 18 15) HT_.out ?_
           refine pY 4 16 (fB 18 31) HT_.out ?_
           refine pY 5 17 (fB 18 63) HT_.out ?_
           refine pY 6 18 (fB 18 127) HT_.out ?_
           refine pY 7 19 (fB 18 255) HT_.out ?_
           refine pY 8 20 (fB 18 511) HT_.out ?_
           refine pY 9 21 (fB 18 1023) HT_.out ?_
           refine pY 10 22 (fB 18 2047) HT_.out ?_
           refine pY 11 23 (fB 18 4095) HT_.out ?_
           refine pY 13 25 (fB 18 12287) HT_.out ?_
           refine tY 12 24 (fB 18 16383) HT_.out HW_.out hHeld ?_
           refine tY 14 26 (fB 18 32767) HT_.out HW_.out hHeld ?_
           refine pY 15 27 (fB 18 65535) HT_.out ?_
           refine pY 16 28 (fB 18 131071) HT_.out ?_
           refine pY 17 29 (fB 18 262143) HT_.out ?_
           refine done_ (done_of HT_.out (by kernel_rfl)) ?_
           try go_wp2
           go_roundg k1
           case measure => have := HK1.out; omega
           case rel => exact ⟨(wrap64 (x7_1 + 1)), zV, H', ⟨by have := HK1.out; omega⟩, ⟨zL1 HB.out GE150.out⟩⟩
          ·rw [if_neg c11] at H
           have c11b0 : (Op.bytesLess (((rd_T28 l0 (ji8)).f0).toList) (((rd_T28 l0 x7_1).f0).toList)) = false := by simpa using c11
           clear c11
           obtain rfl := Option.some.inj H
           have p149 : 0 ≤ (x7_1 : Int) := zD
           have q149 : x7_1 < (l0.length : Int) := zD
           obtain ⟨ad149, e149, hx149_0, hx149_1, hx149_2, hx149_3⟩ := at_T28 HR0.out x7_1 p149 q149
           cases e149
           replace hx149_0 := zh HB.out hx149_0
           replace hx149_1 := zh HB.out hx149_1
           replace hx149_2 := zh HB.out hx149_2
           replace hx149_3 := zh HB.out hx149_3
           replace p149 := eq_true p149
           replace q149 := eq_true q149
           try go_wp2_with (first | ((with_reducible refine gD 4 rfl ?_); refine bE 4 #[.string (⟨#[]⟩ : ByteArray), .bool false, .int .i64 0, .string (⟨#[]⟩ : ByteArray)] 28 ?_; intro gb150 hg w17 hbox hb; have BK150 := Aside0.mk hbox; have GW150 := Aside0.mk (zg (zL HB.out) hg : w.heap.size ≤ gb150); have GE150 := GW150; replace HB := zLB (zL HB.out) hb; clear hb hbox hg; have hcz18 := zc4 BK150.out; have hfz18 := zf4 BK150.out))
           have n0_ : Aside0 (((((w17.setCell ⟨gb150, 0, none⟩ (.string ((rd_T28 l0 x7_1).f0))).setCell ⟨gb150, 1, none⟩ (.bool ((rd_T28 l0 x7_1).f1))).setCell ⟨gb150, 2, none⟩ (.int .i64 ((rd_T28 l0 x7_1).f2))).setCell ⟨gb150, 3, none⟩ (.string ((rd_T28 l0 x7_1).f3))).heap[gb150]? = some (.cells #[.string ((rd_T28 l0 x7_1).f0), .bool ((rd_T28 l0 x7_1).f1), .int .i64 ((rd_T28 l0 x7_1).f2), .string ((rd_T28 l0 x7_1).f3)] 28 (0, 0))) := ⟨by refine zB ?_; refine zp4 (cs := #[.string (⟨#[]⟩ : ByteArray), .bool false, .int .i64 0, .string (⟨#[]⟩ : ByteArray)]) ?_; exact zB BK150.out⟩
           have n1_ : Aside0 (Below w.heap.size w ((((w17.setCell ⟨gb150, 0, none⟩ (.string ((rd_T28 l0 x7_1).f0))).setCell ⟨gb150, 1, none⟩ (.bool ((rd_T28 l0 x7_1).f1))).setCell ⟨gb150, 2, none⟩ (.int .i64 ((rd_T28 l0 x7_1).f2))).setCell ⟨gb150, 3, none⟩ (.string ((rd_T28 l0 x7_1).f3)))) := ⟨zL1 HB.out GE150.out⟩
           (try clear BK150)
           (try clear HB)
           generalize ((((w17.setCell ⟨gb150, 0, none⟩ (.string ((rd_T28 l0 x7_1).f0))).setCell ⟨gb150, 1, none⟩ (.bool ((rd_T28 l0 x7_1).f1))).setCell ⟨gb150, 2, none⟩ (.int .i64 ((rd_T28 l0 x7_1).f2))).setCell ⟨gb150, 3, none⟩ (.string ((rd_T28 l0 x7_1).f3))) = w19 at n0_ n1_ ⊢
           have BK150 := n0_
           have HB := n1_
           clear n0_ n1_
           replace BK150 := zBD BK150; replace HB := zLD HB
           have p152 : 0 ≤ ((ji8) : Int) := zD
           have q152 : (ji8) < (l0.length : Int) := zD
           obtain ⟨ad152, e152, hx152_0, hx152_1, hx152_2, hx152_3⟩ := at_T28 HR0.out (ji8) p152 q152
           have hw152_3 := hx152_3
           have hw152_2 := hx152_2
           have hw152_1 := hx152_1
           have hw152_0 := hx152_0
           obtain rfl : ad149 = ad152 := (by injection e152)
           replace hx152_0 := zh HB.out hx152_0
           replace hx152_1 := zh HB.out hx152_1
           replace hx152_2 := zh HB.out hx152_2
           replace hx152_3 := zh HB.out hx152_3
           replace p152 := eq_true p152
           replace q152 := eq_true q152
           refine start_ (n := 18) (S := fun w' => w'.cell? ⟨gb150, 0, none⟩ = some (.string ((rd_T28 l0 x7_1).f0)) ∧ w'.cell? ⟨gb150, 1, none⟩ = some (.bool ((rd_T28 l0 x7_1).f1)) ∧ w'.cell? ⟨gb150, 2, none⟩ = some (.int .i64 ((rd_T28 l0 x7_1).f2)) ∧ w'.cell? ⟨gb150, 3, none⟩ = some (.string ((rd_T28 l0 x7_1).f3)) ∧ w'.cell? (ad149.add (((ji8)).toNat * 4)) = some (.string ((rd_T28 l0 (ji8)).f0)) ∧ w'.cell? ⟨(ad149.add (((ji8)).toNat * 4)).block, (ad149.add (((ji8)).toNat * 4)).off + 1, none⟩ = some (.bool ((rd_T28 l0 (ji8)).f1)) ∧ w'.cell? ⟨(ad149.add (((ji8)).toNat * 4)).block, (ad149.add (((ji8)).toNat * 4)).off + 2, none⟩ = some (.int .i64 ((rd_T28 l0 (ji8)).f2)) ∧ w'.cell? ⟨(ad149.add (((ji8)).toNat * 4)).block, (ad149.add (((ji8)).toNat * 4)).off + 3, none⟩ = some (.string ((rd_T28 l0 (ji8)).f3))) (ds := []) (fB 18 0) (by kernel_rfl) rfl rfl ⟨(bC BK150.out 0).trans rfl, (bC BK150.out 1).trans rfl, (bC BK150.out 2).trans rfl, (bC BK150.out 3).trans rfl, (zh HB.out hw152_0), (zh HB.out hw152_1), (zh HB.out hw152_2), (zh HB.out hw152_3)⟩ (fun hHeld => ?_); refine with_tabW impl_AttrsOk.tab4 impl_AttrsOk.bits4 (fun HT_ HW_ => ?_)
           generalize w19.drew = w20 at BK150 HB hx152_0 hx152_1 hx152_2 hx152_3 hHeld ⊢
           refine tY 0 12 (fB 18 1) HT_.out HW_.out hHeld ?_
           refine oN 1 13 (fB 18 3) HT_.out fun K hK => ?_
           refine gS Tryd.func29 #[.agg #[.string ((rd_T28 l0 x7_1).f0), .bool ((rd_T28 l0 x7_1).f1), .int .i64 ((rd_T28 l0 x7_1).f2), .string ((rd_T28 l0 x7_1).f3)]] ?_
           with_reducible refine (impl_AttrOk.calls k1 ((rd_T28 l0 x7_1).f0) ((rd_T28 l0 x7_1).f1) ((rd_T28 l0 x7_1).f2) ((rd_T28 l0 x7_1).f3) true _ A5.out).mono ?_
           rintro e w21 ⟨rfl, hb⟩
           refine ⟨_, rfl, ?_⟩
           replace BK150 := zBB BK150 hb; replace HB := zLB (zL1 HB.out GE150.out) hb
           clear hb
           refine hK.out _ _ ⟨(bC BK150.out 0).trans rfl, (bC BK150.out 1).trans rfl, (bC BK150.out 2).trans rfl, (bC BK150.out 3).trans rfl, (zh HB.out hw152_0), (zh HB.out hw152_1), (zh HB.out hw152_2), (zh HB.out hw152_3)⟩ fun hHeld => ?_; clear hK K
           refine nZ 13 ?_
           refine pY 2 14 (fB 18 7) HT_.out ?_
           refine pY 3 15 (fB 18 15) HT_.out ?_
           refine pY 4 16 (fB 18 31) HT_.out ?_
           refine pY 5 17 (fB 18 63) HT_.out ?_
           refine pY 6 18 (fB 18 127) HT_.out ?_
           refine pY 7 19 (fB 18 255) HT_.out ?_
           refine pY 8 20 (fB 18 511) HT_.out ?_
           refine pY 9 21 (fB 18 1023) HT_.out ?_
           refine pY 10 22 (fB 18 2047) HT_.out ?_
           refine pY 11 23 (fB 18 4095) HT_.out ?_
           refine pY 13 25 (fB 18 12287) HT_.out ?_
           refine tY 12 24 (fB 18 16383) HT_.out HW_.out hHeld ?_
           refine tY 14 26 (fB 18 32767) HT_.out HW_.out hHeld ?_
           refine pY 15 27 (fB 18 65535) HT_.out ?_
           refine pY 16 28 (fB 18 131071) HT_.out ?_
           refine pY 17 29 (fB 18 262143) HT_.out ?_
           refine done_ (done_of HT_.out (by kernel_rfl)) ?_
           try go_wp2
           go_ret
           exact ⟨by first | rfl | (simp [errW_none, errW_some] <;> rfl) | (simp only [← hji8]; first | rfl | (simp [errW_none, errW_some] <;> rfl)) | (simp [*, errW_none, errW_some] <;> rfl), zL1 HB.out GE150.out⟩
         ·rw [if_neg c10] at H
          exact absurd H (by simp)
        ·rw [if_neg c9] at H
         exact absurd H (by simp)
       ·rw [if_neg c7] at H
        have c7b0 := decide_eq_false c7
        clear c7
        have H' := Aside0.mk H
        clear H
        have p149 : 0 ≤ (x7_1 : Int) := zD
        have q149 : x7_1 < (l0.length : Int) := zD
        obtain ⟨ad149, e149, hx149_0, hx149_1, hx149_2, hx149_3⟩ := at_T28 HR0.out x7_1 p149 q149
        cases e149
        replace hx149_0 := zh HB.out hx149_0
        replace hx149_1 := zh HB.out hx149_1
        replace hx149_2 := zh HB.out hx149_2
        replace hx149_3 := zh HB.out hx149_3
        replace p149 := eq_true p149
        replace q149 := eq_true q149
        try go_wp2_with (first | ((with_reducible refine gD 4 rfl ?_); refine bE 4 #[.string (⟨#[]⟩ : ByteArray), .bool false, .int .i64 0, .string (⟨#[]⟩ : ByteArray)] 28 ?_; intro gb150 hg w22 hbox hb; have BK150 := Aside0.mk hbox; have GW150 := Aside0.mk (zg (zL HB.out) hg : w.heap.size ≤ gb150); have GE150 := GW150; replace HB := zLB (zL HB.out) hb; clear hb hbox hg; have hcz23 := zc4 BK150.out; have hfz23 := zf4 BK150.out))
        have n0_ : Aside0 (((((w22.setCell ⟨gb150, 0, none⟩ (.string ((rd_T28 l0 x7_1).f0))).setCell ⟨gb150, 1, none⟩ (.bool ((rd_T28 l0 x7_1).f1))).setCell ⟨gb150, 2, none⟩ (.int .i64 ((rd_T28 l0 x7_1).f2))).setCell ⟨gb150, 3, none⟩ (.string ((rd_T28 l0 x7_1).f3))).heap[gb150]? = some (.cells #[.string ((rd_T28 l0 x7_1).f0), .bool ((rd_T28 l0 x7_1).f1), .int .i64 ((rd_T28 l0 x7_1).f2), .string ((rd_T28 l0 x7_1).f3)] 28 (0, 0))) := ⟨by refine zB ?_; refine zp4 (cs := #[.string (⟨#[]⟩ : ByteArray), .bool false, .int .i64 0, .string (⟨#[]⟩ : ByteArray)]) ?_; exact zB BK150.out⟩
        have n1_ : Aside0 (Below w.heap.size w ((((w22.setCell ⟨gb150, 0, none⟩ (.string ((rd_T28 l0 x7_1).f0))).setCell ⟨gb150, 1, none⟩ (.bool ((rd_T28 l0 x7_1).f1))).setCell ⟨gb150, 2, none⟩ (.int .i64 ((rd_T28 l0 x7_1).f2))).setCell ⟨gb150, 3, none⟩ (.string ((rd_T28 l0 x7_1).f3)))) := ⟨zL1 HB.out GE150.out⟩
        (try clear BK150)
        (try clear HB)
        generalize ((((w22.setCell ⟨gb150, 0, none⟩ (.string ((rd_T28 l0 x7_1).f0))).setCell ⟨gb150, 1, none⟩ (.bool ((rd_T28 l0 x7_1).f1))).setCell ⟨gb150, 2, none⟩ (.int .i64 ((rd_T28 l0 x7_1).f2))).setCell ⟨gb150, 3, none⟩ (.string ((rd_T28 l0 x7_1).f3))) = w24 at n0_ n1_ ⊢
        have BK150 := n0_
        have HB := n1_
        clear n0_ n1_
        replace BK150 := zBD BK150; replace HB := zLD HB
        refine start_ (n := 18) (S := fun w' => zs4 w' gb150 (.string ((rd_T28 l0 x7_1).f0)) (.bool ((rd_T28 l0 x7_1).f1)) (.int .i64 ((rd_T28 l0 x7_1).f2)) (.string ((rd_T28 l0 x7_1).f3))) (ds := []) (fB 18 0) (by kernel_rfl) rfl rfl (zc4 BK150.out) (fun hHeld => ?_); refine with_tabW impl_AttrsOk.tab4 impl_AttrsOk.bits4 (fun HT_ HW_ => ?_)
        generalize w24.drew = w25 at BK150 HB hHeld ⊢
        refine tY 0 12 (fB 18 1) HT_.out HW_.out hHeld ?_
        refine oN 1 13 (fB 18 3) HT_.out fun K hK => ?_
        refine gS Tryd.func29 #[.agg #[.string ((rd_T28 l0 x7_1).f0), .bool ((rd_T28 l0 x7_1).f1), .int .i64 ((rd_T28 l0 x7_1).f2), .string ((rd_T28 l0 x7_1).f3)]] ?_
        with_reducible refine (impl_AttrOk.calls k1 ((rd_T28 l0 x7_1).f0) ((rd_T28 l0 x7_1).f1) ((rd_T28 l0 x7_1).f2) ((rd_T28 l0 x7_1).f3) true _ A5.out).mono ?_
        rintro e w26 ⟨rfl, hb⟩
        refine ⟨_, rfl, ?_⟩
        replace BK150 := zBB BK150 hb; replace HB := zLB (zL1 HB.out GE150.out) hb
        clear hb
        refine hK.out _ _ (zc4 BK150.out) fun hHeld => ?_; clear hK K
        refine nZ 13 ?_
        refine pY 2 14 (fB 18 7) HT_.out ?_
        refine pY 3 15 (fB 18 15) HT_.out ?_
        refine pY 4 16 (fB 18 31) HT_.out ?_
        refine pY 5 17 (fB 18 63) HT_.out ?_
        refine pY 6 18 (fB 18 127) HT_.out ?_
        refine pN 7 19 (fB 18 255) HT_.out ?_
        refine pN 8 20 (fB 18 511) HT_.out ?_
        refine pN 9 21 (fB 18 1023) HT_.out ?_
        refine pN 10 22 (fB 18 2047) HT_.out ?_
        refine pN 11 23 (fB 18 4095) HT_.out ?_
        refine pN 12 24 (fB 18 8191) HT_.out ?_
        refine pN 13 25 (fB 18 16383) HT_.out ?_
        refine pN 14 26 (fB 18 32767) HT_.out ?_
        refine pN 15 27 (fB 18 65535) HT_.out ?_
        refine pY 16 28 (fB 18 131071) HT_.out ?_
        refine pY 17 29 (fB 18 262143) HT_.out ?_
        refine done_ (done_of HT_.out (by kernel_rfl)) ?_
        try go_wp2
        go_roundg k1
        case measure => have := HK1.out; omega
        case rel => exact ⟨(wrap64 (x7_1 + 1)), zV, H', ⟨by have := HK1.out; omega⟩, ⟨zL1 HB.out GE150.out⟩⟩
      ·obtain rfl := Bool.eq_false_iff.mpr c6
       rw [if_neg zn] at H
       obtain rfl := Option.some.inj H
       have p149 : 0 ≤ (x7_1 : Int) := zD
       have q149 : x7_1 < (l0.length : Int) := zD
       obtain ⟨ad149, e149, hx149_0, hx149_1, hx149_2, hx149_3⟩ := at_T28 HR0.out x7_1 p149 q149
       cases e149
       replace hx149_0 := zh HB.out hx149_0
       replace hx149_1 := zh HB.out hx149_1
       replace hx149_2 := zh HB.out hx149_2
       replace hx149_3 := zh HB.out hx149_3
       replace p149 := eq_true p149
       replace q149 := eq_true q149
       try go_wp2_with (first | ((with_reducible refine gD 4 rfl ?_); refine bE 4 #[.string (⟨#[]⟩ : ByteArray), .bool false, .int .i64 0, .string (⟨#[]⟩ : ByteArray)] 28 ?_; intro gb150 hg w27 hbox hb; have BK150 := Aside0.mk hbox; have GW150 := Aside0.mk (zg (zL HB.out) hg : w.heap.size ≤ gb150); have GE150 := GW150; replace HB := zLB (zL HB.out) hb; clear hb hbox hg; have hcz28 := zc4 BK150.out; have hfz28 := zf4 BK150.out))
       have n0_ : Aside0 (((((w27.setCell ⟨gb150, 0, none⟩ (.string ((rd_T28 l0 x7_1).f0))).setCell ⟨gb150, 1, none⟩ (.bool ((rd_T28 l0 x7_1).f1))).setCell ⟨gb150, 2, none⟩ (.int .i64 ((rd_T28 l0 x7_1).f2))).setCell ⟨gb150, 3, none⟩ (.string ((rd_T28 l0 x7_1).f3))).heap[gb150]? = some (.cells #[.string ((rd_T28 l0 x7_1).f0), .bool ((rd_T28 l0 x7_1).f1), .int .i64 ((rd_T28 l0 x7_1).f2), .string ((rd_T28 l0 x7_1).f3)] 28 (0, 0))) := ⟨by refine zB ?_; refine zp4 (cs := #[.string (⟨#[]⟩ : ByteArray), .bool false, .int .i64 0, .string (⟨#[]⟩ : ByteArray)]) ?_; exact zB BK150.out⟩
       have n1_ : Aside0 (Below w.heap.size w ((((w27.setCell ⟨gb150, 0, none⟩ (.string ((rd_T28 l0 x7_1).f0))).setCell ⟨gb150, 1, none⟩ (.bool ((rd_T28 l0 x7_1).f1))).setCell ⟨gb150, 2, none⟩ (.int .i64 ((rd_T28 l0 x7_1).f2))).setCell ⟨gb150, 3, none⟩ (.string ((rd_T28 l0 x7_1).f3)))) := ⟨zL1 HB.out GE150.out⟩
       (try clear BK150)
       (try clear HB)
       generalize ((((w27.setCell ⟨gb150, 0, none⟩ (.string ((rd_T28 l0 x7_1).f0))).setCell ⟨gb150, 1, none⟩ (.bool ((rd_T28 l0 x7_1).f1))).setCell ⟨gb150, 2, none⟩ (.int .i64 ((rd_T28 l0 x7_1).f2))).setCell ⟨gb150, 3, none⟩ (.string ((rd_T28 l0 x7_1).f3))) = w29 at n0_ n1_ ⊢
       have BK150 := n0_
       have HB := n1_
       clear n0_ n1_
       replace BK150 := zBD BK150; replace HB := zLD HB
       refine start_ (n := 18) (S := fun w' => zs4 w' gb150 (.string ((rd_T28 l0 x7_1).f0)) (.bool ((rd_T28 l0 x7_1).f1)) (.int .i64 ((rd_T28 l0 x7_1).f2)) (.string ((rd_T28 l0 x7_1).f3))) (ds := []) (fB 18 0) (by kernel_rfl) rfl rfl (zc4 BK150.out) (fun hHeld => ?_); refine with_tabW impl_AttrsOk.tab4 impl_AttrsOk.bits4 (fun HT_ HW_ => ?_)
       generalize w29.drew = w30 at BK150 HB hHeld ⊢
       refine tY 0 12 (fB 18 1) HT_.out HW_.out hHeld ?_
       refine oN 1 13 (fB 18 3) HT_.out fun K hK => ?_
       refine gS Tryd.func29 #[.agg #[.string ((rd_T28 l0 x7_1).f0), .bool ((rd_T28 l0 x7_1).f1), .int .i64 ((rd_T28 l0 x7_1).f2), .string ((rd_T28 l0 x7_1).f3)]] ?_
       with_reducible refine (impl_AttrOk.calls k1 ((rd_T28 l0 x7_1).f0) ((rd_T28 l0 x7_1).f1) ((rd_T28 l0 x7_1).f2) ((rd_T28 l0 x7_1).f3) false _ A5.out).mono ?_
       rintro e w31 ⟨rfl, hb⟩
       refine ⟨_, rfl, ?_⟩
       replace BK150 := zBB BK150 hb; replace HB := zLB (zL1 HB.out GE150.out) hb
       clear hb
       refine hK.out _ _ (zc4 BK150.out) fun hHeld => ?_; clear hK K
       refine nZ 13 ?_
       refine pY 2 14 (fB 18 7) HT_.out ?_
       refine pY 3 15 (fB 18 15) HT_.out ?_
       refine pN 4 16 (fB 18 31) HT_.out ?_
       refine pN 5 17 (fB 18 63) HT_.out ?_
       refine pN 6 18 (fB 18 127) HT_.out ?_
       refine pN 7 19 (fB 18 255) HT_.out ?_
       refine pN 8 20 (fB 18 511) HT_.out ?_
       refine pN 9 21 (fB 18 1023) HT_.out ?_
       refine pN 10 22 (fB 18 2047) HT_.out ?_
       refine pN 11 23 (fB 18 4095) HT_.out ?_
       refine pN 12 24 (fB 18 8191) HT_.out ?_
       refine pN 13 25 (fB 18 16383) HT_.out ?_
       refine pN 14 26 (fB 18 32767) HT_.out ?_
       refine pN 15 27 (fB 18 65535) HT_.out ?_
       refine pN 16 28 (fB 18 131071) HT_.out ?_
       refine pY 17 29 (fB 18 262143) HT_.out ?_
       refine done_ (done_of HT_.out (by kernel_rfl)) ?_
       try go_wp2
       go_ret
       exact ⟨zW, zL1 HB.out GE150.out⟩
     ·rw [if_neg c4] at H
      exact absurd H (by simp)
    ·rw [if_neg c3] at H
     exact absurd H (by simp)
   ·rw [if_neg c2] at H
    have c2b0 := decide_eq_false c2
    clear c2
    obtain rfl := Option.some.inj H
    go_wp2
    go_ret
    exact ⟨zW, zL HB.out⟩

open Go.Proofs.YtkhbhdchakbmhaaDoorW.PrintWords renaming blk_drewN → bN, blk_drew → bD, blk_alloc → bA, blk_cell → bC, blk_below → bB, below_set → bS
/-! ### impl_AttrSize: function 33 -/
def impl_AttrSize.f (a0_0 : ByteArray) (a0_1 : Bool) (a0_2 : Int) (a0_3 : ByteArray) : Option (Int) := if a0_1 = true then (some (wrap64 ((a0_0.size : Int) + 4))) else (some (wrap64 ((a0_0.size : Int) + (a0_3.size : Int))))
set_option maxHeartbeats 8000000 in
set_option maxRecDepth 100000 in
theorem impl_AttrSize.calls (a0_0 : ByteArray) (a0_1 : Bool) (a0_2 : Int) (a0_3 : ByteArray) (r : Int) (w : World) (h : impl_AttrSize.f a0_0 a0_1 a0_2 a0_3 = some r) :
  Calls Tryd.prog 33 #[.agg #[.string a0_0, .bool a0_1, .int .i64 a0_2, .string a0_3]] w fun e w' => e = .returned (.int .i64 r) ∧ Below w.heap.size w w' := by
 have hu28 := Tryd.underlying28
 have HB := Aside0.mk (Below.refl w.heap.size w)
 unfold impl_AttrSize.f at h; have H := h
 clear h
 by_cases c2 : a0_1 = true
 ·subst c2
  rw [if_pos rfl] at H
  obtain rfl := Option.some.inj H
  go_enter Tryd.func33, Tryd.ntmps33
  go_wp2_with (first | ((with_reducible refine gD 1 rfl ?_); refine bE 1 #[.string a0_0, .bool true, .int .i64 a0_2, .string a0_3] 28 ?_; intro gb153 hg w3 hbox hb; have BK153 := Aside0.mk hbox; have GW153 := Aside0.mk (zg (zL HB.out) hg : w.heap.size ≤ gb153); have GE153 := GW153; replace HB := zLB (zL HB.out) hb; clear hb hbox hg; have hcz4 := zc4 BK153.out; have hfz4 := zf4 BK153.out))
  go_ret
  exact ⟨zW, zL1 HB.out GE153.out⟩
 ·obtain rfl := Bool.eq_false_iff.mpr c2
  rw [if_neg zn] at H
  obtain rfl := Option.some.inj H
  go_enter Tryd.func33, Tryd.ntmps33
  go_wp2_with (first | ((with_reducible refine gD 1 rfl ?_); refine bE 1 #[.string a0_0, .bool false, .int .i64 a0_2, .string a0_3] 28 ?_; intro gb153 hg w5 hbox hb; have BK153 := Aside0.mk hbox; have GW153 := Aside0.mk (zg (zL HB.out) hg : w.heap.size ≤ gb153); have GE153 := GW153; replace HB := zLB (zL HB.out) hb; clear hb hbox hg; have hcz6 := zc4 BK153.out; have hfz6 := zf4 BK153.out))
  go_ret
  exact ⟨zW, zL1 HB.out GE153.out⟩

open Go.Proofs.YtkhbhdchakbmhaaDoorW.PrintWords renaming blk_drewN → bN, blk_drew → bD, blk_alloc → bA, blk_cell → bC, blk_below → bB, below_set → bS
/-! ### impl_SizeOf: function 41 -/
def impl_SizeOf.l0 : Nat → Int → List (S28) → Int → Int → Option (Int)
 | 0, _, _, _, _ => none
 | k + 1, x3, x7, x8, x9 => if x9 < x8 then (if 0 ≤ x9 then (if x9 < (x7.length : Int) then ((impl_AttrSize.f ((rd_T28 x7 x9).f0) ((rd_T28 x7 x9).f1) ((rd_T28 x7 x9).f2) ((rd_T28 x7 x9).f3)).bind fun t157 => (impl_SizeOf.l0 k (wrap64 (x3 + t157)) x7 x8 (wrap64 (x9 + 1)))) else (none)) else (none)) else (some x3)
def impl_SizeOf.f (k : Nat) (a0_0 : Int) (a0_1 : Int) (a0_2 : Int) (a0_3 : Int) (a0_4 : Bool) (l0_5 : List (S28)) : Option (Int) := impl_SizeOf.l0 k 12 l0_5 (l0_5.length : Int) 0
theorem impl_SizeOf.mono_l : ∀ k, (∀ y0 y1 y2 y3, LeO (impl_SizeOf.l0 k y0 y1 y2 y3) (impl_SizeOf.l0 (k + 1) y0 y1 y2 y3))
 | 0 => fun _ _ _ _ r h => by simp [impl_SizeOf.l0] at h
 | k + 1 => by
  have ih0 := impl_SizeOf.mono_l k
  ·intro y0 y1 y2 y3
   unfold impl_SizeOf.l0
   repeat' first
   | (with_reducible exact ih0 _ _ _ _)
   | (with_reducible exact LeO.refl _)
   | (with_reducible exact LeO.none _)
   | (with_reducible refine LeO.ite ?_ ?_)
   | (with_reducible refine LeO.bind ?_ (fun _ => ?_))
   | exact ih0 _ _ _ _
   | exact LeO.none _
   | refine LeO.ite ?_ ?_
   | refine LeO.bind ?_ (fun _ => ?_)
theorem impl_SizeOf.mono : ∀ a0 a1 a2 a3 a4 a5 k, LeO (impl_SizeOf.f k a0 a1 a2 a3 a4 a5) (impl_SizeOf.f (k + 1) a0 a1 a2 a3 a4 a5) := by
 intro a0 a1 a2 a3 a4 a5 k
 have ih0 := impl_SizeOf.mono_l k
 unfold impl_SizeOf.f
 repeat' first
   | (with_reducible exact ih0 _ _ _ _)
   | (with_reducible exact LeO.refl _)
   | (with_reducible exact LeO.none _)
   | (with_reducible refine LeO.ite ?_ ?_)
   | (with_reducible refine LeO.bind ?_ (fun _ => ?_))
   | exact ih0 _ _ _ _
   | exact LeO.none _
   | refine LeO.ite ?_ ?_
   | refine LeO.bind ?_ (fun _ => ?_)
set_option maxHeartbeats 8000000 in
set_option maxRecDepth 100000 in
theorem impl_SizeOf.calls (k : Nat) (a0_0 : Int) (a0_1 : Int) (a0_2 : Int) (a0_3 : Int) (a0_4 : Bool) (A0_5 : Option Addr) (c0_5 : Nat) (l0_5 : List (S28)) (r : Int) (w : World) (hr0_5 : Kd.C k28 w A0_5 l0_5.length l0_5) (hc0_5 : l0_5.length ≤ c0_5) (h : impl_SizeOf.f k a0_0 a0_1 a0_2 a0_3 a0_4 l0_5 = some r) :
  Calls Tryd.prog 41 #[.agg #[.int .i64 a0_0, .int .i64 a0_1, .int .i64 a0_2, .int .i64 a0_3, .bool a0_4, .slice A0_5 l0_5.length c0_5]] w fun e w' => e = .returned (.int .i64 r) ∧ Below w.heap.size w w' := by
 have hu38 := Tryd.underlying38
 have hu28 := Tryd.underlying28
 have HR0_5 := Aside0.mk hr0_5
 have HC0_5 := Aside0.mk hc0_5
 clear hr0_5 hc0_5
 have HB := Aside0.mk (Below.refl w.heap.size w)
 unfold impl_SizeOf.f at h; have H := h
 clear h
 have H' := Aside0.mk H
 clear H
 go_enter Tryd.func41, Tryd.ntmps41
 go_wp2_with (first | ((with_reducible refine gD 1 rfl ?_); refine bE 1 #[.int .i64 a0_0, .int .i64 a0_1, .int .i64 a0_2, .int .i64 a0_3, .bool a0_4, .slice A0_5 l0_5.length c0_5] 38 ?_; intro gb154 hg w2 hbox hb; have BK154 := Aside0.mk hbox; have GW154 := Aside0.mk (zg (zL HB.out) hg : w.heap.size ≤ gb154); have GE154 := GW154; replace HB := zLB (zL HB.out) hb; clear hb hbox hg; have hcz3 := zc6 BK154.out; have hfz3 := zf6 BK154.out))
 go_loopg [3, 9] k (fun kq v3 v9 w' => ∃ (x3_1 : Int) (x9_1 : Int), v3 = .int .i64 x3_1 ∧ v9 = .int .i64 x9_1 ∧ Aside0 (impl_SizeOf.l0 kq x3_1 l0_5 (l0_5.length : Int) x9_1 = some r) ∧ Aside0 (kq ≤ k) ∧ Aside0 (w'.heap[gb154]? = some (.cells #[.int .i64 a0_0, .int .i64 a0_1, .int .i64 a0_2, .int .i64 a0_3, .bool a0_4, (.slice A0_5 l0_5.length c0_5)] 38 (0, 0))) ∧ Aside0 (Below w.heap.size w w'))
 case atStart => exact ⟨(12), (0), zV, zV, H', ⟨Nat.le_refl _⟩, ⟨zB BK154.out⟩, ⟨zL1 HB.out GE154.out⟩⟩
 case round =>
  clear H'
  try clear p2
  try clear hcz3; try clear hfz3
  obtain ⟨x3_1, x9_1, rfl, rfl, HA, HK1, BK154, HB⟩ := hrel
  cases gk with
  | zero => exact absurd HA.out (by simp [impl_SizeOf.l0])
  | succ k1 =>
   have H := HA.out
   clear HA
   simp only [impl_SizeOf.l0] at H
   by_cases c4 : x9_1 < (l0_5.length : Int)
   ·rw [if_pos c4] at H
    have c4b0 := decide_eq_true c4
    clear c4
    by_cases c5 : 0 ≤ x9_1
    ·rw [if_pos c5] at H
     have c5b0 := decide_eq_true c5
     clear c5
     by_cases c6 : x9_1 < (l0_5.length : Int)
     ·rw [if_pos c6] at H
      have c6b0 := decide_eq_true c6
      clear c6
      obtain ⟨t157, A7, H⟩ := zO H; try dsimp only at H
      have H' := Aside0.mk H
      clear H
      have p155 : 0 ≤ (x9_1 : Int) := zD
      have q155 : x9_1 < (l0_5.length : Int) := zD
      obtain ⟨ad155, e155, hx155_0, hx155_1, hx155_2, hx155_3⟩ := at_T28 HR0_5.out x9_1 p155 q155
      cases e155
      replace hx155_0 := zh HB.out hx155_0
      replace hx155_1 := zh HB.out hx155_1
      replace hx155_2 := zh HB.out hx155_2
      replace hx155_3 := zh HB.out hx155_3
      replace p155 := eq_true p155
      replace q155 := eq_true q155
      go_wp2_with (first | ((with_reducible refine gD 5 rfl ?_); refine bE 5 #[.string (⟨#[]⟩ : ByteArray), .bool false, .int .i64 0, .string (⟨#[]⟩ : ByteArray)] 28 ?_; intro gb156 hg w8 hbox hb; have BK156 := Aside0.mk hbox; have GW156 := Aside0.mk (zg (zL1 HB.out GE154.out) hg : w.heap.size ≤ gb156); have GE156 := GW156; replace HB := zLB (zL1 HB.out GE154.out) hb; have NB154_156 := Aside0.mk (zN BK154.out hg : gb154 ≠ gb156); have NB156_154 := Aside0.mk (zM BK154.out hg : gb156 ≠ gb154); replace BK154 := zBB BK154 hb; clear hb hbox hg; have hnb9 := NB156_154.out; have hnc9 := NB154_156.out; have hcz10 := zc4 BK156.out; have hfz10 := zf4 BK156.out) | ((with_reducible refine gC 33 rfl ?_); refine gL 15 Tryd.func33 #[.agg #[.string ((rd_T28 l0_5 x9_1).f0), .bool ((rd_T28 l0_5 x9_1).f1), .int .i64 ((rd_T28 l0_5 x9_1).f2), .string ((rd_T28 l0_5 x9_1).f3)]] ?_; (with_reducible refine (impl_AttrSize.calls ((rd_T28 l0_5 x9_1).f0) ((rd_T28 l0_5 x9_1).f1) ((rd_T28 l0_5 x9_1).f2) ((rd_T28 l0_5 x9_1).f3) t157 _ A7.out).mono ?_); rintro e w11 ⟨rfl, hb⟩; refine ⟨_, rfl, ?_⟩; replace BK154 := Aside0.mk (bB (g := gb154) (o := .cells #[.int .i64 a0_0, .int .i64 a0_1, .int .i64 a0_2, .int .i64 a0_3, .bool a0_4, .slice (some ad155) l0_5.length c0_5] 38 (0, 0)) (by refine zB ?_; refine zr4 ?_ NB154_156.out; exact zB BK154.out) hb); replace BK156 := Aside0.mk (bB (g := gb156) (o := .cells #[.string ((rd_T28 l0_5 x9_1).f0), .bool ((rd_T28 l0_5 x9_1).f1), .int .i64 ((rd_T28 l0_5 x9_1).f2), .string ((rd_T28 l0_5 x9_1).f3)] 28 (0, 0)) (by refine zB ?_; refine zp4 (cs := #[.string (⟨#[]⟩ : ByteArray), .bool false, .int .i64 0, .string (⟨#[]⟩ : ByteArray)]) ?_; exact zB BK156.out) hb); replace HB := zLB (zL2 HB.out GE154.out GE156.out) hb; clear hb))
      go_roundg k1
      case measure => have := HK1.out; omega
      case rel => exact ⟨(wrap64 (x3_1 + t157)), (wrap64 (x9_1 + 1)), zV, zV, H', ⟨by have := HK1.out; omega⟩, ⟨zB BK154.out⟩, ⟨zL2 HB.out GE154.out GE156.out⟩⟩
     ·rw [if_neg c6] at H
      exact absurd H (by simp)
    ·rw [if_neg c5] at H
     exact absurd H (by simp)
   ·rw [if_neg c4] at H
    have c4b0 := decide_eq_false c4
    clear c4
    obtain rfl := Option.some.inj H
    go_wp2
    go_ret
    exact ⟨zW, zL1 HB.out GE154.out⟩

end Go.Proofs.YtkhbhdchakbmhaaDoor.QFnSpans
