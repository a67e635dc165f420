/- What the Go functions that the law FnTicks reaches answer: each as a Lean function, with its walk. Written by a program of this session. Conditions: those that each theorem names. -/
import Derived.Test.YtggenhomnbnodaaQFnTicksx0
import Derived.Test.YtggenhomnbnodaaQFnTicksx2
namespace Go.Proofs.Ytggenhomnbnodaa.QFnTicks
open Go.RowKit Go.Proofs.YtggenhomnbnodaaW.PrintWords Go.Proofs.YtggenhomnbnodaaW.PrintLast Go.Proofs.YtggenhomnbnodaaW.PrintMore
attribute [local go_sem] max2_int min2_int max_two min_two max_three min_three max_four min_four   -- for this text's walks alone
set_option linter.unusedVariables false
set_option linter.unusedSimpArgs false

open Go.Proofs.YtggenhomnbnodaaW.PrintWords renaming blk_drewN → bN, blk_drew → bD, blk_alloc → bA, blk_cell → bC, blk_below → bB, below_set → bS
mutual
def spec_DueBy.l0 : Nat → Int → List Int → List (S46) → Int → Option (List Int)
 | 0, _, _, _, _ => none
 | k + 1, x1, x5, x6, x7 => if x7 < (x6.length : Int) then (if 0 ≤ x7 then (if ((rd_T46 x6 x7).f2) > x1 then (spec_DueBy.l0 k x1 x5 x6 (wrap64 (x7 + 1))) else (spec_DueBy.l1 k x1 x5 x6 x7 (x5.length : Int))) else (none)) else (some x5)
def spec_DueBy.l1 : Nat → Int → List Int → List (S46) → Int → Int → Option (List Int)
 | 0, _, _, _, _, _ => none
 | k + 1, x1, x5, x6, x7, x8 => if x8 > 0 then (if 0 ≤ (wrap64 (x8 - 1)) then (if (wrap64 (x8 - 1)) < (x5.length : Int) then (if 0 ≤ x7 then (if x7 < (x6.length : Int) then (if (rd x5 (wrap64 (x8 - 1))) > ((rd_T46 x6 x7).f0) then (spec_DueBy.l1 k x1 x5 x6 x7 (wrap64 (x8 - 1))) else ((some (([] : List Int) : List Int)).bind fun y211 => (if 0 ≤ x8 then (if x8 ≤ (x5.length : Int) then ((some (x5.take (x8 : Int).toNat : List Int)).bind fun y214 => (if y211.length + y214.length < 17592186044416 then ((some (y211 ++ y214 : List Int)).bind fun y218 => ((some (([(rd_T46 x6 x7).f0] : List Int) : List Int)).bind fun y222 => (if y218.length + y222.length < 17592186044416 then ((some (y218 ++ y222 : List Int)).bind fun y225 => ((some (x5.drop (x8 : Int).toNat : List Int)).bind fun y228 => (if y225.length + y228.length < 17592186044416 then (spec_DueBy.l0 k x1 (y225 ++ y228) x6 (wrap64 (x7 + 1))) else (none)))) else (none)))) else (none))) else (none)) else (none)))) else (none)) else (none)) else (none)) else (none)) else ((some (([] : List Int) : List Int)).bind fun y235 => (if 0 ≤ x8 then (if x8 ≤ (x5.length : Int) then ((some (x5.take (x8 : Int).toNat : List Int)).bind fun y238 => (if y235.length + y238.length < 17592186044416 then ((some (y235 ++ y238 : List Int)).bind fun y242 => (if 0 ≤ x7 then (if x7 < (x6.length : Int) then ((some (([(rd_T46 x6 x7).f0] : List Int) : List Int)).bind fun y246 => (if y242.length + y246.length < 17592186044416 then ((some (y242 ++ y246 : List Int)).bind fun y249 => ((some (x5.drop (x8 : Int).toNat : List Int)).bind fun y252 => (if y249.length + y252.length < 17592186044416 then (spec_DueBy.l0 k x1 (y249 ++ y252) x6 (wrap64 (x7 + 1))) else (none)))) else (none))) else (none)) else (none))) else (none))) else (none)) else (none)))
end
def spec_DueBy.f (k : Nat) (a0_0 : Int) (l0_1 : List (List (S46))) (l0_2 : List (List (S46))) (l0_3 : List (S46)) (a1 : Int) : Option (List Int) := (spec_Timers.f k a0_0 l0_1 l0_2 l0_3).bind fun t205 => (spec_DueBy.l0 k a1 (([] : List Int)) t205 0)
def spec_DueBy.T8 : Bool × List (List Nat × List Nat) := (true, [([], []), ([0], [0]), ([1], [1]), ([2], [2]), ([2], [2]), ([4, 2], [2, 4]), ([3, 5, 2], [2, 3, 5]), ([6, 2], [2, 6]), ([2], [2]), ([2], [2]), ([8, 9, 2], [2, 8, 9]), ([10, 2], [2, 10]), ([11, 2], [2, 11]), ([7, 12, 2], [2, 7, 12]), ([2, 13], [2, 13])])
def spec_DueBy.B8 : List Nat := [0, 1, 3, 7, 7, 23, 63, 127, 7, 7, 775, 1799, 3847, 8191, 16383]
theorem spec_DueBy.tab8 : rtab .any (opsOf Try.f40 8) = spec_DueBy.T8 := by kernel_rfl
theorem spec_DueBy.bits8 : waitsOk spec_DueBy.T8.2 spec_DueBy.B8 = true := by kernel_rfl
def spec_DueBy.T10 : Bool × List (List Nat × List Nat) := (true, [([], []), ([], []), ([], []), ([1, 2], [1, 2]), ([0, 3], [0, 3]), ([], []), ([], []), ([5, 6], [5, 6]), ([7], [7]), ([8], [8]), ([9], [9]), ([4, 10, 4], [4, 10]), ([], []), ([], []), ([12, 13], [12, 13]), ([11, 14, 11], [11, 14]), ([15, 15, 0, 1, 2, 3, 4, 5, 6, 7, 8, 9, 10, 11, 12, 13, 14, 15], [1, 12, 15])])
def spec_DueBy.B10 : List Nat := [0, 0, 0, 6, 15, 0, 0, 96, 224, 480, 992, 2047, 0, 0, 12288, 32767, 65535]
theorem spec_DueBy.tab10 : rtab .any (opsOf Try.f40 10) = spec_DueBy.T10 := by kernel_rfl
theorem spec_DueBy.bits10 : waitsOk spec_DueBy.T10.2 spec_DueBy.B10 = true := by kernel_rfl
set_option maxHeartbeats 8000000 in
set_option maxRecDepth 100000 in
theorem spec_DueBy.calls (k : Nat) (a0_0 : Int) (A0_1 : Option Addr) (c0_1 : Nat) (l0_1 : List (List (S46))) (A0_2 : Option Addr) (c0_2 : Nat) (l0_2 : List (List (S46))) (A0_3 : Option Addr) (c0_3 : Nat) (l0_3 : List (S46)) (a1 : Int) (r : List Int) (w : World) (hr0_1 : Kd.C (Kd.slice 46 k46) w A0_1 l0_1.length l0_1) (hc0_1 : l0_1.length ≤ c0_1) (hr0_2 : Kd.C (Kd.slice 46 k46) w A0_2 l0_2.length l0_2) (hc0_2 : l0_2.length ≤ c0_2) (hr0_3 : Kd.C k46 w A0_3 l0_3.length l0_3) (hc0_3 : l0_3.length ≤ c0_3) (h : spec_DueBy.f k a0_0 l0_1 l0_2 l0_3 a1 = some r) :
  Calls Try.prog 40 #[.agg #[.int .i64 a0_0, .slice A0_1 l0_1.length c0_1, .slice A0_2 l0_2.length c0_2, .slice A0_3 l0_3.length c0_3], .int .i64 a1] w fun e w' => ∃ v0_ : Value, e = .returned (v0_) ∧ Kd.R (Kd.int .i64) 3 w' w.heap.size (fun _ => True) v0_ r ∧ Below w.heap.size w w' := by
 have hu25 := Try.underlying25
 have HR0_1 := aM hr0_1
 have HC0_1 := aM hc0_1
 clear hr0_1 hc0_1
 have HR0_2 := aM hr0_2
 have HC0_2 := aM hc0_2
 clear hr0_2 hc0_2
 have HR0_3 := aM hr0_3
 have HC0_3 := aM hc0_3
 clear hr0_3 hc0_3
 have HB := aM (Below.refl w.heap.size w)
 unfold spec_DueBy.f at h; have H := h
 clear h
 obtain ⟨y202, hy202⟩ : ∃ y_ : List Int, y_ = (([] : List Int)) := ⟨_, rfl⟩
 replace H : ((spec_Timers.f k a0_0 l0_1 l0_2 l0_3).bind fun t205 => (spec_DueBy.l0 k a1 y202 t205 0)) = some r := by first | (rw [hy202]; with_reducible exact H) | (have H2_ := (Option.bind_some _ _).symm.trans H; rw [hy202]; with_reducible exact H2_) | (have H2_ := (Option.bind_some _ _).symm.trans H; with_reducible exact H2_) | with_reducible exact H | (rw [hy202]; exact H) | exact H
 have Ny202 := aM hy202
 clear hy202
 obtain ⟨t205, A3, H⟩ := zO H; try dsimp only at H
 have H' := aM H
 clear H
 go_enter Try.func40, Try.ntmps40
 go_wp2_with (first | ((with_reducible refine gD 2 rfl ?_); refine bE 2 #[.int .i64 a0_0, .slice A0_1 l0_1.length c0_1, .slice A0_2 l0_2.length c0_2, .slice A0_3 l0_3.length c0_3] 25 ?_; intro gb201 hg w4 hbox hb; have BK201 := aM hbox; have GW201 := aM (zg (zL HB.out) hg : w.heap.size ≤ gb201); have GE201 := GW201; replace HB := zLB (zL HB.out) hb; clear hb hbox hg) | ((with_reducible refine gD 9 rfl ?_); refine Kd.R_lit (Kd.int .i64) _ 3 ?hg (N := 9) ?hd (xs := ([] : List Int)) (inner := []) (ok := fun _ => True) (okp := fun _ => True) ?hr ?hp (fun _ hk => hk) trivial (Below.refl _ _) (Nat.le_refl _) (by simp) ?_; (case hd => rfl); (case hg => rfl); (case hr => first | (go_simp; done) | (go_simp; rfl)); (case hp => exact (Reps.none _ _)); intro v203 w5 ho6 hb hg_ hnew_; clear hg_ hnew_; (first | rw [← Ny202.out] at ho6 | (simp only [Int.reduceToNat] at ho6; rw [← Ny202.out] at ho6)); have HO204 := aM (Kd.R_lower ho6 (below_size (zL1 HB.out GE201.out))); replace BK201 := zBB BK201 hb; replace HB := zLB (zL1 HB.out GE201.out) hb; clear hb ho6; have hcz7 := zc4 BK201.out; have hfz7 := zf4 BK201.out) | ((with_reducible refine gC 24 rfl ?_); refine gL 11 Try.func24 #[.agg #[.int .i64 a0_0, .slice A0_1 l0_1.length c0_1, .slice A0_2 l0_2.length c0_2, .slice A0_3 l0_3.length c0_3]] ?_; (with_reducible refine (spec_Timers.calls k a0_0 _ _ l0_1 _ _ l0_2 _ _ l0_3 t205 _ ?side1 ?side2 ?side3 ?side4 ?side5 ?side6 A3.out).mono ?_); (case side1 => exact zC (Kd.C_below HR0_1.out HB.out)); (case side2 => exact HC0_1.out); (case side3 => exact zC (Kd.C_below HR0_2.out HB.out)); (case side4 => exact HC0_2.out); (case side5 => exact zC (Kd.C_below HR0_3.out HB.out)); (case side6 => exact HC0_3.out); rintro e w8 ⟨v206, rfl, ho0, hb⟩; refine ⟨_, rfl, ?_⟩; replace HO204 := zRB HO204 hb; have HO207 := aM (Kd.R_lower ho0 (below_size (zL1 HB.out GE201.out))); replace BK201 := zBB BK201 hb; replace HB := zLB (zL1 HB.out GE201.out) hb; clear ho0 hb))
 go_loopg [5, 7] k (fun kq v5 v7 w' => ∃ (x5_1 : List Int) (x7_1 : Int), v7 = .int .i64 x7_1 ∧ Aside0 (spec_DueBy.l0 kq a1 x5_1 t205 x7_1 = some r) ∧ Aside0 (kq ≤ k) ∧ Aside0 (Kd.R (Kd.int .i64) 3 w' w.heap.size (fun _ => True) v5 x5_1) ∧ Aside0 (Kd.R k46 46 w' w.heap.size (fun _ => True) v206 t205) ∧ Aside0 (w'.heap[gb201]? = some (.cells #[.int .i64 a0_0, (.slice A0_1 l0_1.length c0_1), (.slice A0_2 l0_2.length c0_2), (.slice A0_3 l0_3.length c0_3)] 25 (0, 0))) ∧ Aside0 (Below w.heap.size w w'))
 case atStart => exact ⟨(y202), (0), zV, H', ⟨Nat.le_refl _⟩, ⟨zR HO204.out⟩, ⟨zR HO207.out⟩, ⟨zB BK201.out⟩, ⟨zL1 HB.out GE201.out⟩⟩
 case round =>
  clear H'
  try clear c2
  try clear p2
  try clear c4
  try clear hcz7; try clear hfz7
  try clear BK201
  obtain ⟨x5_1, x7_1, rfl, HA, HK1, HO_5, HO_6, BK201, HB⟩ := hrel
  cases gk with
  | zero => exact absurd HA.out (by simp [spec_DueBy.l0])
  | succ k1 =>
   have H := HA.out
   clear HA
   simp only [spec_DueBy.l0] at H
   by_cases c9 : x7_1 < (t205.length : Int)
   ·rw [if_pos c9] at H
    have c9b0 := dT c9
    clear c9
    by_cases c10 : 0 ≤ x7_1
    ·rw [if_pos c10] at H
     have c10b0 := dT c10
     clear c10
     by_cases c11 : ((rd_T46 t205 x7_1).f2) > a1
     ·rw [if_pos c11] at H
      have c11b0 := dT c11
      clear c11
      have H' := aM H
      clear H
      obtain ⟨Ao12, co12, eo12⟩ := Kd.R_slice HO_6.out
      subst eo12
      have p208 : 0 ≤ (x7_1 : Int) := zD
      have q208 : x7_1 < (t205.length : Int) := zD
      obtain ⟨ad208, e208, hx208_0, hx208_1, hx208_2⟩ := at_T46 (Kd.R_reads' HO_6.out).2.2 x7_1 p208 q208
      cases e208
      replace p208 := eq_true p208
      replace q208 := eq_true q208
      go_wp2
      go_roundg k1
      case measure => have := HK1.out; omega
      case rel => exact ⟨(x5_1), (wrap64 (x7_1 + 1)), zV, H', ⟨by have := HK1.out; omega⟩, ⟨zR HO_5.out⟩, ⟨zR HO_6.out⟩, ⟨zB BK201.out⟩, ⟨zL1 HB.out GE201.out⟩⟩
     ·rw [if_neg c11] at H
      have c11b0 := dF c11
      clear c11
      have H' := aM H
      clear H
      obtain ⟨Ao13, co13, eo13⟩ := Kd.R_slice HO_6.out
      subst eo13
      have p208 : 0 ≤ (x7_1 : Int) := zD
      have q208 : x7_1 < (t205.length : Int) := zD
      obtain ⟨ad208, e208, hx208_0, hx208_1, hx208_2⟩ := at_T46 (Kd.R_reads' HO_6.out).2.2 x7_1 p208 q208
      cases e208
      replace p208 := eq_true p208
      replace q208 := eq_true q208
      obtain ⟨Ao14, co14, eo14⟩ := Kd.R_slice HO_5.out
      subst eo14
      go_wp2
      go_loopg [8] k1 (fun kq v8 w' => ∃ (x8_2 : Int), v8 = .int .i64 x8_2 ∧ Aside0 (spec_DueBy.l1 kq a1 x5_1 t205 x7_1 x8_2 = some r) ∧ Aside0 (kq ≤ k1) ∧ Aside0 (Kd.R (Kd.int .i64) 3 w' w.heap.size (fun _ => True) (.slice Ao14 x5_1.length co14) x5_1) ∧ Aside0 (Kd.R k46 46 w' w.heap.size (fun _ => True) (.slice (some ad208) t205.length co13) t205) ∧ Aside0 (w'.heap[gb201]? = some (.cells #[.int .i64 a0_0, (.slice A0_1 l0_1.length c0_1), (.slice A0_2 l0_2.length c0_2), (.slice A0_3 l0_3.length c0_3)] 25 (0, 0))) ∧ Aside0 (Below w.heap.size w w'))
      case atStart => exact ⟨((x5_1.length : Int)), zV, H', ⟨Nat.le_refl _⟩, ⟨zR HO_5.out⟩, ⟨zR HO_6.out⟩, ⟨zB BK201.out⟩, ⟨zL1 HB.out GE201.out⟩⟩
      case round =>
       clear H'
       try clear c1
       try clear c2
       try clear p2
       try clear q2
       try clear hx2
       try clear c4
       try clear p6
       try clear c9
       try clear c9b0
       try clear c10
       try clear c10b0
       try clear c11
       try clear c11b0
       try clear hcz7; try clear hfz7
       try clear hx208_0
       try clear hx208_1
       try clear hx208_2
       try clear p2
       try clear p208
       try clear q208
       try clear BK201
       obtain ⟨x8_2, rfl, HA, HK2, HO_5, HO_6, BK201, HB⟩ := hrel
       cases gk with
       | zero => exact absurd HA.out (by simp [spec_DueBy.l1])
       | succ k2 =>
        have H := HA.out
        clear HA
        simp only [spec_DueBy.l1] at H
        by_cases c15 : x8_2 > 0
        ·rw [if_pos c15] at H
         have c15b0 := dT c15
         clear c15
         obtain ⟨ji16, hji16⟩ : ∃ j_ : Int, (wrap64 (x8_2 - 1)) = j_ := ⟨_, rfl⟩
         replace H : (if 0 ≤ (ji16) then (if (ji16) < (x5_1.length : Int) then (if 0 ≤ x7_1 then (if x7_1 < (t205.length : Int) then (if (rd x5_1 (ji16)) > ((rd_T46 t205 x7_1).f0) then (spec_DueBy.l1 k2 a1 x5_1 t205 x7_1 ji16) else ((some (([] : List Int) : List Int)).bind fun y211 => (if 0 ≤ x8_2 then (if x8_2 ≤ (x5_1.length : Int) then ((some (x5_1.take (x8_2 : Int).toNat : List Int)).bind fun y214 => (if y211.length + y214.length < 17592186044416 then ((some (y211 ++ y214 : List Int)).bind fun y218 => ((some (([(rd_T46 t205 x7_1).f0] : List Int) : List Int)).bind fun y222 => (if y218.length + y222.length < 17592186044416 then ((some (y218 ++ y222 : List Int)).bind fun y225 => ((some (x5_1.drop (x8_2 : Int).toNat : List Int)).bind fun y228 => (if y225.length + y228.length < 17592186044416 then (spec_DueBy.l0 k2 a1 (y225 ++ y228) t205 (wrap64 (x7_1 + 1))) else (none)))) else (none)))) else (none))) else (none)) else (none)))) else (none)) else (none)) else (none)) else (none)) = some r := by first | (rw [hji16] at H; exact H) | (simp only [hji16] at H ⊢; exact H)
         have hji16w : (IntKind.i64.wrap (x8_2 - 1)) = ji16 := (i64_w _).trans hji16
         by_cases c17 : 0 ≤ (ji16)
         ·rw [if_pos c17] at H
          have c17b0 := dT c17
          clear c17
          by_cases c18 : (ji16) < (x5_1.length : Int)
          ·rw [if_pos c18] at H
           have c18b0 := dT c18
           clear c18
           by_cases c19 : 0 ≤ x7_1
           ·rw [if_pos c19] at H
            have c19b0 := dT c19
            clear c19
            by_cases c20 : x7_1 < (t205.length : Int)
            ·rw [if_pos c20] at H
             have c20b0 := dT c20
             clear c20
             by_cases c21 : (rd x5_1 (ji16)) > ((rd_T46 t205 x7_1).f0)
             ·rw [if_pos c21] at H
              have c21b0 := dT c21
              clear c21
              have H' := aM H
              clear H
              try go_wp2
              replace HO_5 := zRD HO_5; replace HO_6 := zRD HO_6; replace BK201 := zBD BK201; replace HB := zLD HB
              have p209 : 0 ≤ ((ji16) : Int) := zD
              have q209 : (ji16) < (x5_1.length : Int) := zD
              obtain ⟨ad209, e209, hx209_0⟩ := Kd.at_int (Kd.R_reads' HO_5.out).2.2 (ji16) p209 q209
              cases e209
              replace p209 := eq_true p209
              replace q209 := eq_true q209
              have p210 : 0 ≤ (x7_1 : Int) := zD
              have q210 : x7_1 < (t205.length : Int) := zD
              obtain ⟨ad210, e210, hx210_0, hx210_1, hx210_2⟩ := at_T46 (Kd.R_reads' HO_6.out).2.2 x7_1 p210 q210
              obtain rfl : ad208 = ad210 := (by injection e210)
              replace p210 := eq_true p210
              replace q210 := eq_true q210
              refine start_ (n := 15) (S := fun w' => w'.cell? (ad209.add ((ji16)).toNat) = some (.int .i64 (rd x5_1 (ji16))) ∧ w'.cell? (ad208.add ((x7_1).toNat * 3)) = some (.int .i64 ((rd_T46 t205 x7_1).f0)) ∧ w'.cell? ⟨(ad208.add ((x7_1).toNat * 3)).block, (ad208.add ((x7_1).toNat * 3)).off + 1, none⟩ = some (.int .i64 ((rd_T46 t205 x7_1).f1)) ∧ w'.cell? ⟨(ad208.add ((x7_1).toNat * 3)).block, (ad208.add ((x7_1).toNat * 3)).off + 2, none⟩ = some (.int .i64 ((rd_T46 t205 x7_1).f2))) (ds := []) (fB 15 0) (by kernel_rfl) rfl rfl ⟨hx209_0, hx210_0, hx210_1, hx210_2⟩ (fun hHeld => ?_); refine with_tabW spec_DueBy.tab8 spec_DueBy.bits8 (fun HT_ HW_ => ?_)
              generalize wr.drew = w22 at HO_5 HO_6 BK201 HB hx209_0 hx210_0 hx210_1 hx210_2 hHeld ⊢
              refine pY 0 27 (fB 15 1) HT_.out ?_
              refine pY 1 28 (fB 15 3) HT_.out ?_
              refine pY 2 29 (fB 15 7) HT_.out ?_
              refine pY 3 30 (fB 15 15) HT_.out ?_
              refine pY 4 31 (fB 15 31) HT_.out ?_
              refine pY 5 32 (fB 15 63) HT_.out ?_
              refine pY 6 33 (fB 15 127) HT_.out ?_
              refine pY 8 35 (fB 15 383) HT_.out ?_
              refine pY 9 36 (fB 15 895) HT_.out ?_
              refine pY 10 37 (fB 15 1919) HT_.out ?_
              refine pY 11 38 (fB 15 3967) HT_.out ?_
              refine tY 7 34 (fB 15 4095) HT_.out HW_.out hHeld ?_
              refine tY 12 39 (fB 15 8191) HT_.out HW_.out hHeld ?_
              refine pY 13 40 (fB 15 16383) HT_.out ?_
              refine pY 14 41 (fB 15 32767) HT_.out ?_
              refine done_ (done_of HT_.out (by kernel_rfl)) ?_
              try go_wp2
              go_roundg k2
              case measure => have := HK1.out; have := HK2.out; omega
              case rel => exact ⟨(ji16), (by first | rfl | (simp; done) | (simp only [← hji16] <;> (first | rfl | simp)) | (simp [*]; done)), H', ⟨by have := HK1.out; have := HK2.out; omega⟩, ⟨zR HO_5.out⟩, ⟨zR HO_6.out⟩, ⟨zB BK201.out⟩, ⟨zL1 HB.out GE201.out⟩⟩
             ·rw [if_neg c21] at H
              have c21b0 := dF c21
              clear c21
              obtain ⟨y211, hy211⟩ : ∃ y_ : List Int, y_ = (([] : List Int)) := ⟨_, rfl⟩
              replace H : (if 0 ≤ x8_2 then (if x8_2 ≤ (x5_1.length : Int) then ((some (x5_1.take (x8_2 : Int).toNat : List Int)).bind fun y214 => (if y211.length + y214.length < 17592186044416 then ((some (y211 ++ y214 : List Int)).bind fun y218 => ((some (([(rd_T46 t205 x7_1).f0] : List Int) : List Int)).bind fun y222 => (if y218.length + y222.length < 17592186044416 then ((some (y218 ++ y222 : List Int)).bind fun y225 => ((some (x5_1.drop (x8_2 : Int).toNat : List Int)).bind fun y228 => (if y225.length + y228.length < 17592186044416 then (spec_DueBy.l0 k2 a1 (y225 ++ y228) t205 (wrap64 (x7_1 + 1))) else (none)))) else (none)))) else (none))) else (none)) else (none)) = some r := by first | (rw [hy211]; with_reducible exact H) | (have H2_ := (Option.bind_some _ _).symm.trans H; rw [hy211]; with_reducible exact H2_) | (have H2_ := (Option.bind_some _ _).symm.trans H; with_reducible exact H2_) | with_reducible exact H | (rw [hy211]; exact H) | exact H
              have Ny211 := aM hy211
              clear hy211
              by_cases c23 : 0 ≤ x8_2
              ·rw [if_pos c23] at H
               have c23b0 := eq_true c23
               have c23b1 := dT c23
               clear c23
               by_cases c24 : x8_2 ≤ (x5_1.length : Int)
               ·rw [if_pos c24] at H
                have c24b0 := eq_true c24
                have c24b1 := dT c24
                clear c24
                generalize hy214 : (x5_1.take (x8_2 : Int).toNat) = y214 at H; (try rw [Option.bind_some] at H); have Ny214 := aM hy214.symm; clear hy214
                by_cases c25 : y211.length + y214.length < 17592186044416
                ·rw [if_pos c25] at H
                 have LMc25 := aM c25
                 clear c25
                 generalize hy218 : (y211 ++ y214) = y218 at H; (try rw [Option.bind_some] at H); have Ny218 := aM hy218.symm; clear hy218
                 generalize hy222 : (([(rd_T46 t205 x7_1).f0] : List Int)) = y222 at H; (try rw [Option.bind_some] at H); have Ny222 := aM hy222.symm; clear hy222
                 by_cases c26 : y218.length + y222.length < 17592186044416
                 ·rw [if_pos c26] at H
                  have LMc26 := aM c26
                  clear c26
                  generalize hy225 : (y218 ++ y222) = y225 at H; (try rw [Option.bind_some] at H); have Ny225 := aM hy225.symm; clear hy225
                  have c27b0 := eq_true (zD : 0 ≤ x8_2)
                  have c28b0 := eq_true (zD : x8_2 ≤ (x5_1.length : Int))
                  generalize hy228 : (x5_1.drop (x8_2 : Int).toNat) = y228 at H; (try rw [Option.bind_some] at H); have Ny228 := aM hy228.symm; clear hy228
                  by_cases c29 : y225.length + y228.length < 17592186044416
                  ·rw [if_pos c29] at H
                   have LMc29 := aM c29
                   clear c29
                   generalize hy232 : (y225 ++ y228) = y232 at H; (try rw [Option.bind_some] at H); have Ny232 := aM hy232.symm; clear hy232
                   have H' := aM H
                   clear H
                   try go_wp2
                   replace HO_5 := zRD HO_5; replace HO_6 := zRD HO_6; replace BK201 := zBD BK201; replace HB := zLD HB
                   have p209 : 0 ≤ ((ji16) : Int) := zD
                   have q209 : (ji16) < (x5_1.length : Int) := zD
                   obtain ⟨ad209, e209, hx209_0⟩ := Kd.at_int (Kd.R_reads' HO_5.out).2.2 (ji16) p209 q209
                   cases e209
                   replace p209 := eq_true p209
                   replace q209 := eq_true q209
                   have p210 : 0 ≤ (x7_1 : Int) := zD
                   have q210 : x7_1 < (t205.length : Int) := zD
                   obtain ⟨ad210, e210, hx210_0, hx210_1, hx210_2⟩ := at_T46 (Kd.R_reads' HO_6.out).2.2 x7_1 p210 q210
                   obtain rfl : ad208 = ad210 := (by injection e210)
                   replace p210 := eq_true p210
                   replace q210 := eq_true q210
                   refine start_ (n := 15) (S := fun w' => w'.cell? (ad209.add ((ji16)).toNat) = some (.int .i64 (rd x5_1 (ji16))) ∧ w'.cell? (ad208.add ((x7_1).toNat * 3)) = some (.int .i64 ((rd_T46 t205 x7_1).f0)) ∧ w'.cell? ⟨(ad208.add ((x7_1).toNat * 3)).block, (ad208.add ((x7_1).toNat * 3)).off + 1, none⟩ = some (.int .i64 ((rd_T46 t205 x7_1).f1)) ∧ w'.cell? ⟨(ad208.add ((x7_1).toNat * 3)).block, (ad208.add ((x7_1).toNat * 3)).off + 2, none⟩ = some (.int .i64 ((rd_T46 t205 x7_1).f2))) (ds := []) (fB 15 0) (by kernel_rfl) rfl rfl ⟨hx209_0, hx210_0, hx210_1, hx210_2⟩ (fun hHeld => ?_); refine with_tabW spec_DueBy.tab8 spec_DueBy.bits8 (fun HT_ HW_ => ?_)
                   generalize wr.drew = w30 at HO_5 HO_6 BK201 HB hx209_0 hx210_0 hx210_1 hx210_2 hHeld ⊢
                   refine pY 0 27 (fB 15 1) HT_.out ?_
                   refine pY 1 28 (fB 15 3) HT_.out ?_
                   refine pY 2 29 (fB 15 7) HT_.out ?_
                   refine pY 3 30 (fB 15 15) HT_.out ?_
                   refine pY 4 31 (fB 15 31) HT_.out ?_
                   refine pY 5 32 (fB 15 63) HT_.out ?_
                   refine pY 6 33 (fB 15 127) HT_.out ?_
                   refine pY 8 35 (fB 15 383) HT_.out ?_
                   refine pY 9 36 (fB 15 895) HT_.out ?_
                   refine pY 10 37 (fB 15 1919) HT_.out ?_
                   refine pY 11 38 (fB 15 3967) HT_.out ?_
                   refine tY 7 34 (fB 15 4095) HT_.out HW_.out hHeld ?_
                   refine tY 12 39 (fB 15 8191) HT_.out HW_.out hHeld ?_
                   refine pY 13 40 (fB 15 16383) HT_.out ?_
                   refine pY 14 41 (fB 15 32767) HT_.out ?_
                   refine done_ (done_of HT_.out (by kernel_rfl)) ?_
                   try go_wp2
                   replace HO_5 := zRD HO_5; replace HO_6 := zRD HO_6; replace BK201 := zBD BK201; replace HB := zLD HB
                   have q32 : (x8_2 : Int) ≤ ((x5_1.length : Int) : Int) := zD
                   obtain ⟨i032, hi032, _, hsz32, _⟩ := info_parts info3
                   have hroom32 : x5_1.length ≤ co14 := (Kd.R_reads' HO_5.out).2.1
                   have hC32 : Kd.C (Kd.int .i64) _ (some ad209) x5_1.length x5_1 := (Kd.R_reads' HO_5.out).2.2
                   have hcut32 := cut_to (P := Try.prog) 54 3 .i64 Try.underlying54 hi032 (some ad209) x5_1.length co14 x8_2 (zD) q32 hroom32
                   have hr32 := Kd.C_take (m := (x8_2 : Int).toNat) hC32 (by omega)
                   have hy32 : y214.length = (x8_2 : Int).toNat := (by rw [Ny214.out, List.length_take]; omega)
                   rw [← Ny214.out] at hr32
                   rw [← hy32] at hcut32
                   have HR217 := aM hr32
                   have HC217 := aM (show y214.length ≤ co14 from by omega)
                   clear hr32 hC32 hroom32 hi032 hsz32
                   have KY32 := aM hy32
                   clear hy32
                   have KL32 := aM (show (x8_2 : Int).toNat ≤ x5_1.length from by omega)
                   replace q32 := eq_true q32
                   have p221 : 0 ≤ (x7_1 : Int) := zD
                   have q221 : x7_1 < (t205.length : Int) := zD
                   obtain ⟨ad221, e221, hx221_0, hx221_1, hx221_2⟩ := at_T46 (Kd.R_reads' HO_6.out).2.2 x7_1 p221 q221
                   obtain rfl : ad208 = ad221 := (by injection e221)
                   replace p221 := eq_true p221
                   replace q221 := eq_true q221
                   have q33 : (x8_2 : Int) ≤ ((x5_1.length : Int) : Int) := zD
                   obtain ⟨i033, hi033, _, hsz33, _⟩ := info_parts info3
                   have hroom33 : x5_1.length ≤ co14 := (Kd.R_reads' HO_5.out).2.1
                   have hC33 : Kd.C (Kd.int .i64) _ (some ad209) x5_1.length x5_1 := (Kd.R_reads' HO_5.out).2.2
                   have q033 : (0 : Int) ≤ (x8_2 : Int) := zD
                   have hcut33 := cut_from (P := Try.prog) 54 3 .i64 Try.underlying54 hi033 1 hsz33 (some ad209) x5_1.length co14 x8_2 q033 q33
                   have hr33 := Kd.C_drop (m := (x8_2 : Int).toNat) (c := co14) hC33 (by omega) hroom33
                   obtain ⟨A33, hA33⟩ : ∃ A1, A1 = (if co14 = (x8_2 : Int).toNat then (some ad209) else ((some ad209) : Option Addr).map (·.add ((x8_2 : Int).toNat * 1))) := ⟨_, rfl⟩
                   obtain ⟨c33, hc33⟩ : ∃ c1, c1 = co14 - (x8_2 : Int).toNat := ⟨_, rfl⟩
                   have hy33 : y228.length = x5_1.length - (x8_2 : Int).toNat := (by rw [Ny228.out, List.length_drop] <;> omega)
                   rw [show (x5_1).drop (x8_2 : Int).toNat = y228 from Ny228.out.symm] at hr33
                   replace hr33 : Kd.C (Kd.int .i64) _ A33 y228.length y228 := (by rw [hA33]; exact hr33)
                   rw [← hy33, ← hA33, ← hc33] at hcut33
                   have HR231 := aM hr33
                   have HC231 := aM (show y228.length ≤ c33 from by rw [hy33, hc33]; exact Nat.sub_le_sub_right hroom33 _)
                   clear hr33 hC33 hroom33 hi033 hsz33 hc33
                   have KY33 := aM hy33
                   have KA33 := aM hA33
                   clear hy33 hA33
                   have KL33 := aM (show (x8_2 : Int).toNat ≤ x5_1.length from by omega)
                   replace q33 := eq_true q33
                   refine start_ (n := 17) (S := fun w' => w'.cell? (ad208.add ((x7_1).toNat * 3)) = some (.int .i64 ((rd_T46 t205 x7_1).f0)) ∧ w'.cell? ⟨(ad208.add ((x7_1).toNat * 3)).block, (ad208.add ((x7_1).toNat * 3)).off + 1, none⟩ = some (.int .i64 ((rd_T46 t205 x7_1).f1)) ∧ w'.cell? ⟨(ad208.add ((x7_1).toNat * 3)).block, (ad208.add ((x7_1).toNat * 3)).off + 2, none⟩ = some (.int .i64 ((rd_T46 t205 x7_1).f2))) (ds := []) (fB 17 0) (by kernel_rfl) rfl rfl ⟨hx221_0, hx221_1, hx221_2⟩ (fun hHeld => ?_); refine with_tabW spec_DueBy.tab10 spec_DueBy.bits10 (fun HT_ HW_ => ?_)
                   generalize w30.drew = w31 at HO_5 HO_6 BK201 HB HR217 HR231 hx221_0 hx221_1 hx221_2 hHeld ⊢
                   refine pY 1 45 (fB 17 2) HT_.out ?_
                   refine pY 2 46 (fB 17 6) HT_.out ?_
                   refine pY 3 47 (fB 17 14) HT_.out ?_
                   refine pY 5 49 (fB 17 46) HT_.out ?_
                   refine pY 6 50 (fB 17 110) HT_.out ?_
                   refine pY 7 51 (fB 17 238) HT_.out ?_
                   refine pY 8 52 (fB 17 494) HT_.out ?_
                   refine pY 12 56 (fB 17 4590) HT_.out ?_
                   refine pY 13 57 (fB 17 12782) HT_.out ?_
                   refine pY 14 58 (fB 17 29166) HT_.out ?_
                   refine tY 9 53 (fB 17 29678) HT_.out HW_.out hHeld ?_
                   refine join_ (σ := Value × Value × Value) 3 #[true, true, true, true, true, true, true, true, true, true, true, false, true, true, true, false, false] (fun s_ => [(44, s_.1), (48, s_.2.1), (54, s_.2.2)]) (fun s_ w' => (w'.cell? (ad208.add ((x7_1).toNat * 3)) = some (.int .i64 ((rd_T46 t205 x7_1).f0)) ∧ w'.cell? ⟨(ad208.add ((x7_1).toNat * 3)).block, (ad208.add ((x7_1).toNat * 3)).off + 1, none⟩ = some (.int .i64 ((rd_T46 t205 x7_1).f1)) ∧ w'.cell? ⟨(ad208.add ((x7_1).toNat * 3)).block, (ad208.add ((x7_1).toNat * 3)).off + 2, none⟩ = some (.int .i64 ((rd_T46 t205 x7_1).f2))) ∧ (Kd.R (Kd.int .i64) 3 w' w.heap.size (fun k_ => some k_ ≠ (s_.2.2 : Value).ownBlock ∧ some k_ ≠ (.slice (some ad209) x5_1.length co14 : Value).ownBlock) s_.2.1 y218) ∧ (Kd.R (Kd.int .i64) 3 w' w.heap.size (fun k_ => some k_ ≠ (s_.2.1 : Value).ownBlock ∧ some k_ ≠ (.slice (some ad209) x5_1.length co14 : Value).ownBlock) s_.2.2 y222) ∧ (Kd.R (Kd.int .i64) 3 w' w.heap.size (fun k_ => some k_ ≠ (s_.2.1 : Value).ownBlock ∧ some k_ ≠ (s_.2.2 : Value).ownBlock) (.slice (some ad209) x5_1.length co14) x5_1) ∧ (Kd.R k46 46 w' w.heap.size (fun _ => True) (.slice (some ad208) t205.length co13) t205) ∧ (w'.heap[gb201]? = some (.cells #[.int .i64 a0_0, .slice A0_1 l0_1.length c0_1, .slice A0_2 l0_2.length c0_2, .slice A0_3 l0_3.length c0_3] 25 (0, 0))) ∧ (Below w.heap.size w w')) ?_ ?_
                   rotate_left
                   ·intro hCont
                    refine two_ (i := 0) (j := 10) (Ni := some 44) (Nj := some 54) #[true, true, true, true, false, true, true, true, true, true, false, false, true, true, true, false, false] #[false, true, true, true, false, true, true, true, true, true, true, false, true, true, true, false, false] rfl rfl rfl rfl (two_of HT_.out (by kernel_rfl)) (by decide) (by decide) (fun K hK => ?_) (fun K hK => ?_)
                    ·skip
                     refine Kd.R_lit_step (Kd.int .i64) _ 3 ?hg (N := 44) ?hd (xs := ([] : List Int)) (inner := []) (ok := fun _ => True) (okp := fun _ => True) ?hr ?hp (fun _ hk => hk) trivial (Below.refl _ _) (Nat.le_refl _) (by simp) ?_; (case hd => rfl); (case hg => rfl); (case hr => first | (go_simp; done) | (go_simp; rfl)); (case hp => exact (Reps.none _ _))
                     intro v212 w34 ho35 hb hg_ hnew_
                     have HS0_ := (hb.cell (World.block_lt_of_cell? _ _ (hHeld.1))).trans (hHeld.1)
                     have HS1_ := (hb.cell (World.block_lt_of_cell? _ _ (hHeld.2.1))).trans (hHeld.2.1)
                     have HS2_ := (hb.cell (World.block_lt_of_cell? _ _ (hHeld.2.2))).trans (hHeld.2.2)
                     clear hg_ hnew_
                     (first | rw [← Ny211.out] at ho35 | (simp only [Int.reduceToNat] at ho35; rw [← Ny211.out] at ho35))
                     replace HO_6 := zRB HO_6 hb; have HO213 := aM (Kd.R_lower (Kd.R_new' ho35 (Kd.R_lt (zR HO_5.out))) (below_size (zL1 HB.out GE201.out))); replace HO_5 := aM (Kd.R_elder' (zR HO_5.out) (Kd.R_base ho35) hb); replace BK201 := zBB BK201 hb; replace HR217 := aM (Kd.C_below (zC HR217.out) hb); replace HR231 := aM (Kd.C_below (zC HR231.out) hb); replace HB := zLB (zL1 HB.out GE201.out) hb
                     clear hb ho35
                     refine hK.out _ _ ⟨HS0_, HS1_, HS2_⟩ fun hHeld => ?_; clear hK K
                     refine nZ 44 ?_
                     refine two_ (i := 4) (j := 10) (Ni := some 48) (Nj := some 54) #[true, true, true, true, true, true, true, true, true, true, false, false, true, true, true, false, false] #[true, true, true, true, false, true, true, true, true, true, true, false, true, true, true, false, false] rfl rfl rfl rfl (two_of HT_.out (by kernel_rfl)) (by decide) (by decide) (fun K hK => ?_) (fun K hK => ?_)
                     ·skip
                      refine Kd.R_append_rows_step (Kd.int .i64) (w0 := w) w.heap.size (by rfl) (.tmp 44) (.tmp 47) 54 3 (.int .i64 0) 8 rfl Try.underlying54 info3 rfl (by decide) (by omega) v212 y211 y214 _ _ _ (fun k_ => some k_ ≠ (.slice (some ad209) x5_1.length co14 : Value).ownBlock) (fun _ => False) rfl rfl ?aO ?aR (fun _ _ h => h) (fun _ h => h.elim) ?aF ?aB ?aS ?aL ?_
                      (case aR => repeat (first | exact (zC HR217.out) | (with_reducible refine Kd.C_alloc ?_ _) | (with_reducible refine Kd.C_drewN ?_ _) | (with_reducible refine Kd.C_drew ?_)))
                      (case aB => exact (zL1 HB.out GE201.out))
                      (case aF => exact (fun k_ hk => Kd.fresh' (Kd.R_lt (zR HO_5.out)) k_ hk))
                      (case aO => exact (zRm HO213.out (fun _ hk => hk.2)))
                      (case aS => exact (below_size (zL1 HB.out GE201.out)))
                      (case aL => have := LMc25.out; omega)
                      intro v219 w36 ho hb hg hat
                      have HS0_ := cell_grown hg (hHeld.1) (by first | (rw [add_block]; exact ((Kd.R_apart' HO_6.out (Kd.R_typed HO213.out) (by decide)).1 _ rfl).2) | (show some (Addr.add _ _).block ≠ _; rw [add_block]; exact ((Kd.R_apart' HO_6.out (Kd.R_typed HO213.out) (by decide)).1 _ rfl).2) | exact ((Kd.R_apart' HO_6.out (Kd.R_typed HO213.out) (by decide)).1 _ rfl).2)
                      have HS1_ := cell_grown hg (hHeld.2.1) (by first | (rw [add_block]; exact ((Kd.R_apart' HO_6.out (Kd.R_typed HO213.out) (by decide)).1 _ rfl).2) | (show some (Addr.add _ _).block ≠ _; rw [add_block]; exact ((Kd.R_apart' HO_6.out (Kd.R_typed HO213.out) (by decide)).1 _ rfl).2) | exact ((Kd.R_apart' HO_6.out (Kd.R_typed HO213.out) (by decide)).1 _ rfl).2)
                      have HS2_ := cell_grown hg (hHeld.2.2) (by first | (rw [add_block]; exact ((Kd.R_apart' HO_6.out (Kd.R_typed HO213.out) (by decide)).1 _ rfl).2) | (show some (Addr.add _ _).block ≠ _; rw [add_block]; exact ((Kd.R_apart' HO_6.out (Kd.R_typed HO213.out) (by decide)).1 _ rfl).2) | exact ((Kd.R_apart' HO_6.out (Kd.R_typed HO213.out) (by decide)).1 _ rfl).2)
                      rw [← Ny218.out] at ho
                      replace HO_6 := aM (Kd.R_over' (zR HO_6.out) (Kd.R_typed (zR HO213.out)) (by decide) hg); replace BK201 := aM (blk_grown (g := gb201) (o := .cells #[.int .i64 a0_0, .slice A0_1 l0_1.length c0_1, .slice A0_2 l0_2.length c0_2, .slice A0_3 l0_3.length c0_3] 25 (0, 0)) (zB BK201.out) hg (Kd.R_ne HO213.out BK201.out (by decide))); replace HB := aM hb; replace HR217 := aM ((show Kd.C (Kd.int .i64) w36 (some ad209) y214.length y214 from by rw [Ny214.out]; exact Kd.C_take (m := (x8_2 : Int).toNat) ((Kd.R_reads' (Kd.R_after (ok := (fun _ => True)) (zR HO_5.out) hg hat)).2.2) KL32.out)); replace HR231 := aM ((show Kd.C (Kd.int .i64) w36 A33 y228.length y228 from by rw [Ny228.out, KA33.out]; exact Kd.C_drop (m := (x8_2 : Int).toNat) (c := co14) ((Kd.R_reads' (Kd.R_after (ok := (fun _ => True)) (zR HO_5.out) hg hat)).2.2) KL33.out ((Kd.R_reads' (Kd.R_after (ok := (fun _ => True)) (zR HO_5.out) hg hat)).2.1))); replace HO_5 := aM (Kd.R_after (ok := (fun _ => True)) (zR HO_5.out) hg hat); have HO220 := aM (ho); clear HO213
                      clear ho hb hg hat
                      refine hK.out _ _ ⟨HS0_, HS1_, HS2_⟩ fun hHeld => ?_; clear hK K
                      refine nZ 48 ?_
                      refine oN 10 54 (fB 17 30719) HT_.out fun K hK => ?_
                      refine Kd.R_lit_step (Kd.int .i64) _ 3 ?hg (N := 54) ?hd (xs := ([(rd_T46 t205 x7_1).f0] : List Int)) (inner := [.int .i64 ((rd_T46 t205 x7_1).f0)]) (ok := fun _ => True) (okp := fun _ => True) ?hr ?hp (fun _ hk => hk) trivial (Below.refl _ _) (Nat.le_refl _) (by simp) ?_; (case hd => rfl); (case hg => rfl); (case hr => first | (go_simp; done) | (go_simp; rfl)); (case hp => exact zhp)
                      intro v223 w37 ho38 hb hg_ hnew_
                      have HS0_ := (hb.cell (World.block_lt_of_cell? _ _ (hHeld.1))).trans (hHeld.1)
                      have HS1_ := (hb.cell (World.block_lt_of_cell? _ _ (hHeld.2.1))).trans (hHeld.2.1)
                      have HS2_ := (hb.cell (World.block_lt_of_cell? _ _ (hHeld.2.2))).trans (hHeld.2.2)
                      clear hg_ hnew_
                      (first | rw [← Ny222.out] at ho38 | (simp only [Int.reduceToNat] at ho38; rw [← Ny222.out] at ho38))
                      replace HO_6 := zRB HO_6 hb; have HO224 := aM (Kd.R_lower (Kd.R_new' (Kd.R_new' ho38 (Kd.R_lt (zR HO_5.out))) (Kd.R_lt (zR HO220.out))) (below_size (zL1 HB.out GE201.out))); replace HO_5 := aM (Kd.R_elder' (zR HO_5.out) (Kd.R_base ho38) hb); replace HO220 := aM (Kd.R_elder' (zR HO220.out) (Kd.R_base ho38) hb); replace BK201 := zBB BK201 hb; replace HR217 := aM (Kd.C_below (zC HR217.out) hb); replace HR231 := aM (Kd.C_below (zC HR231.out) hb); replace HB := zLB (zL1 HB.out GE201.out) hb
                      clear hb ho38
                      refine hK.out _ _ ⟨HS0_, HS1_, HS2_⟩ fun hHeld => ?_; clear hK K
                      refine nZ 54 ?_
                      exact norm_ (by simp only [putAll, Act.put, List.setIfInBounds_toArray, List.set_cons_zero, List.set_cons_succ]) (hCont (v212, v219, v223) _ ⟨hHeld, (zRm HO220.out (fun _ hk => ⟨hk.2, hk.1⟩)), (zRm HO224.out (fun _ hk => ⟨hk.2, hk.1.2⟩)), (zRm HO_5.out (fun _ hk => ⟨hk.1.2, hk.2⟩)), (zR HO_6.out), (zB BK201.out), (zL1 HB.out GE201.out)⟩)
                     ·skip
                      refine Kd.R_lit_step (Kd.int .i64) _ 3 ?hg (N := 54) ?hd (xs := ([(rd_T46 t205 x7_1).f0] : List Int)) (inner := [.int .i64 ((rd_T46 t205 x7_1).f0)]) (ok := fun _ => True) (okp := fun _ => True) ?hr ?hp (fun _ hk => hk) trivial (Below.refl _ _) (Nat.le_refl _) (by simp) ?_; (case hd => rfl); (case hg => rfl); (case hr => first | (go_simp; done) | (go_simp; rfl)); (case hp => exact zhp)
                      intro v223 w36 ho37 hb hg_ hnew_
                      have HS0_ := (hb.cell (World.block_lt_of_cell? _ _ (hHeld.1))).trans (hHeld.1)
                      have HS1_ := (hb.cell (World.block_lt_of_cell? _ _ (hHeld.2.1))).trans (hHeld.2.1)
                      have HS2_ := (hb.cell (World.block_lt_of_cell? _ _ (hHeld.2.2))).trans (hHeld.2.2)
                      clear hg_ hnew_
                      (first | rw [← Ny222.out] at ho37 | (simp only [Int.reduceToNat] at ho37; rw [← Ny222.out] at ho37))
                      replace HO_6 := zRB HO_6 hb; have HO224 := aM (Kd.R_lower (Kd.R_new' (Kd.R_new' ho37 (Kd.R_lt (zR HO_5.out))) (Kd.R_lt (zR HO213.out))) (below_size (zL1 HB.out GE201.out))); replace HO_5 := aM (Kd.R_elder' (zR HO_5.out) (Kd.R_base ho37) hb); replace HO213 := aM (Kd.R_elder' (zR HO213.out) (Kd.R_base ho37) hb); replace BK201 := zBB BK201 hb; replace HR217 := aM (Kd.C_below (zC HR217.out) hb); replace HR231 := aM (Kd.C_below (zC HR231.out) hb); replace HB := zLB (zL1 HB.out GE201.out) hb
                      clear hb ho37
                      refine hK.out _ _ ⟨HS0_, HS1_, HS2_⟩ fun hHeld => ?_; clear hK K
                      refine nZ 54 ?_
                      refine oN 4 48 (fB 17 30719) HT_.out fun K hK => ?_
                      refine Kd.R_append_rows_step (Kd.int .i64) (w0 := w) w.heap.size (by rfl) (.tmp 44) (.tmp 47) 54 3 (.int .i64 0) 8 rfl Try.underlying54 info3 rfl (by decide) (by omega) v212 y211 y214 _ _ _ (fun k_ => some k_ ≠ (.slice (some ad209) x5_1.length co14 : Value).ownBlock ∧ some k_ ≠ (v223 : Value).ownBlock) (fun _ => False) rfl rfl ?aO ?aR (fun _ _ h => h) (fun _ h => h.elim) ?aF ?aB ?aS ?aL ?_
                      (case aR => repeat (first | exact (zC HR217.out) | (with_reducible refine Kd.C_alloc ?_ _) | (with_reducible refine Kd.C_drewN ?_ _) | (with_reducible refine Kd.C_drew ?_)))
                      (case aB => exact (zL1 HB.out GE201.out))
                      (case aF => exact (fun k_ hk => ⟨Kd.fresh' (Kd.R_lt (zR HO_5.out)) k_ hk, Kd.fresh' (Kd.R_lt (zR HO224.out)) k_ hk⟩))
                      (case aO => exact (zRm HO213.out (fun _ hk => ⟨hk.1.2, hk.2⟩)))
                      (case aS => exact (below_size (zL1 HB.out GE201.out)))
                      (case aL => have := LMc25.out; omega)
                      intro v219 w38 ho hb hg hat
                      have HS0_ := cell_grown hg (hHeld.1) (by first | (rw [add_block]; exact ((Kd.R_apart' HO_6.out (Kd.R_typed HO213.out) (by decide)).1 _ rfl).2) | (show some (Addr.add _ _).block ≠ _; rw [add_block]; exact ((Kd.R_apart' HO_6.out (Kd.R_typed HO213.out) (by decide)).1 _ rfl).2) | exact ((Kd.R_apart' HO_6.out (Kd.R_typed HO213.out) (by decide)).1 _ rfl).2)
                      have HS1_ := cell_grown hg (hHeld.2.1) (by first | (rw [add_block]; exact ((Kd.R_apart' HO_6.out (Kd.R_typed HO213.out) (by decide)).1 _ rfl).2) | (show some (Addr.add _ _).block ≠ _; rw [add_block]; exact ((Kd.R_apart' HO_6.out (Kd.R_typed HO213.out) (by decide)).1 _ rfl).2) | exact ((Kd.R_apart' HO_6.out (Kd.R_typed HO213.out) (by decide)).1 _ rfl).2)
                      have HS2_ := cell_grown hg (hHeld.2.2) (by first | (rw [add_block]; exact ((Kd.R_apart' HO_6.out (Kd.R_typed HO213.out) (by decide)).1 _ rfl).2) | (show some (Addr.add _ _).block ≠ _; rw [add_block]; exact ((Kd.R_apart' HO_6.out (Kd.R_typed HO213.out) (by decide)).1 _ rfl).2) | exact ((Kd.R_apart' HO_6.out (Kd.R_typed HO213.out) (by decide)).1 _ rfl).2)
                      rw [← Ny218.out] at ho
                      replace HO_6 := aM (Kd.R_over' (zR HO_6.out) (Kd.R_typed (zR HO213.out)) (by decide) hg); replace BK201 := aM (blk_grown (g := gb201) (o := .cells #[.int .i64 a0_0, .slice A0_1 l0_1.length c0_1, .slice A0_2 l0_2.length c0_2, .slice A0_3 l0_3.length c0_3] 25 (0, 0)) (zB BK201.out) hg (Kd.R_ne HO213.out BK201.out (by decide))); replace HO224 := aM (Kd.R_after (ok := (fun k_ => some k_ ≠ (.slice (some ad209) x5_1.length co14 : Value).ownBlock)) (zRm HO224.out (fun _ hk => ⟨hk.1.2, hk.2⟩)) hg hat); replace HB := aM hb; replace HR217 := aM ((show Kd.C (Kd.int .i64) w38 (some ad209) y214.length y214 from by rw [Ny214.out]; exact Kd.C_take (m := (x8_2 : Int).toNat) ((Kd.R_reads' (Kd.R_after (ok := (fun k_ => some k_ ≠ (v223 : Value).ownBlock)) (zRm HO_5.out (fun _ hk => ⟨hk.2, hk.1.2⟩)) hg hat)).2.2) KL32.out)); replace HR231 := aM ((show Kd.C (Kd.int .i64) w38 A33 y228.length y228 from by rw [Ny228.out, KA33.out]; exact Kd.C_drop (m := (x8_2 : Int).toNat) (c := co14) ((Kd.R_reads' (Kd.R_after (ok := (fun k_ => some k_ ≠ (v223 : Value).ownBlock)) (zRm HO_5.out (fun _ hk => ⟨hk.2, hk.1.2⟩)) hg hat)).2.2) KL33.out ((Kd.R_reads' (Kd.R_after (ok := (fun k_ => some k_ ≠ (v223 : Value).ownBlock)) (zRm HO_5.out (fun _ hk => ⟨hk.2, hk.1.2⟩)) hg hat)).2.1))); replace HO_5 := aM (Kd.R_after (ok := (fun k_ => some k_ ≠ (v223 : Value).ownBlock)) (zRm HO_5.out (fun _ hk => ⟨hk.2, hk.1.2⟩)) hg hat); have HO220 := aM (ho); clear HO213
                      clear ho hb hg hat
                      refine hK.out _ _ ⟨HS0_, HS1_, HS2_⟩ fun hHeld => ?_; clear hK K
                      refine nZ 48 ?_
                      exact norm_ (by simp only [putAll, Act.put, List.setIfInBounds_toArray, List.set_cons_zero, List.set_cons_succ]) (hCont (v212, v219, v223) _ ⟨hHeld, (zRm HO220.out (fun _ hk => ⟨hk.2, hk.1⟩)), (zRm HO224.out (fun _ hk => ⟨hk.2, hk.1⟩)), (zRm HO_5.out (fun _ hk => ⟨hk.2, hk.1⟩)), (zR HO_6.out), (zB BK201.out), (zL1 HB.out GE201.out)⟩)
                    ·skip
                     refine Kd.R_lit_step (Kd.int .i64) _ 3 ?hg (N := 54) ?hd (xs := ([(rd_T46 t205 x7_1).f0] : List Int)) (inner := [.int .i64 ((rd_T46 t205 x7_1).f0)]) (ok := fun _ => True) (okp := fun _ => True) ?hr ?hp (fun _ hk => hk) trivial (Below.refl _ _) (Nat.le_refl _) (by simp) ?_; (case hd => rfl); (case hg => rfl); (case hr => first | (go_simp; done) | (go_simp; rfl)); (case hp => exact zhp)
                     intro v223 w34 ho35 hb hg_ hnew_
                     have HS0_ := (hb.cell (World.block_lt_of_cell? _ _ (hHeld.1))).trans (hHeld.1)
                     have HS1_ := (hb.cell (World.block_lt_of_cell? _ _ (hHeld.2.1))).trans (hHeld.2.1)
                     have HS2_ := (hb.cell (World.block_lt_of_cell? _ _ (hHeld.2.2))).trans (hHeld.2.2)
                     clear hg_ hnew_
                     (first | rw [← Ny222.out] at ho35 | (simp only [Int.reduceToNat] at ho35; rw [← Ny222.out] at ho35))
                     replace HO_6 := zRB HO_6 hb; have HO224 := aM (Kd.R_lower (Kd.R_new' ho35 (Kd.R_lt (zR HO_5.out))) (below_size (zL1 HB.out GE201.out))); replace HO_5 := aM (Kd.R_elder' (zR HO_5.out) (Kd.R_base ho35) hb); replace BK201 := zBB BK201 hb; replace HR217 := aM (Kd.C_below (zC HR217.out) hb); replace HR231 := aM (Kd.C_below (zC HR231.out) hb); replace HB := zLB (zL1 HB.out GE201.out) hb
                     clear hb ho35
                     refine hK.out _ _ ⟨HS0_, HS1_, HS2_⟩ fun hHeld => ?_; clear hK K
                     refine nZ 54 ?_
                     refine oN 0 44 (fB 17 30703) HT_.out fun K hK => ?_
                     refine Kd.R_lit_step (Kd.int .i64) _ 3 ?hg (N := 44) ?hd (xs := ([] : List Int)) (inner := []) (ok := fun _ => True) (okp := fun _ => True) ?hr ?hp (fun _ hk => hk) trivial (Below.refl _ _) (Nat.le_refl _) (by simp) ?_; (case hd => rfl); (case hg => rfl); (case hr => first | (go_simp; done) | (go_simp; rfl)); (case hp => exact (Reps.none _ _))
                     intro v212 w36 ho37 hb hg_ hnew_
                     have HS0_ := (hb.cell (World.block_lt_of_cell? _ _ (hHeld.1))).trans (hHeld.1)
                     have HS1_ := (hb.cell (World.block_lt_of_cell? _ _ (hHeld.2.1))).trans (hHeld.2.1)
                     have HS2_ := (hb.cell (World.block_lt_of_cell? _ _ (hHeld.2.2))).trans (hHeld.2.2)
                     clear hg_ hnew_
                     (first | rw [← Ny211.out] at ho37 | (simp only [Int.reduceToNat] at ho37; rw [← Ny211.out] at ho37))
                     replace HO_6 := zRB HO_6 hb; have HO213 := aM (Kd.R_lower (Kd.R_new' (Kd.R_new' ho37 (Kd.R_lt (zR HO_5.out))) (Kd.R_lt (zR HO224.out))) (below_size (zL1 HB.out GE201.out))); replace HO_5 := aM (Kd.R_elder' (zR HO_5.out) (Kd.R_base ho37) hb); replace HO224 := aM (Kd.R_elder' (zR HO224.out) (Kd.R_base ho37) hb); replace BK201 := zBB BK201 hb; replace HR217 := aM (Kd.C_below (zC HR217.out) hb); replace HR231 := aM (Kd.C_below (zC HR231.out) hb); replace HB := zLB (zL1 HB.out GE201.out) hb
                     clear hb ho37
                     refine hK.out _ _ ⟨HS0_, HS1_, HS2_⟩ fun hHeld => ?_; clear hK K
                     refine nZ 44 ?_
                     refine oN 4 48 (fB 17 30719) HT_.out fun K hK => ?_
                     refine Kd.R_append_rows_step (Kd.int .i64) (w0 := w) w.heap.size (by rfl) (.tmp 44) (.tmp 47) 54 3 (.int .i64 0) 8 rfl Try.underlying54 info3 rfl (by decide) (by omega) v212 y211 y214 _ _ _ (fun k_ => some k_ ≠ (.slice (some ad209) x5_1.length co14 : Value).ownBlock ∧ some k_ ≠ (v223 : Value).ownBlock) (fun _ => False) rfl rfl ?aO ?aR (fun _ _ h => h) (fun _ h => h.elim) ?aF ?aB ?aS ?aL ?_
                     (case aR => repeat (first | exact (zC HR217.out) | (with_reducible refine Kd.C_alloc ?_ _) | (with_reducible refine Kd.C_drewN ?_ _) | (with_reducible refine Kd.C_drew ?_)))
                     (case aB => exact (zL1 HB.out GE201.out))
                     (case aF => exact (fun k_ hk => ⟨Kd.fresh' (Kd.R_lt (zR HO_5.out)) k_ hk, Kd.fresh' (Kd.R_lt (zR HO224.out)) k_ hk⟩))
                     (case aO => exact (zRm HO213.out (fun _ hk => ⟨hk.1.2, hk.2⟩)))
                     (case aS => exact (below_size (zL1 HB.out GE201.out)))
                     (case aL => have := LMc25.out; omega)
                     intro v219 w38 ho hb hg hat
                     have HS0_ := cell_grown hg (hHeld.1) (by first | (rw [add_block]; exact ((Kd.R_apart' HO_6.out (Kd.R_typed HO213.out) (by decide)).1 _ rfl).2) | (show some (Addr.add _ _).block ≠ _; rw [add_block]; exact ((Kd.R_apart' HO_6.out (Kd.R_typed HO213.out) (by decide)).1 _ rfl).2) | exact ((Kd.R_apart' HO_6.out (Kd.R_typed HO213.out) (by decide)).1 _ rfl).2)
                     have HS1_ := cell_grown hg (hHeld.2.1) (by first | (rw [add_block]; exact ((Kd.R_apart' HO_6.out (Kd.R_typed HO213.out) (by decide)).1 _ rfl).2) | (show some (Addr.add _ _).block ≠ _; rw [add_block]; exact ((Kd.R_apart' HO_6.out (Kd.R_typed HO213.out) (by decide)).1 _ rfl).2) | exact ((Kd.R_apart' HO_6.out (Kd.R_typed HO213.out) (by decide)).1 _ rfl).2)
                     have HS2_ := cell_grown hg (hHeld.2.2) (by first | (rw [add_block]; exact ((Kd.R_apart' HO_6.out (Kd.R_typed HO213.out) (by decide)).1 _ rfl).2) | (show some (Addr.add _ _).block ≠ _; rw [add_block]; exact ((Kd.R_apart' HO_6.out (Kd.R_typed HO213.out) (by decide)).1 _ rfl).2) | exact ((Kd.R_apart' HO_6.out (Kd.R_typed HO213.out) (by decide)).1 _ rfl).2)
                     rw [← Ny218.out] at ho
                     replace HO_6 := aM (Kd.R_over' (zR HO_6.out) (Kd.R_typed (zR HO213.out)) (by decide) hg); replace BK201 := aM (blk_grown (g := gb201) (o := .cells #[.int .i64 a0_0, .slice A0_1 l0_1.length c0_1, .slice A0_2 l0_2.length c0_2, .slice A0_3 l0_3.length c0_3] 25 (0, 0)) (zB BK201.out) hg (Kd.R_ne HO213.out BK201.out (by decide))); replace HO224 := aM (Kd.R_after (ok := (fun k_ => some k_ ≠ (.slice (some ad209) x5_1.length co14 : Value).ownBlock)) (zRm HO224.out (fun _ hk => ⟨hk.1.2, hk.2⟩)) hg hat); replace HB := aM hb; replace HR217 := aM ((show Kd.C (Kd.int .i64) w38 (some ad209) y214.length y214 from by rw [Ny214.out]; exact Kd.C_take (m := (x8_2 : Int).toNat) ((Kd.R_reads' (Kd.R_after (ok := (fun k_ => some k_ ≠ (v223 : Value).ownBlock)) (zRm HO_5.out (fun _ hk => ⟨hk.1.2, hk.2⟩)) hg hat)).2.2) KL32.out)); replace HR231 := aM ((show Kd.C (Kd.int .i64) w38 A33 y228.length y228 from by rw [Ny228.out, KA33.out]; exact Kd.C_drop (m := (x8_2 : Int).toNat) (c := co14) ((Kd.R_reads' (Kd.R_after (ok := (fun k_ => some k_ ≠ (v223 : Value).ownBlock)) (zRm HO_5.out (fun _ hk => ⟨hk.1.2, hk.2⟩)) hg hat)).2.2) KL33.out ((Kd.R_reads' (Kd.R_after (ok := (fun k_ => some k_ ≠ (v223 : Value).ownBlock)) (zRm HO_5.out (fun _ hk => ⟨hk.1.2, hk.2⟩)) hg hat)).2.1))); replace HO_5 := aM (Kd.R_after (ok := (fun k_ => some k_ ≠ (v223 : Value).ownBlock)) (zRm HO_5.out (fun _ hk => ⟨hk.1.2, hk.2⟩)) hg hat); have HO220 := aM (ho); clear HO213
                     clear ho hb hg hat
                     refine hK.out _ _ ⟨HS0_, HS1_, HS2_⟩ fun hHeld => ?_; clear hK K
                     refine nZ 48 ?_
                     exact norm_ (by simp only [putAll, Act.put, List.setIfInBounds_toArray, List.set_cons_zero, List.set_cons_succ]) (hCont (v212, v219, v223) _ ⟨hHeld, (zRm HO220.out (fun _ hk => ⟨hk.2, hk.1⟩)), (zRm HO224.out (fun _ hk => ⟨hk.2, hk.1⟩)), (zRm HO_5.out (fun _ hk => ⟨hk.2, hk.1⟩)), (zR HO_6.out), (zB BK201.out), (zL1 HB.out GE201.out)⟩)
                   rintro ⟨v212, v219, v223⟩ w39 ⟨hS_, h0_, h1_, h2_, h3_, h4_, h5_⟩
                   have n0_ : Aside0 (Kd.R (Kd.int .i64) 3 w39 w.heap.size (fun k_ => some k_ ≠ (v223 : Value).ownBlock ∧ some k_ ≠ (.slice (some ad209) x5_1.length co14 : Value).ownBlock) v219 y218) := ⟨h0_⟩
                   have n1_ : Aside0 (Kd.R (Kd.int .i64) 3 w39 w.heap.size (fun k_ => some k_ ≠ (v219 : Value).ownBlock ∧ some k_ ≠ (.slice (some ad209) x5_1.length co14 : Value).ownBlock) v223 y222) := ⟨h1_⟩
                   have n2_ : Aside0 (Kd.R (Kd.int .i64) 3 w39 w.heap.size (fun k_ => some k_ ≠ (v219 : Value).ownBlock ∧ some k_ ≠ (v223 : Value).ownBlock) (.slice (some ad209) x5_1.length co14) x5_1) := ⟨h2_⟩
                   have n3_ : Aside0 (Kd.R k46 46 w39 w.heap.size (fun _ => True) (.slice (some ad208) t205.length co13) t205) := ⟨h3_⟩
                   have n4_ : Aside0 (w39.heap[gb201]? = some (.cells #[.int .i64 a0_0, .slice A0_1 l0_1.length c0_1, .slice A0_2 l0_2.length c0_2, .slice A0_3 l0_3.length c0_3] 25 (0, 0))) := ⟨h4_⟩
                   have n5_ : Aside0 (Below w.heap.size w w39) := ⟨h5_⟩
                   clear HO_5
                   clear HO_6
                   clear BK201
                   clear HB
                   clear h0_ h1_ h2_ h3_ h4_ h5_
                   have HO220 := n0_
                   have HO224 := n1_
                   have HO_5 := n2_
                   have HO_6 := n3_
                   have BK201 := n4_
                   have HB := n5_
                   clear n0_ n1_ n2_ n3_ n4_ n5_
                   have hHeld : w39.cell? (ad208.add ((x7_1).toNat * 3)) = some (.int .i64 ((rd_T46 t205 x7_1).f0)) ∧ w39.cell? ⟨(ad208.add ((x7_1).toNat * 3)).block, (ad208.add ((x7_1).toNat * 3)).off + 1, none⟩ = some (.int .i64 ((rd_T46 t205 x7_1).f1)) ∧ w39.cell? ⟨(ad208.add ((x7_1).toNat * 3)).block, (ad208.add ((x7_1).toNat * 3)).off + 2, none⟩ = some (.int .i64 ((rd_T46 t205 x7_1).f2)) := hS_
                   have HR217 := aM (show Kd.C (Kd.int .i64) w39 (some ad209) y214.length y214 from by rw [Ny214.out]; exact Kd.C_take (m := (x8_2 : Int).toNat) ((Kd.R_reads' HO_5.out).2.2) KL32.out)
                   have HR231 := aM (show Kd.C (Kd.int .i64) w39 A33 y228.length y228 from by rw [Ny228.out, KA33.out]; exact Kd.C_drop (m := (x8_2 : Int).toNat) (c := co14) ((Kd.R_reads' HO_5.out).2.2) KL33.out ((Kd.R_reads' HO_5.out).2.1))
                   obtain ⟨Ao41, co41, eo41⟩ := Kd.R_slice HO224.out
                   (first | subst eo41 | (injection eo41 with f1_ f2_ f3_; have f4_ := f1_.symm; have f5_ := f3_.symm; clear f1_ f2_ f3_; subst f4_; subst f5_))
                   refine norm_ (a' := ?_) ?_ ?_
                   rotate_left
                   ·simp only [putAll, Act.put, List.setIfInBounds_toArray, List.set_cons_zero, List.set_cons_succ]
                    rfl
                   refine oN 11 55 (fB 17 32767) HT_.out fun K hK => ?_
                   refine Kd.R_append_rows_step (Kd.int .i64) (w0 := w) w.heap.size (by rfl) (.tmp 48) (.tmp 54) 54 3 (.int .i64 0) 8 rfl Try.underlying54 info3 rfl (by decide) (by omega) v219 y218 y222 _ _ _ (fun k_ => some k_ ≠ (.slice (some ad209) x5_1.length co14 : Value).ownBlock ∧ some k_ ≠ (.slice Ao41 y222.length co41 : Value).ownBlock) (fun _ => False) rfl rfl ?aO ?aR (fun _ _ h => h) (fun _ h => h.elim) ?aF ?aB ?aS ?aL ?_
                   (case aR => repeat (first | exact (Kd.R_reads' HO224.out).2.2 | (with_reducible refine Kd.C_alloc ?_ _) | (with_reducible refine Kd.C_drewN ?_ _) | (with_reducible refine Kd.C_drew ?_)))
                   (case aB => exact (zL1 HB.out GE201.out))
                   (case aF => exact (fun k_ hk => ⟨Kd.fresh' (Kd.R_lt (zR HO_5.out)) k_ hk, Kd.fresh' (Kd.R_lt (zR HO224.out)) k_ hk⟩))
                   (case aO => exact (zRm HO220.out (fun _ hk => ⟨hk.2, hk.1⟩)))
                   (case aS => exact (below_size (zL1 HB.out GE201.out)))
                   (case aL => have := LMc26.out; omega)
                   intro v226 w40 ho hb hg hat
                   have HS0_ := cell_grown hg (hHeld.1) (by first | (rw [add_block]; exact ((Kd.R_apart' HO_6.out (Kd.R_typed HO220.out) (by decide)).1 _ rfl).2) | (show some (Addr.add _ _).block ≠ _; rw [add_block]; exact ((Kd.R_apart' HO_6.out (Kd.R_typed HO220.out) (by decide)).1 _ rfl).2) | exact ((Kd.R_apart' HO_6.out (Kd.R_typed HO220.out) (by decide)).1 _ rfl).2)
                   have HS1_ := cell_grown hg (hHeld.2.1) (by first | (rw [add_block]; exact ((Kd.R_apart' HO_6.out (Kd.R_typed HO220.out) (by decide)).1 _ rfl).2) | (show some (Addr.add _ _).block ≠ _; rw [add_block]; exact ((Kd.R_apart' HO_6.out (Kd.R_typed HO220.out) (by decide)).1 _ rfl).2) | exact ((Kd.R_apart' HO_6.out (Kd.R_typed HO220.out) (by decide)).1 _ rfl).2)
                   have HS2_ := cell_grown hg (hHeld.2.2) (by first | (rw [add_block]; exact ((Kd.R_apart' HO_6.out (Kd.R_typed HO220.out) (by decide)).1 _ rfl).2) | (show some (Addr.add _ _).block ≠ _; rw [add_block]; exact ((Kd.R_apart' HO_6.out (Kd.R_typed HO220.out) (by decide)).1 _ rfl).2) | exact ((Kd.R_apart' HO_6.out (Kd.R_typed HO220.out) (by decide)).1 _ rfl).2)
                   rw [← Ny225.out] at ho
                   replace HO_6 := aM (Kd.R_over' (zR HO_6.out) (Kd.R_typed (zR HO220.out)) (by decide) hg); replace BK201 := aM (blk_grown (g := gb201) (o := .cells #[.int .i64 a0_0, .slice A0_1 l0_1.length c0_1, .slice A0_2 l0_2.length c0_2, .slice A0_3 l0_3.length c0_3] 25 (0, 0)) (zB BK201.out) hg (Kd.R_ne HO220.out BK201.out (by decide))); replace HO224 := aM (Kd.R_after (ok := (fun k_ => some k_ ≠ (.slice (some ad209) x5_1.length co14 : Value).ownBlock)) (zRm HO224.out (fun _ hk => ⟨hk.2, hk.1⟩)) hg hat); replace HB := aM hb; replace HR217 := aM ((show Kd.C (Kd.int .i64) w40 (some ad209) y214.length y214 from by rw [Ny214.out]; exact Kd.C_take (m := (x8_2 : Int).toNat) ((Kd.R_reads' (Kd.R_after (ok := (fun k_ => some k_ ≠ (.slice Ao41 y222.length co41 : Value).ownBlock)) (zRm HO_5.out (fun _ hk => ⟨hk.2, hk.1⟩)) hg hat)).2.2) KL32.out)); replace HR231 := aM ((show Kd.C (Kd.int .i64) w40 A33 y228.length y228 from by rw [Ny228.out, KA33.out]; exact Kd.C_drop (m := (x8_2 : Int).toNat) (c := co14) ((Kd.R_reads' (Kd.R_after (ok := (fun k_ => some k_ ≠ (.slice Ao41 y222.length co41 : Value).ownBlock)) (zRm HO_5.out (fun _ hk => ⟨hk.2, hk.1⟩)) hg hat)).2.2) KL33.out ((Kd.R_reads' (Kd.R_after (ok := (fun k_ => some k_ ≠ (.slice Ao41 y222.length co41 : Value).ownBlock)) (zRm HO_5.out (fun _ hk => ⟨hk.2, hk.1⟩)) hg hat)).2.1))); replace HO_5 := aM (Kd.R_after (ok := (fun k_ => some k_ ≠ (.slice Ao41 y222.length co41 : Value).ownBlock)) (zRm HO_5.out (fun _ hk => ⟨hk.2, hk.1⟩)) hg hat); have HO227 := aM (ho); clear HO220
                   clear ho hb hg hat
                   refine hK.out _ _ ⟨HS0_, HS1_, HS2_⟩ fun hHeld => ?_; clear hK K
                   refine nZ 55 ?_
                   refine oN 15 59 (fB 17 65535) HT_.out fun K hK => ?_
                   refine Kd.R_append_rows_step (Kd.int .i64) (w0 := w) w.heap.size (by rfl) (.tmp 55) (.tmp 58) 54 3 (.int .i64 0) 8 rfl Try.underlying54 info3 rfl (by decide) (by omega) v226 y225 y228 _ _ _ (fun k_ => some k_ ≠ (.slice (some ad209) x5_1.length co14 : Value).ownBlock ∧ some k_ ≠ (.slice Ao41 y222.length co41 : Value).ownBlock) (fun _ => False) rfl rfl ?aO ?aR (fun _ _ h => h) (fun _ h => h.elim) ?aF ?aB ?aS ?aL ?_
                   (case aR => repeat (first | exact (zC HR231.out) | (with_reducible refine Kd.C_alloc ?_ _) | (with_reducible refine Kd.C_drewN ?_ _) | (with_reducible refine Kd.C_drew ?_)))
                   (case aB => exact (zL1 HB.out GE201.out))
                   (case aF => exact (fun k_ hk => ⟨Kd.fresh' (Kd.R_lt (zR HO_5.out)) k_ hk, Kd.fresh' (Kd.R_lt (zR HO224.out)) k_ hk⟩))
                   (case aO => exact (zR HO227.out))
                   (case aS => exact (below_size (zL1 HB.out GE201.out)))
                   (case aL => have := LMc29.out; omega)
                   intro v233 w42 ho hb hg hat
                   have HS0_ := cell_grown hg (hHeld.1) (by first | (rw [add_block]; exact ((Kd.R_apart' HO_6.out (Kd.R_typed HO227.out) (by decide)).1 _ rfl).2) | (show some (Addr.add _ _).block ≠ _; rw [add_block]; exact ((Kd.R_apart' HO_6.out (Kd.R_typed HO227.out) (by decide)).1 _ rfl).2) | exact ((Kd.R_apart' HO_6.out (Kd.R_typed HO227.out) (by decide)).1 _ rfl).2)
                   have HS1_ := cell_grown hg (hHeld.2.1) (by first | (rw [add_block]; exact ((Kd.R_apart' HO_6.out (Kd.R_typed HO227.out) (by decide)).1 _ rfl).2) | (show some (Addr.add _ _).block ≠ _; rw [add_block]; exact ((Kd.R_apart' HO_6.out (Kd.R_typed HO227.out) (by decide)).1 _ rfl).2) | exact ((Kd.R_apart' HO_6.out (Kd.R_typed HO227.out) (by decide)).1 _ rfl).2)
                   have HS2_ := cell_grown hg (hHeld.2.2) (by first | (rw [add_block]; exact ((Kd.R_apart' HO_6.out (Kd.R_typed HO227.out) (by decide)).1 _ rfl).2) | (show some (Addr.add _ _).block ≠ _; rw [add_block]; exact ((Kd.R_apart' HO_6.out (Kd.R_typed HO227.out) (by decide)).1 _ rfl).2) | exact ((Kd.R_apart' HO_6.out (Kd.R_typed HO227.out) (by decide)).1 _ rfl).2)
                   rw [← Ny232.out] at ho
                   replace HO_6 := aM (Kd.R_over' (zR HO_6.out) (Kd.R_typed (zR HO227.out)) (by decide) hg); replace BK201 := aM (blk_grown (g := gb201) (o := .cells #[.int .i64 a0_0, .slice A0_1 l0_1.length c0_1, .slice A0_2 l0_2.length c0_2, .slice A0_3 l0_3.length c0_3] 25 (0, 0)) (zB BK201.out) hg (Kd.R_ne HO227.out BK201.out (by decide))); replace HO224 := aM (Kd.R_after (ok := (fun k_ => some k_ ≠ (.slice (some ad209) x5_1.length co14 : Value).ownBlock)) (zR HO224.out) hg hat); replace HB := aM hb; replace HR217 := aM ((show Kd.C (Kd.int .i64) w42 (some ad209) y214.length y214 from by rw [Ny214.out]; exact Kd.C_take (m := (x8_2 : Int).toNat) ((Kd.R_reads' (Kd.R_after (ok := (fun k_ => some k_ ≠ (.slice Ao41 y222.length co41 : Value).ownBlock)) (zR HO_5.out) hg hat)).2.2) KL32.out)); replace HR231 := aM ((show Kd.C (Kd.int .i64) w42 A33 y228.length y228 from by rw [Ny228.out, KA33.out]; exact Kd.C_drop (m := (x8_2 : Int).toNat) (c := co14) ((Kd.R_reads' (Kd.R_after (ok := (fun k_ => some k_ ≠ (.slice Ao41 y222.length co41 : Value).ownBlock)) (zR HO_5.out) hg hat)).2.2) KL33.out ((Kd.R_reads' (Kd.R_after (ok := (fun k_ => some k_ ≠ (.slice Ao41 y222.length co41 : Value).ownBlock)) (zR HO_5.out) hg hat)).2.1))); replace HO_5 := aM (Kd.R_after (ok := (fun k_ => some k_ ≠ (.slice Ao41 y222.length co41 : Value).ownBlock)) (zR HO_5.out) hg hat); have HO234 := aM (ho); clear HO227
                   clear ho hb hg hat
                   refine hK.out _ _ ⟨HS0_, HS1_, HS2_⟩ fun hHeld => ?_; clear hK K
                   refine nZ 59 ?_
                   refine pY 16 5 (fB 17 131071) HT_.out ?_
                   refine done_ (done_of HT_.out (by kernel_rfl)) ?_
                   try go_wp2
                   go_roundg k2
                   case measure => have := HK1.out; have := HK2.out; omega
                   case rel => exact ⟨(y232), (wrap64 (x7_1 + 1)), zV, H', ⟨by have := HK1.out; have := HK2.out; omega⟩, ⟨zRm HO234.out (fun _ hk => trivial)⟩, ⟨zR HO_6.out⟩, ⟨zB BK201.out⟩, ⟨zL1 HB.out GE201.out⟩⟩
                  ·rw [if_neg c29] at H
                   exact absurd H (by simp)
                 ·rw [if_neg c26] at H
                  exact absurd H (by simp)
                ·rw [if_neg c25] at H
                 exact absurd H (by simp)
               ·rw [if_neg c24] at H
                exact absurd H (by simp)
              ·rw [if_neg c23] at H
               exact absurd H (by simp)
            ·rw [if_neg c20] at H
             exact absurd H (by simp)
           ·rw [if_neg c19] at H
            exact absurd H (by simp)
          ·rw [if_neg c18] at H
           exact absurd H (by simp)
         ·rw [if_neg c17] at H
          exact absurd H (by simp)
        ·rw [if_neg c15] at H
         have c15b0 := dF c15
         clear c15
         obtain ⟨y235, hy235⟩ : ∃ y_ : List Int, y_ = (([] : List Int)) := ⟨_, rfl⟩
         replace H : (if 0 ≤ x8_2 then (if x8_2 ≤ (x5_1.length : Int) then ((some (x5_1.take (x8_2 : Int).toNat : List Int)).bind fun y238 => (if y235.length + y238.length < 17592186044416 then ((some (y235 ++ y238 : List Int)).bind fun y242 => (if 0 ≤ x7_1 then (if x7_1 < (t205.length : Int) then ((some (([(rd_T46 t205 x7_1).f0] : List Int) : List Int)).bind fun y246 => (if y242.length + y246.length < 17592186044416 then ((some (y242 ++ y246 : List Int)).bind fun y249 => ((some (x5_1.drop (x8_2 : Int).toNat : List Int)).bind fun y252 => (if y249.length + y252.length < 17592186044416 then (spec_DueBy.l0 k2 a1 (y249 ++ y252) t205 (wrap64 (x7_1 + 1))) else (none)))) else (none))) else (none)) else (none))) else (none))) else (none)) else (none)) = some r := by first | (rw [hy235]; with_reducible exact H) | (have H2_ := (Option.bind_some _ _).symm.trans H; rw [hy235]; with_reducible exact H2_) | (have H2_ := (Option.bind_some _ _).symm.trans H; with_reducible exact H2_) | with_reducible exact H | (rw [hy235]; exact H) | exact H
         have Ny235 := aM hy235
         clear hy235
         by_cases c43 : 0 ≤ x8_2
         ·rw [if_pos c43] at H
          have c43b0 := eq_true c43
          have c43b1 := dT c43
          clear c43
          by_cases c44 : x8_2 ≤ (x5_1.length : Int)
          ·rw [if_pos c44] at H
           have c44b0 := eq_true c44
           have c44b1 := dT c44
           clear c44
           generalize hy238 : (x5_1.take (x8_2 : Int).toNat) = y238 at H; (try rw [Option.bind_some] at H); have Ny238 := aM hy238.symm; clear hy238
           by_cases c45 : y235.length + y238.length < 17592186044416
           ·rw [if_pos c45] at H
            have LMc45 := aM c45
            clear c45
            generalize hy242 : (y235 ++ y238) = y242 at H; (try rw [Option.bind_some] at H); have Ny242 := aM hy242.symm; clear hy242
            by_cases c46 : 0 ≤ x7_1
            ·rw [if_pos c46] at H
             have c46b0 := dT c46
             clear c46
             by_cases c47 : x7_1 < (t205.length : Int)
             ·rw [if_pos c47] at H
              have c47b0 := dT c47
              clear c47
              generalize hy246 : (([(rd_T46 t205 x7_1).f0] : List Int)) = y246 at H; (try rw [Option.bind_some] at H); have Ny246 := aM hy246.symm; clear hy246
              by_cases c48 : y242.length + y246.length < 17592186044416
              ·rw [if_pos c48] at H
               have LMc48 := aM c48
               clear c48
               generalize hy249 : (y242 ++ y246) = y249 at H; (try rw [Option.bind_some] at H); have Ny249 := aM hy249.symm; clear hy249
               have c49b0 := eq_true (zD : 0 ≤ x8_2)
               have c50b0 := eq_true (zD : x8_2 ≤ (x5_1.length : Int))
               generalize hy252 : (x5_1.drop (x8_2 : Int).toNat) = y252 at H; (try rw [Option.bind_some] at H); have Ny252 := aM hy252.symm; clear hy252
               by_cases c51 : y249.length + y252.length < 17592186044416
               ·rw [if_pos c51] at H
                have LMc51 := aM c51
                clear c51
                generalize hy256 : (y249 ++ y252) = y256 at H; (try rw [Option.bind_some] at H); have Ny256 := aM hy256.symm; clear hy256
                have H' := aM H
                clear H
                try go_wp2
                replace HO_5 := zRD HO_5; replace HO_6 := zRD HO_6; replace BK201 := zBD BK201; replace HB := zLD HB
                refine start_ (n := 15) (S := fun w' => True) (ds := []) (fB 15 0) (by kernel_rfl) rfl rfl trivial (fun hHeld => ?_); refine with_tabW spec_DueBy.tab8 spec_DueBy.bits8 (fun HT_ HW_ => ?_)
                generalize wr.drew = w52 at HO_5 HO_6 BK201 HB hHeld ⊢
                refine pY 0 27 (fB 15 1) HT_.out ?_
                refine pY 1 28 (fB 15 3) HT_.out ?_
                refine pY 2 29 (fB 15 7) HT_.out ?_
                refine pN 3 30 (fB 15 15) HT_.out ?_
                refine pN 4 31 (fB 15 31) HT_.out ?_
                refine pN 5 32 (fB 15 63) HT_.out ?_
                refine pN 6 33 (fB 15 127) HT_.out ?_
                refine pN 7 34 (fB 15 255) HT_.out ?_
                refine pN 8 35 (fB 15 511) HT_.out ?_
                refine pN 9 36 (fB 15 1023) HT_.out ?_
                refine pN 10 37 (fB 15 2047) HT_.out ?_
                refine pN 11 38 (fB 15 4095) HT_.out ?_
                refine pN 12 39 (fB 15 8191) HT_.out ?_
                refine pN 13 40 (fB 15 16383) HT_.out ?_
                refine pY 14 41 (fB 15 32767) HT_.out ?_
                refine done_ (done_of HT_.out (by kernel_rfl)) ?_
                try go_wp2
                replace HO_5 := zRD HO_5; replace HO_6 := zRD HO_6; replace BK201 := zBD BK201; replace HB := zLD HB
                have q54 : (x8_2 : Int) ≤ ((x5_1.length : Int) : Int) := zD
                obtain ⟨i054, hi054, _, hsz54, _⟩ := info_parts info3
                have hroom54 : x5_1.length ≤ co14 := (Kd.R_reads' HO_5.out).2.1
                have hC54 : Kd.C (Kd.int .i64) _ Ao14 x5_1.length x5_1 := (Kd.R_reads' HO_5.out).2.2
                have hcut54 := cut_to (P := Try.prog) 54 3 .i64 Try.underlying54 hi054 Ao14 x5_1.length co14 x8_2 (zD) q54 hroom54
                have hr54 := Kd.C_take (m := (x8_2 : Int).toNat) hC54 (by omega)
                have hy54 : y238.length = (x8_2 : Int).toNat := (by rw [Ny238.out, List.length_take]; omega)
                rw [← Ny238.out] at hr54
                rw [← hy54] at hcut54
                have HR241 := aM hr54
                have HC241 := aM (show y238.length ≤ co14 from by omega)
                clear hr54 hC54 hroom54 hi054 hsz54
                have KY54 := aM hy54
                clear hy54
                have KL54 := aM (show (x8_2 : Int).toNat ≤ x5_1.length from by omega)
                replace q54 := eq_true q54
                have p245 : 0 ≤ (x7_1 : Int) := zD
                have q245 : x7_1 < (t205.length : Int) := zD
                obtain ⟨ad245, e245, hx245_0, hx245_1, hx245_2⟩ := at_T46 (Kd.R_reads' HO_6.out).2.2 x7_1 p245 q245
                obtain rfl : ad208 = ad245 := (by injection e245)
                replace p245 := eq_true p245
                replace q245 := eq_true q245
                have q55 : (x8_2 : Int) ≤ ((x5_1.length : Int) : Int) := zD
                obtain ⟨i055, hi055, _, hsz55, _⟩ := info_parts info3
                have hroom55 : x5_1.length ≤ co14 := (Kd.R_reads' HO_5.out).2.1
                have hC55 : Kd.C (Kd.int .i64) _ Ao14 x5_1.length x5_1 := (Kd.R_reads' HO_5.out).2.2
                have q055 : (0 : Int) ≤ (x8_2 : Int) := zD
                have hcut55 := cut_from (P := Try.prog) 54 3 .i64 Try.underlying54 hi055 1 hsz55 Ao14 x5_1.length co14 x8_2 q055 q55
                have hr55 := Kd.C_drop (m := (x8_2 : Int).toNat) (c := co14) hC55 (by omega) hroom55
                obtain ⟨A55, hA55⟩ : ∃ A1, A1 = (if co14 = (x8_2 : Int).toNat then Ao14 else (Ao14 : Option Addr).map (·.add ((x8_2 : Int).toNat * 1))) := ⟨_, rfl⟩
                obtain ⟨c55, hc55⟩ : ∃ c1, c1 = co14 - (x8_2 : Int).toNat := ⟨_, rfl⟩
                have hy55 : y252.length = x5_1.length - (x8_2 : Int).toNat := (by rw [Ny252.out, List.length_drop] <;> omega)
                rw [show (x5_1).drop (x8_2 : Int).toNat = y252 from Ny252.out.symm] at hr55
                replace hr55 : Kd.C (Kd.int .i64) _ A55 y252.length y252 := (by rw [hA55]; exact hr55)
                rw [← hy55, ← hA55, ← hc55] at hcut55
                have HR255 := aM hr55
                have HC255 := aM (show y252.length ≤ c55 from by rw [hy55, hc55]; exact Nat.sub_le_sub_right hroom55 _)
                clear hr55 hC55 hroom55 hi055 hsz55 hc55
                have KY55 := aM hy55
                have KA55 := aM hA55
                clear hy55 hA55
                have KL55 := aM (show (x8_2 : Int).toNat ≤ x5_1.length from by omega)
                replace q55 := eq_true q55
                refine start_ (n := 17) (S := fun w' => w'.cell? (ad208.add ((x7_1).toNat * 3)) = some (.int .i64 ((rd_T46 t205 x7_1).f0)) ∧ w'.cell? ⟨(ad208.add ((x7_1).toNat * 3)).block, (ad208.add ((x7_1).toNat * 3)).off + 1, none⟩ = some (.int .i64 ((rd_T46 t205 x7_1).f1)) ∧ w'.cell? ⟨(ad208.add ((x7_1).toNat * 3)).block, (ad208.add ((x7_1).toNat * 3)).off + 2, none⟩ = some (.int .i64 ((rd_T46 t205 x7_1).f2))) (ds := []) (fB 17 0) (by kernel_rfl) rfl rfl ⟨hx245_0, hx245_1, hx245_2⟩ (fun hHeld => ?_); refine with_tabW spec_DueBy.tab10 spec_DueBy.bits10 (fun HT_ HW_ => ?_)
                generalize w52.drew = w53 at HO_5 HO_6 BK201 HB HR241 HR255 hx245_0 hx245_1 hx245_2 hHeld ⊢
                refine pY 1 45 (fB 17 2) HT_.out ?_
                refine pY 2 46 (fB 17 6) HT_.out ?_
                refine pY 3 47 (fB 17 14) HT_.out ?_
                refine pY 5 49 (fB 17 46) HT_.out ?_
                refine pY 6 50 (fB 17 110) HT_.out ?_
                refine pY 7 51 (fB 17 238) HT_.out ?_
                refine pY 8 52 (fB 17 494) HT_.out ?_
                refine pY 12 56 (fB 17 4590) HT_.out ?_
                refine pY 13 57 (fB 17 12782) HT_.out ?_
                refine pY 14 58 (fB 17 29166) HT_.out ?_
                refine tY 9 53 (fB 17 29678) HT_.out HW_.out hHeld ?_
                refine join_ (σ := Value × Value × Value) 3 #[true, true, true, true, true, true, true, true, true, true, true, false, true, true, true, false, false] (fun s_ => [(44, s_.1), (48, s_.2.1), (54, s_.2.2)]) (fun s_ w' => (w'.cell? (ad208.add ((x7_1).toNat * 3)) = some (.int .i64 ((rd_T46 t205 x7_1).f0)) ∧ w'.cell? ⟨(ad208.add ((x7_1).toNat * 3)).block, (ad208.add ((x7_1).toNat * 3)).off + 1, none⟩ = some (.int .i64 ((rd_T46 t205 x7_1).f1)) ∧ w'.cell? ⟨(ad208.add ((x7_1).toNat * 3)).block, (ad208.add ((x7_1).toNat * 3)).off + 2, none⟩ = some (.int .i64 ((rd_T46 t205 x7_1).f2))) ∧ (Kd.R (Kd.int .i64) 3 w' w.heap.size (fun k_ => some k_ ≠ (s_.2.2 : Value).ownBlock ∧ some k_ ≠ (.slice Ao14 x5_1.length co14 : Value).ownBlock) s_.2.1 y242) ∧ (Kd.R (Kd.int .i64) 3 w' w.heap.size (fun k_ => some k_ ≠ (s_.2.1 : Value).ownBlock ∧ some k_ ≠ (.slice Ao14 x5_1.length co14 : Value).ownBlock) s_.2.2 y246) ∧ (Kd.R (Kd.int .i64) 3 w' w.heap.size (fun k_ => some k_ ≠ (s_.2.1 : Value).ownBlock ∧ some k_ ≠ (s_.2.2 : Value).ownBlock) (.slice Ao14 x5_1.length co14) x5_1) ∧ (Kd.R k46 46 w' w.heap.size (fun _ => True) (.slice (some ad208) t205.length co13) t205) ∧ (w'.heap[gb201]? = some (.cells #[.int .i64 a0_0, .slice A0_1 l0_1.length c0_1, .slice A0_2 l0_2.length c0_2, .slice A0_3 l0_3.length c0_3] 25 (0, 0))) ∧ (Below w.heap.size w w')) ?_ ?_
                rotate_left
                ·intro hCont
                 refine two_ (i := 0) (j := 10) (Ni := some 44) (Nj := some 54) #[true, true, true, true, false, true, true, true, true, true, false, false, true, true, true, false, false] #[false, true, true, true, false, true, true, true, true, true, true, false, true, true, true, false, false] rfl rfl rfl rfl (two_of HT_.out (by kernel_rfl)) (by decide) (by decide) (fun K hK => ?_) (fun K hK => ?_)
                 ·skip
                  refine Kd.R_lit_step (Kd.int .i64) _ 3 ?hg (N := 44) ?hd (xs := ([] : List Int)) (inner := []) (ok := fun _ => True) (okp := fun _ => True) ?hr ?hp (fun _ hk => hk) trivial (Below.refl _ _) (Nat.le_refl _) (by simp) ?_; (case hd => rfl); (case hg => rfl); (case hr => first | (go_simp; done) | (go_simp; rfl)); (case hp => exact (Reps.none _ _))
                  intro v236 w56 ho57 hb hg_ hnew_
                  have HS0_ := (hb.cell (World.block_lt_of_cell? _ _ (hHeld.1))).trans (hHeld.1)
                  have HS1_ := (hb.cell (World.block_lt_of_cell? _ _ (hHeld.2.1))).trans (hHeld.2.1)
                  have HS2_ := (hb.cell (World.block_lt_of_cell? _ _ (hHeld.2.2))).trans (hHeld.2.2)
                  clear hg_ hnew_
                  (first | rw [← Ny235.out] at ho57 | (simp only [Int.reduceToNat] at ho57; rw [← Ny235.out] at ho57))
                  replace HO_6 := zRB HO_6 hb; have HO237 := aM (Kd.R_lower (Kd.R_new' ho57 (Kd.R_lt (zR HO_5.out))) (below_size (zL1 HB.out GE201.out))); replace HO_5 := aM (Kd.R_elder' (zR HO_5.out) (Kd.R_base ho57) hb); replace BK201 := zBB BK201 hb; replace HR241 := aM (Kd.C_below (zC HR241.out) hb); replace HR255 := aM (Kd.C_below (zC HR255.out) hb); replace HB := zLB (zL1 HB.out GE201.out) hb
                  clear hb ho57
                  refine hK.out _ _ ⟨HS0_, HS1_, HS2_⟩ fun hHeld => ?_; clear hK K
                  refine nZ 44 ?_
                  refine two_ (i := 4) (j := 10) (Ni := some 48) (Nj := some 54) #[true, true, true, true, true, true, true, true, true, true, false, false, true, true, true, false, false] #[true, true, true, true, false, true, true, true, true, true, true, false, true, true, true, false, false] rfl rfl rfl rfl (two_of HT_.out (by kernel_rfl)) (by decide) (by decide) (fun K hK => ?_) (fun K hK => ?_)
                  ·skip
                   refine Kd.R_append_rows_step (Kd.int .i64) (w0 := w) w.heap.size (by rfl) (.tmp 44) (.tmp 47) 54 3 (.int .i64 0) 8 rfl Try.underlying54 info3 rfl (by decide) (by omega) v236 y235 y238 _ _ _ (fun k_ => some k_ ≠ (.slice Ao14 x5_1.length co14 : Value).ownBlock) (fun _ => False) rfl rfl ?aO ?aR (fun _ _ h => h) (fun _ h => h.elim) ?aF ?aB ?aS ?aL ?_
                   (case aR => repeat (first | exact (zC HR241.out) | (with_reducible refine Kd.C_alloc ?_ _) | (with_reducible refine Kd.C_drewN ?_ _) | (with_reducible refine Kd.C_drew ?_)))
                   (case aB => exact (zL1 HB.out GE201.out))
                   (case aF => exact (fun k_ hk => Kd.fresh' (Kd.R_lt (zR HO_5.out)) k_ hk))
                   (case aO => exact (zRm HO237.out (fun _ hk => hk.2)))
                   (case aS => exact (below_size (zL1 HB.out GE201.out)))
                   (case aL => have := LMc45.out; omega)
                   intro v243 w58 ho hb hg hat
                   have HS0_ := cell_grown hg (hHeld.1) (by first | (rw [add_block]; exact ((Kd.R_apart' HO_6.out (Kd.R_typed HO237.out) (by decide)).1 _ rfl).2) | (show some (Addr.add _ _).block ≠ _; rw [add_block]; exact ((Kd.R_apart' HO_6.out (Kd.R_typed HO237.out) (by decide)).1 _ rfl).2) | exact ((Kd.R_apart' HO_6.out (Kd.R_typed HO237.out) (by decide)).1 _ rfl).2)
                   have HS1_ := cell_grown hg (hHeld.2.1) (by first | (rw [add_block]; exact ((Kd.R_apart' HO_6.out (Kd.R_typed HO237.out) (by decide)).1 _ rfl).2) | (show some (Addr.add _ _).block ≠ _; rw [add_block]; exact ((Kd.R_apart' HO_6.out (Kd.R_typed HO237.out) (by decide)).1 _ rfl).2) | exact ((Kd.R_apart' HO_6.out (Kd.R_typed HO237.out) (by decide)).1 _ rfl).2)
                   have HS2_ := cell_grown hg (hHeld.2.2) (by first | (rw [add_block]; exact ((Kd.R_apart' HO_6.out (Kd.R_typed HO237.out) (by decide)).1 _ rfl).2) | (show some (Addr.add _ _).block ≠ _; rw [add_block]; exact ((Kd.R_apart' HO_6.out (Kd.R_typed HO237.out) (by decide)).1 _ rfl).2) | exact ((Kd.R_apart' HO_6.out (Kd.R_typed HO237.out) (by decide)).1 _ rfl).2)
                   rw [← Ny242.out] at ho
                   replace HO_6 := aM (Kd.R_over' (zR HO_6.out) (Kd.R_typed (zR HO237.out)) (by decide) hg); replace BK201 := aM (blk_grown (g := gb201) (o := .cells #[.int .i64 a0_0, .slice A0_1 l0_1.length c0_1, .slice A0_2 l0_2.length c0_2, .slice A0_3 l0_3.length c0_3] 25 (0, 0)) (zB BK201.out) hg (Kd.R_ne HO237.out BK201.out (by decide))); replace HB := aM hb; replace HR241 := aM ((show Kd.C (Kd.int .i64) w58 Ao14 y238.length y238 from by rw [Ny238.out]; exact Kd.C_take (m := (x8_2 : Int).toNat) ((Kd.R_reads' (Kd.R_after (ok := (fun _ => True)) (zR HO_5.out) hg hat)).2.2) KL54.out)); replace HR255 := aM ((show Kd.C (Kd.int .i64) w58 A55 y252.length y252 from by rw [Ny252.out, KA55.out]; exact Kd.C_drop (m := (x8_2 : Int).toNat) (c := co14) ((Kd.R_reads' (Kd.R_after (ok := (fun _ => True)) (zR HO_5.out) hg hat)).2.2) KL55.out ((Kd.R_reads' (Kd.R_after (ok := (fun _ => True)) (zR HO_5.out) hg hat)).2.1))); replace HO_5 := aM (Kd.R_after (ok := (fun _ => True)) (zR HO_5.out) hg hat); have HO244 := aM (ho); clear HO237
                   clear ho hb hg hat
                   refine hK.out _ _ ⟨HS0_, HS1_, HS2_⟩ fun hHeld => ?_; clear hK K
                   refine nZ 48 ?_
                   refine oN 10 54 (fB 17 30719) HT_.out fun K hK => ?_
                   refine Kd.R_lit_step (Kd.int .i64) _ 3 ?hg (N := 54) ?hd (xs := ([(rd_T46 t205 x7_1).f0] : List Int)) (inner := [.int .i64 ((rd_T46 t205 x7_1).f0)]) (ok := fun _ => True) (okp := fun _ => True) ?hr ?hp (fun _ hk => hk) trivial (Below.refl _ _) (Nat.le_refl _) (by simp) ?_; (case hd => rfl); (case hg => rfl); (case hr => first | (go_simp; done) | (go_simp; rfl)); (case hp => exact zhp)
                   intro v247 w59 ho60 hb hg_ hnew_
                   have HS0_ := (hb.cell (World.block_lt_of_cell? _ _ (hHeld.1))).trans (hHeld.1)
                   have HS1_ := (hb.cell (World.block_lt_of_cell? _ _ (hHeld.2.1))).trans (hHeld.2.1)
                   have HS2_ := (hb.cell (World.block_lt_of_cell? _ _ (hHeld.2.2))).trans (hHeld.2.2)
                   clear hg_ hnew_
                   (first | rw [← Ny246.out] at ho60 | (simp only [Int.reduceToNat] at ho60; rw [← Ny246.out] at ho60))
                   replace HO_6 := zRB HO_6 hb; have HO248 := aM (Kd.R_lower (Kd.R_new' (Kd.R_new' ho60 (Kd.R_lt (zR HO_5.out))) (Kd.R_lt (zR HO244.out))) (below_size (zL1 HB.out GE201.out))); replace HO_5 := aM (Kd.R_elder' (zR HO_5.out) (Kd.R_base ho60) hb); replace HO244 := aM (Kd.R_elder' (zR HO244.out) (Kd.R_base ho60) hb); replace BK201 := zBB BK201 hb; replace HR241 := aM (Kd.C_below (zC HR241.out) hb); replace HR255 := aM (Kd.C_below (zC HR255.out) hb); replace HB := zLB (zL1 HB.out GE201.out) hb
                   clear hb ho60
                   refine hK.out _ _ ⟨HS0_, HS1_, HS2_⟩ fun hHeld => ?_; clear hK K
                   refine nZ 54 ?_
                   exact norm_ (by simp only [putAll, Act.put, List.setIfInBounds_toArray, List.set_cons_zero, List.set_cons_succ]) (hCont (v236, v243, v247) _ ⟨hHeld, (zRm HO244.out (fun _ hk => ⟨hk.2, hk.1⟩)), (zRm HO248.out (fun _ hk => ⟨hk.2, hk.1.2⟩)), (zRm HO_5.out (fun _ hk => ⟨hk.1.2, hk.2⟩)), (zR HO_6.out), (zB BK201.out), (zL1 HB.out GE201.out)⟩)
                  ·skip
                   refine Kd.R_lit_step (Kd.int .i64) _ 3 ?hg (N := 54) ?hd (xs := ([(rd_T46 t205 x7_1).f0] : List Int)) (inner := [.int .i64 ((rd_T46 t205 x7_1).f0)]) (ok := fun _ => True) (okp := fun _ => True) ?hr ?hp (fun _ hk => hk) trivial (Below.refl _ _) (Nat.le_refl _) (by simp) ?_; (case hd => rfl); (case hg => rfl); (case hr => first | (go_simp; done) | (go_simp; rfl)); (case hp => exact zhp)
                   intro v247 w58 ho59 hb hg_ hnew_
                   have HS0_ := (hb.cell (World.block_lt_of_cell? _ _ (hHeld.1))).trans (hHeld.1)
                   have HS1_ := (hb.cell (World.block_lt_of_cell? _ _ (hHeld.2.1))).trans (hHeld.2.1)
                   have HS2_ := (hb.cell (World.block_lt_of_cell? _ _ (hHeld.2.2))).trans (hHeld.2.2)
                   clear hg_ hnew_
                   (first | rw [← Ny246.out] at ho59 | (simp only [Int.reduceToNat] at ho59; rw [← Ny246.out] at ho59))
                   replace HO_6 := zRB HO_6 hb; have HO248 := aM (Kd.R_lower (Kd.R_new' (Kd.R_new' ho59 (Kd.R_lt (zR HO_5.out))) (Kd.R_lt (zR HO237.out))) (below_size (zL1 HB.out GE201.out))); replace HO_5 := aM (Kd.R_elder' (zR HO_5.out) (Kd.R_base ho59) hb); replace HO237 := aM (Kd.R_elder' (zR HO237.out) (Kd.R_base ho59) hb); replace BK201 := zBB BK201 hb; replace HR241 := aM (Kd.C_below (zC HR241.out) hb); replace HR255 := aM (Kd.C_below (zC HR255.out) hb); replace HB := zLB (zL1 HB.out GE201.out) hb
                   clear hb ho59
                   refine hK.out _ _ ⟨HS0_, HS1_, HS2_⟩ fun hHeld => ?_; clear hK K
                   refine nZ 54 ?_
                   refine oN 4 48 (fB 17 30719) HT_.out fun K hK => ?_
                   refine Kd.R_append_rows_step (Kd.int .i64) (w0 := w) w.heap.size (by rfl) (.tmp 44) (.tmp 47) 54 3 (.int .i64 0) 8 rfl Try.underlying54 info3 rfl (by decide) (by omega) v236 y235 y238 _ _ _ (fun k_ => some k_ ≠ (.slice Ao14 x5_1.length co14 : Value).ownBlock ∧ some k_ ≠ (v247 : Value).ownBlock) (fun _ => False) rfl rfl ?aO ?aR (fun _ _ h => h) (fun _ h => h.elim) ?aF ?aB ?aS ?aL ?_
                   (case aR => repeat (first | exact (zC HR241.out) | (with_reducible refine Kd.C_alloc ?_ _) | (with_reducible refine Kd.C_drewN ?_ _) | (with_reducible refine Kd.C_drew ?_)))
                   (case aB => exact (zL1 HB.out GE201.out))
                   (case aF => exact (fun k_ hk => ⟨Kd.fresh' (Kd.R_lt (zR HO_5.out)) k_ hk, Kd.fresh' (Kd.R_lt (zR HO248.out)) k_ hk⟩))
                   (case aO => exact (zRm HO237.out (fun _ hk => ⟨hk.1.2, hk.2⟩)))
                   (case aS => exact (below_size (zL1 HB.out GE201.out)))
                   (case aL => have := LMc45.out; omega)
                   intro v243 w60 ho hb hg hat
                   have HS0_ := cell_grown hg (hHeld.1) (by first | (rw [add_block]; exact ((Kd.R_apart' HO_6.out (Kd.R_typed HO237.out) (by decide)).1 _ rfl).2) | (show some (Addr.add _ _).block ≠ _; rw [add_block]; exact ((Kd.R_apart' HO_6.out (Kd.R_typed HO237.out) (by decide)).1 _ rfl).2) | exact ((Kd.R_apart' HO_6.out (Kd.R_typed HO237.out) (by decide)).1 _ rfl).2)
                   have HS1_ := cell_grown hg (hHeld.2.1) (by first | (rw [add_block]; exact ((Kd.R_apart' HO_6.out (Kd.R_typed HO237.out) (by decide)).1 _ rfl).2) | (show some (Addr.add _ _).block ≠ _; rw [add_block]; exact ((Kd.R_apart' HO_6.out (Kd.R_typed HO237.out) (by decide)).1 _ rfl).2) | exact ((Kd.R_apart' HO_6.out (Kd.R_typed HO237.out) (by decide)).1 _ rfl).2)
                   have HS2_ := cell_grown hg (hHeld.2.2) (by first | (rw [add_block]; exact ((Kd.R_apart' HO_6.out (Kd.R_typed HO237.out) (by decide)).1 _ rfl).2) | (show some (Addr.add _ _).block ≠ _; rw [add_block]; exact ((Kd.R_apart' HO_6.out (Kd.R_typed HO237.out) (by decide)).1 _ rfl).2) | exact ((Kd.R_apart' HO_6.out (Kd.R_typed HO237.out) (by decide)).1 _ rfl).2)
                   rw [← Ny242.out] at ho
                   replace HO_6 := aM (Kd.R_over' (zR HO_6.out) (Kd.R_typed (zR HO237.out)) (by decide) hg); replace BK201 := aM (blk_grown (g := gb201) (o := .cells #[.int .i64 a0_0, .slice A0_1 l0_1.length c0_1, .slice A0_2 l0_2.length c0_2, .slice A0_3 l0_3.length c0_3] 25 (0, 0)) (zB BK201.out) hg (Kd.R_ne HO237.out BK201.out (by decide))); replace HO248 := aM (Kd.R_after (ok := (fun k_ => some k_ ≠ (.slice Ao14 x5_1.length co14 : Value).ownBlock)) (zRm HO248.out (fun _ hk => ⟨hk.1.2, hk.2⟩)) hg hat); replace HB := aM hb; replace HR241 := aM ((show Kd.C (Kd.int .i64) w60 Ao14 y238.length y238 from by rw [Ny238.out]; exact Kd.C_take (m := (x8_2 : Int).toNat) ((Kd.R_reads' (Kd.R_after (ok := (fun k_ => some k_ ≠ (v247 : Value).ownBlock)) (zRm HO_5.out (fun _ hk => ⟨hk.2, hk.1.2⟩)) hg hat)).2.2) KL54.out)); replace HR255 := aM ((show Kd.C (Kd.int .i64) w60 A55 y252.length y252 from by rw [Ny252.out, KA55.out]; exact Kd.C_drop (m := (x8_2 : Int).toNat) (c := co14) ((Kd.R_reads' (Kd.R_after (ok := (fun k_ => some k_ ≠ (v247 : Value).ownBlock)) (zRm HO_5.out (fun _ hk => ⟨hk.2, hk.1.2⟩)) hg hat)).2.2) KL55.out ((Kd.R_reads' (Kd.R_after (ok := (fun k_ => some k_ ≠ (v247 : Value).ownBlock)) (zRm HO_5.out (fun _ hk => ⟨hk.2, hk.1.2⟩)) hg hat)).2.1))); replace HO_5 := aM (Kd.R_after (ok := (fun k_ => some k_ ≠ (v247 : Value).ownBlock)) (zRm HO_5.out (fun _ hk => ⟨hk.2, hk.1.2⟩)) hg hat); have HO244 := aM (ho); clear HO237
                   clear ho hb hg hat
                   refine hK.out _ _ ⟨HS0_, HS1_, HS2_⟩ fun hHeld => ?_; clear hK K
                   refine nZ 48 ?_
                   exact norm_ (by simp only [putAll, Act.put, List.setIfInBounds_toArray, List.set_cons_zero, List.set_cons_succ]) (hCont (v236, v243, v247) _ ⟨hHeld, (zRm HO244.out (fun _ hk => ⟨hk.2, hk.1⟩)), (zRm HO248.out (fun _ hk => ⟨hk.2, hk.1⟩)), (zRm HO_5.out (fun _ hk => ⟨hk.2, hk.1⟩)), (zR HO_6.out), (zB BK201.out), (zL1 HB.out GE201.out)⟩)
                 ·skip
                  refine Kd.R_lit_step (Kd.int .i64) _ 3 ?hg (N := 54) ?hd (xs := ([(rd_T46 t205 x7_1).f0] : List Int)) (inner := [.int .i64 ((rd_T46 t205 x7_1).f0)]) (ok := fun _ => True) (okp := fun _ => True) ?hr ?hp (fun _ hk => hk) trivial (Below.refl _ _) (Nat.le_refl _) (by simp) ?_; (case hd => rfl); (case hg => rfl); (case hr => first | (go_simp; done) | (go_simp; rfl)); (case hp => exact zhp)
                  intro v247 w56 ho57 hb hg_ hnew_
                  have HS0_ := (hb.cell (World.block_lt_of_cell? _ _ (hHeld.1))).trans (hHeld.1)
                  have HS1_ := (hb.cell (World.block_lt_of_cell? _ _ (hHeld.2.1))).trans (hHeld.2.1)
                  have HS2_ := (hb.cell (World.block_lt_of_cell? _ _ (hHeld.2.2))).trans (hHeld.2.2)
                  clear hg_ hnew_
                  (first | rw [← Ny246.out] at ho57 | (simp only [Int.reduceToNat] at ho57; rw [← Ny246.out] at ho57))
                  replace HO_6 := zRB HO_6 hb; have HO248 := aM (Kd.R_lower (Kd.R_new' ho57 (Kd.R_lt (zR HO_5.out))) (below_size (zL1 HB.out GE201.out))); replace HO_5 := aM (Kd.R_elder' (zR HO_5.out) (Kd.R_base ho57) hb); replace BK201 := zBB BK201 hb; replace HR241 := aM (Kd.C_below (zC HR241.out) hb); replace HR255 := aM (Kd.C_below (zC HR255.out) hb); replace HB := zLB (zL1 HB.out GE201.out) hb
                  clear hb ho57
                  refine hK.out _ _ ⟨HS0_, HS1_, HS2_⟩ fun hHeld => ?_; clear hK K
                  refine nZ 54 ?_
                  refine oN 0 44 (fB 17 30703) HT_.out fun K hK => ?_
                  refine Kd.R_lit_step (Kd.int .i64) _ 3 ?hg (N := 44) ?hd (xs := ([] : List Int)) (inner := []) (ok := fun _ => True) (okp := fun _ => True) ?hr ?hp (fun _ hk => hk) trivial (Below.refl _ _) (Nat.le_refl _) (by simp) ?_; (case hd => rfl); (case hg => rfl); (case hr => first | (go_simp; done) | (go_simp; rfl)); (case hp => exact (Reps.none _ _))
                  intro v236 w58 ho59 hb hg_ hnew_
                  have HS0_ := (hb.cell (World.block_lt_of_cell? _ _ (hHeld.1))).trans (hHeld.1)
                  have HS1_ := (hb.cell (World.block_lt_of_cell? _ _ (hHeld.2.1))).trans (hHeld.2.1)
                  have HS2_ := (hb.cell (World.block_lt_of_cell? _ _ (hHeld.2.2))).trans (hHeld.2.2)
                  clear hg_ hnew_
                  (first | rw [← Ny235.out] at ho59 | (simp only [Int.reduceToNat] at ho59; rw [← Ny235.out] at ho59))
                  replace HO_6 := zRB HO_6 hb; have HO237 := aM (Kd.R_lower (Kd.R_new' (Kd.R_new' ho59 (Kd.R_lt (zR HO_5.out))) (Kd.R_lt (zR HO248.out))) (below_size (zL1 HB.out GE201.out))); replace HO_5 := aM (Kd.R_elder' (zR HO_5.out) (Kd.R_base ho59) hb); replace HO248 := aM (Kd.R_elder' (zR HO248.out) (Kd.R_base ho59) hb); replace BK201 := zBB BK201 hb; replace HR241 := aM (Kd.C_below (zC HR241.out) hb); replace HR255 := aM (Kd.C_below (zC HR255.out) hb); replace HB := zLB (zL1 HB.out GE201.out) hb
                  clear hb ho59
                  refine hK.out _ _ ⟨HS0_, HS1_, HS2_⟩ fun hHeld => ?_; clear hK K
                  refine nZ 44 ?_
                  refine oN 4 48 (fB 17 30719) HT_.out fun K hK => ?_
                  refine Kd.R_append_rows_step (Kd.int .i64) (w0 := w) w.heap.size (by rfl) (.tmp 44) (.tmp 47) 54 3 (.int .i64 0) 8 rfl Try.underlying54 info3 rfl (by decide) (by omega) v236 y235 y238 _ _ _ (fun k_ => some k_ ≠ (.slice Ao14 x5_1.length co14 : Value).ownBlock ∧ some k_ ≠ (v247 : Value).ownBlock) (fun _ => False) rfl rfl ?aO ?aR (fun _ _ h => h) (fun _ h => h.elim) ?aF ?aB ?aS ?aL ?_
                  (case aR => repeat (first | exact (zC HR241.out) | (with_reducible refine Kd.C_alloc ?_ _) | (with_reducible refine Kd.C_drewN ?_ _) | (with_reducible refine Kd.C_drew ?_)))
                  (case aB => exact (zL1 HB.out GE201.out))
                  (case aF => exact (fun k_ hk => ⟨Kd.fresh' (Kd.R_lt (zR HO_5.out)) k_ hk, Kd.fresh' (Kd.R_lt (zR HO248.out)) k_ hk⟩))
                  (case aO => exact (zRm HO237.out (fun _ hk => ⟨hk.1.2, hk.2⟩)))
                  (case aS => exact (below_size (zL1 HB.out GE201.out)))
                  (case aL => have := LMc45.out; omega)
                  intro v243 w60 ho hb hg hat
                  have HS0_ := cell_grown hg (hHeld.1) (by first | (rw [add_block]; exact ((Kd.R_apart' HO_6.out (Kd.R_typed HO237.out) (by decide)).1 _ rfl).2) | (show some (Addr.add _ _).block ≠ _; rw [add_block]; exact ((Kd.R_apart' HO_6.out (Kd.R_typed HO237.out) (by decide)).1 _ rfl).2) | exact ((Kd.R_apart' HO_6.out (Kd.R_typed HO237.out) (by decide)).1 _ rfl).2)
                  have HS1_ := cell_grown hg (hHeld.2.1) (by first | (rw [add_block]; exact ((Kd.R_apart' HO_6.out (Kd.R_typed HO237.out) (by decide)).1 _ rfl).2) | (show some (Addr.add _ _).block ≠ _; rw [add_block]; exact ((Kd.R_apart' HO_6.out (Kd.R_typed HO237.out) (by decide)).1 _ rfl).2) | exact ((Kd.R_apart' HO_6.out (Kd.R_typed HO237.out) (by decide)).1 _ rfl).2)
                  have HS2_ := cell_grown hg (hHeld.2.2) (by first | (rw [add_block]; exact ((Kd.R_apart' HO_6.out (Kd.R_typed HO237.out) (by decide)).1 _ rfl).2) | (show some (Addr.add _ _).block ≠ _; rw [add_block]; exact ((Kd.R_apart' HO_6.out (Kd.R_typed HO237.out) (by decide)).1 _ rfl).2) | exact ((Kd.R_apart' HO_6.out (Kd.R_typed HO237.out) (by decide)).1 _ rfl).2)
                  rw [← Ny242.out] at ho
                  replace HO_6 := aM (Kd.R_over' (zR HO_6.out) (Kd.R_typed (zR HO237.out)) (by decide) hg); replace BK201 := aM (blk_grown (g := gb201) (o := .cells #[.int .i64 a0_0, .slice A0_1 l0_1.length c0_1, .slice A0_2 l0_2.length c0_2, .slice A0_3 l0_3.length c0_3] 25 (0, 0)) (zB BK201.out) hg (Kd.R_ne HO237.out BK201.out (by decide))); replace HO248 := aM (Kd.R_after (ok := (fun k_ => some k_ ≠ (.slice Ao14 x5_1.length co14 : Value).ownBlock)) (zRm HO248.out (fun _ hk => ⟨hk.1.2, hk.2⟩)) hg hat); replace HB := aM hb; replace HR241 := aM ((show Kd.C (Kd.int .i64) w60 Ao14 y238.length y238 from by rw [Ny238.out]; exact Kd.C_take (m := (x8_2 : Int).toNat) ((Kd.R_reads' (Kd.R_after (ok := (fun k_ => some k_ ≠ (v247 : Value).ownBlock)) (zRm HO_5.out (fun _ hk => ⟨hk.1.2, hk.2⟩)) hg hat)).2.2) KL54.out)); replace HR255 := aM ((show Kd.C (Kd.int .i64) w60 A55 y252.length y252 from by rw [Ny252.out, KA55.out]; exact Kd.C_drop (m := (x8_2 : Int).toNat) (c := co14) ((Kd.R_reads' (Kd.R_after (ok := (fun k_ => some k_ ≠ (v247 : Value).ownBlock)) (zRm HO_5.out (fun _ hk => ⟨hk.1.2, hk.2⟩)) hg hat)).2.2) KL55.out ((Kd.R_reads' (Kd.R_after (ok := (fun k_ => some k_ ≠ (v247 : Value).ownBlock)) (zRm HO_5.out (fun _ hk => ⟨hk.1.2, hk.2⟩)) hg hat)).2.1))); replace HO_5 := aM (Kd.R_after (ok := (fun k_ => some k_ ≠ (v247 : Value).ownBlock)) (zRm HO_5.out (fun _ hk => ⟨hk.1.2, hk.2⟩)) hg hat); have HO244 := aM (ho); clear HO237
                  clear ho hb hg hat
                  refine hK.out _ _ ⟨HS0_, HS1_, HS2_⟩ fun hHeld => ?_; clear hK K
                  refine nZ 48 ?_
                  exact norm_ (by simp only [putAll, Act.put, List.setIfInBounds_toArray, List.set_cons_zero, List.set_cons_succ]) (hCont (v236, v243, v247) _ ⟨hHeld, (zRm HO244.out (fun _ hk => ⟨hk.2, hk.1⟩)), (zRm HO248.out (fun _ hk => ⟨hk.2, hk.1⟩)), (zRm HO_5.out (fun _ hk => ⟨hk.2, hk.1⟩)), (zR HO_6.out), (zB BK201.out), (zL1 HB.out GE201.out)⟩)
                rintro ⟨v236, v243, v247⟩ w61 ⟨hS_, h0_, h1_, h2_, h3_, h4_, h5_⟩
                have n0_ : Aside0 (Kd.R (Kd.int .i64) 3 w61 w.heap.size (fun k_ => some k_ ≠ (v247 : Value).ownBlock ∧ some k_ ≠ (.slice Ao14 x5_1.length co14 : Value).ownBlock) v243 y242) := ⟨h0_⟩
                have n1_ : Aside0 (Kd.R (Kd.int .i64) 3 w61 w.heap.size (fun k_ => some k_ ≠ (v243 : Value).ownBlock ∧ some k_ ≠ (.slice Ao14 x5_1.length co14 : Value).ownBlock) v247 y246) := ⟨h1_⟩
                have n2_ : Aside0 (Kd.R (Kd.int .i64) 3 w61 w.heap.size (fun k_ => some k_ ≠ (v243 : Value).ownBlock ∧ some k_ ≠ (v247 : Value).ownBlock) (.slice Ao14 x5_1.length co14) x5_1) := ⟨h2_⟩
                have n3_ : Aside0 (Kd.R k46 46 w61 w.heap.size (fun _ => True) (.slice (some ad208) t205.length co13) t205) := ⟨h3_⟩
                have n4_ : Aside0 (w61.heap[gb201]? = some (.cells #[.int .i64 a0_0, .slice A0_1 l0_1.length c0_1, .slice A0_2 l0_2.length c0_2, .slice A0_3 l0_3.length c0_3] 25 (0, 0))) := ⟨h4_⟩
                have n5_ : Aside0 (Below w.heap.size w w61) := ⟨h5_⟩
                clear HO_5
                clear HO_6
                clear BK201
                clear HB
                clear h0_ h1_ h2_ h3_ h4_ h5_
                have HO244 := n0_
                have HO248 := n1_
                have HO_5 := n2_
                have HO_6 := n3_
                have BK201 := n4_
                have HB := n5_
                clear n0_ n1_ n2_ n3_ n4_ n5_
                have hHeld : w61.cell? (ad208.add ((x7_1).toNat * 3)) = some (.int .i64 ((rd_T46 t205 x7_1).f0)) ∧ w61.cell? ⟨(ad208.add ((x7_1).toNat * 3)).block, (ad208.add ((x7_1).toNat * 3)).off + 1, none⟩ = some (.int .i64 ((rd_T46 t205 x7_1).f1)) ∧ w61.cell? ⟨(ad208.add ((x7_1).toNat * 3)).block, (ad208.add ((x7_1).toNat * 3)).off + 2, none⟩ = some (.int .i64 ((rd_T46 t205 x7_1).f2)) := hS_
                have HR241 := aM (show Kd.C (Kd.int .i64) w61 Ao14 y238.length y238 from by rw [Ny238.out]; exact Kd.C_take (m := (x8_2 : Int).toNat) ((Kd.R_reads' HO_5.out).2.2) KL54.out)
                have HR255 := aM (show Kd.C (Kd.int .i64) w61 A55 y252.length y252 from by rw [Ny252.out, KA55.out]; exact Kd.C_drop (m := (x8_2 : Int).toNat) (c := co14) ((Kd.R_reads' HO_5.out).2.2) KL55.out ((Kd.R_reads' HO_5.out).2.1))
                obtain ⟨Ao63, co63, eo63⟩ := Kd.R_slice HO248.out
                (first | subst eo63 | (injection eo63 with f1_ f2_ f3_; have f4_ := f1_.symm; have f5_ := f3_.symm; clear f1_ f2_ f3_; subst f4_; subst f5_))
                refine norm_ (a' := ?_) ?_ ?_
                rotate_left
                ·simp only [putAll, Act.put, List.setIfInBounds_toArray, List.set_cons_zero, List.set_cons_succ]
                 rfl
                refine oN 11 55 (fB 17 32767) HT_.out fun K hK => ?_
                refine Kd.R_append_rows_step (Kd.int .i64) (w0 := w) w.heap.size (by rfl) (.tmp 48) (.tmp 54) 54 3 (.int .i64 0) 8 rfl Try.underlying54 info3 rfl (by decide) (by omega) v243 y242 y246 _ _ _ (fun k_ => some k_ ≠ (.slice Ao14 x5_1.length co14 : Value).ownBlock ∧ some k_ ≠ (.slice Ao63 y246.length co63 : Value).ownBlock) (fun _ => False) rfl rfl ?aO ?aR (fun _ _ h => h) (fun _ h => h.elim) ?aF ?aB ?aS ?aL ?_
                (case aR => repeat (first | exact (Kd.R_reads' HO248.out).2.2 | (with_reducible refine Kd.C_alloc ?_ _) | (with_reducible refine Kd.C_drewN ?_ _) | (with_reducible refine Kd.C_drew ?_)))
                (case aB => exact (zL1 HB.out GE201.out))
                (case aF => exact (fun k_ hk => ⟨Kd.fresh' (Kd.R_lt (zR HO_5.out)) k_ hk, Kd.fresh' (Kd.R_lt (zR HO248.out)) k_ hk⟩))
                (case aO => exact (zRm HO244.out (fun _ hk => ⟨hk.2, hk.1⟩)))
                (case aS => exact (below_size (zL1 HB.out GE201.out)))
                (case aL => have := LMc48.out; omega)
                intro v250 w62 ho hb hg hat
                have HS0_ := cell_grown hg (hHeld.1) (by first | (rw [add_block]; exact ((Kd.R_apart' HO_6.out (Kd.R_typed HO244.out) (by decide)).1 _ rfl).2) | (show some (Addr.add _ _).block ≠ _; rw [add_block]; exact ((Kd.R_apart' HO_6.out (Kd.R_typed HO244.out) (by decide)).1 _ rfl).2) | exact ((Kd.R_apart' HO_6.out (Kd.R_typed HO244.out) (by decide)).1 _ rfl).2)
                have HS1_ := cell_grown hg (hHeld.2.1) (by first | (rw [add_block]; exact ((Kd.R_apart' HO_6.out (Kd.R_typed HO244.out) (by decide)).1 _ rfl).2) | (show some (Addr.add _ _).block ≠ _; rw [add_block]; exact ((Kd.R_apart' HO_6.out (Kd.R_typed HO244.out) (by decide)).1 _ rfl).2) | exact ((Kd.R_apart' HO_6.out (Kd.R_typed HO244.out) (by decide)).1 _ rfl).2)
                have HS2_ := cell_grown hg (hHeld.2.2) (by first | (rw [add_block]; exact ((Kd.R_apart' HO_6.out (Kd.R_typed HO244.out) (by decide)).1 _ rfl).2) | (show some (Addr.add _ _).block ≠ _; rw [add_block]; exact ((Kd.R_apart' HO_6.out (Kd.R_typed HO244.out) (by decide)).1 _ rfl).2) | exact ((Kd.R_apart' HO_6.out (Kd.R_typed HO244.out) (by decide)).1 _ rfl).2)
                rw [← Ny249.out] at ho
                replace HO_6 := aM (Kd.R_over' (zR HO_6.out) (Kd.R_typed (zR HO244.out)) (by decide) hg); replace BK201 := aM (blk_grown (g := gb201) (o := .cells #[.int .i64 a0_0, .slice A0_1 l0_1.length c0_1, .slice A0_2 l0_2.length c0_2, .slice A0_3 l0_3.length c0_3] 25 (0, 0)) (zB BK201.out) hg (Kd.R_ne HO244.out BK201.out (by decide))); replace HO248 := aM (Kd.R_after (ok := (fun k_ => some k_ ≠ (.slice Ao14 x5_1.length co14 : Value).ownBlock)) (zRm HO248.out (fun _ hk => ⟨hk.2, hk.1⟩)) hg hat); replace HB := aM hb; replace HR241 := aM ((show Kd.C (Kd.int .i64) w62 Ao14 y238.length y238 from by rw [Ny238.out]; exact Kd.C_take (m := (x8_2 : Int).toNat) ((Kd.R_reads' (Kd.R_after (ok := (fun k_ => some k_ ≠ (.slice Ao63 y246.length co63 : Value).ownBlock)) (zRm HO_5.out (fun _ hk => ⟨hk.2, hk.1⟩)) hg hat)).2.2) KL54.out)); replace HR255 := aM ((show Kd.C (Kd.int .i64) w62 A55 y252.length y252 from by rw [Ny252.out, KA55.out]; exact Kd.C_drop (m := (x8_2 : Int).toNat) (c := co14) ((Kd.R_reads' (Kd.R_after (ok := (fun k_ => some k_ ≠ (.slice Ao63 y246.length co63 : Value).ownBlock)) (zRm HO_5.out (fun _ hk => ⟨hk.2, hk.1⟩)) hg hat)).2.2) KL55.out ((Kd.R_reads' (Kd.R_after (ok := (fun k_ => some k_ ≠ (.slice Ao63 y246.length co63 : Value).ownBlock)) (zRm HO_5.out (fun _ hk => ⟨hk.2, hk.1⟩)) hg hat)).2.1))); replace HO_5 := aM (Kd.R_after (ok := (fun k_ => some k_ ≠ (.slice Ao63 y246.length co63 : Value).ownBlock)) (zRm HO_5.out (fun _ hk => ⟨hk.2, hk.1⟩)) hg hat); have HO251 := aM (ho); clear HO244
                clear ho hb hg hat
                refine hK.out _ _ ⟨HS0_, HS1_, HS2_⟩ fun hHeld => ?_; clear hK K
                refine nZ 55 ?_
                refine oN 15 59 (fB 17 65535) HT_.out fun K hK => ?_
                refine Kd.R_append_rows_step (Kd.int .i64) (w0 := w) w.heap.size (by rfl) (.tmp 55) (.tmp 58) 54 3 (.int .i64 0) 8 rfl Try.underlying54 info3 rfl (by decide) (by omega) v250 y249 y252 _ _ _ (fun k_ => some k_ ≠ (.slice Ao14 x5_1.length co14 : Value).ownBlock ∧ some k_ ≠ (.slice Ao63 y246.length co63 : Value).ownBlock) (fun _ => False) rfl rfl ?aO ?aR (fun _ _ h => h) (fun _ h => h.elim) ?aF ?aB ?aS ?aL ?_
                (case aR => repeat (first | exact (zC HR255.out) | (with_reducible refine Kd.C_alloc ?_ _) | (with_reducible refine Kd.C_drewN ?_ _) | (with_reducible refine Kd.C_drew ?_)))
                (case aB => exact (zL1 HB.out GE201.out))
                (case aF => exact (fun k_ hk => ⟨Kd.fresh' (Kd.R_lt (zR HO_5.out)) k_ hk, Kd.fresh' (Kd.R_lt (zR HO248.out)) k_ hk⟩))
                (case aO => exact (zR HO251.out))
                (case aS => exact (below_size (zL1 HB.out GE201.out)))
                (case aL => have := LMc51.out; omega)
                intro v257 w64 ho hb hg hat
                have HS0_ := cell_grown hg (hHeld.1) (by first | (rw [add_block]; exact ((Kd.R_apart' HO_6.out (Kd.R_typed HO251.out) (by decide)).1 _ rfl).2) | (show some (Addr.add _ _).block ≠ _; rw [add_block]; exact ((Kd.R_apart' HO_6.out (Kd.R_typed HO251.out) (by decide)).1 _ rfl).2) | exact ((Kd.R_apart' HO_6.out (Kd.R_typed HO251.out) (by decide)).1 _ rfl).2)
                have HS1_ := cell_grown hg (hHeld.2.1) (by first | (rw [add_block]; exact ((Kd.R_apart' HO_6.out (Kd.R_typed HO251.out) (by decide)).1 _ rfl).2) | (show some (Addr.add _ _).block ≠ _; rw [add_block]; exact ((Kd.R_apart' HO_6.out (Kd.R_typed HO251.out) (by decide)).1 _ rfl).2) | exact ((Kd.R_apart' HO_6.out (Kd.R_typed HO251.out) (by decide)).1 _ rfl).2)
                have HS2_ := cell_grown hg (hHeld.2.2) (by first | (rw [add_block]; exact ((Kd.R_apart' HO_6.out (Kd.R_typed HO251.out) (by decide)).1 _ rfl).2) | (show some (Addr.add _ _).block ≠ _; rw [add_block]; exact ((Kd.R_apart' HO_6.out (Kd.R_typed HO251.out) (by decide)).1 _ rfl).2) | exact ((Kd.R_apart' HO_6.out (Kd.R_typed HO251.out) (by decide)).1 _ rfl).2)
                rw [← Ny256.out] at ho
                replace HO_6 := aM (Kd.R_over' (zR HO_6.out) (Kd.R_typed (zR HO251.out)) (by decide) hg); replace BK201 := aM (blk_grown (g := gb201) (o := .cells #[.int .i64 a0_0, .slice A0_1 l0_1.length c0_1, .slice A0_2 l0_2.length c0_2, .slice A0_3 l0_3.length c0_3] 25 (0, 0)) (zB BK201.out) hg (Kd.R_ne HO251.out BK201.out (by decide))); replace HO248 := aM (Kd.R_after (ok := (fun k_ => some k_ ≠ (.slice Ao14 x5_1.length co14 : Value).ownBlock)) (zR HO248.out) hg hat); replace HB := aM hb; replace HR241 := aM ((show Kd.C (Kd.int .i64) w64 Ao14 y238.length y238 from by rw [Ny238.out]; exact Kd.C_take (m := (x8_2 : Int).toNat) ((Kd.R_reads' (Kd.R_after (ok := (fun k_ => some k_ ≠ (.slice Ao63 y246.length co63 : Value).ownBlock)) (zR HO_5.out) hg hat)).2.2) KL54.out)); replace HR255 := aM ((show Kd.C (Kd.int .i64) w64 A55 y252.length y252 from by rw [Ny252.out, KA55.out]; exact Kd.C_drop (m := (x8_2 : Int).toNat) (c := co14) ((Kd.R_reads' (Kd.R_after (ok := (fun k_ => some k_ ≠ (.slice Ao63 y246.length co63 : Value).ownBlock)) (zR HO_5.out) hg hat)).2.2) KL55.out ((Kd.R_reads' (Kd.R_after (ok := (fun k_ => some k_ ≠ (.slice Ao63 y246.length co63 : Value).ownBlock)) (zR HO_5.out) hg hat)).2.1))); replace HO_5 := aM (Kd.R_after (ok := (fun k_ => some k_ ≠ (.slice Ao63 y246.length co63 : Value).ownBlock)) (zR HO_5.out) hg hat); have HO258 := aM (ho); clear HO251
                clear ho hb hg hat
                refine hK.out _ _ ⟨HS0_, HS1_, HS2_⟩ fun hHeld => ?_; clear hK K
                refine nZ 59 ?_
                refine pY 16 5 (fB 17 131071) HT_.out ?_
                refine done_ (done_of HT_.out (by kernel_rfl)) ?_
                try go_wp2
                go_roundg k2
                case measure => have := HK1.out; have := HK2.out; omega
                case rel => exact ⟨(y256), (wrap64 (x7_1 + 1)), zV, H', ⟨by have := HK1.out; have := HK2.out; omega⟩, ⟨zRm HO258.out (fun _ hk => trivial)⟩, ⟨zR HO_6.out⟩, ⟨zB BK201.out⟩, ⟨zL1 HB.out GE201.out⟩⟩
               ·rw [if_neg c51] at H
                exact absurd H (by simp)
              ·rw [if_neg c48] at H
               exact absurd H (by simp)
             ·rw [if_neg c47] at H
              exact absurd H (by simp)
            ·rw [if_neg c46] at H
             exact absurd H (by simp)
           ·rw [if_neg c45] at H
            exact absurd H (by simp)
          ·rw [if_neg c44] at H
           exact absurd H (by simp)
         ·rw [if_neg c43] at H
          exact absurd H (by simp)
    ·rw [if_neg c10] at H
     exact absurd H (by simp)
   ·rw [if_neg c9] at H
    have c9b0 := dF c9
    clear c9
    obtain rfl := Option.some.inj H
    obtain ⟨Ao65, co65, eo65⟩ := Kd.R_slice HO_6.out
    subst eo65
    go_wp2
    go_ret
    exact ⟨_, zW, zR HO_5.out, zL1 HB.out GE201.out⟩

end Go.Proofs.Ytggenhomnbnodaa.QFnTicks
