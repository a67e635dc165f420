/- What the Go functions that the law FnPols reaches answer: each as a Lean function, with its walk. Written by a program of this session. Conditions: those that each theorem names. -/
import Derived.Test.YtfhblnbicnmndaaDoorQFnPolsx0
import Derived.Test.YtfhblnbicnmndaaDoorQFnPolsx6
namespace Go.Proofs.YtfhblnbicnmndaaDoor.QFnPols
open Go.RowKit Go.Proofs.YtfhblnbicnmndaaDoorW.PrintWords Go.Proofs.YtfhblnbicnmndaaDoorW.PrintLast Go.Proofs.YtfhblnbicnmndaaDoorW.PrintMore
attribute [local go_sem] max2_int min2_int max_two min_two max_three min_three max_four min_four   -- for this text's walks alone
set_option linter.unusedVariables false
set_option linter.unusedSimpArgs false

open Go.Proofs.YtfhblnbicnmndaaDoorW.PrintWords renaming blk_drewN → bN, blk_drew → bD, blk_alloc → bA, blk_cell → bC, blk_below → bB, below_set → bS
/-! ### spec_NumText: function 48 -/
def spec_NumText.l0 : Nat → Int → ByteArray → Int → Option (ByteArray)
 | 0, _, _, _ => none
 | k + 1, x0, x3, x4 => if x4 = 0 then (if x0 < 0 then (if 1 + x3.size ≤ 9223372036854775807 then (some ((⟨#[45]⟩ : ByteArray) ++ x3)) else (none)) else (some x3)) else (if (Int.tmod x4 10) < 0 then ((some (([(wrap64 (48 + (wrap64 (-(Int.tmod x4 10))))) % 256] : List Int) : List Int)).bind fun y485 => (if (strOfNums y485).size + x3.size ≤ 9223372036854775807 then (spec_NumText.l0 k x0 ((strOfNums y485) ++ x3) (wrap64 (Int.tdiv x4 10))) else (none))) else ((some (([(wrap64 (48 + (Int.tmod x4 10))) % 256] : List Int) : List Int)).bind fun y488 => (if (strOfNums y488).size + x3.size ≤ 9223372036854775807 then (spec_NumText.l0 k x0 ((strOfNums y488) ++ x3) (wrap64 (Int.tdiv x4 10))) else (none))))
def spec_NumText.f (k : Nat) (a0 : Int) : Option (ByteArray) := if a0 = 0 then (some (⟨#[48]⟩ : ByteArray)) else (spec_NumText.l0 k a0 (⟨#[]⟩ : ByteArray) a0)
theorem spec_NumText.mono_l : ∀ k, (∀ y0 y1 y2, LeO (spec_NumText.l0 k y0 y1 y2) (spec_NumText.l0 (k + 1) y0 y1 y2))
 | 0 => fun _ _ _ r h => by simp [spec_NumText.l0] at h
 | k + 1 => by
  have ih0 := spec_NumText.mono_l k
  ·intro y0 y1 y2
   unfold spec_NumText.l0
   repeat' first
   | (with_reducible exact ih0 _ _ _)
   | (with_reducible exact LeO.refl _)
   | (with_reducible exact LeO.none _)
   | (with_reducible refine LeO.ite ?_ ?_)
   | (with_reducible refine LeO.bind ?_ (fun _ => ?_))
   | exact ih0 _ _ _
   | exact LeO.none _
   | refine LeO.ite ?_ ?_
   | refine LeO.bind ?_ (fun _ => ?_)
theorem spec_NumText.mono : ∀ a0 k, LeO (spec_NumText.f k a0) (spec_NumText.f (k + 1) a0) := by
 intro a0 k
 have ih0 := spec_NumText.mono_l k
 unfold spec_NumText.f
 repeat' first
   | (with_reducible exact ih0 _ _ _)
   | (with_reducible exact LeO.refl _)
   | (with_reducible exact LeO.none _)
   | (with_reducible refine LeO.ite ?_ ?_)
   | (with_reducible refine LeO.bind ?_ (fun _ => ?_))
   | exact ih0 _ _ _
   | exact LeO.none _
   | refine LeO.ite ?_ ?_
   | refine LeO.bind ?_ (fun _ => ?_)
set_option maxHeartbeats 8000000 in
set_option maxRecDepth 100000 in
theorem spec_NumText.calls (k : Nat) (a0 : Int) (r : ByteArray) (w : World) (h : spec_NumText.f k a0 = some r) :
  Calls Tryd.prog 48 #[.int .i64 a0] w fun e w' => e = .returned (.string r) ∧ Below w.heap.size w w' := by
 have HB := Aside0.mk (Below.refl w.heap.size w)
 unfold spec_NumText.f at h; have H := h
 clear h
 by_cases c2 : a0 = 0
 ·rw [if_pos c2] at H
  obtain ⟨c2b0, c2b1⟩ := zt c2
  clear c2
  obtain rfl := Option.some.inj H
  go_enter Tryd.func48, Tryd.ntmps48
  go_wp2
  go_ret
  exact ⟨zW, zL HB.out⟩
 ·rw [if_neg c2] at H
  obtain ⟨c2b0, c2b1⟩ := zf c2
  have H' := Aside0.mk H
  clear H
  go_enter Tryd.func48, Tryd.ntmps48
  go_wp2
  go_loopg [3, 4] k (fun kq v3 v4 w' => ∃ (x3_1 : ByteArray) (x4_1 : Int), v3 = .string x3_1 ∧ v4 = .int .i64 x4_1 ∧ Aside0 (spec_NumText.l0 kq a0 x3_1 x4_1 = some r) ∧ Aside0 (kq ≤ k) ∧ Aside0 (Below w.heap.size w w'))
  case atStart => exact ⟨((⟨#[]⟩ : ByteArray)), (a0), zV, zV, H', ⟨Nat.le_refl _⟩, ⟨zL HB.out⟩⟩
  case round =>
   clear H'
   try clear c2
   try clear c2b0
   try clear c2b1
   try clear p2
   obtain ⟨x3_1, x4_1, rfl, rfl, HA, HK1, HB⟩ := hrel
   cases gk with
   | zero => exact absurd HA.out (by simp [spec_NumText.l0])
   | succ k1 =>
    have H := HA.out
    clear HA
    simp only [spec_NumText.l0] at H
    by_cases c3 : x4_1 = 0
    ·rw [if_pos c3] at H
     obtain ⟨c3b0, c3b1⟩ := zt c3
     clear c3
     by_cases c4 : a0 < 0
     ·rw [if_pos c4] at H
      have c4b0 := decide_eq_true c4
      clear c4
      by_cases c5 : 1 + x3_1.size ≤ 9223372036854775807
      ·rw [if_pos c5] at H
       have c5b0 := eq_true c5
       have c5b1 := decide_eq_true c5
       have c5b2 := eq_false (Nat.not_lt.2 c5)
       obtain rfl := Option.some.inj H
       go_wp2
       go_ret
       exact ⟨zW, zL HB.out⟩
      ·rw [if_neg c5] at H
       exact absurd H (by simp)
     ·rw [if_neg c4] at H
      have c4b0 := decide_eq_false c4
      clear c4
      obtain rfl := Option.some.inj H
      go_wp2
      go_ret
      exact ⟨zW, zL HB.out⟩
    ·rw [if_neg c3] at H
     obtain ⟨c3b0, c3b1⟩ := zf c3
     by_cases c6 : (Int.tmod x4_1 10) < 0
     ·rw [if_pos c6] at H
      have c6b0 := decide_eq_true c6
      clear c6
      generalize hy485 : (([(wrap64 (48 + (wrap64 (-(Int.tmod x4_1 10))))) % 256] : List Int)) = y485 at H; (try rw [Option.bind_some] at H); have Ny485 := Aside0.mk hy485.symm; clear hy485
      by_cases c7 : (strOfNums y485).size + x3_1.size ≤ 9223372036854775807
      ·rw [if_pos c7] at H
       have c7b0 := eq_true c7
       have c7b1 := decide_eq_true c7
       have c7b2 := eq_false (Nat.not_lt.2 c7)
       have H' := Aside0.mk H
       clear H
       go_wp2_with (first | ((with_reducible refine gD 22 rfl ?_); refine Kd.R_lit (Kd.int .u8) _ 5 ?hg (N := 22) ?hd (xs := ([(wrap64 (48 + (wrap64 (-(Int.tmod x4_1 10))))) % 256] : List Int)) (inner := [.int .u8 ((wrap64 (48 + (wrap64 (-(Int.tmod x4_1 10))))) % 256)]) (ok := fun _ => True) (okp := fun _ => True) ?hr ?hp (fun _ hk => hk) trivial (Below.refl _ _) (Nat.le_refl _) (by simp) ?_; (case hd => rfl); (case hg => rfl); (case hr => first | (go_simp; done) | (go_simp; rfl)); (case hp => exact zhp); intro v486 w8 ho9 hb hg_ hnew_; clear hg_ hnew_; (first | rw [← Ny485.out] at ho9 | (simp only [Int.reduceToNat] at ho9; rw [← Ny485.out] at ho9)); have HO487 := Aside0.mk (Kd.R_lower ho9 (below_size (zL HB.out))); replace HB := zLB (zL HB.out) hb; clear hb ho9; have hcv10 := own_string (P := Tryd.prog) Tryd.underlying22 Tryd.underlying5 Tryd.underlying9 (Kd.own_of_R HO487.out)))
       go_roundg k1
       case measure => have := HK1.out; omega
       case rel => exact ⟨((strOfNums y485) ++ x3_1), (wrap64 (Int.tdiv x4_1 10)), zV, zV, H', ⟨by have := HK1.out; omega⟩, ⟨zL HB.out⟩⟩
      ·rw [if_neg c7] at H
       exact absurd H (by simp)
     ·rw [if_neg c6] at H
      have c6b0 := decide_eq_false c6
      clear c6
      generalize hy488 : (([(wrap64 (48 + (Int.tmod x4_1 10))) % 256] : List Int)) = y488 at H; (try rw [Option.bind_some] at H); have Ny488 := Aside0.mk hy488.symm; clear hy488
      by_cases c11 : (strOfNums y488).size + x3_1.size ≤ 9223372036854775807
      ·rw [if_pos c11] at H
       have c11b0 := eq_true c11
       have c11b1 := decide_eq_true c11
       have c11b2 := eq_false (Nat.not_lt.2 c11)
       have H' := Aside0.mk H
       clear H
       go_wp2_with (first | ((with_reducible refine gD 22 rfl ?_); refine Kd.R_lit (Kd.int .u8) _ 5 ?hg (N := 22) ?hd (xs := ([(wrap64 (48 + (Int.tmod x4_1 10))) % 256] : List Int)) (inner := [.int .u8 ((wrap64 (48 + (Int.tmod x4_1 10))) % 256)]) (ok := fun _ => True) (okp := fun _ => True) ?hr ?hp (fun _ hk => hk) trivial (Below.refl _ _) (Nat.le_refl _) (by simp) ?_; (case hd => rfl); (case hg => rfl); (case hr => first | (go_simp; done) | (go_simp; rfl)); (case hp => exact zhp); intro v489 w12 ho13 hb hg_ hnew_; clear hg_ hnew_; (first | rw [← Ny488.out] at ho13 | (simp only [Int.reduceToNat] at ho13; rw [← Ny488.out] at ho13)); have HO490 := Aside0.mk (Kd.R_lower ho13 (below_size (zL HB.out))); replace HB := zLB (zL HB.out) hb; clear hb ho13; have hcv14 := own_string (P := Tryd.prog) Tryd.underlying22 Tryd.underlying5 Tryd.underlying9 (Kd.own_of_R HO490.out)))
       go_roundg k1
       case measure => have := HK1.out; omega
       case rel => exact ⟨((strOfNums y488) ++ x3_1), (wrap64 (Int.tdiv x4_1 10)), zV, zV, H', ⟨by have := HK1.out; omega⟩, ⟨zL HB.out⟩⟩
      ·rw [if_neg c11] at H
       exact absurd H (by simp)

open Go.Proofs.YtfhblnbicnmndaaDoorW.PrintWords renaming blk_drewN → bN, blk_drew → bD, blk_alloc → bA, blk_cell → bC, blk_below → bB, below_set → bS
/-! ### spec_l5Text: function 33 -/
mutual
def spec_l5Text.j0 : Nat → ByteArray → Int → Int → ByteArray → ByteArray → List (S26) → Option (ByteArray)
 | 0, _, _, _, _, _, _ => none
 | k + 1, x3, x492000, x492001, x492002, x492003, x492004 => if x492000 = 9 then (spec_l5Text.j1 k (⟨#[110, 111, 116, 40]⟩ : ByteArray) x492000 x492001 x492002 x492003 x492004) else (spec_l5Text.j1 k x3 x492000 x492001 x492002 x492003 x492004)
def spec_l5Text.j1 : Nat → ByteArray → Int → Int → ByteArray → ByteArray → List (S26) → Option (ByteArray)
 | 0, _, _, _, _, _, _ => none
 | k + 1, x3, x492000, x492001, x492002, x492003, x492004 => spec_l5Text.l0 k x3 0 x492000 x492001 x492002 x492003 x492004
def spec_l5Text.l0 : Nat → ByteArray → Int → Int → Int → ByteArray → ByteArray → List (S26) → Option (ByteArray)
 | 0, _, _, _, _, _, _, _ => none
 | k + 1, x3, x4, x492000, x492001, x492002, x492003, x492004 => if x4 < (x492004.length : Int) then (if x4 > 0 then (if x3.size + 2 ≤ 9223372036854775807 then (if 0 ≤ x4 then ((spec_l5Text.f k ((rd_T26 x492004 x4).f0) ((rd_T26 x492004 x4).f1) ((rd_T26 x492004 x4).f2) ((rd_T26 x492004 x4).f3) ((rd_T26 x492004 x4).f4)).bind fun t495 => (if (x3 ++ (⟨#[44, 32]⟩ : ByteArray)).size + t495.size ≤ 9223372036854775807 then (spec_l5Text.l0 k ((x3 ++ (⟨#[44, 32]⟩ : ByteArray)) ++ t495) (wrap64 (x4 + 1)) x492000 x492001 x492002 x492003 x492004) else (none))) else (none)) else (none)) else (if 0 ≤ x4 then ((spec_l5Text.f k ((rd_T26 x492004 x4).f0) ((rd_T26 x492004 x4).f1) ((rd_T26 x492004 x4).f2) ((rd_T26 x492004 x4).f3) ((rd_T26 x492004 x4).f4)).bind fun t497 => (if x3.size + t497.size ≤ 9223372036854775807 then (spec_l5Text.l0 k (x3 ++ t497) (wrap64 (x4 + 1)) x492000 x492001 x492002 x492003 x492004) else (none))) else (none))) else (if x3.size + 1 ≤ 9223372036854775807 then (some (x3 ++ (⟨#[41]⟩ : ByteArray))) else (none))
def spec_l5Text.f : Nat → Int → Int → ByteArray → ByteArray → List (S26) → Option (ByteArray)
 | 0, _, _, _, _, _ => none
 | k + 1, a0_0, a0_1, a0_2, a0_3, l0_4 => if a0_0 = 1 then (some (⟨#[97, 108, 108]⟩ : ByteArray)) else (if a0_0 = 2 then (some (⟨#[101, 114, 114]⟩ : ByteArray)) else (if a0_0 = 3 then ((spec_NumText.f k a0_1).bind fun t492 => (if 5 + t492.size ≤ 9223372036854775807 then (some ((⟨#[108, 111, 110, 103, 32]⟩ : ByteArray) ++ t492)) else (none))) else (if a0_0 = 4 then (if 5 + a0_2.size ≤ 9223372036854775807 then (if ((⟨#[116, 101, 120, 116, 32]⟩ : ByteArray) ++ a0_2).size + 2 ≤ 9223372036854775807 then (if (((⟨#[116, 101, 120, 116, 32]⟩ : ByteArray) ++ a0_2) ++ (⟨#[32, 34]⟩ : ByteArray)).size + a0_3.size ≤ 9223372036854775807 then (if ((((⟨#[116, 101, 120, 116, 32]⟩ : ByteArray) ++ a0_2) ++ (⟨#[32, 34]⟩ : ByteArray)) ++ a0_3).size + 1 ≤ 9223372036854775807 then (some (((((⟨#[116, 101, 120, 116, 32]⟩ : ByteArray) ++ a0_2) ++ (⟨#[32, 34]⟩ : ByteArray)) ++ a0_3) ++ (⟨#[34]⟩ : ByteArray))) else (none)) else (none)) else (none)) else (none)) else (if a0_0 = 5 then (if 4 + a0_2.size ≤ 9223372036854775807 then (if ((⟨#[110, 117, 109, 32]⟩ : ByteArray) ++ a0_2).size + 1 ≤ 9223372036854775807 then ((spec_NumText.f k a0_1).bind fun t493 => (if (((⟨#[110, 117, 109, 32]⟩ : ByteArray) ++ a0_2) ++ (⟨#[32]⟩ : ByteArray)).size + t493.size ≤ 9223372036854775807 then (some ((((⟨#[110, 117, 109, 32]⟩ : ByteArray) ++ a0_2) ++ (⟨#[32]⟩ : ByteArray)) ++ t493)) else (none))) else (none)) else (none)) else (if a0_0 = 6 then (some (⟨#[114, 97, 116, 101]⟩ : ByteArray)) else (if a0_0 = 8 then (spec_l5Text.j0 k (⟨#[111, 114, 40]⟩ : ByteArray) a0_0 a0_1 a0_2 a0_3 l0_4) else (spec_l5Text.j0 k (⟨#[97, 110, 100, 40]⟩ : ByteArray) a0_0 a0_1 a0_2 a0_3 l0_4)))))))
end
theorem spec_l5Text.mono_l : ∀ k, (∀ y0 y1 y2 y3 y4, LeO (spec_l5Text.f k y0 y1 y2 y3 y4) (spec_l5Text.f (k + 1) y0 y1 y2 y3 y4)) ∧ (∀ y0 y1 y2 y3 y4 y5, LeO (spec_l5Text.j0 k y0 y1 y2 y3 y4 y5) (spec_l5Text.j0 (k + 1) y0 y1 y2 y3 y4 y5)) ∧ (∀ y0 y1 y2 y3 y4 y5, LeO (spec_l5Text.j1 k y0 y1 y2 y3 y4 y5) (spec_l5Text.j1 (k + 1) y0 y1 y2 y3 y4 y5)) ∧ (∀ y0 y1 y2 y3 y4 y5 y6, LeO (spec_l5Text.l0 k y0 y1 y2 y3 y4 y5 y6) (spec_l5Text.l0 (k + 1) y0 y1 y2 y3 y4 y5 y6))
 | 0 => ⟨fun _ _ _ _ _ r h => by simp [spec_l5Text.f] at h, fun _ _ _ _ _ _ r h => by simp [spec_l5Text.j0] at h, fun _ _ _ _ _ _ r h => by simp [spec_l5Text.j1] at h, fun _ _ _ _ _ _ _ r h => by simp [spec_l5Text.l0] at h⟩
 | k + 1 => by
  obtain ⟨ih0, ih1, ih2, ih3⟩ := spec_l5Text.mono_l k
  refine ⟨?_, ?_, ?_, ?_⟩
  ·intro y0 y1 y2 y3 y4
   unfold spec_l5Text.f
   repeat' first
   | (with_reducible exact ih0 _ _ _ _ _)
   | (with_reducible exact ih1 _ _ _ _ _ _)
   | (with_reducible exact ih2 _ _ _ _ _ _)
   | (with_reducible exact ih3 _ _ _ _ _ _ _)
   | (with_reducible apply spec_NumText.mono)
   | (with_reducible exact LeO.refl _)
   | (with_reducible exact LeO.none _)
   | (with_reducible refine LeO.ite ?_ ?_)
   | (with_reducible refine LeO.bind ?_ (fun _ => ?_))
   | exact ih0 _ _ _ _ _
   | exact ih1 _ _ _ _ _ _
   | exact ih2 _ _ _ _ _ _
   | exact ih3 _ _ _ _ _ _ _
   | apply spec_NumText.mono
   | exact LeO.none _
   | refine LeO.ite ?_ ?_
   | refine LeO.bind ?_ (fun _ => ?_)
  ·intro y0 y1 y2 y3 y4 y5
   unfold spec_l5Text.j0
   repeat' first
   | (with_reducible exact ih0 _ _ _ _ _)
   | (with_reducible exact ih1 _ _ _ _ _ _)
   | (with_reducible exact ih2 _ _ _ _ _ _)
   | (with_reducible exact ih3 _ _ _ _ _ _ _)
   | (with_reducible apply spec_NumText.mono)
   | (with_reducible exact LeO.refl _)
   | (with_reducible exact LeO.none _)
   | (with_reducible refine LeO.ite ?_ ?_)
   | (with_reducible refine LeO.bind ?_ (fun _ => ?_))
   | exact ih0 _ _ _ _ _
   | exact ih1 _ _ _ _ _ _
   | exact ih2 _ _ _ _ _ _
   | exact ih3 _ _ _ _ _ _ _
   | apply spec_NumText.mono
   | exact LeO.none _
   | refine LeO.ite ?_ ?_
   | refine LeO.bind ?_ (fun _ => ?_)
  ·intro y0 y1 y2 y3 y4 y5
   unfold spec_l5Text.j1
   repeat' first
   | (with_reducible exact ih0 _ _ _ _ _)
   | (with_reducible exact ih1 _ _ _ _ _ _)
   | (with_reducible exact ih2 _ _ _ _ _ _)
   | (with_reducible exact ih3 _ _ _ _ _ _ _)
   | (with_reducible apply spec_NumText.mono)
   | (with_reducible exact LeO.refl _)
   | (with_reducible exact LeO.none _)
   | (with_reducible refine LeO.ite ?_ ?_)
   | (with_reducible refine LeO.bind ?_ (fun _ => ?_))
   | exact ih0 _ _ _ _ _
   | exact ih1 _ _ _ _ _ _
   | exact ih2 _ _ _ _ _ _
   | exact ih3 _ _ _ _ _ _ _
   | apply spec_NumText.mono
   | exact LeO.none _
   | refine LeO.ite ?_ ?_
   | refine LeO.bind ?_ (fun _ => ?_)
  ·intro y0 y1 y2 y3 y4 y5 y6
   unfold spec_l5Text.l0
   repeat' first
   | (with_reducible exact ih0 _ _ _ _ _)
   | (with_reducible exact ih1 _ _ _ _ _ _)
   | (with_reducible exact ih2 _ _ _ _ _ _)
   | (with_reducible exact ih3 _ _ _ _ _ _ _)
   | (with_reducible apply spec_NumText.mono)
   | (with_reducible exact LeO.refl _)
   | (with_reducible exact LeO.none _)
   | (with_reducible refine LeO.ite ?_ ?_)
   | (with_reducible refine LeO.bind ?_ (fun _ => ?_))
   | exact ih0 _ _ _ _ _
   | exact ih1 _ _ _ _ _ _
   | exact ih2 _ _ _ _ _ _
   | exact ih3 _ _ _ _ _ _ _
   | apply spec_NumText.mono
   | exact LeO.none _
   | refine LeO.ite ?_ ?_
   | refine LeO.bind ?_ (fun _ => ?_)
theorem spec_l5Text.mono : ∀ a0 a1 a2 a3 a4 k, LeO (spec_l5Text.f k a0 a1 a2 a3 a4) (spec_l5Text.f (k + 1) a0 a1 a2 a3 a4) := by
 intro a0 a1 a2 a3 a4 k
 obtain ⟨ih0, ih1, ih2, ih3⟩ := spec_l5Text.mono_l k
 exact ih0 a0 a1 a2 a3 a4
def spec_l5Text.T11 : Bool × List (List Nat × List Nat) := (true, [([], []), ([0], [0]), ([1], [1]), ([2], [2]), ([], []), ([4], [4]), ([5], [5]), ([3, 6], [3, 6]), ([7, 6, 0, 1, 2, 3, 4, 5, 6, 7], [7])])
def spec_l5Text.B11 : List Nat := [0, 1, 3, 7, 0, 16, 48, 127, 255]
theorem spec_l5Text.tab11 : rtab .any (opsOf Tryd.f33 11) = spec_l5Text.T11 := by kernel_rfl
theorem spec_l5Text.bits11 : waitsOk spec_l5Text.T11.2 spec_l5Text.B11 = true := by kernel_rfl
set_option maxHeartbeats 8000000 in
set_option maxRecDepth 100000 in
theorem spec_l5Text.calls (k : Nat) : ∀ (a0_0 : Int) (a0_1 : Int) (a0_2 : ByteArray) (a0_3 : ByteArray) (A0_4 : Option Addr) (c0_4 : Nat) (l0_4 : List (S26)) (r : ByteArray) (w : World) (hr0_4 : Kd.C k26 w A0_4 l0_4.length l0_4) (hc0_4 : l0_4.length ≤ c0_4) (h : spec_l5Text.f k a0_0 a0_1 a0_2 a0_3 l0_4 = some r),
  Calls Tryd.prog 33 #[.agg #[.int .i64 a0_0, .int .i64 a0_1, .string a0_2, .string a0_3, .slice A0_4 l0_4.length c0_4]] w fun e w' => e = .returned (.string r) ∧ Below w.heap.size w w' := by
 induction k using Nat.strongRecOn with
 | _ k ih =>
 intro a0_0 a0_1 a0_2 a0_3 A0_4 c0_4 l0_4 r w hr0_4 hc0_4 h
 cases k with
 | zero => exact absurd h (by simp [spec_l5Text.f])
 | succ k =>
 simp only [spec_l5Text.f] at h
 have hu26 := Tryd.underlying26
 have HR0_4 := Aside0.mk hr0_4
 have HC0_4 := Aside0.mk hc0_4
 clear hr0_4 hc0_4
 have HB := Aside0.mk (Below.refl w.heap.size w)
 have H : (if a0_0 = 1 then (some (⟨#[97, 108, 108]⟩ : ByteArray)) else (if a0_0 = 2 then (some (⟨#[101, 114, 114]⟩ : ByteArray)) else (if a0_0 = 3 then ((spec_NumText.f k a0_1).bind fun t492 => (if 5 + t492.size ≤ 9223372036854775807 then (some ((⟨#[108, 111, 110, 103, 32]⟩ : ByteArray) ++ t492)) else (none))) else (if a0_0 = 4 then (if 5 + a0_2.size ≤ 9223372036854775807 then (if ((⟨#[116, 101, 120, 116, 32]⟩ : ByteArray) ++ a0_2).size + 2 ≤ 9223372036854775807 then (if (((⟨#[116, 101, 120, 116, 32]⟩ : ByteArray) ++ a0_2) ++ (⟨#[32, 34]⟩ : ByteArray)).size + a0_3.size ≤ 9223372036854775807 then (if ((((⟨#[116, 101, 120, 116, 32]⟩ : ByteArray) ++ a0_2) ++ (⟨#[32, 34]⟩ : ByteArray)) ++ a0_3).size + 1 ≤ 9223372036854775807 then (some (((((⟨#[116, 101, 120, 116, 32]⟩ : ByteArray) ++ a0_2) ++ (⟨#[32, 34]⟩ : ByteArray)) ++ a0_3) ++ (⟨#[34]⟩ : ByteArray))) else (none)) else (none)) else (none)) else (none)) else (if a0_0 = 5 then (if 4 + a0_2.size ≤ 9223372036854775807 then (if ((⟨#[110, 117, 109, 32]⟩ : ByteArray) ++ a0_2).size + 1 ≤ 9223372036854775807 then ((spec_NumText.f k a0_1).bind fun t493 => (if (((⟨#[110, 117, 109, 32]⟩ : ByteArray) ++ a0_2) ++ (⟨#[32]⟩ : ByteArray)).size + t493.size ≤ 9223372036854775807 then (some ((((⟨#[110, 117, 109, 32]⟩ : ByteArray) ++ a0_2) ++ (⟨#[32]⟩ : ByteArray)) ++ t493)) else (none))) else (none)) else (none)) else (if a0_0 = 6 then (some (⟨#[114, 97, 116, 101]⟩ : ByteArray)) else (if a0_0 = 8 then (spec_l5Text.j0 k (⟨#[111, 114, 40]⟩ : ByteArray) a0_0 a0_1 a0_2 a0_3 l0_4) else (spec_l5Text.j0 k (⟨#[97, 110, 100, 40]⟩ : ByteArray) a0_0 a0_1 a0_2 a0_3 l0_4)))))))) = some r := h
 clear h
 by_cases c2 : a0_0 = 1
 ·rw [if_pos c2] at H
  obtain ⟨c2b0, c2b1⟩ := zt c2
  clear c2
  obtain rfl := Option.some.inj H
  go_enter Tryd.func33, Tryd.ntmps33
  go_wp2_with (first | ((with_reducible refine gD 1 rfl ?_); refine bE 1 #[.int .i64 a0_0, .int .i64 a0_1, .string a0_2, .string a0_3, .slice A0_4 l0_4.length c0_4] 26 ?_; intro gb491 hg w3 hbox hb; have BK491 := Aside0.mk hbox; have GW491 := Aside0.mk (zg (zL HB.out) hg : w.heap.size ≤ gb491); have GE491 := GW491; replace HB := zLB (zL HB.out) hb; clear hb hbox hg; have hcz4 := zc5 BK491.out; have hfz4 := zf5 BK491.out))
  go_ret
  exact ⟨zW, zL1 HB.out GE491.out⟩
 ·rw [if_neg c2] at H
  obtain ⟨c2b0, c2b1⟩ := zf c2
  by_cases c5 : a0_0 = 2
  ·rw [if_pos c5] at H
   obtain ⟨c5b0, c5b1⟩ := zt c5
   clear c5
   obtain rfl := Option.some.inj H
   go_enter Tryd.func33, Tryd.ntmps33
   go_wp2_with (first | ((with_reducible refine gD 1 rfl ?_); refine bE 1 #[.int .i64 a0_0, .int .i64 a0_1, .string a0_2, .string a0_3, .slice A0_4 l0_4.length c0_4] 26 ?_; intro gb491 hg w6 hbox hb; have BK491 := Aside0.mk hbox; have GW491 := Aside0.mk (zg (zL HB.out) hg : w.heap.size ≤ gb491); have GE491 := GW491; replace HB := zLB (zL HB.out) hb; clear hb hbox hg; have hcz7 := zc5 BK491.out; have hfz7 := zf5 BK491.out))
   go_ret
   exact ⟨zW, zL1 HB.out GE491.out⟩
  ·rw [if_neg c5] at H
   obtain ⟨c5b0, c5b1⟩ := zf c5
   by_cases c8 : a0_0 = 3
   ·rw [if_pos c8] at H
    obtain ⟨c8b0, c8b1⟩ := zt c8
    clear c8
    obtain ⟨t492, A9, H⟩ := zO H; try dsimp only at H
    by_cases c10 : 5 + t492.size ≤ 9223372036854775807
    ·rw [if_pos c10] at H
     have c10b0 := eq_true c10
     have c10b1 := decide_eq_true c10
     have c10b2 := eq_false (Nat.not_lt.2 c10)
     obtain rfl := Option.some.inj H
     go_enter Tryd.func33, Tryd.ntmps33
     go_wp2_with (first | ((with_reducible refine gD 1 rfl ?_); refine bE 1 #[.int .i64 a0_0, .int .i64 a0_1, .string a0_2, .string a0_3, .slice A0_4 l0_4.length c0_4] 26 ?_; intro gb491 hg w11 hbox hb; have BK491 := Aside0.mk hbox; have GW491 := Aside0.mk (zg (zL HB.out) hg : w.heap.size ≤ gb491); have GE491 := GW491; replace HB := zLB (zL HB.out) hb; clear hb hbox hg; have hcz12 := zc5 BK491.out; have hfz12 := zf5 BK491.out) | ((with_reducible refine gC 48 rfl ?_); refine gL 15 Tryd.func48 #[.int .i64 a0_1] ?_; (with_reducible refine (spec_NumText.calls k a0_1 t492 _ A9.out).mono ?_); rintro e w13 ⟨rfl, hb⟩; refine ⟨_, rfl, ?_⟩; replace BK491 := zBB BK491 hb; replace HB := zLB (zL1 HB.out GE491.out) hb; clear hb))
     go_ret
     exact ⟨zW, zL1 HB.out GE491.out⟩
    ·rw [if_neg c10] at H
     exact absurd H (by simp)
   ·rw [if_neg c8] at H
    obtain ⟨c8b0, c8b1⟩ := zf c8
    by_cases c14 : a0_0 = 4
    ·rw [if_pos c14] at H
     obtain ⟨c14b0, c14b1⟩ := zt c14
     clear c14
     by_cases c15 : 5 + a0_2.size ≤ 9223372036854775807
     ·rw [if_pos c15] at H
      have c15b0 := eq_true c15
      have c15b1 := decide_eq_true c15
      have c15b2 := eq_false (Nat.not_lt.2 c15)
      by_cases c16 : ((⟨#[116, 101, 120, 116, 32]⟩ : ByteArray) ++ a0_2).size + 2 ≤ 9223372036854775807
      ·rw [if_pos c16] at H
       have c16b0 := eq_true c16
       have c16b1 := decide_eq_true c16
       have c16b2 := eq_false (Nat.not_lt.2 c16)
       try have c16b3 : (9223372036854775807 < 5 + a0_2.size + 2) = False := eq_false (by have z_ := c16; simp only [ByteArray.size_append] at z_; have e0_ : ((⟨#[116, 101, 120, 116, 32]⟩ : ByteArray)).size = 5 := rfl; omega)
       by_cases c17 : (((⟨#[116, 101, 120, 116, 32]⟩ : ByteArray) ++ a0_2) ++ (⟨#[32, 34]⟩ : ByteArray)).size + a0_3.size ≤ 9223372036854775807
       ·rw [if_pos c17] at H
        have c17b0 := eq_true c17
        have c17b1 := decide_eq_true c17
        have c17b2 := eq_false (Nat.not_lt.2 c17)
        try have c17b3 : (9223372036854775807 < 5 + a0_2.size + 2 + a0_3.size) = False := eq_false (by have z_ := c17; simp only [ByteArray.size_append] at z_; have e0_ : ((⟨#[116, 101, 120, 116, 32]⟩ : ByteArray)).size = 5 := rfl; have e1_ : ((⟨#[32, 34]⟩ : ByteArray)).size = 2 := rfl; omega)
        by_cases c18 : ((((⟨#[116, 101, 120, 116, 32]⟩ : ByteArray) ++ a0_2) ++ (⟨#[32, 34]⟩ : ByteArray)) ++ a0_3).size + 1 ≤ 9223372036854775807
        ·rw [if_pos c18] at H
         have c18b0 := eq_true c18
         have c18b1 := decide_eq_true c18
         have c18b2 := eq_false (Nat.not_lt.2 c18)
         try have c18b3 : (9223372036854775807 < 5 + a0_2.size + 2 + a0_3.size + 1) = False := eq_false (by have z_ := c18; simp only [ByteArray.size_append] at z_; have e0_ : ((⟨#[116, 101, 120, 116, 32]⟩ : ByteArray)).size = 5 := rfl; have e1_ : ((⟨#[32, 34]⟩ : ByteArray)).size = 2 := rfl; omega)
         obtain rfl := Option.some.inj H
         go_enter Tryd.func33, Tryd.ntmps33
         go_wp2_with (first | ((with_reducible refine gD 1 rfl ?_); refine bE 1 #[.int .i64 a0_0, .int .i64 a0_1, .string a0_2, .string a0_3, .slice A0_4 l0_4.length c0_4] 26 ?_; intro gb491 hg w19 hbox hb; have BK491 := Aside0.mk hbox; have GW491 := Aside0.mk (zg (zL HB.out) hg : w.heap.size ≤ gb491); have GE491 := GW491; replace HB := zLB (zL HB.out) hb; clear hb hbox hg; have hcz20 := zc5 BK491.out; have hfz20 := zf5 BK491.out))
         go_ret
         exact ⟨zW, zL1 HB.out GE491.out⟩
        ·rw [if_neg c18] at H
         exact absurd H (by simp)
       ·rw [if_neg c17] at H
        exact absurd H (by simp)
      ·rw [if_neg c16] at H
       exact absurd H (by simp)
     ·rw [if_neg c15] at H
      exact absurd H (by simp)
    ·rw [if_neg c14] at H
     obtain ⟨c14b0, c14b1⟩ := zf c14
     by_cases c21 : a0_0 = 5
     ·rw [if_pos c21] at H
      obtain ⟨c21b0, c21b1⟩ := zt c21
      clear c21
      by_cases c22 : 4 + a0_2.size ≤ 9223372036854775807
      ·rw [if_pos c22] at H
       have c22b0 := eq_true c22
       have c22b1 := decide_eq_true c22
       have c22b2 := eq_false (Nat.not_lt.2 c22)
       by_cases c23 : ((⟨#[110, 117, 109, 32]⟩ : ByteArray) ++ a0_2).size + 1 ≤ 9223372036854775807
       ·rw [if_pos c23] at H
        have c23b0 := eq_true c23
        have c23b1 := decide_eq_true c23
        have c23b2 := eq_false (Nat.not_lt.2 c23)
        try have c23b3 : (9223372036854775807 < 4 + a0_2.size + 1) = False := eq_false (by have z_ := c23; simp only [ByteArray.size_append] at z_; have e0_ : ((⟨#[110, 117, 109, 32]⟩ : ByteArray)).size = 4 := rfl; omega)
        obtain ⟨t493, A24, H⟩ := zO H; try dsimp only at H
        by_cases c25 : (((⟨#[110, 117, 109, 32]⟩ : ByteArray) ++ a0_2) ++ (⟨#[32]⟩ : ByteArray)).size + t493.size ≤ 9223372036854775807
        ·rw [if_pos c25] at H
         have c25b0 := eq_true c25
         have c25b1 := decide_eq_true c25
         have c25b2 := eq_false (Nat.not_lt.2 c25)
         try have c25b3 : (9223372036854775807 < 4 + a0_2.size + 1 + t493.size) = False := eq_false (by have z_ := c25; simp only [ByteArray.size_append] at z_; have e0_ : ((⟨#[110, 117, 109, 32]⟩ : ByteArray)).size = 4 := rfl; have e1_ : ((⟨#[32]⟩ : ByteArray)).size = 1 := rfl; omega)
         obtain rfl := Option.some.inj H
         go_enter Tryd.func33, Tryd.ntmps33
         try go_wp2_with (first | ((with_reducible refine gD 1 rfl ?_); refine bE 1 #[.int .i64 a0_0, .int .i64 a0_1, .string a0_2, .string a0_3, .slice A0_4 l0_4.length c0_4] 26 ?_; intro gb491 hg w26 hbox hb; have BK491 := Aside0.mk hbox; have GW491 := Aside0.mk (zg (zL HB.out) hg : w.heap.size ≤ gb491); have GE491 := GW491; replace HB := zLB (zL HB.out) hb; clear hb hbox hg; have hcz27 := zc5 BK491.out; have hfz27 := zf5 BK491.out))
         replace BK491 := zBD BK491; replace HB := zLD HB
         refine start_ (n := 9) (S := fun w' => zs5 w' gb491 (.int .i64 a0_0) (.int .i64 a0_1) (.string a0_2) (.string a0_3) (.slice A0_4 l0_4.length c0_4)) (ds := []) (fB 9 0) (by kernel_rfl) rfl rfl (zc5 BK491.out) (fun hHeld => ?_); refine with_tabW spec_l5Text.tab11 spec_l5Text.bits11 (fun HT_ HW_ => ?_)
         generalize w26.drew = w28 at BK491 HB hHeld ⊢
         refine pY 0 29 (fB 9 1) HT_.out ?_
         refine pY 4 33 (fB 9 17) HT_.out ?_
         refine tY 1 30 (fB 9 19) HT_.out HW_.out hHeld ?_
         refine pY 2 31 (fB 9 23) HT_.out ?_
         refine pY 3 32 (fB 9 31) HT_.out ?_
         refine tY 5 34 (fB 9 63) HT_.out HW_.out hHeld ?_
         refine oN 6 35 (fB 9 127) HT_.out fun K hK => ?_
         refine gS Tryd.func48 #[.int .i64 a0_1] ?_
         with_reducible refine (spec_NumText.calls k a0_1 t493 _ A24.out).mono ?_
         rintro e w29 ⟨rfl, hb⟩
         refine ⟨_, rfl, ?_⟩
         replace BK491 := zBB BK491 hb; replace HB := zLB (zL1 HB.out GE491.out) hb
         clear hb
         refine hK.out _ _ (zc5 BK491.out) fun hHeld => ?_; clear hK K
         refine nZ 35 ?_
         refine pY 7 36 (fB 9 255) HT_.out ?_
         refine pY 8 2 (fB 9 511) HT_.out ?_
         refine done_ (done_of HT_.out (by kernel_rfl)) ?_
         try go_wp2
         go_ret
         exact ⟨zW, zL1 HB.out GE491.out⟩
        ·rw [if_neg c25] at H
         exact absurd H (by simp)
       ·rw [if_neg c23] at H
        exact absurd H (by simp)
      ·rw [if_neg c22] at H
       exact absurd H (by simp)
     ·rw [if_neg c21] at H
      obtain ⟨c21b0, c21b1⟩ := zf c21
      by_cases c30 : a0_0 = 6
      ·rw [if_pos c30] at H
       obtain ⟨c30b0, c30b1⟩ := zt c30
       clear c30
       obtain rfl := Option.some.inj H
       go_enter Tryd.func33, Tryd.ntmps33
       go_wp2_with (first | ((with_reducible refine gD 1 rfl ?_); refine bE 1 #[.int .i64 a0_0, .int .i64 a0_1, .string a0_2, .string a0_3, .slice A0_4 l0_4.length c0_4] 26 ?_; intro gb491 hg w31 hbox hb; have BK491 := Aside0.mk hbox; have GW491 := Aside0.mk (zg (zL HB.out) hg : w.heap.size ≤ gb491); have GE491 := GW491; replace HB := zLB (zL HB.out) hb; clear hb hbox hg; have hcz32 := zc5 BK491.out; have hfz32 := zf5 BK491.out))
       go_ret
       exact ⟨zW, zL1 HB.out GE491.out⟩
      ·rw [if_neg c30] at H
       obtain ⟨c30b0, c30b1⟩ := zf c30
       have HC33 := Aside0.mk H
       clear H
       go_enter Tryd.func33, Tryd.ntmps33
       go_upto_if 41 with (first | ((with_reducible refine gD 1 rfl ?_); refine bE 1 #[.int .i64 a0_0, .int .i64 a0_1, .string a0_2, .string a0_3, .slice A0_4 l0_4.length c0_4] 26 ?_; intro gb491 hg w34 hbox hb; have BK491 := Aside0.mk hbox; have GW491 := Aside0.mk (zg (zL HB.out) hg : w.heap.size ≤ gb491); have GE491 := GW491; replace HB := zLB (zL HB.out) hb; clear hb hbox hg; have hcz35 := zc5 BK491.out; have hfz35 := zf5 BK491.out))
       (try simp only [Act.put, List.setIfInBounds_toArray, List.set_cons_zero, List.set_cons_succ])
       go_cut [3] (fun v3 wc => ∃ (kq : Nat) (x3_32 : ByteArray), v3 = .string x3_32 ∧ Aside0 (spec_l5Text.j0 kq x3_32 a0_0 a0_1 a0_2 a0_3 l0_4 = some r) ∧ Aside0 (kq ≤ k) ∧ Aside0 (wc.heap[gb491]? = some (.cells #[.int .i64 a0_0, .int .i64 a0_1, .string a0_2, .string a0_3, (.slice A0_4 l0_4.length c0_4)] 26 (0, 0))) ∧ Aside0 (Below w.heap.size w wc))
       case first =>
        have H := HC33.out
        clear HC33
        by_cases c36 : a0_0 = 8
        ·rw [if_pos c36] at H
         obtain ⟨c36b0, c36b1⟩ := zt c36
         clear c36
         (first | rw [c36b0] | (simp only [i64_w, i32_w]; rw [c36b0]) | skip)
         have H' := Aside0.mk H
         clear H
         go_wp2
         go_meet
         case rel => exact ⟨_, ((⟨#[111, 114, 40]⟩ : ByteArray)), zV, H', ⟨by first | omega | exact Nat.le_refl _⟩, ⟨zB BK491.out⟩, ⟨zL1 HB.out GE491.out⟩⟩
        ·rw [if_neg c36] at H
         obtain ⟨c36b0, c36b1⟩ := zf c36
         (first | rw [c36b0] | (simp only [i64_w, i32_w]; rw [c36b0]) | skip)
         have H' := Aside0.mk H
         clear H
         go_wp2
         go_meet
         case rel => exact ⟨_, ((⟨#[97, 110, 100, 40]⟩ : ByteArray)), zV, H', ⟨by first | omega | exact Nat.le_refl _⟩, ⟨zB BK491.out⟩, ⟨zL1 HB.out GE491.out⟩⟩
       case rest =>
        clear HC33
        try clear c1
        try clear c2
        try clear c2b0
        try clear c2b1
        try clear p2
        try clear c3
        try clear c4
        try clear c5
        try clear c5b0
        try clear c5b1
        try clear c8
        try clear c8b0
        try clear c8b1
        try clear c10
        try clear c10b0
        try clear c10b1
        try clear c10b2
        try clear c14
        try clear c14b0
        try clear c14b1
        try clear c15
        try clear c15b0
        try clear c15b1
        try clear c15b2
        try clear c16
        try clear c16b0
        try clear c16b1
        try clear c16b2
        try clear c17
        try clear c17b0
        try clear c17b1
        try clear c17b2
        try clear c18
        try clear c18b0
        try clear c18b1
        try clear c18b2
        try clear c21
        try clear c21b0
        try clear c21b1
        try clear c22
        try clear c22b0
        try clear c22b1
        try clear c22b2
        try clear c23
        try clear c23b0
        try clear c23b1
        try clear c23b2
        try clear c25
        try clear c25b0
        try clear c25b1
        try clear c25b2
        try clear c30
        try clear c30b0
        try clear c30b1
        try clear c33
        try clear c36
        try clear c36b0
        try clear c36b1
        try clear hcz12; try clear hcz20; try clear hcz27; try clear hcz32; try clear hcz35; try clear hcz4; try clear hcz7; try clear hfz12; try clear hfz20; try clear hfz27; try clear hfz32; try clear hfz35; try clear hfz4; try clear hfz7
        obtain ⟨kq, x3_32, rfl, HA, HJ32, BK491, HB⟩ := hcut
        cases kq with
        | zero => exact absurd HA.out (by simp [spec_l5Text.j0])
        | succ kj32 =>
         have H := HA.out
         clear HA
         simp only [spec_l5Text.j0] at H
         have HC37 := Aside0.mk H
         clear H
         have hcz38 := zc5 BK491.out
         have hfz38 := zf5 BK491.out
         go_upto_if 44 with (fail)
         go_cut [3] (fun v3 wc => ∃ (kq : Nat) (x3_36 : ByteArray), v3 = .string x3_36 ∧ Aside0 (spec_l5Text.j1 kq x3_36 a0_0 a0_1 a0_2 a0_3 l0_4 = some r) ∧ Aside0 (kq ≤ kj32) ∧ Aside0 (wc.heap[gb491]? = some (.cells #[.int .i64 a0_0, .int .i64 a0_1, .string a0_2, .string a0_3, (.slice A0_4 l0_4.length c0_4)] 26 (0, 0))) ∧ Aside0 (Below w.heap.size w wc))
         case first =>
          have H := HC37.out
          clear HC37
          by_cases c39 : a0_0 = 9
          ·rw [if_pos c39] at H
           obtain ⟨c39b0, c39b1⟩ := zt c39
           clear c39
           (first | rw [c39b0] | (simp only [i64_w, i32_w]; rw [c39b0]) | skip)
           have H' := Aside0.mk H
           clear H
           go_wp2
           go_meet
           case rel => exact ⟨_, ((⟨#[110, 111, 116, 40]⟩ : ByteArray)), zV, H', ⟨by have := HJ32.out; first | omega | exact Nat.le_refl _⟩, ⟨zB BK491.out⟩, ⟨zL1 HB.out GE491.out⟩⟩
          ·rw [if_neg c39] at H
           obtain ⟨c39b0, c39b1⟩ := zf c39
           (first | rw [c39b0] | (simp only [i64_w, i32_w]; rw [c39b0]) | skip)
           have H' := Aside0.mk H
           clear H
           go_wp2
           go_meet
           case rel => exact ⟨_, (x3_32), zV, H', ⟨by have := HJ32.out; first | omega | exact Nat.le_refl _⟩, ⟨zB BK491.out⟩, ⟨zL1 HB.out GE491.out⟩⟩
         case rest =>
          clear HC37
          try clear c1
          try clear c2
          try clear c2b0
          try clear c2b1
          try clear p2
          try clear c3
          try clear c4
          try clear c5
          try clear c5b0
          try clear c5b1
          try clear c8
          try clear c8b0
          try clear c8b1
          try clear c10
          try clear c10b0
          try clear c10b1
          try clear c10b2
          try clear c14
          try clear c14b0
          try clear c14b1
          try clear c15
          try clear c15b0
          try clear c15b1
          try clear c15b2
          try clear c16
          try clear c16b0
          try clear c16b1
          try clear c16b2
          try clear c17
          try clear c17b0
          try clear c17b1
          try clear c17b2
          try clear c18
          try clear c18b0
          try clear c18b1
          try clear c18b2
          try clear c21
          try clear c21b0
          try clear c21b1
          try clear c22
          try clear c22b0
          try clear c22b1
          try clear c22b2
          try clear c23
          try clear c23b0
          try clear c23b1
          try clear c23b2
          try clear c25
          try clear c25b0
          try clear c25b1
          try clear c25b2
          try clear c30
          try clear c30b0
          try clear c30b1
          try clear c33
          try clear c36
          try clear c36b0
          try clear c36b1
          try clear c39
          try clear c39b0
          try clear c39b1
          try clear hcz12; try clear hcz20; try clear hcz27; try clear hcz32; try clear hcz35; try clear hcz38; try clear hcz4; try clear hcz7; try clear hfz12; try clear hfz20; try clear hfz27; try clear hfz32; try clear hfz35; try clear hfz38; try clear hfz4; try clear hfz7
          try clear p2
          obtain ⟨kq, x3_36, rfl, HA, HJ36, BK491, HB⟩ := hcut
          cases kq with
          | zero => exact absurd HA.out (by simp [spec_l5Text.j1])
          | succ kj36 =>
           have H := HA.out
           clear HA
           simp only [spec_l5Text.j1] at H
           have H' := Aside0.mk H
           clear H
           go_wp2
           go_loopg [3, 4] kj36 (fun kq v3 v4 w' => ∃ (x3_3 : ByteArray) (x4_3 : Int), v3 = .string x3_3 ∧ v4 = .int .i64 x4_3 ∧ Aside0 (spec_l5Text.l0 kq x3_3 x4_3 a0_0 a0_1 a0_2 a0_3 l0_4 = some r) ∧ Aside0 (kq ≤ kj36) ∧ Aside0 (w'.heap[gb491]? = some (.cells #[.int .i64 a0_0, .int .i64 a0_1, .string a0_2, .string a0_3, (.slice A0_4 l0_4.length c0_4)] 26 (0, 0))) ∧ Aside0 (Below w.heap.size w w'))
           case atStart => exact ⟨(x3_36), (0), zV, zV, H', ⟨Nat.le_refl _⟩, ⟨zB BK491.out⟩, ⟨zL1 HB.out GE491.out⟩⟩
           case round =>
            clear H'
            try clear c1
            try clear c2
            try clear c2b0
            try clear c2b1
            try clear p2
            try clear c3
            try clear c4
            try clear c5
            try clear c5b0
            try clear c5b1
            try clear c8
            try clear c8b0
            try clear c8b1
            try clear c10
            try clear c10b0
            try clear c10b1
            try clear c10b2
            try clear c14
            try clear c14b0
            try clear c14b1
            try clear c15
            try clear c15b0
            try clear c15b1
            try clear c15b2
            try clear c16
            try clear c16b0
            try clear c16b1
            try clear c16b2
            try clear c17
            try clear c17b0
            try clear c17b1
            try clear c17b2
            try clear c18
            try clear c18b0
            try clear c18b1
            try clear c18b2
            try clear c21
            try clear c21b0
            try clear c21b1
            try clear c22
            try clear c22b0
            try clear c22b1
            try clear c22b2
            try clear c23
            try clear c23b0
            try clear c23b1
            try clear c23b2
            try clear c25
            try clear c25b0
            try clear c25b1
            try clear c25b2
            try clear c30
            try clear c30b0
            try clear c30b1
            try clear c33
            try clear c36
            try clear c36b0
            try clear c36b1
            try clear c39
            try clear c39b0
            try clear c39b1
            try clear hcz12; try clear hcz20; try clear hcz27; try clear hcz32; try clear hcz35; try clear hcz38; try clear hcz4; try clear hcz7; try clear hfz12; try clear hfz20; try clear hfz27; try clear hfz32; try clear hfz35; try clear hfz38; try clear hfz4; try clear hfz7
            try clear p2
            try clear BK491
            obtain ⟨x3_3, x4_3, rfl, rfl, HA, HK3, BK491, HB⟩ := hrel
            cases gk with
            | zero => exact absurd HA.out (by simp [spec_l5Text.l0])
            | succ k3 =>
             have H := HA.out
             clear HA
             simp only [spec_l5Text.l0] at H
             by_cases c40 : x4_3 < (l0_4.length : Int)
             ·rw [if_pos c40] at H
              have c40b0 := decide_eq_true c40
              clear c40
              by_cases c41 : x4_3 > 0
              ·rw [if_pos c41] at H
               have c41b0 := decide_eq_true c41
               clear c41
               by_cases c42 : x3_3.size + 2 ≤ 9223372036854775807
               ·rw [if_pos c42] at H
                have c42b0 := eq_true c42
                have c42b1 := decide_eq_true c42
                have c42b2 := eq_false (Nat.not_lt.2 c42)
                by_cases c43 : 0 ≤ x4_3
                ·rw [if_pos c43] at H
                 have c43b0 := decide_eq_true c43
                 clear c43
                 obtain ⟨t495, A44, H⟩ := zO H; try dsimp only at H
                 by_cases c45 : (x3_3 ++ (⟨#[44, 32]⟩ : ByteArray)).size + t495.size ≤ 9223372036854775807
                 ·rw [if_pos c45] at H
                  have c45b0 := eq_true c45
                  have c45b1 := decide_eq_true c45
                  have c45b2 := eq_false (Nat.not_lt.2 c45)
                  try have c45b3 : (9223372036854775807 < x3_3.size + 2 + t495.size) = False := eq_false (by have z_ := c45; simp only [ByteArray.size_append] at z_; have e0_ : ((⟨#[44, 32]⟩ : ByteArray)).size = 2 := rfl; omega)
                  have H' := Aside0.mk H
                  clear H
                  have hcz46 := zc5 BK491.out
                  have hfz46 := zf5 BK491.out
                  have p494 : 0 ≤ (x4_3 : Int) := zD
                  have q494 : x4_3 < (l0_4.length : Int) := zD
                  obtain ⟨ad494, A494_4, c494_4, e494, hx494_0, hx494_1, hx494_2, hx494_3, hx494_4, hl494_4, hi494_4⟩ := at_T26 HR0_4.out x4_3 p494 q494
                  cases e494
                  replace hx494_0 := zh HB.out hx494_0
                  replace hx494_1 := zh HB.out hx494_1
                  replace hx494_2 := zh HB.out hx494_2
                  replace hx494_3 := zh HB.out hx494_3
                  replace hx494_4 := zh HB.out hx494_4
                  have HR494_4 := Aside0.mk hi494_4
                  have HC494_4 := Aside0.mk hl494_4
                  clear hi494_4 hl494_4
                  replace p494 := eq_true p494
                  replace q494 := eq_true q494
                  go_wp2_with (first | ((with_reducible refine gC 33 rfl ?_); refine gL 62 Tryd.func33 #[.agg #[.int .i64 ((rd_T26 l0_4 x4_3).f0), .int .i64 ((rd_T26 l0_4 x4_3).f1), .string ((rd_T26 l0_4 x4_3).f2), .string ((rd_T26 l0_4 x4_3).f3), .slice A494_4 ((rd_T26 l0_4 x4_3).f4).length c494_4]] ?_; (with_reducible refine (ih k3 (by have := HJ32.out; have := HJ36.out; have := HK3.out; omega) ((rd_T26 l0_4 x4_3).f0) ((rd_T26 l0_4 x4_3).f1) ((rd_T26 l0_4 x4_3).f2) ((rd_T26 l0_4 x4_3).f3) _ _ ((rd_T26 l0_4 x4_3).f4) t495 _ ?side1 ?side2 A44.out).mono ?_); (case side1 => exact zC (Kd.C_below HR494_4.out HB.out)); (case side2 => exact HC494_4.out); rintro e w47 ⟨rfl, hb⟩; refine ⟨_, rfl, ?_⟩; replace BK491 := zBB BK491 hb; replace HB := zLB (zL1 HB.out GE491.out) hb; clear hb))
                  go_roundg k3
                  case measure => have := HJ32.out; have := HJ36.out; have := HK3.out; omega
                  case rel => exact ⟨((x3_3 ++ (⟨#[44, 32]⟩ : ByteArray)) ++ t495), (wrap64 (x4_3 + 1)), zV, zV, H', ⟨by have := HJ32.out; have := HJ36.out; have := HK3.out; omega⟩, ⟨zB BK491.out⟩, ⟨zL1 HB.out GE491.out⟩⟩
                 ·rw [if_neg c45] at H
                  exact absurd H (by simp)
                ·rw [if_neg c43] at H
                 exact absurd H (by simp)
               ·rw [if_neg c42] at H
                exact absurd H (by simp)
              ·rw [if_neg c41] at H
               have c41b0 := decide_eq_false c41
               clear c41
               by_cases c48 : 0 ≤ x4_3
               ·rw [if_pos c48] at H
                have c48b0 := decide_eq_true c48
                clear c48
                obtain ⟨t497, A49, H⟩ := zO H; try dsimp only at H
                by_cases c50 : x3_3.size + t497.size ≤ 9223372036854775807
                ·rw [if_pos c50] at H
                 have c50b0 := eq_true c50
                 have c50b1 := decide_eq_true c50
                 have c50b2 := eq_false (Nat.not_lt.2 c50)
                 have H' := Aside0.mk H
                 clear H
                 have hcz51 := zc5 BK491.out
                 have hfz51 := zf5 BK491.out
                 have p496 : 0 ≤ (x4_3 : Int) := zD
                 have q496 : x4_3 < (l0_4.length : Int) := zD
                 obtain ⟨ad496, A496_4, c496_4, e496, hx496_0, hx496_1, hx496_2, hx496_3, hx496_4, hl496_4, hi496_4⟩ := at_T26 HR0_4.out x4_3 p496 q496
                 cases e496
                 replace hx496_0 := zh HB.out hx496_0
                 replace hx496_1 := zh HB.out hx496_1
                 replace hx496_2 := zh HB.out hx496_2
                 replace hx496_3 := zh HB.out hx496_3
                 replace hx496_4 := zh HB.out hx496_4
                 have HR496_4 := Aside0.mk hi496_4
                 have HC496_4 := Aside0.mk hl496_4
                 clear hi496_4 hl496_4
                 replace p496 := eq_true p496
                 replace q496 := eq_true q496
                 go_wp2_with (first | ((with_reducible refine gC 33 rfl ?_); refine gL 62 Tryd.func33 #[.agg #[.int .i64 ((rd_T26 l0_4 x4_3).f0), .int .i64 ((rd_T26 l0_4 x4_3).f1), .string ((rd_T26 l0_4 x4_3).f2), .string ((rd_T26 l0_4 x4_3).f3), .slice A496_4 ((rd_T26 l0_4 x4_3).f4).length c496_4]] ?_; (with_reducible refine (ih k3 (by have := HJ32.out; have := HJ36.out; have := HK3.out; omega) ((rd_T26 l0_4 x4_3).f0) ((rd_T26 l0_4 x4_3).f1) ((rd_T26 l0_4 x4_3).f2) ((rd_T26 l0_4 x4_3).f3) _ _ ((rd_T26 l0_4 x4_3).f4) t497 _ ?side1 ?side2 A49.out).mono ?_); (case side1 => exact zC (Kd.C_below HR496_4.out HB.out)); (case side2 => exact HC496_4.out); rintro e w52 ⟨rfl, hb⟩; refine ⟨_, rfl, ?_⟩; replace BK491 := zBB BK491 hb; replace HB := zLB (zL1 HB.out GE491.out) hb; clear hb))
                 go_roundg k3
                 case measure => have := HJ32.out; have := HJ36.out; have := HK3.out; omega
                 case rel => exact ⟨(x3_3 ++ t497), (wrap64 (x4_3 + 1)), zV, zV, H', ⟨by have := HJ32.out; have := HJ36.out; have := HK3.out; omega⟩, ⟨zB BK491.out⟩, ⟨zL1 HB.out GE491.out⟩⟩
                ·rw [if_neg c50] at H
                 exact absurd H (by simp)
               ·rw [if_neg c48] at H
                exact absurd H (by simp)
             ·rw [if_neg c40] at H
              have c40b0 := decide_eq_false c40
              clear c40
              by_cases c53 : x3_3.size + 1 ≤ 9223372036854775807
              ·rw [if_pos c53] at H
               have c53b0 := eq_true c53
               have c53b1 := decide_eq_true c53
               have c53b2 := eq_false (Nat.not_lt.2 c53)
               obtain rfl := Option.some.inj H
               have hcz54 := zc5 BK491.out
               have hfz54 := zf5 BK491.out
               go_wp2
               go_ret
               exact ⟨zW, zL1 HB.out GE491.out⟩
              ·rw [if_neg c53] at H
               exact absurd H (by simp)

open Go.Proofs.YtfhblnbicnmndaaDoorW.PrintWords renaming blk_drewN → bN, blk_drew → bD, blk_alloc → bA, blk_cell → bC, blk_below → bB, below_set → bS
/-! ### spec_PolText: function 20 -/
def spec_PolText.f (k : Nat) (a0_0 : Int) (a0_1 : Int) (a0_2 : ByteArray) (a0_3 : ByteArray) (l0_4 : List (S26)) : Option (ByteArray) := (spec_PolOk.f k a0_0 a0_1 a0_2 a0_3 l0_4).bind fun t499 => (if t499 = true then ((spec_l5Text.f k a0_0 a0_1 a0_2 a0_3 l0_4).bind fun t500 => (some t500)) else (some (⟨#[]⟩ : ByteArray)))
theorem spec_PolText.mono : ∀ a0 a1 a2 a3 a4 k, LeO (spec_PolText.f k a0 a1 a2 a3 a4) (spec_PolText.f (k + 1) a0 a1 a2 a3 a4) := by
 intro a0 a1 a2 a3 a4 k
 unfold spec_PolText.f
 repeat' first
   | (with_reducible apply spec_PolOk.mono)
   | (with_reducible apply spec_l5Text.mono)
   | (with_reducible exact LeO.refl _)
   | (with_reducible exact LeO.none _)
   | (with_reducible refine LeO.ite ?_ ?_)
   | (with_reducible refine LeO.bind ?_ (fun _ => ?_))
   | apply spec_PolOk.mono
   | apply spec_l5Text.mono
   | exact LeO.none _
   | refine LeO.ite ?_ ?_
   | refine LeO.bind ?_ (fun _ => ?_)
set_option maxHeartbeats 8000000 in
set_option maxRecDepth 100000 in
theorem spec_PolText.calls (k : Nat) (a0_0 : Int) (a0_1 : Int) (a0_2 : ByteArray) (a0_3 : ByteArray) (A0_4 : Option Addr) (c0_4 : Nat) (l0_4 : List (S26)) (r : ByteArray) (w : World) (hr0_4 : Kd.C k26 w A0_4 l0_4.length l0_4) (hc0_4 : l0_4.length ≤ c0_4) (h : spec_PolText.f k a0_0 a0_1 a0_2 a0_3 l0_4 = some r) :
  Calls Tryd.prog 20 #[.agg #[.int .i64 a0_0, .int .i64 a0_1, .string a0_2, .string a0_3, .slice A0_4 l0_4.length c0_4]] w fun e w' => e = .returned (.string r) ∧ Below w.heap.size w w' := by
 have hu26 := Tryd.underlying26
 have HR0_4 := Aside0.mk hr0_4
 have HC0_4 := Aside0.mk hc0_4
 clear hr0_4 hc0_4
 have HB := Aside0.mk (Below.refl w.heap.size w)
 unfold spec_PolText.f at h; have H := h
 clear h
 obtain ⟨t499, A2, H⟩ := zO H; try dsimp only at H
 by_cases c3 : t499 = true
 ·subst c3
  rw [if_pos rfl] at H
  obtain ⟨t500, A4, H⟩ := zO H; try dsimp only at H
  obtain rfl := Option.some.inj H
  go_enter Tryd.func20, Tryd.ntmps20
  go_wp2_with (first | ((with_reducible refine gD 1 rfl ?_); refine bE 1 #[.int .i64 a0_0, .int .i64 a0_1, .string a0_2, .string a0_3, .slice A0_4 l0_4.length c0_4] 26 ?_; intro gb498 hg w5 hbox hb; have BK498 := Aside0.mk hbox; have GW498 := Aside0.mk (zg (zL HB.out) hg : w.heap.size ≤ gb498); have GE498 := GW498; replace HB := zLB (zL HB.out) hb; clear hb hbox hg; have hcz6 := zc5 BK498.out; have hfz6 := zf5 BK498.out) | ((with_reducible refine gC 12 rfl ?_); refine gL 4 Tryd.func12 #[.agg #[.int .i64 a0_0, .int .i64 a0_1, .string a0_2, .string a0_3, .slice A0_4 l0_4.length c0_4]] ?_; (with_reducible refine (spec_PolOk.calls k a0_0 a0_1 a0_2 a0_3 _ _ l0_4 true _ ?side1 ?side2 A2.out).mono ?_); (case side1 => exact zC (Kd.C_below HR0_4.out HB.out)); (case side2 => exact HC0_4.out); rintro e w7 ⟨rfl, hb⟩; refine ⟨_, rfl, ?_⟩; replace BK498 := zBB BK498 hb; replace HB := zLB (zL1 HB.out GE498.out) hb; clear hb; have hcz8 := zc5 BK498.out; have hfz8 := zf5 BK498.out) | ((with_reducible refine gC 33 rfl ?_); refine gL 7 Tryd.func33 #[.agg #[.int .i64 a0_0, .int .i64 a0_1, .string a0_2, .string a0_3, .slice A0_4 l0_4.length c0_4]] ?_; (with_reducible refine (spec_l5Text.calls k a0_0 a0_1 a0_2 a0_3 _ _ l0_4 t500 _ ?side1 ?side2 A4.out).mono ?_); (case side1 => exact zC (Kd.C_below HR0_4.out HB.out)); (case side2 => exact HC0_4.out); rintro e w9 ⟨rfl, hb⟩; refine ⟨_, rfl, ?_⟩; replace BK498 := zBB BK498 hb; replace HB := zLB (zL1 HB.out GE498.out) hb; clear hb))
  go_ret
  exact ⟨zW, zL1 HB.out GE498.out⟩
 ·obtain rfl := Bool.eq_false_iff.mpr c3
  rw [if_neg zn] at H
  obtain rfl := Option.some.inj H
  go_enter Tryd.func20, Tryd.ntmps20
  go_wp2_with (first | ((with_reducible refine gD 1 rfl ?_); refine bE 1 #[.int .i64 a0_0, .int .i64 a0_1, .string a0_2, .string a0_3, .slice A0_4 l0_4.length c0_4] 26 ?_; intro gb498 hg w10 hbox hb; have BK498 := Aside0.mk hbox; have GW498 := Aside0.mk (zg (zL HB.out) hg : w.heap.size ≤ gb498); have GE498 := GW498; replace HB := zLB (zL HB.out) hb; clear hb hbox hg; have hcz11 := zc5 BK498.out; have hfz11 := zf5 BK498.out) | ((with_reducible refine gC 12 rfl ?_); refine gL 4 Tryd.func12 #[.agg #[.int .i64 a0_0, .int .i64 a0_1, .string a0_2, .string a0_3, .slice A0_4 l0_4.length c0_4]] ?_; (with_reducible refine (spec_PolOk.calls k a0_0 a0_1 a0_2 a0_3 _ _ l0_4 false _ ?side1 ?side2 A2.out).mono ?_); (case side1 => exact zC (Kd.C_below HR0_4.out HB.out)); (case side2 => exact HC0_4.out); rintro e w12 ⟨rfl, hb⟩; refine ⟨_, rfl, ?_⟩; replace BK498 := zBB BK498 hb; replace HB := zLB (zL1 HB.out GE498.out) hb; clear hb))
  go_ret
  exact ⟨zW, zL1 HB.out GE498.out⟩

end Go.Proofs.YtfhblnbicnmndaaDoor.QFnPols
