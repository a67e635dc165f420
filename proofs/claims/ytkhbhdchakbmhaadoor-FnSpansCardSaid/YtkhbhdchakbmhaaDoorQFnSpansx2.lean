/- What the Go functions that the law FnSpans reaches answer: each as a Lean function, with its walk. Written by a program of this session. Conditions: those that each theorem names. -/
import Derived.Test.YtkhbhdchakbmhaaDoorQFnSpansx0
namespace Go.Proofs.YtkhbhdchakbmhaaDoor.QFnSpans
open Go.RowKit Go.Proofs.YtkhbhdchakbmhaaDoorW.PrintWords Go.Proofs.YtkhbhdchakbmhaaDoorW.PrintLast Go.Proofs.YtkhbhdchakbmhaaDoorW.PrintMore
attribute [local go_sem] max2_int min2_int max_two min_two max_three min_three max_four min_four   -- for this text's walks alone
set_option linter.unusedVariables false
set_option linter.unusedSimpArgs false

open Go.Proofs.YtkhbhdchakbmhaaDoorW.PrintWords renaming blk_drewN → bN, blk_drew → bD, blk_alloc → bA, blk_cell → bC, blk_below → bB, below_set → bS
/-! ### spec_NumText: function 10 -/
def spec_NumText.l0 : Nat → Int → ByteArray → Int → Option (ByteArray)
 | 0, _, _, _ => none
 | k + 1, x0, x3, x4 => if x4 = 0 then (if x0 < 0 then (if 1 + x3.size ≤ 9223372036854775807 then (some ((⟨#[45]⟩ : ByteArray) ++ x3)) else (none)) else (some x3)) else (if (Int.tmod x4 10) < 0 then ((some (([(wrap64 (48 + (wrap64 (-(Int.tmod x4 10))))) % 256] : List Int) : List Int)).bind fun y101 => (if (strOfNums y101).size + x3.size ≤ 9223372036854775807 then (spec_NumText.l0 k x0 ((strOfNums y101) ++ x3) (wrap64 (Int.tdiv x4 10))) else (none))) else ((some (([(wrap64 (48 + (Int.tmod x4 10))) % 256] : List Int) : List Int)).bind fun y104 => (if (strOfNums y104).size + x3.size ≤ 9223372036854775807 then (spec_NumText.l0 k x0 ((strOfNums y104) ++ x3) (wrap64 (Int.tdiv x4 10))) else (none))))
def spec_NumText.f (k : Nat) (a0 : Int) : Option (ByteArray) := if a0 = 0 then (some (⟨#[48]⟩ : ByteArray)) else (spec_NumText.l0 k a0 (⟨#[]⟩ : ByteArray) a0)
theorem spec_NumText.mono_l : ∀ k, (∀ y0 y1 y2, LeO (spec_NumText.l0 k y0 y1 y2) (spec_NumText.l0 (k + 1) y0 y1 y2))
 | 0 => fun _ _ _ r h => by simp [spec_NumText.l0] at h
 | k + 1 => by
  have ih0 := spec_NumText.mono_l k
  ·intro y0 y1 y2
   unfold spec_NumText.l0
   repeat' first
   | (with_reducible exact ih0 _ _ _)
   | (with_reducible exact LeO.refl _)
   | (with_reducible exact LeO.none _)
   | (with_reducible refine LeO.ite ?_ ?_)
   | (with_reducible refine LeO.bind ?_ (fun _ => ?_))
   | exact ih0 _ _ _
   | exact LeO.none _
   | refine LeO.ite ?_ ?_
   | refine LeO.bind ?_ (fun _ => ?_)
theorem spec_NumText.mono : ∀ a0 k, LeO (spec_NumText.f k a0) (spec_NumText.f (k + 1) a0) := by
 intro a0 k
 have ih0 := spec_NumText.mono_l k
 unfold spec_NumText.f
 repeat' first
   | (with_reducible exact ih0 _ _ _)
   | (with_reducible exact LeO.refl _)
   | (with_reducible exact LeO.none _)
   | (with_reducible refine LeO.ite ?_ ?_)
   | (with_reducible refine LeO.bind ?_ (fun _ => ?_))
   | exact ih0 _ _ _
   | exact LeO.none _
   | refine LeO.ite ?_ ?_
   | refine LeO.bind ?_ (fun _ => ?_)
set_option maxHeartbeats 8000000 in
set_option maxRecDepth 100000 in
theorem spec_NumText.calls (k : Nat) (a0 : Int) (r : ByteArray) (w : World) (h : spec_NumText.f k a0 = some r) :
  Calls Tryd.prog 10 #[.int .i64 a0] w fun e w' => e = .returned (.string r) ∧ Below w.heap.size w w' := by
 have HB := Aside0.mk (Below.refl w.heap.size w)
 unfold spec_NumText.f at h; have H := h
 clear h
 by_cases c2 : a0 = 0
 ·rw [if_pos c2] at H
  obtain ⟨c2b0, c2b1⟩ := zt c2
  clear c2
  obtain rfl := Option.some.inj H
  go_enter Tryd.func10, Tryd.ntmps10
  go_wp2
  go_ret
  exact ⟨zW, zL HB.out⟩
 ·rw [if_neg c2] at H
  obtain ⟨c2b0, c2b1⟩ := zf c2
  have H' := Aside0.mk H
  clear H
  go_enter Tryd.func10, Tryd.ntmps10
  go_wp2
  go_loopg [3, 4] k (fun kq v3 v4 w' => ∃ (x3_1 : ByteArray) (x4_1 : Int), v3 = .string x3_1 ∧ v4 = .int .i64 x4_1 ∧ Aside0 (spec_NumText.l0 kq a0 x3_1 x4_1 = some r) ∧ Aside0 (kq ≤ k) ∧ Aside0 (Below w.heap.size w w'))
  case atStart => exact ⟨((⟨#[]⟩ : ByteArray)), (a0), zV, zV, H', ⟨Nat.le_refl _⟩, ⟨zL HB.out⟩⟩
  case round =>
   clear H'
   try clear c1
   try clear c2
   try clear c2b0
   try clear c2b1
   try clear p2
   obtain ⟨x3_1, x4_1, rfl, rfl, HA, HK1, HB⟩ := hrel
   cases gk with
   | zero => exact absurd HA.out (by simp [spec_NumText.l0])
   | succ k1 =>
    have H := HA.out
    clear HA
    simp only [spec_NumText.l0] at H
    by_cases c3 : x4_1 = 0
    ·rw [if_pos c3] at H
     obtain ⟨c3b0, c3b1⟩ := zt c3
     clear c3
     by_cases c4 : a0 < 0
     ·rw [if_pos c4] at H
      have c4b0 := decide_eq_true c4
      clear c4
      by_cases c5 : 1 + x3_1.size ≤ 9223372036854775807
      ·rw [if_pos c5] at H
       have c5b0 := eq_true c5
       have c5b1 := decide_eq_true c5
       have c5b2 := eq_false (Nat.not_lt.2 c5)
       obtain rfl := Option.some.inj H
       go_wp2
       go_ret
       exact ⟨zW, zL HB.out⟩
      ·rw [if_neg c5] at H
       exact absurd H (by simp)
     ·rw [if_neg c4] at H
      have c4b0 := decide_eq_false c4
      clear c4
      obtain rfl := Option.some.inj H
      go_wp2
      go_ret
      exact ⟨zW, zL HB.out⟩
    ·rw [if_neg c3] at H
     obtain ⟨c3b0, c3b1⟩ := zf c3
     by_cases c6 : (Int.tmod x4_1 10) < 0
     ·rw [if_pos c6] at H
      have c6b0 := decide_eq_true c6
      clear c6
      generalize hy101 : (([(wrap64 (48 + (wrap64 (-(Int.tmod x4_1 10))))) % 256] : List Int)) = y101 at H; (try rw [Option.bind_some] at H); have Ny101 := Aside0.mk hy101.symm; clear hy101
      by_cases c7 : (strOfNums y101).size + x3_1.size ≤ 9223372036854775807
      ·rw [if_pos c7] at H
       have c7b0 := eq_true c7
       have c7b1 := decide_eq_true c7
       have c7b2 := eq_false (Nat.not_lt.2 c7)
       have H' := Aside0.mk H
       clear H
       go_wp2_with (first | ((with_reducible refine gD 22 rfl ?_); refine Kd.R_lit (Kd.int .u8) _ 5 ?hg (N := 22) ?hd (xs := ([(wrap64 (48 + (wrap64 (-(Int.tmod x4_1 10))))) % 256] : List Int)) (inner := [.int .u8 ((wrap64 (48 + (wrap64 (-(Int.tmod x4_1 10))))) % 256)]) (ok := fun _ => True) (okp := fun _ => True) ?hr ?hp (fun _ hk => hk) trivial (Below.refl _ _) (Nat.le_refl _) (by simp) ?_; (case hd => rfl); (case hg => rfl); (case hr => first | (go_simp; done) | (go_simp; rfl)); (case hp => exact zhp); intro v102 w8 ho9 hb hg_ hnew_; clear hg_ hnew_; (first | rw [← Ny101.out] at ho9 | (simp only [Int.reduceToNat] at ho9; rw [← Ny101.out] at ho9)); have HO103 := Aside0.mk (Kd.R_lower ho9 (below_size (zL HB.out))); replace HB := zLB (zL HB.out) hb; clear hb ho9; have hcv10 := own_string (P := Tryd.prog) Tryd.underlying45 Tryd.underlying5 Tryd.underlying9 (Kd.own_of_R HO103.out)))
       go_roundg k1
       case measure => have := HK1.out; omega
       case rel => exact ⟨((strOfNums y101) ++ x3_1), (wrap64 (Int.tdiv x4_1 10)), zV, zV, H', ⟨by have := HK1.out; omega⟩, ⟨zL HB.out⟩⟩
      ·rw [if_neg c7] at H
       exact absurd H (by simp)
     ·rw [if_neg c6] at H
      have c6b0 := decide_eq_false c6
      clear c6
      generalize hy104 : (([(wrap64 (48 + (Int.tmod x4_1 10))) % 256] : List Int)) = y104 at H; (try rw [Option.bind_some] at H); have Ny104 := Aside0.mk hy104.symm; clear hy104
      by_cases c11 : (strOfNums y104).size + x3_1.size ≤ 9223372036854775807
      ·rw [if_pos c11] at H
       have c11b0 := eq_true c11
       have c11b1 := decide_eq_true c11
       have c11b2 := eq_false (Nat.not_lt.2 c11)
       have H' := Aside0.mk H
       clear H
       go_wp2_with (first | ((with_reducible refine gD 22 rfl ?_); refine Kd.R_lit (Kd.int .u8) _ 5 ?hg (N := 22) ?hd (xs := ([(wrap64 (48 + (Int.tmod x4_1 10))) % 256] : List Int)) (inner := [.int .u8 ((wrap64 (48 + (Int.tmod x4_1 10))) % 256)]) (ok := fun _ => True) (okp := fun _ => True) ?hr ?hp (fun _ hk => hk) trivial (Below.refl _ _) (Nat.le_refl _) (by simp) ?_; (case hd => rfl); (case hg => rfl); (case hr => first | (go_simp; done) | (go_simp; rfl)); (case hp => exact zhp); intro v105 w12 ho13 hb hg_ hnew_; clear hg_ hnew_; (first | rw [← Ny104.out] at ho13 | (simp only [Int.reduceToNat] at ho13; rw [← Ny104.out] at ho13)); have HO106 := Aside0.mk (Kd.R_lower ho13 (below_size (zL HB.out))); replace HB := zLB (zL HB.out) hb; clear hb ho13; have hcv14 := own_string (P := Tryd.prog) Tryd.underlying45 Tryd.underlying5 Tryd.underlying9 (Kd.own_of_R HO106.out)))
       go_roundg k1
       case measure => have := HK1.out; omega
       case rel => exact ⟨((strOfNums y104) ++ x3_1), (wrap64 (Int.tdiv x4_1 10)), zV, zV, H', ⟨by have := HK1.out; omega⟩, ⟨zL HB.out⟩⟩
      ·rw [if_neg c11] at H
       exact absurd H (by simp)

open Go.Proofs.YtkhbhdchakbmhaaDoorW.PrintWords renaming blk_drewN → bN, blk_drew → bD, blk_alloc → bA, blk_cell → bC, blk_below → bB, below_set → bS
/-! ### spec_l1In: function 61 -/
def spec_l1In.f (a0 : Int) (a1 : Int) (a2 : Int) : Option (Bool) := if a0 ≥ a1 then (some (decide (a0 ≤ a2))) else (some false)
set_option maxHeartbeats 8000000 in
set_option maxRecDepth 100000 in
theorem spec_l1In.calls (a0 : Int) (a1 : Int) (a2 : Int) (r : Bool) (w : World) (h : spec_l1In.f a0 a1 a2 = some r) :
  Calls Tryd.prog 61 #[.int .i64 a0, .int .i64 a1, .int .i64 a2] w fun e w' => e = .returned (.bool r) ∧ Drawn0 w w' := by
 unfold spec_l1In.f at h; have H := h
 clear h
 by_cases c4 : a0 ≥ a1
 ·rw [if_pos c4] at H
  have c4b0 := decide_eq_true c4
  clear c4
  obtain rfl := Option.some.inj H
  go_enter Tryd.func61, Tryd.ntmps61
  go_wp2
  go_ret
  exact ⟨zV, zU⟩
 ·rw [if_neg c4] at H
  have c4b0 := decide_eq_false c4
  clear c4
  obtain rfl := Option.some.inj H
  go_enter Tryd.func61, Tryd.ntmps61
  go_wp2
  go_ret
  exact ⟨zV, zU⟩

open Go.Proofs.YtkhbhdchakbmhaaDoorW.PrintWords renaming blk_drewN → bN, blk_drew → bD, blk_alloc → bA, blk_cell → bC, blk_below → bB, below_set → bS
/-! ### spec_NameOk: function 54 -/
def spec_NameOk.l0 : Nat → ByteArray → Int → Option (Bool)
 | 0, _, _ => none
 | k + 1, x0, x3 => if x3 < (x0.size : Int) then (if 0 ≤ x3 then (if (bt x0 x3) < 97 then (some false) else (if (bt x0 x3) > 122 then (some false) else (spec_NameOk.l0 k x0 (wrap64 (x3 + 1))))) else (none)) else ((spec_l1In.f (x0.size : Int) 1 8).bind fun t107 => (some t107))
def spec_NameOk.f (k : Nat) (a0 : ByteArray) : Option (Bool) := spec_NameOk.l0 k a0 0
theorem spec_NameOk.mono_l : ∀ k, (∀ y0 y1, LeO (spec_NameOk.l0 k y0 y1) (spec_NameOk.l0 (k + 1) y0 y1))
 | 0 => fun _ _ r h => by simp [spec_NameOk.l0] at h
 | k + 1 => by
  have ih0 := spec_NameOk.mono_l k
  ·intro y0 y1
   unfold spec_NameOk.l0
   repeat' first
   | (with_reducible exact ih0 _ _)
   | (with_reducible exact LeO.refl _)
   | (with_reducible exact LeO.none _)
   | (with_reducible refine LeO.ite ?_ ?_)
   | (with_reducible refine LeO.bind ?_ (fun _ => ?_))
   | exact ih0 _ _
   | exact LeO.none _
   | refine LeO.ite ?_ ?_
   | refine LeO.bind ?_ (fun _ => ?_)
theorem spec_NameOk.mono : ∀ a0 k, LeO (spec_NameOk.f k a0) (spec_NameOk.f (k + 1) a0) := by
 intro a0 k
 have ih0 := spec_NameOk.mono_l k
 unfold spec_NameOk.f
 repeat' first
   | (with_reducible exact ih0 _ _)
   | (with_reducible exact LeO.refl _)
   | (with_reducible exact LeO.none _)
   | (with_reducible refine LeO.ite ?_ ?_)
   | (with_reducible refine LeO.bind ?_ (fun _ => ?_))
   | exact ih0 _ _
   | exact LeO.none _
   | refine LeO.ite ?_ ?_
   | refine LeO.bind ?_ (fun _ => ?_)
set_option maxHeartbeats 8000000 in
set_option maxRecDepth 100000 in
theorem spec_NameOk.calls (k : Nat) (a0 : ByteArray) (r : Bool) (w : World) (h : spec_NameOk.f k a0 = some r) :
  Calls Tryd.prog 54 #[.string a0] w fun e w' => e = .returned (.bool r) ∧ Drawn0 w w' := by
 unfold spec_NameOk.f at h; have H := h
 clear h
 have H' := Aside0.mk H
 clear H
 go_enter Tryd.func54, Tryd.ntmps54
 go_wp2
 go_loopg [3] k (fun kq v3 w' => ∃ (x3_1 : Int), v3 = .int .i64 x3_1 ∧ Aside0 (spec_NameOk.l0 kq a0 x3_1 = some r) ∧ Aside0 (kq ≤ k) ∧ Drawn0 w w')
 case atStart => exact ⟨(0), zV, H', ⟨Nat.le_refl _⟩, zU⟩
 case round =>
  clear H'
  obtain ⟨x3_1, rfl, HA, HK1, ⟨m1, rfl⟩⟩ := hrel
  cases gk with
  | zero => exact absurd HA.out (by simp [spec_NameOk.l0])
  | succ k1 =>
   have H := HA.out
   clear HA
   simp only [spec_NameOk.l0] at H
   by_cases c2 : x3_1 < (a0.size : Int)
   ·rw [if_pos c2] at H
    have c2b0 := decide_eq_true c2
    clear c2
    by_cases c3 : 0 ≤ x3_1
    ·rw [if_pos c3] at H
     have c3b0 := decide_eq_true c3
     clear c3
     by_cases c5 : (bt a0 x3_1) < 97
     ·rw [if_pos c5] at H
      have c5b0 := decide_eq_true c5
      clear c5
      obtain rfl := Option.some.inj H
      have p4 : 0 ≤ (x3_1 : Int) := zD
      have q4 : x3_1 < (a0.size : Int) := zD
      have hx4 := bt_at a0 x3_1
      replace p4 := eq_true p4
      replace q4 := eq_true q4
      go_wp2
      go_ret
      exact ⟨zV, zU⟩
     ·rw [if_neg c5] at H
      have c5b0 := decide_eq_false c5
      clear c5
      by_cases c7 : (bt a0 x3_1) > 122
      ·rw [if_pos c7] at H
       have c7b0 := decide_eq_true c7
       clear c7
       obtain rfl := Option.some.inj H
       have p4 : 0 ≤ (x3_1 : Int) := zD
       have q4 : x3_1 < (a0.size : Int) := zD
       have hx4 := bt_at a0 x3_1
       replace p4 := eq_true p4
       replace q4 := eq_true q4
       have p6 : 0 ≤ (x3_1 : Int) := zD
       have q6 : x3_1 < (a0.size : Int) := zD
       have hx6 := bt_at a0 x3_1
       replace p6 := eq_true p6
       replace q6 := eq_true q6
       go_wp2
       go_ret
       exact ⟨zV, zU⟩
      ·rw [if_neg c7] at H
       have c7b0 := decide_eq_false c7
       clear c7
       have H' := Aside0.mk H
       clear H
       have p4 : 0 ≤ (x3_1 : Int) := zD
       have q4 : x3_1 < (a0.size : Int) := zD
       have hx4 := bt_at a0 x3_1
       replace p4 := eq_true p4
       replace q4 := eq_true q4
       have p6 : 0 ≤ (x3_1 : Int) := zD
       have q6 : x3_1 < (a0.size : Int) := zD
       have hx6 := bt_at a0 x3_1
       replace p6 := eq_true p6
       replace q6 := eq_true q6
       go_wp2
       go_roundg k1
       case measure => have := HK1.out; omega
       case rel => exact ⟨(wrap64 (x3_1 + 1)), zV, H', ⟨by have := HK1.out; omega⟩, zU⟩
    ·rw [if_neg c3] at H
     exact absurd H (by simp)
   ·rw [if_neg c2] at H
    have c2b0 := decide_eq_false c2
    clear c2
    obtain ⟨t107, A8, H⟩ := zO H; try dsimp only at H
    obtain rfl := Option.some.inj H
    go_wp2_with (first | ((with_reducible refine gC 61 rfl ?_); refine gL 22 Tryd.func61 #[.int .i64 (a0.size : Int), .int .i64 1, .int .i64 8] ?_; (with_reducible refine (spec_l1In.calls (a0.size : Int) 1 8 t107 _ A8.out).mono ?_); rintro e w' ⟨rfl, ⟨nd, rfl⟩⟩; refine ⟨_, rfl, ?_⟩))
    go_ret
    exact ⟨zV, zU⟩

open Go.Proofs.YtkhbhdchakbmhaaDoorW.PrintWords renaming blk_drewN → bN, blk_drew → bD, blk_alloc → bA, blk_cell → bC, blk_below → bB, below_set → bS
/-! ### spec_PlainOk: function 56 -/
def spec_PlainOk.l0 : Nat → ByteArray → Int → Option (Bool)
 | 0, _, _ => none
 | k + 1, x0, x3 => if x3 < (x0.size : Int) then (if 0 ≤ x3 then (if (bt x0 x3) < 32 then (some false) else (if (bt x0 x3) > 126 then (some false) else (if (bt x0 x3) = 34 then (some false) else (spec_PlainOk.l0 k x0 (wrap64 (x3 + 1)))))) else (none)) else (some (decide ((x0.size : Int) ≤ 20)))
def spec_PlainOk.f (k : Nat) (a0 : ByteArray) : Option (Bool) := spec_PlainOk.l0 k a0 0
theorem spec_PlainOk.mono_l : ∀ k, (∀ y0 y1, LeO (spec_PlainOk.l0 k y0 y1) (spec_PlainOk.l0 (k + 1) y0 y1))
 | 0 => fun _ _ r h => by simp [spec_PlainOk.l0] at h
 | k + 1 => by
  have ih0 := spec_PlainOk.mono_l k
  ·intro y0 y1
   unfold spec_PlainOk.l0
   repeat' first
   | (with_reducible exact ih0 _ _)
   | (with_reducible exact LeO.refl _)
   | (with_reducible exact LeO.none _)
   | (with_reducible refine LeO.ite ?_ ?_)
   | (with_reducible refine LeO.bind ?_ (fun _ => ?_))
   | exact ih0 _ _
   | exact LeO.none _
   | refine LeO.ite ?_ ?_
   | refine LeO.bind ?_ (fun _ => ?_)
theorem spec_PlainOk.mono : ∀ a0 k, LeO (spec_PlainOk.f k a0) (spec_PlainOk.f (k + 1) a0) := by
 intro a0 k
 have ih0 := spec_PlainOk.mono_l k
 unfold spec_PlainOk.f
 repeat' first
   | (with_reducible exact ih0 _ _)
   | (with_reducible exact LeO.refl _)
   | (with_reducible exact LeO.none _)
   | (with_reducible refine LeO.ite ?_ ?_)
   | (with_reducible refine LeO.bind ?_ (fun _ => ?_))
   | exact ih0 _ _
   | exact LeO.none _
   | refine LeO.ite ?_ ?_
   | refine LeO.bind ?_ (fun _ => ?_)
set_option maxHeartbeats 8000000 in
set_option maxRecDepth 100000 in
theorem spec_PlainOk.calls (k : Nat) (a0 : ByteArray) (r : Bool) (w : World) (h : spec_PlainOk.f k a0 = some r) :
  Calls Tryd.prog 56 #[.string a0] w fun e w' => e = .returned (.bool r) ∧ Drawn0 w w' := by
 unfold spec_PlainOk.f at h; have H := h
 clear h
 have H' := Aside0.mk H
 clear H
 go_enter Tryd.func56, Tryd.ntmps56
 go_wp2
 go_loopg [3] k (fun kq v3 w' => ∃ (x3_1 : Int), v3 = .int .i64 x3_1 ∧ Aside0 (spec_PlainOk.l0 kq a0 x3_1 = some r) ∧ Aside0 (kq ≤ k) ∧ Drawn0 w w')
 case atStart => exact ⟨(0), zV, H', ⟨Nat.le_refl _⟩, zU⟩
 case round =>
  clear H'
  obtain ⟨x3_1, rfl, HA, HK1, ⟨m1, rfl⟩⟩ := hrel
  cases gk with
  | zero => exact absurd HA.out (by simp [spec_PlainOk.l0])
  | succ k1 =>
   have H := HA.out
   clear HA
   simp only [spec_PlainOk.l0] at H
   by_cases c2 : x3_1 < (a0.size : Int)
   ·rw [if_pos c2] at H
    have c2b0 := decide_eq_true c2
    clear c2
    by_cases c3 : 0 ≤ x3_1
    ·rw [if_pos c3] at H
     have c3b0 := decide_eq_true c3
     clear c3
     by_cases c5 : (bt a0 x3_1) < 32
     ·rw [if_pos c5] at H
      have c5b0 := decide_eq_true c5
      clear c5
      obtain rfl := Option.some.inj H
      have p4 : 0 ≤ (x3_1 : Int) := zD
      have q4 : x3_1 < (a0.size : Int) := zD
      have hx4 := bt_at a0 x3_1
      replace p4 := eq_true p4
      replace q4 := eq_true q4
      go_wp2
      go_ret
      exact ⟨zV, zU⟩
     ·rw [if_neg c5] at H
      have c5b0 := decide_eq_false c5
      clear c5
      by_cases c7 : (bt a0 x3_1) > 126
      ·rw [if_pos c7] at H
       have c7b0 := decide_eq_true c7
       clear c7
       obtain rfl := Option.some.inj H
       have p4 : 0 ≤ (x3_1 : Int) := zD
       have q4 : x3_1 < (a0.size : Int) := zD
       have hx4 := bt_at a0 x3_1
       replace p4 := eq_true p4
       replace q4 := eq_true q4
       have p6 : 0 ≤ (x3_1 : Int) := zD
       have q6 : x3_1 < (a0.size : Int) := zD
       have hx6 := bt_at a0 x3_1
       replace p6 := eq_true p6
       replace q6 := eq_true q6
       go_wp2
       go_ret
       exact ⟨zV, zU⟩
      ·rw [if_neg c7] at H
       have c7b0 := decide_eq_false c7
       clear c7
       by_cases c9 : (bt a0 x3_1) = 34
       ·rw [if_pos c9] at H
        obtain ⟨c9b0, c9b1⟩ := zt c9
        clear c9
        obtain rfl := Option.some.inj H
        have p4 : 0 ≤ (x3_1 : Int) := zD
        have q4 : x3_1 < (a0.size : Int) := zD
        have hx4 := bt_at a0 x3_1
        replace p4 := eq_true p4
        replace q4 := eq_true q4
        have p6 : 0 ≤ (x3_1 : Int) := zD
        have q6 : x3_1 < (a0.size : Int) := zD
        have hx6 := bt_at a0 x3_1
        replace p6 := eq_true p6
        replace q6 := eq_true q6
        have p8 : 0 ≤ (x3_1 : Int) := zD
        have q8 : x3_1 < (a0.size : Int) := zD
        have hx8 := bt_at a0 x3_1
        replace p8 := eq_true p8
        replace q8 := eq_true q8
        go_wp2
        go_ret
        exact ⟨zV, zU⟩
       ·rw [if_neg c9] at H
        obtain ⟨c9b0, c9b1⟩ := zf c9
        have H' := Aside0.mk H
        clear H
        have p4 : 0 ≤ (x3_1 : Int) := zD
        have q4 : x3_1 < (a0.size : Int) := zD
        have hx4 := bt_at a0 x3_1
        replace p4 := eq_true p4
        replace q4 := eq_true q4
        have p6 : 0 ≤ (x3_1 : Int) := zD
        have q6 : x3_1 < (a0.size : Int) := zD
        have hx6 := bt_at a0 x3_1
        replace p6 := eq_true p6
        replace q6 := eq_true q6
        have p8 : 0 ≤ (x3_1 : Int) := zD
        have q8 : x3_1 < (a0.size : Int) := zD
        have hx8 := bt_at a0 x3_1
        replace p8 := eq_true p8
        replace q8 := eq_true q8
        go_wp2
        go_roundg k1
        case measure => have := HK1.out; omega
        case rel => exact ⟨(wrap64 (x3_1 + 1)), zV, H', ⟨by have := HK1.out; omega⟩, zU⟩
    ·rw [if_neg c3] at H
     exact absurd H (by simp)
   ·rw [if_neg c2] at H
    have c2b0 := decide_eq_false c2
    clear c2
    obtain rfl := Option.some.inj H
    go_wp2
    go_ret
    exact ⟨zV, zU⟩

open Go.Proofs.YtkhbhdchakbmhaaDoorW.PrintWords renaming blk_drewN → bN, blk_drew → bD, blk_alloc → bA, blk_cell → bC, blk_below → bB, below_set → bS
/-! ### spec_AttrOk: function 30 -/
def spec_AttrOk.f (k : Nat) (a0_0 : ByteArray) (a0_1 : Bool) (a0_2 : Int) (a0_3 : ByteArray) : Option (Bool) := (spec_NameOk.f k a0_0).bind fun t109 => (if t109 = true then (if a0_1 = true then ((spec_l1In.f a0_2 0 2147483647).bind fun t110 => (if t110 = true then (some (a0_3.toList == ([] : List UInt8))) else (some false))) else (if a0_2 = 0 then ((spec_PlainOk.f k a0_3).bind fun t111 => (some t111)) else (some false))) else (some false))
theorem spec_AttrOk.mono : ∀ a0 a1 a2 a3 k, LeO (spec_AttrOk.f k a0 a1 a2 a3) (spec_AttrOk.f (k + 1) a0 a1 a2 a3) := by
 intro a0 a1 a2 a3 k
 unfold spec_AttrOk.f
 repeat' first
   | (with_reducible apply spec_NameOk.mono)
   | (with_reducible apply spec_PlainOk.mono)
   | (with_reducible exact LeO.refl _)
   | (with_reducible exact LeO.none _)
   | (with_reducible refine LeO.ite ?_ ?_)
   | (with_reducible refine LeO.bind ?_ (fun _ => ?_))
   | apply spec_NameOk.mono
   | apply spec_PlainOk.mono
   | exact LeO.none _
   | refine LeO.ite ?_ ?_
   | refine LeO.bind ?_ (fun _ => ?_)
set_option maxHeartbeats 8000000 in
set_option maxRecDepth 100000 in
theorem spec_AttrOk.calls (k : Nat) (a0_0 : ByteArray) (a0_1 : Bool) (a0_2 : Int) (a0_3 : ByteArray) (r : Bool) (w : World) (h : spec_AttrOk.f k a0_0 a0_1 a0_2 a0_3 = some r) :
  Calls Tryd.prog 30 #[.agg #[.string a0_0, .bool a0_1, .int .i64 a0_2, .string a0_3]] w fun e w' => e = .returned (.bool r) ∧ Below w.heap.size w w' := by
 have hu28 := Tryd.underlying28
 have HB := Aside0.mk (Below.refl w.heap.size w)
 unfold spec_AttrOk.f at h; have H := h
 clear h
 obtain ⟨t109, A2, H⟩ := zO H; try dsimp only at H
 by_cases c3 : t109 = true
 ·subst c3
  rw [if_pos rfl] at H
  by_cases c4 : a0_1 = true
  ·subst c4
   rw [if_pos rfl] at H
   obtain ⟨t110, A5, H⟩ := zO H; try dsimp only at H
   by_cases c6 : t110 = true
   ·subst c6
    rw [if_pos rfl] at H
    obtain rfl := Option.some.inj H
    go_enter Tryd.func30, Tryd.ntmps30
    go_wp2_with (first | ((with_reducible refine gD 1 rfl ?_); refine bE 1 #[.string a0_0, .bool true, .int .i64 a0_2, .string a0_3] 28 ?_; intro gb108 hg w7 hbox hb; have BK108 := Aside0.mk hbox; have GW108 := Aside0.mk (zg (zL HB.out) hg : w.heap.size ≤ gb108); have GE108 := GW108; replace HB := zLB (zL HB.out) hb; clear hb hbox hg; have hcz8 := zc4 BK108.out; have hfz8 := zf4 BK108.out) | ((with_reducible refine gC 54 rfl ?_); refine gL 5 Tryd.func54 #[.string a0_0] ?_; (with_reducible refine (spec_NameOk.calls k a0_0 true _ A2.out).mono ?_); rintro e w' ⟨rfl, ⟨nd, rfl⟩⟩; refine ⟨_, rfl, ?_⟩) | ((with_reducible refine gC 61 rfl ?_); refine gL 11 Tryd.func61 #[.int .i64 a0_2, .int .i64 0, .int .i64 2147483647] ?_; (with_reducible refine (spec_l1In.calls a0_2 0 2147483647 true _ A5.out).mono ?_); rintro e w' ⟨rfl, ⟨nd, rfl⟩⟩; refine ⟨_, rfl, ?_⟩))
    go_ret
    exact ⟨zW, zL1 HB.out GE108.out⟩
   ·obtain rfl := Bool.eq_false_iff.mpr c6
    rw [if_neg zn] at H
    obtain rfl := Option.some.inj H
    go_enter Tryd.func30, Tryd.ntmps30
    go_wp2_with (first | ((with_reducible refine gD 1 rfl ?_); refine bE 1 #[.string a0_0, .bool true, .int .i64 a0_2, .string a0_3] 28 ?_; intro gb108 hg w9 hbox hb; have BK108 := Aside0.mk hbox; have GW108 := Aside0.mk (zg (zL HB.out) hg : w.heap.size ≤ gb108); have GE108 := GW108; replace HB := zLB (zL HB.out) hb; clear hb hbox hg; have hcz10 := zc4 BK108.out; have hfz10 := zf4 BK108.out) | ((with_reducible refine gC 54 rfl ?_); refine gL 5 Tryd.func54 #[.string a0_0] ?_; (with_reducible refine (spec_NameOk.calls k a0_0 true _ A2.out).mono ?_); rintro e w' ⟨rfl, ⟨nd, rfl⟩⟩; refine ⟨_, rfl, ?_⟩) | ((with_reducible refine gC 61 rfl ?_); refine gL 11 Tryd.func61 #[.int .i64 a0_2, .int .i64 0, .int .i64 2147483647] ?_; (with_reducible refine (spec_l1In.calls a0_2 0 2147483647 false _ A5.out).mono ?_); rintro e w' ⟨rfl, ⟨nd, rfl⟩⟩; refine ⟨_, rfl, ?_⟩))
    go_ret
    exact ⟨zW, zL1 HB.out GE108.out⟩
  ·obtain rfl := Bool.eq_false_iff.mpr c4
   rw [if_neg zn] at H
   by_cases c11 : a0_2 = 0
   ·rw [if_pos c11] at H
    obtain ⟨c11b0, c11b1⟩ := zt c11
    clear c11
    obtain ⟨t111, A12, H⟩ := zO H; try dsimp only at H
    obtain rfl := Option.some.inj H
    go_enter Tryd.func30, Tryd.ntmps30
    go_wp2_with (first | ((with_reducible refine gD 1 rfl ?_); refine bE 1 #[.string a0_0, .bool false, .int .i64 a0_2, .string a0_3] 28 ?_; intro gb108 hg w13 hbox hb; have BK108 := Aside0.mk hbox; have GW108 := Aside0.mk (zg (zL HB.out) hg : w.heap.size ≤ gb108); have GE108 := GW108; replace HB := zLB (zL HB.out) hb; clear hb hbox hg; have hcz14 := zc4 BK108.out; have hfz14 := zf4 BK108.out) | ((with_reducible refine gC 54 rfl ?_); refine gL 5 Tryd.func54 #[.string a0_0] ?_; (with_reducible refine (spec_NameOk.calls k a0_0 true _ A2.out).mono ?_); rintro e w' ⟨rfl, ⟨nd, rfl⟩⟩; refine ⟨_, rfl, ?_⟩) | (go_at_call 56; (with_reducible refine (spec_PlainOk.calls k a0_3 t111 _ A12.out).mono ?_); rintro e w' ⟨rfl, ⟨nd, rfl⟩⟩))
    go_ret
    exact ⟨zW, zL1 HB.out GE108.out⟩
   ·rw [if_neg c11] at H
    obtain ⟨c11b0, c11b1⟩ := zf c11
    obtain rfl := Option.some.inj H
    go_enter Tryd.func30, Tryd.ntmps30
    go_wp2_with (first | ((with_reducible refine gD 1 rfl ?_); refine bE 1 #[.string a0_0, .bool false, .int .i64 a0_2, .string a0_3] 28 ?_; intro gb108 hg w15 hbox hb; have BK108 := Aside0.mk hbox; have GW108 := Aside0.mk (zg (zL HB.out) hg : w.heap.size ≤ gb108); have GE108 := GW108; replace HB := zLB (zL HB.out) hb; clear hb hbox hg; have hcz16 := zc4 BK108.out; have hfz16 := zf4 BK108.out) | ((with_reducible refine gC 54 rfl ?_); refine gL 5 Tryd.func54 #[.string a0_0] ?_; (with_reducible refine (spec_NameOk.calls k a0_0 true _ A2.out).mono ?_); rintro e w' ⟨rfl, ⟨nd, rfl⟩⟩; refine ⟨_, rfl, ?_⟩))
    go_ret
    exact ⟨zW, zL1 HB.out GE108.out⟩
 ·obtain rfl := Bool.eq_false_iff.mpr c3
  rw [if_neg zn] at H
  obtain rfl := Option.some.inj H
  go_enter Tryd.func30, Tryd.ntmps30
  go_wp2_with (first | ((with_reducible refine gD 1 rfl ?_); refine bE 1 #[.string a0_0, .bool a0_1, .int .i64 a0_2, .string a0_3] 28 ?_; intro gb108 hg w17 hbox hb; have BK108 := Aside0.mk hbox; have GW108 := Aside0.mk (zg (zL HB.out) hg : w.heap.size ≤ gb108); have GE108 := GW108; replace HB := zLB (zL HB.out) hb; clear hb hbox hg; have hcz18 := zc4 BK108.out; have hfz18 := zf4 BK108.out) | ((with_reducible refine gC 54 rfl ?_); refine gL 5 Tryd.func54 #[.string a0_0] ?_; (with_reducible refine (spec_NameOk.calls k a0_0 false _ A2.out).mono ?_); rintro e w' ⟨rfl, ⟨nd, rfl⟩⟩; refine ⟨_, rfl, ?_⟩))
  go_ret
  exact ⟨zW, zL1 HB.out GE108.out⟩

open Go.Proofs.YtkhbhdchakbmhaaDoorW.PrintWords renaming blk_drewN → bN, blk_drew → bD, blk_alloc → bA, blk_cell → bC, blk_below → bB, below_set → bS
/-! ### spec_AttrText: function 13 -/
def spec_AttrText.f (k : Nat) (a0_0 : ByteArray) (a0_1 : Bool) (a0_2 : Int) (a0_3 : ByteArray) : Option (ByteArray) := (spec_AttrOk.f k a0_0 a0_1 a0_2 a0_3).bind fun t113 => (if t113 = true then (if a0_1 = true then (if a0_0.size + 1 ≤ 9223372036854775807 then ((spec_NumText.f k a0_2).bind fun t114 => (if (a0_0 ++ (⟨#[61]⟩ : ByteArray)).size + t114.size ≤ 9223372036854775807 then (some ((a0_0 ++ (⟨#[61]⟩ : ByteArray)) ++ t114)) else (none))) else (none)) else (if a0_0.size + 2 ≤ 9223372036854775807 then (if (a0_0 ++ (⟨#[61, 34]⟩ : ByteArray)).size + a0_3.size ≤ 9223372036854775807 then (if ((a0_0 ++ (⟨#[61, 34]⟩ : ByteArray)) ++ a0_3).size + 1 ≤ 9223372036854775807 then (some (((a0_0 ++ (⟨#[61, 34]⟩ : ByteArray)) ++ a0_3) ++ (⟨#[34]⟩ : ByteArray))) else (none)) else (none)) else (none))) else (some (⟨#[]⟩ : ByteArray)))
theorem spec_AttrText.mono : ∀ a0 a1 a2 a3 k, LeO (spec_AttrText.f k a0 a1 a2 a3) (spec_AttrText.f (k + 1) a0 a1 a2 a3) := by
 intro a0 a1 a2 a3 k
 unfold spec_AttrText.f
 repeat' first
   | (with_reducible apply spec_AttrOk.mono)
   | (with_reducible apply spec_NumText.mono)
   | (with_reducible exact LeO.refl _)
   | (with_reducible exact LeO.none _)
   | (with_reducible refine LeO.ite ?_ ?_)
   | (with_reducible refine LeO.bind ?_ (fun _ => ?_))
   | apply spec_AttrOk.mono
   | apply spec_NumText.mono
   | exact LeO.none _
   | refine LeO.ite ?_ ?_
   | refine LeO.bind ?_ (fun _ => ?_)
def spec_AttrText.T4 : Bool × List (List Nat × List Nat) := (true, [([], []), ([0], [0]), ([1], [1]), ([], []), ([3], [3]), ([4], [4]), ([2, 5], [2, 5]), ([6, 5, 0, 1, 2, 3, 4, 5, 6], [6])])
def spec_AttrText.B4 : List Nat := [0, 1, 3, 0, 8, 24, 63, 127]
theorem spec_AttrText.tab4 : rtab .any (opsOf Tryd.f13 4) = spec_AttrText.T4 := by kernel_rfl
theorem spec_AttrText.bits4 : waitsOk spec_AttrText.T4.2 spec_AttrText.B4 = true := by kernel_rfl
set_option maxHeartbeats 8000000 in
set_option maxRecDepth 100000 in
theorem spec_AttrText.calls (k : Nat) (a0_0 : ByteArray) (a0_1 : Bool) (a0_2 : Int) (a0_3 : ByteArray) (r : ByteArray) (w : World) (h : spec_AttrText.f k a0_0 a0_1 a0_2 a0_3 = some r) :
  Calls Tryd.prog 13 #[.agg #[.string a0_0, .bool a0_1, .int .i64 a0_2, .string a0_3]] w fun e w' => e = .returned (.string r) ∧ Below w.heap.size w w' := by
 have hu28 := Tryd.underlying28
 have HB := Aside0.mk (Below.refl w.heap.size w)
 unfold spec_AttrText.f at h; have H := h
 clear h
 obtain ⟨t113, A2, H⟩ := zO H; try dsimp only at H
 by_cases c3 : t113 = true
 ·subst c3
  rw [if_pos rfl] at H
  by_cases c4 : a0_1 = true
  ·subst c4
   rw [if_pos rfl] at H
   by_cases c5 : a0_0.size + 1 ≤ 9223372036854775807
   ·rw [if_pos c5] at H
    have c5b0 := eq_true c5
    have c5b1 := decide_eq_true c5
    have c5b2 := eq_false (Nat.not_lt.2 c5)
    obtain ⟨t114, A6, H⟩ := zO H; try dsimp only at H
    by_cases c7 : (a0_0 ++ (⟨#[61]⟩ : ByteArray)).size + t114.size ≤ 9223372036854775807
    ·rw [if_pos c7] at H
     have c7b0 := eq_true c7
     have c7b1 := decide_eq_true c7
     have c7b2 := eq_false (Nat.not_lt.2 c7)
     try have c7b3 : (9223372036854775807 < a0_0.size + 1 + t114.size) = False := eq_false (by have z_ := c7; simp only [ByteArray.size_append] at z_; have e0_ : ((⟨#[61]⟩ : ByteArray)).size = 1 := rfl; omega)
     obtain rfl := Option.some.inj H
     go_enter Tryd.func13, Tryd.ntmps13
     try go_wp2_with (first | ((with_reducible refine gD 1 rfl ?_); refine bE 1 #[.string a0_0, .bool true, .int .i64 a0_2, .string a0_3] 28 ?_; intro gb112 hg w8 hbox hb; have BK112 := Aside0.mk hbox; have GW112 := Aside0.mk (zg (zL HB.out) hg : w.heap.size ≤ gb112); have GE112 := GW112; replace HB := zLB (zL HB.out) hb; clear hb hbox hg; have hcz9 := zc4 BK112.out; have hfz9 := zf4 BK112.out) | ((with_reducible refine gC 30 rfl ?_); refine gL 4 Tryd.func30 #[.agg #[.string a0_0, .bool true, .int .i64 a0_2, .string a0_3]] ?_; (with_reducible refine (spec_AttrOk.calls k a0_0 true a0_2 a0_3 true _ A2.out).mono ?_); rintro e w10 ⟨rfl, hb⟩; refine ⟨_, rfl, ?_⟩; replace BK112 := zBB BK112 hb; replace HB := zLB (zL1 HB.out GE112.out) hb; clear hb; have hcz11 := zc4 BK112.out; have hfz11 := zf4 BK112.out))
     replace BK112 := zBD BK112; replace HB := zLD HB
     refine start_ (n := 8) (S := fun w' => zs4 w' gb112 (.string a0_0) (.bool true) (.int .i64 a0_2) (.string a0_3)) (ds := []) (fB 8 0) (by kernel_rfl) rfl rfl (zc4 BK112.out) (fun hHeld => ?_); refine with_tabW spec_AttrText.tab4 spec_AttrText.bits4 (fun HT_ HW_ => ?_)
     generalize w10.drew = w12 at BK112 HB hHeld ⊢
     refine pY 0 8 (fB 8 1) HT_.out ?_
     refine pY 3 11 (fB 8 9) HT_.out ?_
     refine tY 1 9 (fB 8 11) HT_.out HW_.out hHeld ?_
     refine pY 2 10 (fB 8 15) HT_.out ?_
     refine tY 4 12 (fB 8 31) HT_.out HW_.out hHeld ?_
     refine oN 5 13 (fB 8 63) HT_.out fun K hK => ?_
     refine gS Tryd.func10 #[.int .i64 a0_2] ?_
     with_reducible refine (spec_NumText.calls k a0_2 t114 _ A6.out).mono ?_
     rintro e w13 ⟨rfl, hb⟩
     refine ⟨_, rfl, ?_⟩
     replace BK112 := zBB BK112 hb; replace HB := zLB (zL1 HB.out GE112.out) hb
     clear hb
     refine hK.out _ _ (zc4 BK112.out) fun hHeld => ?_; clear hK K
     refine nZ 13 ?_
     refine pY 6 14 (fB 8 127) HT_.out ?_
     refine pY 7 2 (fB 8 255) HT_.out ?_
     refine done_ (done_of HT_.out (by kernel_rfl)) ?_
     try go_wp2
     go_ret
     exact ⟨zW, zL1 HB.out GE112.out⟩
    ·rw [if_neg c7] at H
     exact absurd H (by simp)
   ·rw [if_neg c5] at H
    exact absurd H (by simp)
  ·obtain rfl := Bool.eq_false_iff.mpr c4
   rw [if_neg zn] at H
   by_cases c14 : a0_0.size + 2 ≤ 9223372036854775807
   ·rw [if_pos c14] at H
    have c14b0 := eq_true c14
    have c14b1 := decide_eq_true c14
    have c14b2 := eq_false (Nat.not_lt.2 c14)
    by_cases c15 : (a0_0 ++ (⟨#[61, 34]⟩ : ByteArray)).size + a0_3.size ≤ 9223372036854775807
    ·rw [if_pos c15] at H
     have c15b0 := eq_true c15
     have c15b1 := decide_eq_true c15
     have c15b2 := eq_false (Nat.not_lt.2 c15)
     try have c15b3 : (9223372036854775807 < a0_0.size + 2 + a0_3.size) = False := eq_false (by have z_ := c15; simp only [ByteArray.size_append] at z_; have e0_ : ((⟨#[61, 34]⟩ : ByteArray)).size = 2 := rfl; omega)
     by_cases c16 : ((a0_0 ++ (⟨#[61, 34]⟩ : ByteArray)) ++ a0_3).size + 1 ≤ 9223372036854775807
     ·rw [if_pos c16] at H
      have c16b0 := eq_true c16
      have c16b1 := decide_eq_true c16
      have c16b2 := eq_false (Nat.not_lt.2 c16)
      try have c16b3 : (9223372036854775807 < a0_0.size + 2 + a0_3.size + 1) = False := eq_false (by have z_ := c16; simp only [ByteArray.size_append] at z_; have e0_ : ((⟨#[61, 34]⟩ : ByteArray)).size = 2 := rfl; omega)
      obtain rfl := Option.some.inj H
      go_enter Tryd.func13, Tryd.ntmps13
      go_wp2_with (first | ((with_reducible refine gD 1 rfl ?_); refine bE 1 #[.string a0_0, .bool false, .int .i64 a0_2, .string a0_3] 28 ?_; intro gb112 hg w17 hbox hb; have BK112 := Aside0.mk hbox; have GW112 := Aside0.mk (zg (zL HB.out) hg : w.heap.size ≤ gb112); have GE112 := GW112; replace HB := zLB (zL HB.out) hb; clear hb hbox hg; have hcz18 := zc4 BK112.out; have hfz18 := zf4 BK112.out) | ((with_reducible refine gC 30 rfl ?_); refine gL 4 Tryd.func30 #[.agg #[.string a0_0, .bool false, .int .i64 a0_2, .string a0_3]] ?_; (with_reducible refine (spec_AttrOk.calls k a0_0 false a0_2 a0_3 true _ A2.out).mono ?_); rintro e w19 ⟨rfl, hb⟩; refine ⟨_, rfl, ?_⟩; replace BK112 := zBB BK112 hb; replace HB := zLB (zL1 HB.out GE112.out) hb; clear hb; have hcz20 := zc4 BK112.out; have hfz20 := zf4 BK112.out))
      go_ret
      exact ⟨zW, zL1 HB.out GE112.out⟩
     ·rw [if_neg c16] at H
      exact absurd H (by simp)
    ·rw [if_neg c15] at H
     exact absurd H (by simp)
   ·rw [if_neg c14] at H
    exact absurd H (by simp)
 ·obtain rfl := Bool.eq_false_iff.mpr c3
  rw [if_neg zn] at H
  obtain rfl := Option.some.inj H
  go_enter Tryd.func13, Tryd.ntmps13
  go_wp2_with (first | ((with_reducible refine gD 1 rfl ?_); refine bE 1 #[.string a0_0, .bool a0_1, .int .i64 a0_2, .string a0_3] 28 ?_; intro gb112 hg w21 hbox hb; have BK112 := Aside0.mk hbox; have GW112 := Aside0.mk (zg (zL HB.out) hg : w.heap.size ≤ gb112); have GE112 := GW112; replace HB := zLB (zL HB.out) hb; clear hb hbox hg; have hcz22 := zc4 BK112.out; have hfz22 := zf4 BK112.out) | ((with_reducible refine gC 30 rfl ?_); refine gL 4 Tryd.func30 #[.agg #[.string a0_0, .bool a0_1, .int .i64 a0_2, .string a0_3]] ?_; (with_reducible refine (spec_AttrOk.calls k a0_0 a0_1 a0_2 a0_3 false _ A2.out).mono ?_); rintro e w23 ⟨rfl, hb⟩; refine ⟨_, rfl, ?_⟩; replace BK112 := zBB BK112 hb; replace HB := zLB (zL1 HB.out GE112.out) hb; clear hb))
  go_ret
  exact ⟨zW, zL1 HB.out GE112.out⟩

end Go.Proofs.YtkhbhdchakbmhaaDoor.QFnSpans
