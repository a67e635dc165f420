/- What the Go functions that the law FnSpans reaches answer: each as a Lean function, with its walk. Written by a program of this session. Conditions: those that each theorem names. -/
import Derived.Test.YtkhbhdchakbmhaaDoorQFnSpansx0
import Derived.Test.YtkhbhdchakbmhaaDoorQFnSpansx1
namespace Go.Proofs.YtkhbhdchakbmhaaDoor.QFnSpans
open Go.RowKit Go.Proofs.YtkhbhdchakbmhaaDoorW.PrintWords Go.Proofs.YtkhbhdchakbmhaaDoorW.PrintLast Go.Proofs.YtkhbhdchakbmhaaDoorW.PrintMore
attribute [local go_sem] max2_int min2_int max_two min_two max_three min_three max_four min_four   -- for this text's walks alone
set_option linter.unusedVariables false
set_option linter.unusedSimpArgs false

attribute [local go_sem high] eqA28
open Go.Proofs.YtkhbhdchakbmhaaDoorW.PrintWords renaming blk_drewN → bN, blk_drew → bD, blk_alloc → bA, blk_cell → bC, blk_below → bB, below_set → bS
/-! ### impl_Attr: function 74 -/
def impl_Attr.l0 : Nat → List (S28) → List (S28) → Int → Int → Option (Bool)
 | 0, _, _, _, _ => none
 | k + 1, x0, x1, x12, x13 => if x13 < x12 then (if 0 ≤ x13 then (if x13 < (x0.length : Int) then (if x13 < (x1.length : Int) then (if (!((((rd_T28 x0 x13).f0).toList) == (((rd_T28 x1 x13).f0).toList)) || (!(((rd_T28 x0 x13).f1) == ((rd_T28 x1 x13).f1)) || (!(((rd_T28 x0 x13).f2) == ((rd_T28 x1 x13).f2)) || (!((((rd_T28 x0 x13).f3).toList) == (((rd_T28 x1 x13).f3).toList)))))) = true then (some false) else (impl_Attr.l0 k x0 x1 x12 (wrap64 (x13 + 1)))) else (none)) else (none)) else (none)) else (some true)
def impl_Attr.f (k : Nat) (l0 : List (S28)) (l1 : List (S28)) : Option (Bool) := if (l0.length : Int) = (l1.length : Int) then (impl_Attr.l0 k l0 l1 (l0.length : Int) 0) else (some false)
theorem impl_Attr.mono_l : ∀ k, (∀ y0 y1 y2 y3, LeO (impl_Attr.l0 k y0 y1 y2 y3) (impl_Attr.l0 (k + 1) y0 y1 y2 y3))
 | 0 => fun _ _ _ _ r h => by simp [impl_Attr.l0] at h
 | k + 1 => by
  have ih0 := impl_Attr.mono_l k
  ·intro y0 y1 y2 y3
   unfold impl_Attr.l0
   repeat' first
   | (with_reducible exact ih0 _ _ _ _)
   | (with_reducible exact LeO.refl _)
   | (with_reducible exact LeO.none _)
   | (with_reducible refine LeO.ite ?_ ?_)
   | (with_reducible refine LeO.bind ?_ (fun _ => ?_))
   | exact ih0 _ _ _ _
   | exact LeO.none _
   | refine LeO.ite ?_ ?_
   | refine LeO.bind ?_ (fun _ => ?_)
theorem impl_Attr.mono : ∀ a0 a1 k, LeO (impl_Attr.f k a0 a1) (impl_Attr.f (k + 1) a0 a1) := by
 intro a0 a1 k
 have ih0 := impl_Attr.mono_l k
 unfold impl_Attr.f
 repeat' first
   | (with_reducible exact ih0 _ _ _ _)
   | (with_reducible exact LeO.refl _)
   | (with_reducible exact LeO.none _)
   | (with_reducible refine LeO.ite ?_ ?_)
   | (with_reducible refine LeO.bind ?_ (fun _ => ?_))
   | exact ih0 _ _ _ _
   | exact LeO.none _
   | refine LeO.ite ?_ ?_
   | refine LeO.bind ?_ (fun _ => ?_)
set_option maxHeartbeats 8000000 in
set_option maxRecDepth 100000 in
theorem impl_Attr.calls (k : Nat) (A0 : Option Addr) (c0 : Nat) (l0 : List (S28)) (A1 : Option Addr) (c1 : Nat) (l1 : List (S28)) (r : Bool) (w : World) (hr0 : Kd.C k28 w A0 l0.length l0) (hc0 : l0.length ≤ c0) (hr1 : Kd.C k28 w A1 l1.length l1) (hc1 : l1.length ≤ c1) (h : impl_Attr.f k l0 l1 = some r) :
  Calls Tryd.prog 74 #[.slice A0 l0.length c0, .slice A1 l1.length c1] w fun e w' => e = .returned (.bool r) ∧ Drawn0 w w' := by
 have hu28 := Tryd.underlying28
 have HR0 := Aside0.mk hr0
 have HC0 := Aside0.mk hc0
 clear hr0 hc0
 have HR1 := Aside0.mk hr1
 have HC1 := Aside0.mk hc1
 clear hr1 hc1
 unfold impl_Attr.f at h; have H := h
 clear h
 by_cases c3 : (l0.length : Int) = (l1.length : Int)
 ·rw [if_pos c3] at H
  obtain ⟨c3b0, c3b1⟩ := zt c3
  have c3b2 : (l0.length == l1.length) = true := by first | simpa using c3 | (simp at c3 ⊢; omega)
  clear c3
  have H' := Aside0.mk H
  clear H
  go_enter Tryd.func74, Tryd.ntmps74
  go_wp2
  repeat (go_quiet (fail); try go_wp2)
  go_loopg [13] k (fun kq v13 w' => ∃ (x13_1 : Int), v13 = .int .i64 x13_1 ∧ Aside0 (impl_Attr.l0 kq l0 l1 (l0.length : Int) x13_1 = some r) ∧ Aside0 (kq ≤ k) ∧ Drawn0 w w')
  case atStart => exact ⟨(0), zV, H', ⟨Nat.le_refl _⟩, zU⟩
  case round =>
   clear H'
   try clear c1
   try clear p2
   try clear c3
   try clear c3b0
   try clear c3b1
   try clear c3b2
   obtain ⟨x13_1, rfl, HA, HK1, ⟨m1, rfl⟩⟩ := hrel
   cases gk with
   | zero => exact absurd HA.out (by simp [impl_Attr.l0])
   | succ k1 =>
    have H := HA.out
    clear HA
    simp only [impl_Attr.l0] at H
    by_cases c4 : x13_1 < (l0.length : Int)
    ·rw [if_pos c4] at H
     have c4b0 := decide_eq_true c4
     clear c4
     by_cases c5 : 0 ≤ x13_1
     ·rw [if_pos c5] at H
      have c5b0 := decide_eq_true c5
      clear c5
      by_cases c6 : x13_1 < (l0.length : Int)
      ·rw [if_pos c6] at H
       have c6b0 := decide_eq_true c6
       clear c6
       by_cases c7 : x13_1 < (l1.length : Int)
       ·rw [if_pos c7] at H
        have c7b0 := decide_eq_true c7
        clear c7
        by_cases c8 : (!((((rd_T28 l0 x13_1).f0).toList) == (((rd_T28 l1 x13_1).f0).toList)) || (!(((rd_T28 l0 x13_1).f1) == ((rd_T28 l1 x13_1).f1)) || (!(((rd_T28 l0 x13_1).f2) == ((rd_T28 l1 x13_1).f2)) || (!((((rd_T28 l0 x13_1).f3).toList) == (((rd_T28 l1 x13_1).f3).toList)))))) = true
        ·rw [if_pos c8] at H
         have c8b0 := c8
         clear c8
         obtain rfl := Option.some.inj H
         have p544 : 0 ≤ (x13_1 : Int) := zD
         have q544 : x13_1 < (l0.length : Int) := zD
         obtain ⟨ad544, e544, hx544_0, hx544_1, hx544_2, hx544_3⟩ := at_T28 HR0.out x13_1 p544 q544
         cases e544
         replace p544 := eq_true p544
         replace q544 := eq_true q544
         have p545 : 0 ≤ (x13_1 : Int) := zD
         have q545 : x13_1 < (l1.length : Int) := zD
         obtain ⟨ad545, e545, hx545_0, hx545_1, hx545_2, hx545_3⟩ := at_T28 HR1.out x13_1 p545 q545
         cases e545
         replace p545 := eq_true p545
         replace q545 := eq_true q545
         go_wp2
         repeat (go_quiet (fail); try go_wp2)
         go_ret
         exact ⟨zV, zU⟩
        ·rw [if_neg c8] at H
         have c8b0 : (!((((rd_T28 l0 x13_1).f0).toList) == (((rd_T28 l1 x13_1).f0).toList)) || (!(((rd_T28 l0 x13_1).f1) == ((rd_T28 l1 x13_1).f1)) || (!(((rd_T28 l0 x13_1).f2) == ((rd_T28 l1 x13_1).f2)) || (!((((rd_T28 l0 x13_1).f3).toList) == (((rd_T28 l1 x13_1).f3).toList)))))) = false := by simpa using c8
         clear c8
         have H' := Aside0.mk H
         clear H
         have p544 : 0 ≤ (x13_1 : Int) := zD
         have q544 : x13_1 < (l0.length : Int) := zD
         obtain ⟨ad544, e544, hx544_0, hx544_1, hx544_2, hx544_3⟩ := at_T28 HR0.out x13_1 p544 q544
         cases e544
         replace p544 := eq_true p544
         replace q544 := eq_true q544
         have p545 : 0 ≤ (x13_1 : Int) := zD
         have q545 : x13_1 < (l1.length : Int) := zD
         obtain ⟨ad545, e545, hx545_0, hx545_1, hx545_2, hx545_3⟩ := at_T28 HR1.out x13_1 p545 q545
         cases e545
         replace p545 := eq_true p545
         replace q545 := eq_true q545
         go_wp2
         repeat (go_quiet (fail); try go_wp2)
         go_roundg k1
         case measure => have := HK1.out; omega
         case rel => exact ⟨(wrap64 (x13_1 + 1)), zV, H', ⟨by have := HK1.out; omega⟩, zU⟩
       ·rw [if_neg c7] at H
        exact absurd H (by simp)
      ·rw [if_neg c6] at H
       exact absurd H (by simp)
     ·rw [if_neg c5] at H
      exact absurd H (by simp)
    ·rw [if_neg c4] at H
     have c4b0 := decide_eq_false c4
     clear c4
     obtain rfl := Option.some.inj H
     go_wp2
     repeat (go_quiet (fail); try go_wp2)
     go_ret
     exact ⟨zV, zU⟩
 ·rw [if_neg c3] at H
  obtain ⟨c3b0, c3b1⟩ := zf c3
  have c3b2 : (l0.length == l1.length) = false := by first | simpa using c3 | (simp at c3 ⊢; omega)
  obtain rfl := Option.some.inj H
  go_enter Tryd.func74, Tryd.ntmps74
  go_wp2
  repeat (go_quiet (fail); try go_wp2)
  go_ret
  exact ⟨zV, zU⟩

open Go.Proofs.YtkhbhdchakbmhaaDoorW.PrintWords renaming blk_drewN → bN, blk_drew → bD, blk_alloc → bA, blk_cell → bC, blk_below → bB, below_set → bS
/-! ### impl_SameSpan: function 45 -/
def impl_SameSpan.f (k : Nat) (a0_0 : Int) (a0_1 : Int) (a0_2 : Int) (a0_3 : Int) (a0_4 : Bool) (l0_5 : List (S28)) (a1_0 : Int) (a1_1 : Int) (a1_2 : Int) (a1_3 : Int) (a1_4 : Bool) (l1_5 : List (S28)) : Option (Bool) := if a0_0 = a1_0 then (if a0_1 = a1_1 then (if a0_2 = a1_2 then (if a0_3 = a1_3 then (if (a0_4 == a1_4) = true then ((impl_Attr.f k l0_5 l1_5).bind fun t548 => (some t548)) else (some false)) else (some false)) else (some false)) else (some false)) else (some false)
theorem impl_SameSpan.mono : ∀ a0 a1 a2 a3 a4 a5 a6 a7 a8 a9 a10 a11 k, LeO (impl_SameSpan.f k a0 a1 a2 a3 a4 a5 a6 a7 a8 a9 a10 a11) (impl_SameSpan.f (k + 1) a0 a1 a2 a3 a4 a5 a6 a7 a8 a9 a10 a11) := by
 intro a0 a1 a2 a3 a4 a5 a6 a7 a8 a9 a10 a11 k
 unfold impl_SameSpan.f
 repeat' first
   | (with_reducible apply impl_Attr.mono)
   | (with_reducible exact LeO.refl _)
   | (with_reducible exact LeO.none _)
   | (with_reducible refine LeO.ite ?_ ?_)
   | (with_reducible refine LeO.bind ?_ (fun _ => ?_))
   | apply impl_Attr.mono
   | exact LeO.none _
   | refine LeO.ite ?_ ?_
   | refine LeO.bind ?_ (fun _ => ?_)
set_option maxHeartbeats 8000000 in
set_option maxRecDepth 100000 in
theorem impl_SameSpan.calls (k : Nat) (a0_0 : Int) (a0_1 : Int) (a0_2 : Int) (a0_3 : Int) (a0_4 : Bool) (A0_5 : Option Addr) (c0_5 : Nat) (l0_5 : List (S28)) (a1_0 : Int) (a1_1 : Int) (a1_2 : Int) (a1_3 : Int) (a1_4 : Bool) (A1_5 : Option Addr) (c1_5 : Nat) (l1_5 : List (S28)) (r : Bool) (w : World) (hr0_5 : Kd.C k28 w A0_5 l0_5.length l0_5) (hc0_5 : l0_5.length ≤ c0_5) (hr1_5 : Kd.C k28 w A1_5 l1_5.length l1_5) (hc1_5 : l1_5.length ≤ c1_5) (h : impl_SameSpan.f k a0_0 a0_1 a0_2 a0_3 a0_4 l0_5 a1_0 a1_1 a1_2 a1_3 a1_4 l1_5 = some r) :
  Calls Tryd.prog 45 #[.agg #[.int .i64 a0_0, .int .i64 a0_1, .int .i64 a0_2, .int .i64 a0_3, .bool a0_4, .slice A0_5 l0_5.length c0_5], .agg #[.int .i64 a1_0, .int .i64 a1_1, .int .i64 a1_2, .int .i64 a1_3, .bool a1_4, .slice A1_5 l1_5.length c1_5]] w fun e w' => e = .returned (.bool r) ∧ Below w.heap.size w w' := by
 have hu38 := Tryd.underlying38
 have HR0_5 := Aside0.mk hr0_5
 have HC0_5 := Aside0.mk hc0_5
 clear hr0_5 hc0_5
 have HR1_5 := Aside0.mk hr1_5
 have HC1_5 := Aside0.mk hc1_5
 clear hr1_5 hc1_5
 have HB := Aside0.mk (Below.refl w.heap.size w)
 unfold impl_SameSpan.f at h; have H := h
 clear h
 by_cases c3 : a0_0 = a1_0
 ·rw [if_pos c3] at H
  obtain ⟨c3b0, c3b1⟩ := zt c3
  clear c3
  by_cases c4 : a0_1 = a1_1
  ·rw [if_pos c4] at H
   obtain ⟨c4b0, c4b1⟩ := zt c4
   clear c4
   by_cases c5 : a0_2 = a1_2
   ·rw [if_pos c5] at H
    obtain ⟨c5b0, c5b1⟩ := zt c5
    clear c5
    by_cases c6 : a0_3 = a1_3
    ·rw [if_pos c6] at H
     obtain ⟨c6b0, c6b1⟩ := zt c6
     clear c6
     by_cases c7 : (a0_4 == a1_4) = true
     ·rw [if_pos c7] at H
      have c7b0 := c7
      (try (have c7b1 : decide (a0_4 = a1_4) = true := by simpa using c7))
      (try (have c7b2 : (a0_4 == a1_4) = true := by simpa using c7))
      clear c7
      obtain ⟨t548, A8, H⟩ := zO H; try dsimp only at H
      obtain rfl := Option.some.inj H
      go_enter Tryd.func45, Tryd.ntmps45
      go_wp2_with (first | ((with_reducible refine gD 2 rfl ?_); refine bE 2 #[.int .i64 a0_0, .int .i64 a0_1, .int .i64 a0_2, .int .i64 a0_3, .bool a0_4, .slice A0_5 l0_5.length c0_5] 38 ?_; intro gb546 hg w9 hbox hb; have BK546 := Aside0.mk hbox; have GW546 := Aside0.mk (zg (zL HB.out) hg : w.heap.size ≤ gb546); have GE546 := GW546; replace HB := zLB (zL HB.out) hb; clear hb hbox hg) | ((with_reducible refine gD 3 rfl ?_); refine bE 3 #[.int .i64 a1_0, .int .i64 a1_1, .int .i64 a1_2, .int .i64 a1_3, .bool a1_4, .slice A1_5 l1_5.length c1_5] 38 ?_; intro gb547 hg w10 hbox hb; have BK547 := Aside0.mk hbox; have GW547 := Aside0.mk (zg (zL1 HB.out GE546.out) hg : w.heap.size ≤ gb547); have GE547 := GW547; replace HB := zLB (zL1 HB.out GE546.out) hb; have NB546_547 := Aside0.mk (zN BK546.out hg : gb546 ≠ gb547); have NB547_546 := Aside0.mk (zM BK546.out hg : gb547 ≠ gb546); replace BK546 := zBB BK546 hb; clear hb hbox hg; have hnb11 := NB546_547.out; have hnc11 := NB547_546.out; have hcz12 := zc6 BK546.out; have hfz12 := zf6 BK546.out; have hcz13 := zc6 BK547.out; have hfz13 := zf6 BK547.out) | (go_at_call 74; (with_reducible refine (impl_Attr.calls k _ _ l0_5 _ _ l1_5 t548 _ ?side1 ?side2 ?side3 ?side4 A8.out).mono ?_); (case side1 => exact zC (Kd.C_below HR0_5.out HB.out)); (case side2 => exact HC0_5.out); (case side3 => exact zC (Kd.C_below HR1_5.out HB.out)); (case side4 => exact HC1_5.out); rintro e w' ⟨rfl, ⟨nd, rfl⟩⟩))
      go_ret
      exact ⟨zW, zL2 HB.out GE546.out GE547.out⟩
     ·rw [if_neg c7] at H
      have c7b0 : (a0_4 == a1_4) = false := by simpa using c7
      (try (have c7b1 : decide (a0_4 = a1_4) = false := by simpa using c7))
      (try (have c7b2 : (a0_4 == a1_4) = false := by simpa using c7))
      (try (have c7b3 : ¬ (a0_4 = a1_4) := by simpa using c7))
      clear c7
      obtain rfl := Option.some.inj H
      go_enter Tryd.func45, Tryd.ntmps45
      go_wp2_with (first | ((with_reducible refine gD 2 rfl ?_); refine bE 2 #[.int .i64 a0_0, .int .i64 a0_1, .int .i64 a0_2, .int .i64 a0_3, .bool a0_4, .slice A0_5 l0_5.length c0_5] 38 ?_; intro gb546 hg w14 hbox hb; have BK546 := Aside0.mk hbox; have GW546 := Aside0.mk (zg (zL HB.out) hg : w.heap.size ≤ gb546); have GE546 := GW546; replace HB := zLB (zL HB.out) hb; clear hb hbox hg) | ((with_reducible refine gD 3 rfl ?_); refine bE 3 #[.int .i64 a1_0, .int .i64 a1_1, .int .i64 a1_2, .int .i64 a1_3, .bool a1_4, .slice A1_5 l1_5.length c1_5] 38 ?_; intro gb547 hg w15 hbox hb; have BK547 := Aside0.mk hbox; have GW547 := Aside0.mk (zg (zL1 HB.out GE546.out) hg : w.heap.size ≤ gb547); have GE547 := GW547; replace HB := zLB (zL1 HB.out GE546.out) hb; have NB546_547 := Aside0.mk (zN BK546.out hg : gb546 ≠ gb547); have NB547_546 := Aside0.mk (zM BK546.out hg : gb547 ≠ gb546); replace BK546 := zBB BK546 hb; clear hb hbox hg; have hnb16 := NB546_547.out; have hnc16 := NB547_546.out; have hcz17 := zc6 BK546.out; have hfz17 := zf6 BK546.out; have hcz18 := zc6 BK547.out; have hfz18 := zf6 BK547.out))
      go_ret
      exact ⟨zW, zL2 HB.out GE546.out GE547.out⟩
    ·rw [if_neg c6] at H
     obtain ⟨c6b0, c6b1⟩ := zf c6
     obtain rfl := Option.some.inj H
     go_enter Tryd.func45, Tryd.ntmps45
     go_wp2_with (first | ((with_reducible refine gD 2 rfl ?_); refine bE 2 #[.int .i64 a0_0, .int .i64 a0_1, .int .i64 a0_2, .int .i64 a0_3, .bool a0_4, .slice A0_5 l0_5.length c0_5] 38 ?_; intro gb546 hg w19 hbox hb; have BK546 := Aside0.mk hbox; have GW546 := Aside0.mk (zg (zL HB.out) hg : w.heap.size ≤ gb546); have GE546 := GW546; replace HB := zLB (zL HB.out) hb; clear hb hbox hg) | ((with_reducible refine gD 3 rfl ?_); refine bE 3 #[.int .i64 a1_0, .int .i64 a1_1, .int .i64 a1_2, .int .i64 a1_3, .bool a1_4, .slice A1_5 l1_5.length c1_5] 38 ?_; intro gb547 hg w20 hbox hb; have BK547 := Aside0.mk hbox; have GW547 := Aside0.mk (zg (zL1 HB.out GE546.out) hg : w.heap.size ≤ gb547); have GE547 := GW547; replace HB := zLB (zL1 HB.out GE546.out) hb; have NB546_547 := Aside0.mk (zN BK546.out hg : gb546 ≠ gb547); have NB547_546 := Aside0.mk (zM BK546.out hg : gb547 ≠ gb546); replace BK546 := zBB BK546 hb; clear hb hbox hg; have hnb21 := NB546_547.out; have hnc21 := NB547_546.out; have hcz22 := zc6 BK546.out; have hfz22 := zf6 BK546.out; have hcz23 := zc6 BK547.out; have hfz23 := zf6 BK547.out))
     go_ret
     exact ⟨zW, zL2 HB.out GE546.out GE547.out⟩
   ·rw [if_neg c5] at H
    obtain ⟨c5b0, c5b1⟩ := zf c5
    obtain rfl := Option.some.inj H
    go_enter Tryd.func45, Tryd.ntmps45
    go_wp2_with (first | ((with_reducible refine gD 2 rfl ?_); refine bE 2 #[.int .i64 a0_0, .int .i64 a0_1, .int .i64 a0_2, .int .i64 a0_3, .bool a0_4, .slice A0_5 l0_5.length c0_5] 38 ?_; intro gb546 hg w24 hbox hb; have BK546 := Aside0.mk hbox; have GW546 := Aside0.mk (zg (zL HB.out) hg : w.heap.size ≤ gb546); have GE546 := GW546; replace HB := zLB (zL HB.out) hb; clear hb hbox hg) | ((with_reducible refine gD 3 rfl ?_); refine bE 3 #[.int .i64 a1_0, .int .i64 a1_1, .int .i64 a1_2, .int .i64 a1_3, .bool a1_4, .slice A1_5 l1_5.length c1_5] 38 ?_; intro gb547 hg w25 hbox hb; have BK547 := Aside0.mk hbox; have GW547 := Aside0.mk (zg (zL1 HB.out GE546.out) hg : w.heap.size ≤ gb547); have GE547 := GW547; replace HB := zLB (zL1 HB.out GE546.out) hb; have NB546_547 := Aside0.mk (zN BK546.out hg : gb546 ≠ gb547); have NB547_546 := Aside0.mk (zM BK546.out hg : gb547 ≠ gb546); replace BK546 := zBB BK546 hb; clear hb hbox hg; have hnb26 := NB546_547.out; have hnc26 := NB547_546.out; have hcz27 := zc6 BK546.out; have hfz27 := zf6 BK546.out; have hcz28 := zc6 BK547.out; have hfz28 := zf6 BK547.out))
    go_ret
    exact ⟨zW, zL2 HB.out GE546.out GE547.out⟩
  ·rw [if_neg c4] at H
   obtain ⟨c4b0, c4b1⟩ := zf c4
   obtain rfl := Option.some.inj H
   go_enter Tryd.func45, Tryd.ntmps45
   go_wp2_with (first | ((with_reducible refine gD 2 rfl ?_); refine bE 2 #[.int .i64 a0_0, .int .i64 a0_1, .int .i64 a0_2, .int .i64 a0_3, .bool a0_4, .slice A0_5 l0_5.length c0_5] 38 ?_; intro gb546 hg w29 hbox hb; have BK546 := Aside0.mk hbox; have GW546 := Aside0.mk (zg (zL HB.out) hg : w.heap.size ≤ gb546); have GE546 := GW546; replace HB := zLB (zL HB.out) hb; clear hb hbox hg) | ((with_reducible refine gD 3 rfl ?_); refine bE 3 #[.int .i64 a1_0, .int .i64 a1_1, .int .i64 a1_2, .int .i64 a1_3, .bool a1_4, .slice A1_5 l1_5.length c1_5] 38 ?_; intro gb547 hg w30 hbox hb; have BK547 := Aside0.mk hbox; have GW547 := Aside0.mk (zg (zL1 HB.out GE546.out) hg : w.heap.size ≤ gb547); have GE547 := GW547; replace HB := zLB (zL1 HB.out GE546.out) hb; have NB546_547 := Aside0.mk (zN BK546.out hg : gb546 ≠ gb547); have NB547_546 := Aside0.mk (zM BK546.out hg : gb547 ≠ gb546); replace BK546 := zBB BK546 hb; clear hb hbox hg; have hnb31 := NB546_547.out; have hnc31 := NB547_546.out; have hcz32 := zc6 BK546.out; have hfz32 := zf6 BK546.out; have hcz33 := zc6 BK547.out; have hfz33 := zf6 BK547.out))
   go_ret
   exact ⟨zW, zL2 HB.out GE546.out GE547.out⟩
 ·rw [if_neg c3] at H
  obtain ⟨c3b0, c3b1⟩ := zf c3
  obtain rfl := Option.some.inj H
  go_enter Tryd.func45, Tryd.ntmps45
  go_wp2_with (first | ((with_reducible refine gD 2 rfl ?_); refine bE 2 #[.int .i64 a0_0, .int .i64 a0_1, .int .i64 a0_2, .int .i64 a0_3, .bool a0_4, .slice A0_5 l0_5.length c0_5] 38 ?_; intro gb546 hg w34 hbox hb; have BK546 := Aside0.mk hbox; have GW546 := Aside0.mk (zg (zL HB.out) hg : w.heap.size ≤ gb546); have GE546 := GW546; replace HB := zLB (zL HB.out) hb; clear hb hbox hg) | ((with_reducible refine gD 3 rfl ?_); refine bE 3 #[.int .i64 a1_0, .int .i64 a1_1, .int .i64 a1_2, .int .i64 a1_3, .bool a1_4, .slice A1_5 l1_5.length c1_5] 38 ?_; intro gb547 hg w35 hbox hb; have BK547 := Aside0.mk hbox; have GW547 := Aside0.mk (zg (zL1 HB.out GE546.out) hg : w.heap.size ≤ gb547); have GE547 := GW547; replace HB := zLB (zL1 HB.out GE546.out) hb; have NB546_547 := Aside0.mk (zN BK546.out hg : gb546 ≠ gb547); have NB547_546 := Aside0.mk (zM BK546.out hg : gb547 ≠ gb546); replace BK546 := zBB BK546 hb; clear hb hbox hg; have hnb36 := NB546_547.out; have hnc36 := NB547_546.out; have hcz37 := zc6 BK546.out; have hfz37 := zf6 BK546.out; have hcz38 := zc6 BK547.out; have hfz38 := zf6 BK547.out))
  go_ret
  exact ⟨zW, zL2 HB.out GE546.out GE547.out⟩

end Go.Proofs.YtkhbhdchakbmhaaDoor.QFnSpans
