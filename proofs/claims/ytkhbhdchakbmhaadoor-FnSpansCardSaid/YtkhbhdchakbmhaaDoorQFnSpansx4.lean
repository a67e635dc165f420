/- What the Go functions that the law FnSpans reaches answer: each as a Lean function, with its walk. Written by a program of this session. Conditions: those that each theorem names. -/
import Derived.Test.YtkhbhdchakbmhaaDoorQFnSpansx0
import Derived.Test.YtkhbhdchakbmhaaDoorQFnSpansx2
import Derived.Test.YtkhbhdchakbmhaaDoorQFnSpansx3
namespace Go.Proofs.YtkhbhdchakbmhaaDoor.QFnSpans
open Go.RowKit Go.Proofs.YtkhbhdchakbmhaaDoorW.PrintWords Go.Proofs.YtkhbhdchakbmhaaDoorW.PrintLast Go.Proofs.YtkhbhdchakbmhaaDoorW.PrintMore
attribute [local go_sem] max2_int min2_int max_two min_two max_three min_three max_four min_four   -- for this text's walks alone
set_option linter.unusedVariables false
set_option linter.unusedSimpArgs false

open Go.Proofs.YtkhbhdchakbmhaaDoorW.PrintWords renaming blk_drewN → bN, blk_drew → bD, blk_alloc → bA, blk_cell → bC, blk_below → bB, below_set → bS
/-! ### spec_SizeOf: function 42 -/
def spec_SizeOf.l0 : Nat → Int → Int → Int → Int → Int → Int → Bool → List (S28) → Option (Int)
 | 0, _, _, _, _, _, _, _, _ => none
 | k + 1, x3, x4, x121000, x121001, x121002, x121003, x121004, x121005 => if x4 < (x121005.length : Int) then (if 0 ≤ x4 then ((spec_AttrSize.f ((rd_T28 x121005 x4).f0) ((rd_T28 x121005 x4).f1) ((rd_T28 x121005 x4).f2) ((rd_T28 x121005 x4).f3)).bind fun t122 => (spec_SizeOf.l0 k (wrap64 (x3 + t122)) (wrap64 (x4 + 1)) x121000 x121001 x121002 x121003 x121004 x121005)) else (none)) else (some x3)
def spec_SizeOf.f (k : Nat) (a0_0 : Int) (a0_1 : Int) (a0_2 : Int) (a0_3 : Int) (a0_4 : Bool) (l0_5 : List (S28)) : Option (Int) := spec_SizeOf.l0 k 12 0 a0_0 a0_1 a0_2 a0_3 a0_4 l0_5
theorem spec_SizeOf.mono_l : ∀ k, (∀ y0 y1 y2 y3 y4 y5 y6 y7, LeO (spec_SizeOf.l0 k y0 y1 y2 y3 y4 y5 y6 y7) (spec_SizeOf.l0 (k + 1) y0 y1 y2 y3 y4 y5 y6 y7))
 | 0 => fun _ _ _ _ _ _ _ _ r h => by simp [spec_SizeOf.l0] at h
 | k + 1 => by
  have ih0 := spec_SizeOf.mono_l k
  ·intro y0 y1 y2 y3 y4 y5 y6 y7
   unfold spec_SizeOf.l0
   repeat' first
   | (with_reducible exact ih0 _ _ _ _ _ _ _ _)
   | (with_reducible exact LeO.refl _)
   | (with_reducible exact LeO.none _)
   | (with_reducible refine LeO.ite ?_ ?_)
   | (with_reducible refine LeO.bind ?_ (fun _ => ?_))
   | exact ih0 _ _ _ _ _ _ _ _
   | exact LeO.none _
   | refine LeO.ite ?_ ?_
   | refine LeO.bind ?_ (fun _ => ?_)
theorem spec_SizeOf.mono : ∀ a0 a1 a2 a3 a4 a5 k, LeO (spec_SizeOf.f k a0 a1 a2 a3 a4 a5) (spec_SizeOf.f (k + 1) a0 a1 a2 a3 a4 a5) := by
 intro a0 a1 a2 a3 a4 a5 k
 have ih0 := spec_SizeOf.mono_l k
 unfold spec_SizeOf.f
 repeat' first
   | (with_reducible exact ih0 _ _ _ _ _ _ _ _)
   | (with_reducible exact LeO.refl _)
   | (with_reducible exact LeO.none _)
   | (with_reducible refine LeO.ite ?_ ?_)
   | (with_reducible refine LeO.bind ?_ (fun _ => ?_))
   | exact ih0 _ _ _ _ _ _ _ _
   | exact LeO.none _
   | refine LeO.ite ?_ ?_
   | refine LeO.bind ?_ (fun _ => ?_)
set_option maxHeartbeats 8000000 in
set_option maxRecDepth 100000 in
theorem spec_SizeOf.calls (k : Nat) (a0_0 : Int) (a0_1 : Int) (a0_2 : Int) (a0_3 : Int) (a0_4 : Bool) (A0_5 : Option Addr) (c0_5 : Nat) (l0_5 : List (S28)) (r : Int) (w : World) (hr0_5 : Kd.C k28 w A0_5 l0_5.length l0_5) (hc0_5 : l0_5.length ≤ c0_5) (h : spec_SizeOf.f k a0_0 a0_1 a0_2 a0_3 a0_4 l0_5 = some r) :
  Calls Tryd.prog 42 #[.agg #[.int .i64 a0_0, .int .i64 a0_1, .int .i64 a0_2, .int .i64 a0_3, .bool a0_4, .slice A0_5 l0_5.length c0_5]] w fun e w' => e = .returned (.int .i64 r) ∧ Below w.heap.size w w' := by
 have hu38 := Tryd.underlying38
 have hu28 := Tryd.underlying28
 have HR0_5 := Aside0.mk hr0_5
 have HC0_5 := Aside0.mk hc0_5
 clear hr0_5 hc0_5
 have HB := Aside0.mk (Below.refl w.heap.size w)
 unfold spec_SizeOf.f at h; have H := h
 clear h
 have H' := Aside0.mk H
 clear H
 go_enter Tryd.func42, Tryd.ntmps42
 go_wp2_with (first | ((with_reducible refine gD 1 rfl ?_); refine bE 1 #[.int .i64 a0_0, .int .i64 a0_1, .int .i64 a0_2, .int .i64 a0_3, .bool a0_4, .slice A0_5 l0_5.length c0_5] 38 ?_; intro gb120 hg w2 hbox hb; have BK120 := Aside0.mk hbox; have GW120 := Aside0.mk (zg (zL HB.out) hg : w.heap.size ≤ gb120); have GE120 := GW120; replace HB := zLB (zL HB.out) hb; clear hb hbox hg))
 go_loopg [3, 4] k (fun kq v3 v4 w' => ∃ (x3_1 : Int) (x4_1 : Int), v3 = .int .i64 x3_1 ∧ v4 = .int .i64 x4_1 ∧ Aside0 (spec_SizeOf.l0 kq x3_1 x4_1 a0_0 a0_1 a0_2 a0_3 a0_4 l0_5 = some r) ∧ Aside0 (kq ≤ k) ∧ Aside0 (w'.heap[gb120]? = some (.cells #[.int .i64 a0_0, .int .i64 a0_1, .int .i64 a0_2, .int .i64 a0_3, .bool a0_4, (.slice A0_5 l0_5.length c0_5)] 38 (0, 0))) ∧ Aside0 (Below w.heap.size w w'))
 case atStart => exact ⟨(12), (0), zV, zV, H', ⟨Nat.le_refl _⟩, ⟨zB BK120.out⟩, ⟨zL1 HB.out GE120.out⟩⟩
 case round =>
  clear H'
  try clear p2
  obtain ⟨x3_1, x4_1, rfl, rfl, HA, HK1, BK120, HB⟩ := hrel
  cases gk with
  | zero => exact absurd HA.out (by simp [spec_SizeOf.l0])
  | succ k1 =>
   have H := HA.out
   clear HA
   simp only [spec_SizeOf.l0] at H
   by_cases c3 : x4_1 < (l0_5.length : Int)
   ·rw [if_pos c3] at H
    have c3b0 := decide_eq_true c3
    clear c3
    by_cases c4 : 0 ≤ x4_1
    ·rw [if_pos c4] at H
     have c4b0 := decide_eq_true c4
     clear c4
     obtain ⟨t122, A5, H⟩ := zO H; try dsimp only at H
     have H' := Aside0.mk H
     clear H
     have hcz6 := zc6 BK120.out
     have hfz6 := zf6 BK120.out
     have p121 : 0 ≤ (x4_1 : Int) := zD
     have q121 : x4_1 < (l0_5.length : Int) := zD
     obtain ⟨ad121, e121, hx121_0, hx121_1, hx121_2, hx121_3⟩ := at_T28 HR0_5.out x4_1 p121 q121
     cases e121
     replace hx121_0 := zh HB.out hx121_0
     replace hx121_1 := zh HB.out hx121_1
     replace hx121_2 := zh HB.out hx121_2
     replace hx121_3 := zh HB.out hx121_3
     replace p121 := eq_true p121
     replace q121 := eq_true q121
     go_wp2_with (first | ((with_reducible refine gC 34 rfl ?_); refine gL 18 Tryd.func34 #[.agg #[.string ((rd_T28 l0_5 x4_1).f0), .bool ((rd_T28 l0_5 x4_1).f1), .int .i64 ((rd_T28 l0_5 x4_1).f2), .string ((rd_T28 l0_5 x4_1).f3)]] ?_; (with_reducible refine (spec_AttrSize.calls ((rd_T28 l0_5 x4_1).f0) ((rd_T28 l0_5 x4_1).f1) ((rd_T28 l0_5 x4_1).f2) ((rd_T28 l0_5 x4_1).f3) t122 _ A5.out).mono ?_); rintro e w7 ⟨rfl, hb⟩; refine ⟨_, rfl, ?_⟩; replace BK120 := zBB BK120 hb; replace HB := zLB (zL1 HB.out GE120.out) hb; clear hb))
     go_roundg k1
     case measure => have := HK1.out; omega
     case rel => exact ⟨(wrap64 (x3_1 + t122)), (wrap64 (x4_1 + 1)), zV, zV, H', ⟨by have := HK1.out; omega⟩, ⟨zB BK120.out⟩, ⟨zL1 HB.out GE120.out⟩⟩
    ·rw [if_neg c4] at H
     exact absurd H (by simp)
   ·rw [if_neg c3] at H
    have c3b0 := decide_eq_false c3
    clear c3
    obtain rfl := Option.some.inj H
    have hcz8 := zc6 BK120.out
    have hfz8 := zf6 BK120.out
    go_wp2
    go_ret
    exact ⟨zW, zL1 HB.out GE120.out⟩

open Go.Proofs.YtkhbhdchakbmhaaDoorW.PrintWords renaming blk_drewN → bN, blk_drew → bD, blk_alloc → bA, blk_cell → bC, blk_below → bB, below_set → bS
/-! ### spec_SpanOk: function 40 -/
def spec_SpanOk.f (k : Nat) (a0_0 : Int) (a0_1 : Int) (a0_2 : Int) (a0_3 : Int) (a0_4 : Bool) (l0_5 : List (S28)) : Option (Bool) := (spec_l1In.f a0_0 1 999).bind fun t124 => (if t124 = true then ((spec_l1In.f a0_1 1 999).bind fun t125 => (if t125 = true then ((spec_l1In.f a0_2 0 99999).bind fun t126 => (if t126 = true then ((spec_l1In.f a0_3 a0_2 99999).bind fun t127 => (if t127 = true then ((spec_AttrsOk.f k l0_5).bind fun t128 => (if t128 = true then ((spec_SizeOf.f k a0_0 a0_1 a0_2 a0_3 a0_4 l0_5).bind fun t129 => (some (decide (t129 ≤ 96)))) else (some false))) else (some false))) else (some false))) else (some false))) else (some false))
theorem spec_SpanOk.mono : ∀ a0 a1 a2 a3 a4 a5 k, LeO (spec_SpanOk.f k a0 a1 a2 a3 a4 a5) (spec_SpanOk.f (k + 1) a0 a1 a2 a3 a4 a5) := by
 intro a0 a1 a2 a3 a4 a5 k
 unfold spec_SpanOk.f
 repeat' first
   | (with_reducible apply spec_AttrsOk.mono)
   | (with_reducible apply spec_SizeOf.mono)
   | (with_reducible exact LeO.refl _)
   | (with_reducible exact LeO.none _)
   | (with_reducible refine LeO.ite ?_ ?_)
   | (with_reducible refine LeO.bind ?_ (fun _ => ?_))
   | apply spec_AttrsOk.mono
   | apply spec_SizeOf.mono
   | exact LeO.none _
   | refine LeO.ite ?_ ?_
   | refine LeO.bind ?_ (fun _ => ?_)
set_option maxHeartbeats 8000000 in
set_option maxRecDepth 100000 in
theorem spec_SpanOk.calls (k : Nat) (a0_0 : Int) (a0_1 : Int) (a0_2 : Int) (a0_3 : Int) (a0_4 : Bool) (A0_5 : Option Addr) (c0_5 : Nat) (l0_5 : List (S28)) (r : Bool) (w : World) (hr0_5 : Kd.C k28 w A0_5 l0_5.length l0_5) (hc0_5 : l0_5.length ≤ c0_5) (h : spec_SpanOk.f k a0_0 a0_1 a0_2 a0_3 a0_4 l0_5 = some r) :
  Calls Tryd.prog 40 #[.agg #[.int .i64 a0_0, .int .i64 a0_1, .int .i64 a0_2, .int .i64 a0_3, .bool a0_4, .slice A0_5 l0_5.length c0_5]] w fun e w' => e = .returned (.bool r) ∧ Below w.heap.size w w' := by
 have hu38 := Tryd.underlying38
 have HR0_5 := Aside0.mk hr0_5
 have HC0_5 := Aside0.mk hc0_5
 clear hr0_5 hc0_5
 have HB := Aside0.mk (Below.refl w.heap.size w)
 unfold spec_SpanOk.f at h; have H := h
 clear h
 obtain ⟨t124, A2, H⟩ := zO H; try dsimp only at H
 by_cases c3 : t124 = true
 ·subst c3
  rw [if_pos rfl] at H
  obtain ⟨t125, A4, H⟩ := zO H; try dsimp only at H
  by_cases c5 : t125 = true
  ·subst c5
   rw [if_pos rfl] at H
   obtain ⟨t126, A6, H⟩ := zO H; try dsimp only at H
   by_cases c7 : t126 = true
   ·subst c7
    rw [if_pos rfl] at H
    obtain ⟨t127, A8, H⟩ := zO H; try dsimp only at H
    by_cases c9 : t127 = true
    ·subst c9
     rw [if_pos rfl] at H
     obtain ⟨t128, A10, H⟩ := zO H; try dsimp only at H
     by_cases c11 : t128 = true
     ·subst c11
      rw [if_pos rfl] at H
      obtain ⟨t129, A12, H⟩ := zO H; try dsimp only at H
      obtain rfl := Option.some.inj H
      go_enter Tryd.func40, Tryd.ntmps40
      go_wp2_with (first | ((with_reducible refine gD 1 rfl ?_); refine bE 1 #[.int .i64 a0_0, .int .i64 a0_1, .int .i64 a0_2, .int .i64 a0_3, .bool a0_4, .slice A0_5 l0_5.length c0_5] 38 ?_; intro gb123 hg w13 hbox hb; have BK123 := Aside0.mk hbox; have GW123 := Aside0.mk (zg (zL HB.out) hg : w.heap.size ≤ gb123); have GE123 := GW123; replace HB := zLB (zL HB.out) hb; clear hb hbox hg; have hcz14 := zc6 BK123.out; have hfz14 := zf6 BK123.out) | ((with_reducible refine gC 61 rfl ?_); refine gL 5 Tryd.func61 #[.int .i64 a0_0, .int .i64 1, .int .i64 999] ?_; (with_reducible refine (spec_l1In.calls a0_0 1 999 true _ A2.out).mono ?_); rintro e w' ⟨rfl, ⟨nd, rfl⟩⟩; refine ⟨_, rfl, ?_⟩) | (go_at_call 61; (with_reducible refine (spec_l1In.calls a0_1 1 999 true _ A4.out).mono ?_); rintro e w' ⟨rfl, ⟨nd, rfl⟩⟩) | (go_at_call 61; (with_reducible refine (spec_l1In.calls a0_2 0 99999 true _ A6.out).mono ?_); rintro e w' ⟨rfl, ⟨nd, rfl⟩⟩) | (go_at_call 61; (with_reducible refine (spec_l1In.calls a0_3 a0_2 99999 true _ A8.out).mono ?_); rintro e w' ⟨rfl, ⟨nd, rfl⟩⟩) | (go_at_call 32; (with_reducible refine (spec_AttrsOk.calls k _ _ l0_5 true _ ?side1 ?side2 A10.out).mono ?_); (case side1 => repeat (first | exact (Kd.C_below HR0_5.out (zL1 HB.out GE123.out)) | (with_reducible refine Kd.C_alloc ?_ _) | (with_reducible refine Kd.C_drewN ?_ _) | (with_reducible refine Kd.C_drew ?_))); (case side2 => exact HC0_5.out); rintro e w15 ⟨rfl, hb⟩; replace BK123 := zBB BK123 hb; replace HB := zLB (zL1 HB.out GE123.out) hb; clear hb; have hcz16 := zc6 BK123.out; have hfz16 := zf6 BK123.out) | (go_at_call 42; (with_reducible refine (spec_SizeOf.calls k a0_0 a0_1 a0_2 a0_3 a0_4 _ _ l0_5 t129 _ ?side1 ?side2 A12.out).mono ?_); (case side1 => exact zC (Kd.C_below HR0_5.out HB.out)); (case side2 => exact HC0_5.out); rintro e w17 ⟨rfl, hb⟩; replace BK123 := zBB BK123 hb; replace HB := zLB (zL1 HB.out GE123.out) hb; clear hb))
      go_ret
      exact ⟨zW, zL1 HB.out GE123.out⟩
     ·obtain rfl := Bool.eq_false_iff.mpr c11
      rw [if_neg zn] at H
      obtain rfl := Option.some.inj H
      go_enter Tryd.func40, Tryd.ntmps40
      go_wp2_with (first | ((with_reducible refine gD 1 rfl ?_); refine bE 1 #[.int .i64 a0_0, .int .i64 a0_1, .int .i64 a0_2, .int .i64 a0_3, .bool a0_4, .slice A0_5 l0_5.length c0_5] 38 ?_; intro gb123 hg w18 hbox hb; have BK123 := Aside0.mk hbox; have GW123 := Aside0.mk (zg (zL HB.out) hg : w.heap.size ≤ gb123); have GE123 := GW123; replace HB := zLB (zL HB.out) hb; clear hb hbox hg; have hcz19 := zc6 BK123.out; have hfz19 := zf6 BK123.out) | ((with_reducible refine gC 61 rfl ?_); refine gL 5 Tryd.func61 #[.int .i64 a0_0, .int .i64 1, .int .i64 999] ?_; (with_reducible refine (spec_l1In.calls a0_0 1 999 true _ A2.out).mono ?_); rintro e w' ⟨rfl, ⟨nd, rfl⟩⟩; refine ⟨_, rfl, ?_⟩) | (go_at_call 61; (with_reducible refine (spec_l1In.calls a0_1 1 999 true _ A4.out).mono ?_); rintro e w' ⟨rfl, ⟨nd, rfl⟩⟩) | (go_at_call 61; (with_reducible refine (spec_l1In.calls a0_2 0 99999 true _ A6.out).mono ?_); rintro e w' ⟨rfl, ⟨nd, rfl⟩⟩) | (go_at_call 61; (with_reducible refine (spec_l1In.calls a0_3 a0_2 99999 true _ A8.out).mono ?_); rintro e w' ⟨rfl, ⟨nd, rfl⟩⟩) | (go_at_call 32; (with_reducible refine (spec_AttrsOk.calls k _ _ l0_5 false _ ?side1 ?side2 A10.out).mono ?_); (case side1 => repeat (first | exact (Kd.C_below HR0_5.out (zL1 HB.out GE123.out)) | (with_reducible refine Kd.C_alloc ?_ _) | (with_reducible refine Kd.C_drewN ?_ _) | (with_reducible refine Kd.C_drew ?_))); (case side2 => exact HC0_5.out); rintro e w20 ⟨rfl, hb⟩; replace BK123 := zBB BK123 hb; replace HB := zLB (zL1 HB.out GE123.out) hb; clear hb))
      go_ret
      exact ⟨zW, zL1 HB.out GE123.out⟩
    ·obtain rfl := Bool.eq_false_iff.mpr c9
     rw [if_neg zn] at H
     obtain rfl := Option.some.inj H
     go_enter Tryd.func40, Tryd.ntmps40
     go_wp2_with (first | ((with_reducible refine gD 1 rfl ?_); refine bE 1 #[.int .i64 a0_0, .int .i64 a0_1, .int .i64 a0_2, .int .i64 a0_3, .bool a0_4, .slice A0_5 l0_5.length c0_5] 38 ?_; intro gb123 hg w21 hbox hb; have BK123 := Aside0.mk hbox; have GW123 := Aside0.mk (zg (zL HB.out) hg : w.heap.size ≤ gb123); have GE123 := GW123; replace HB := zLB (zL HB.out) hb; clear hb hbox hg; have hcz22 := zc6 BK123.out; have hfz22 := zf6 BK123.out) | ((with_reducible refine gC 61 rfl ?_); refine gL 5 Tryd.func61 #[.int .i64 a0_0, .int .i64 1, .int .i64 999] ?_; (with_reducible refine (spec_l1In.calls a0_0 1 999 true _ A2.out).mono ?_); rintro e w' ⟨rfl, ⟨nd, rfl⟩⟩; refine ⟨_, rfl, ?_⟩) | (go_at_call 61; (with_reducible refine (spec_l1In.calls a0_1 1 999 true _ A4.out).mono ?_); rintro e w' ⟨rfl, ⟨nd, rfl⟩⟩) | (go_at_call 61; (with_reducible refine (spec_l1In.calls a0_2 0 99999 true _ A6.out).mono ?_); rintro e w' ⟨rfl, ⟨nd, rfl⟩⟩) | (go_at_call 61; (with_reducible refine (spec_l1In.calls a0_3 a0_2 99999 false _ A8.out).mono ?_); rintro e w' ⟨rfl, ⟨nd, rfl⟩⟩))
     go_ret
     exact ⟨zW, zL1 HB.out GE123.out⟩
   ·obtain rfl := Bool.eq_false_iff.mpr c7
    rw [if_neg zn] at H
    obtain rfl := Option.some.inj H
    go_enter Tryd.func40, Tryd.ntmps40
    go_wp2_with (first | ((with_reducible refine gD 1 rfl ?_); refine bE 1 #[.int .i64 a0_0, .int .i64 a0_1, .int .i64 a0_2, .int .i64 a0_3, .bool a0_4, .slice A0_5 l0_5.length c0_5] 38 ?_; intro gb123 hg w23 hbox hb; have BK123 := Aside0.mk hbox; have GW123 := Aside0.mk (zg (zL HB.out) hg : w.heap.size ≤ gb123); have GE123 := GW123; replace HB := zLB (zL HB.out) hb; clear hb hbox hg; have hcz24 := zc6 BK123.out; have hfz24 := zf6 BK123.out) | ((with_reducible refine gC 61 rfl ?_); refine gL 5 Tryd.func61 #[.int .i64 a0_0, .int .i64 1, .int .i64 999] ?_; (with_reducible refine (spec_l1In.calls a0_0 1 999 true _ A2.out).mono ?_); rintro e w' ⟨rfl, ⟨nd, rfl⟩⟩; refine ⟨_, rfl, ?_⟩) | (go_at_call 61; (with_reducible refine (spec_l1In.calls a0_1 1 999 true _ A4.out).mono ?_); rintro e w' ⟨rfl, ⟨nd, rfl⟩⟩) | (go_at_call 61; (with_reducible refine (spec_l1In.calls a0_2 0 99999 false _ A6.out).mono ?_); rintro e w' ⟨rfl, ⟨nd, rfl⟩⟩))
    go_ret
    exact ⟨zW, zL1 HB.out GE123.out⟩
  ·obtain rfl := Bool.eq_false_iff.mpr c5
   rw [if_neg zn] at H
   obtain rfl := Option.some.inj H
   go_enter Tryd.func40, Tryd.ntmps40
   go_wp2_with (first | ((with_reducible refine gD 1 rfl ?_); refine bE 1 #[.int .i64 a0_0, .int .i64 a0_1, .int .i64 a0_2, .int .i64 a0_3, .bool a0_4, .slice A0_5 l0_5.length c0_5] 38 ?_; intro gb123 hg w25 hbox hb; have BK123 := Aside0.mk hbox; have GW123 := Aside0.mk (zg (zL HB.out) hg : w.heap.size ≤ gb123); have GE123 := GW123; replace HB := zLB (zL HB.out) hb; clear hb hbox hg; have hcz26 := zc6 BK123.out; have hfz26 := zf6 BK123.out) | ((with_reducible refine gC 61 rfl ?_); refine gL 5 Tryd.func61 #[.int .i64 a0_0, .int .i64 1, .int .i64 999] ?_; (with_reducible refine (spec_l1In.calls a0_0 1 999 true _ A2.out).mono ?_); rintro e w' ⟨rfl, ⟨nd, rfl⟩⟩; refine ⟨_, rfl, ?_⟩) | (go_at_call 61; (with_reducible refine (spec_l1In.calls a0_1 1 999 false _ A4.out).mono ?_); rintro e w' ⟨rfl, ⟨nd, rfl⟩⟩))
   go_ret
   exact ⟨zW, zL1 HB.out GE123.out⟩
 ·obtain rfl := Bool.eq_false_iff.mpr c3
  rw [if_neg zn] at H
  obtain rfl := Option.some.inj H
  go_enter Tryd.func40, Tryd.ntmps40
  go_wp2_with (first | ((with_reducible refine gD 1 rfl ?_); refine bE 1 #[.int .i64 a0_0, .int .i64 a0_1, .int .i64 a0_2, .int .i64 a0_3, .bool a0_4, .slice A0_5 l0_5.length c0_5] 38 ?_; intro gb123 hg w27 hbox hb; have BK123 := Aside0.mk hbox; have GW123 := Aside0.mk (zg (zL HB.out) hg : w.heap.size ≤ gb123); have GE123 := GW123; replace HB := zLB (zL HB.out) hb; clear hb hbox hg; have hcz28 := zc6 BK123.out; have hfz28 := zf6 BK123.out) | ((with_reducible refine gC 61 rfl ?_); refine gL 5 Tryd.func61 #[.int .i64 a0_0, .int .i64 1, .int .i64 999] ?_; (with_reducible refine (spec_l1In.calls a0_0 1 999 false _ A2.out).mono ?_); rintro e w' ⟨rfl, ⟨nd, rfl⟩⟩; refine ⟨_, rfl, ?_⟩))
  go_ret
  exact ⟨zW, zL1 HB.out GE123.out⟩

open Go.Proofs.YtkhbhdchakbmhaaDoorW.PrintWords renaming blk_drewN → bN, blk_drew → bD, blk_alloc → bA, blk_cell → bC, blk_below → bB, below_set → bS
/-! ### spec_SpanText: function 17 -/
mutual
def spec_SpanText.j0 : Nat → ByteArray → Int → Int → Int → Int → Bool → List (S28) → Option (ByteArray)
 | 0, _, _, _, _, _, _, _ => none
 | k + 1, x3, x131000, x131001, x131002, x131003, x131004, x131005 => spec_SpanText.l0 k x3 0 x131000 x131001 x131002 x131003 x131004 x131005
def spec_SpanText.l0 : Nat → ByteArray → Int → Int → Int → Int → Int → Bool → List (S28) → Option (ByteArray)
 | 0, _, _, _, _, _, _, _, _ => none
 | k + 1, x3, x4, x131000, x131001, x131002, x131003, x131004, x131005 => if x4 < (x131005.length : Int) then (if x3.size + 1 ≤ 9223372036854775807 then (if 0 ≤ x4 then ((spec_AttrText.f k ((rd_T28 x131005 x4).f0) ((rd_T28 x131005 x4).f1) ((rd_T28 x131005 x4).f2) ((rd_T28 x131005 x4).f3)).bind fun t137 => (if (x3 ++ (⟨#[32]⟩ : ByteArray)).size + t137.size ≤ 9223372036854775807 then (spec_SpanText.l0 k ((x3 ++ (⟨#[32]⟩ : ByteArray)) ++ t137) (wrap64 (x4 + 1)) x131000 x131001 x131002 x131003 x131004 x131005) else (none))) else (none)) else (none)) else (some x3)
end
def spec_SpanText.f (k : Nat) (a0_0 : Int) (a0_1 : Int) (a0_2 : Int) (a0_3 : Int) (a0_4 : Bool) (l0_5 : List (S28)) : Option (ByteArray) := (spec_SpanOk.f k a0_0 a0_1 a0_2 a0_3 a0_4 l0_5).bind fun t131 => (if t131 = true then ((spec_NumText.f k a0_0).bind fun t132 => (if t132.size + 1 ≤ 9223372036854775807 then ((spec_NumText.f k a0_1).bind fun t133 => (if (t132 ++ (⟨#[47]⟩ : ByteArray)).size + t133.size ≤ 9223372036854775807 then (if ((t132 ++ (⟨#[47]⟩ : ByteArray)) ++ t133).size + 1 ≤ 9223372036854775807 then ((spec_NumText.f k a0_2).bind fun t134 => (if (((t132 ++ (⟨#[47]⟩ : ByteArray)) ++ t133) ++ (⟨#[32]⟩ : ByteArray)).size + t134.size ≤ 9223372036854775807 then (if ((((t132 ++ (⟨#[47]⟩ : ByteArray)) ++ t133) ++ (⟨#[32]⟩ : ByteArray)) ++ t134).size + 1 ≤ 9223372036854775807 then ((spec_NumText.f k a0_3).bind fun t135 => (if (((((t132 ++ (⟨#[47]⟩ : ByteArray)) ++ t133) ++ (⟨#[32]⟩ : ByteArray)) ++ t134) ++ (⟨#[45]⟩ : ByteArray)).size + t135.size ≤ 9223372036854775807 then (if a0_4 = true then (if ((((((t132 ++ (⟨#[47]⟩ : ByteArray)) ++ t133) ++ (⟨#[32]⟩ : ByteArray)) ++ t134) ++ (⟨#[45]⟩ : ByteArray)) ++ t135).size + 7 ≤ 9223372036854775807 then (spec_SpanText.j0 k (((((((t132 ++ (⟨#[47]⟩ : ByteArray)) ++ t133) ++ (⟨#[32]⟩ : ByteArray)) ++ t134) ++ (⟨#[45]⟩ : ByteArray)) ++ t135) ++ (⟨#[32, 102, 97, 105, 108, 101, 100]⟩ : ByteArray)) a0_0 a0_1 a0_2 a0_3 a0_4 l0_5) else (none)) else (spec_SpanText.j0 k ((((((t132 ++ (⟨#[47]⟩ : ByteArray)) ++ t133) ++ (⟨#[32]⟩ : ByteArray)) ++ t134) ++ (⟨#[45]⟩ : ByteArray)) ++ t135) a0_0 a0_1 a0_2 a0_3 a0_4 l0_5)) else (none))) else (none)) else (none))) else (none)) else (none))) else (none))) else (some (⟨#[]⟩ : ByteArray)))
theorem spec_SpanText.mono_l : ∀ k, (∀ y0 y1 y2 y3 y4 y5 y6, LeO (spec_SpanText.j0 k y0 y1 y2 y3 y4 y5 y6) (spec_SpanText.j0 (k + 1) y0 y1 y2 y3 y4 y5 y6)) ∧ (∀ y0 y1 y2 y3 y4 y5 y6 y7, LeO (spec_SpanText.l0 k y0 y1 y2 y3 y4 y5 y6 y7) (spec_SpanText.l0 (k + 1) y0 y1 y2 y3 y4 y5 y6 y7))
 | 0 => ⟨fun _ _ _ _ _ _ _ r h => by simp [spec_SpanText.j0] at h, fun _ _ _ _ _ _ _ _ r h => by simp [spec_SpanText.l0] at h⟩
 | k + 1 => by
  obtain ⟨ih0, ih1⟩ := spec_SpanText.mono_l k
  refine ⟨?_, ?_⟩
  ·intro y0 y1 y2 y3 y4 y5 y6
   unfold spec_SpanText.j0
   repeat' first
   | (with_reducible exact ih0 _ _ _ _ _ _ _)
   | (with_reducible exact ih1 _ _ _ _ _ _ _ _)
   | (with_reducible apply spec_AttrText.mono)
   | (with_reducible apply spec_NumText.mono)
   | (with_reducible apply spec_SpanOk.mono)
   | (with_reducible exact LeO.refl _)
   | (with_reducible exact LeO.none _)
   | (with_reducible refine LeO.ite ?_ ?_)
   | (with_reducible refine LeO.bind ?_ (fun _ => ?_))
   | exact ih0 _ _ _ _ _ _ _
   | exact ih1 _ _ _ _ _ _ _ _
   | apply spec_AttrText.mono
   | apply spec_NumText.mono
   | apply spec_SpanOk.mono
   | exact LeO.none _
   | refine LeO.ite ?_ ?_
   | refine LeO.bind ?_ (fun _ => ?_)
  ·intro y0 y1 y2 y3 y4 y5 y6 y7
   unfold spec_SpanText.l0
   repeat' first
   | (with_reducible exact ih0 _ _ _ _ _ _ _)
   | (with_reducible exact ih1 _ _ _ _ _ _ _ _)
   | (with_reducible apply spec_AttrText.mono)
   | (with_reducible apply spec_NumText.mono)
   | (with_reducible apply spec_SpanOk.mono)
   | (with_reducible exact LeO.refl _)
   | (with_reducible exact LeO.none _)
   | (with_reducible refine LeO.ite ?_ ?_)
   | (with_reducible refine LeO.bind ?_ (fun _ => ?_))
   | exact ih0 _ _ _ _ _ _ _
   | exact ih1 _ _ _ _ _ _ _ _
   | apply spec_AttrText.mono
   | apply spec_NumText.mono
   | apply spec_SpanOk.mono
   | exact LeO.none _
   | refine LeO.ite ?_ ?_
   | refine LeO.bind ?_ (fun _ => ?_)
theorem spec_SpanText.mono : ∀ a0 a1 a2 a3 a4 a5 k, LeO (spec_SpanText.f k a0 a1 a2 a3 a4 a5) (spec_SpanText.f (k + 1) a0 a1 a2 a3 a4 a5) := by
 intro a0 a1 a2 a3 a4 a5 k
 obtain ⟨ih0, ih1⟩ := spec_SpanText.mono_l k
 unfold spec_SpanText.f
 repeat' first
   | (with_reducible exact ih0 _ _ _ _ _ _ _)
   | (with_reducible exact ih1 _ _ _ _ _ _ _ _)
   | (with_reducible apply spec_AttrText.mono)
   | (with_reducible apply spec_NumText.mono)
   | (with_reducible apply spec_SpanOk.mono)
   | (with_reducible exact LeO.refl _)
   | (with_reducible exact LeO.none _)
   | (with_reducible refine LeO.ite ?_ ?_)
   | (with_reducible refine LeO.bind ?_ (fun _ => ?_))
   | exact ih0 _ _ _ _ _ _ _
   | exact ih1 _ _ _ _ _ _ _ _
   | apply spec_AttrText.mono
   | apply spec_NumText.mono
   | apply spec_SpanOk.mono
   | exact LeO.none _
   | refine LeO.ite ?_ ?_
   | refine LeO.bind ?_ (fun _ => ?_)
def spec_SpanText.T3 : Bool × List (List Nat × List Nat) := (true, [([], []), ([0], [0]), ([1], [1]), ([2], [2]), ([], []), ([4], [4]), ([5, 2], [5]), ([3, 6], [3, 6]), ([7], [7]), ([], []), ([9], [9]), ([10, 6], [10]), ([8, 11], [8, 11]), ([12], [12]), ([], []), ([14], [14]), ([15, 11], [15]), ([13, 16], [13, 16]), ([17, 16, 0, 1, 2, 3, 4, 5, 6, 7, 8, 9, 10, 11, 12, 13, 14, 15, 16, 17], [17])])
def spec_SpanText.B3 : List Nat := [0, 1, 3, 7, 0, 16, 55, 127, 255, 0, 512, 1655, 4095, 8191, 0, 16384, 52855, 131071, 262143]
theorem spec_SpanText.tab3 : rtab .any (opsOf Tryd.f17 3) = spec_SpanText.T3 := by kernel_rfl
theorem spec_SpanText.bits3 : waitsOk spec_SpanText.T3.2 spec_SpanText.B3 = true := by kernel_rfl
set_option maxHeartbeats 8000000 in
set_option maxRecDepth 100000 in
theorem spec_SpanText.calls (k : Nat) (a0_0 : Int) (a0_1 : Int) (a0_2 : Int) (a0_3 : Int) (a0_4 : Bool) (A0_5 : Option Addr) (c0_5 : Nat) (l0_5 : List (S28)) (r : ByteArray) (w : World) (hr0_5 : Kd.C k28 w A0_5 l0_5.length l0_5) (hc0_5 : l0_5.length ≤ c0_5) (h : spec_SpanText.f k a0_0 a0_1 a0_2 a0_3 a0_4 l0_5 = some r) :
  Calls Tryd.prog 17 #[.agg #[.int .i64 a0_0, .int .i64 a0_1, .int .i64 a0_2, .int .i64 a0_3, .bool a0_4, .slice A0_5 l0_5.length c0_5]] w fun e w' => e = .returned (.string r) ∧ Below w.heap.size w w' := by
 have hu38 := Tryd.underlying38
 have hu28 := Tryd.underlying28
 have HR0_5 := Aside0.mk hr0_5
 have HC0_5 := Aside0.mk hc0_5
 clear hr0_5 hc0_5
 have HB := Aside0.mk (Below.refl w.heap.size w)
 unfold spec_SpanText.f at h; have H := h
 clear h
 obtain ⟨t131, A2, H⟩ := zO H; try dsimp only at H
 by_cases c3 : t131 = true
 ·subst c3
  rw [if_pos rfl] at H
  obtain ⟨t132, A4, H⟩ := zO H; try dsimp only at H
  by_cases c5 : t132.size + 1 ≤ 9223372036854775807
  ·rw [if_pos c5] at H
   have c5b0 := eq_true c5
   have c5b1 := decide_eq_true c5
   have c5b2 := eq_false (Nat.not_lt.2 c5)
   obtain ⟨t133, A6, H⟩ := zO H; try dsimp only at H
   by_cases c7 : (t132 ++ (⟨#[47]⟩ : ByteArray)).size + t133.size ≤ 9223372036854775807
   ·rw [if_pos c7] at H
    have c7b0 := eq_true c7
    have c7b1 := decide_eq_true c7
    have c7b2 := eq_false (Nat.not_lt.2 c7)
    try have c7b3 : (9223372036854775807 < t132.size + 1 + t133.size) = False := eq_false (by have z_ := c7; simp only [ByteArray.size_append] at z_; have e0_ : ((⟨#[47]⟩ : ByteArray)).size = 1 := rfl; omega)
    by_cases c8 : ((t132 ++ (⟨#[47]⟩ : ByteArray)) ++ t133).size + 1 ≤ 9223372036854775807
    ·rw [if_pos c8] at H
     have c8b0 := eq_true c8
     have c8b1 := decide_eq_true c8
     have c8b2 := eq_false (Nat.not_lt.2 c8)
     try have c8b3 : (9223372036854775807 < t132.size + 1 + t133.size + 1) = False := eq_false (by have z_ := c8; simp only [ByteArray.size_append] at z_; have e0_ : ((⟨#[47]⟩ : ByteArray)).size = 1 := rfl; omega)
     obtain ⟨t134, A9, H⟩ := zO H; try dsimp only at H
     by_cases c10 : (((t132 ++ (⟨#[47]⟩ : ByteArray)) ++ t133) ++ (⟨#[32]⟩ : ByteArray)).size + t134.size ≤ 9223372036854775807
     ·rw [if_pos c10] at H
      have c10b0 := eq_true c10
      have c10b1 := decide_eq_true c10
      have c10b2 := eq_false (Nat.not_lt.2 c10)
      try have c10b3 : (9223372036854775807 < t132.size + 1 + t133.size + 1 + t134.size) = False := eq_false (by have z_ := c10; simp only [ByteArray.size_append] at z_; have e0_ : ((⟨#[47]⟩ : ByteArray)).size = 1 := rfl; have e1_ : ((⟨#[32]⟩ : ByteArray)).size = 1 := rfl; omega)
      by_cases c11 : ((((t132 ++ (⟨#[47]⟩ : ByteArray)) ++ t133) ++ (⟨#[32]⟩ : ByteArray)) ++ t134).size + 1 ≤ 9223372036854775807
      ·rw [if_pos c11] at H
       have c11b0 := eq_true c11
       have c11b1 := decide_eq_true c11
       have c11b2 := eq_false (Nat.not_lt.2 c11)
       try have c11b3 : (9223372036854775807 < t132.size + 1 + t133.size + 1 + t134.size + 1) = False := eq_false (by have z_ := c11; simp only [ByteArray.size_append] at z_; have e0_ : ((⟨#[47]⟩ : ByteArray)).size = 1 := rfl; have e1_ : ((⟨#[32]⟩ : ByteArray)).size = 1 := rfl; omega)
       obtain ⟨t135, A12, H⟩ := zO H; try dsimp only at H
       by_cases c13 : (((((t132 ++ (⟨#[47]⟩ : ByteArray)) ++ t133) ++ (⟨#[32]⟩ : ByteArray)) ++ t134) ++ (⟨#[45]⟩ : ByteArray)).size + t135.size ≤ 9223372036854775807
       ·rw [if_pos c13] at H
        have c13b0 := eq_true c13
        have c13b1 := decide_eq_true c13
        have c13b2 := eq_false (Nat.not_lt.2 c13)
        try have c13b3 : (9223372036854775807 < t132.size + 1 + t133.size + 1 + t134.size + 1 + t135.size) = False := eq_false (by have z_ := c13; simp only [ByteArray.size_append] at z_; have e0_ : ((⟨#[47]⟩ : ByteArray)).size = 1 := rfl; have e1_ : ((⟨#[32]⟩ : ByteArray)).size = 1 := rfl; have e2_ : ((⟨#[45]⟩ : ByteArray)).size = 1 := rfl; omega)
        have HC14 := Aside0.mk H
        clear H
        go_enter Tryd.func17, Tryd.ntmps17
        try go_wp2_with (first | ((with_reducible refine gD 1 rfl ?_); refine bE 1 #[.int .i64 a0_0, .int .i64 a0_1, .int .i64 a0_2, .int .i64 a0_3, .bool a0_4, .slice A0_5 l0_5.length c0_5] 38 ?_; intro gb130 hg w15 hbox hb; have BK130 := Aside0.mk hbox; have GW130 := Aside0.mk (zg (zL HB.out) hg : w.heap.size ≤ gb130); have GE130 := GW130; replace HB := zLB (zL HB.out) hb; clear hb hbox hg; have hcz16 := zc6 BK130.out; have hfz16 := zf6 BK130.out) | ((with_reducible refine gC 40 rfl ?_); refine gL 6 Tryd.func40 #[.agg #[.int .i64 a0_0, .int .i64 a0_1, .int .i64 a0_2, .int .i64 a0_3, .bool a0_4, .slice A0_5 l0_5.length c0_5]] ?_; (with_reducible refine (spec_SpanOk.calls k a0_0 a0_1 a0_2 a0_3 a0_4 _ _ l0_5 true _ ?side1 ?side2 A2.out).mono ?_); (case side1 => exact zC (Kd.C_below HR0_5.out HB.out)); (case side2 => exact HC0_5.out); rintro e w17 ⟨rfl, hb⟩; refine ⟨_, rfl, ?_⟩; replace BK130 := zBB BK130 hb; replace HB := zLB (zL1 HB.out GE130.out) hb; clear hb))
        replace BK130 := zBD BK130; replace HB := zLD HB
        refine start_ (n := 19) (S := fun w' => zs6 w' gb130 (.int .i64 a0_0) (.int .i64 a0_1) (.int .i64 a0_2) (.int .i64 a0_3) (.bool a0_4) (.slice A0_5 l0_5.length c0_5)) (ds := []) (fB 19 0) (by kernel_rfl) rfl rfl (zc6 BK130.out) (fun hHeld => ?_); refine with_tabW spec_SpanText.tab3 spec_SpanText.bits3 (fun HT_ HW_ => ?_)
        generalize w17.drew = w18 at BK130 HB hHeld ⊢
        refine pY 0 8 (fB 19 1) HT_.out ?_
        refine pY 4 12 (fB 19 17) HT_.out ?_
        refine pY 9 17 (fB 19 529) HT_.out ?_
        refine pY 14 22 (fB 19 16913) HT_.out ?_
        refine tY 1 9 (fB 19 16915) HT_.out HW_.out hHeld ?_
        refine tY 5 13 (fB 19 16947) HT_.out HW_.out hHeld ?_
        refine tY 10 18 (fB 19 17971) HT_.out HW_.out hHeld ?_
        refine tY 15 23 (fB 19 50739) HT_.out HW_.out hHeld ?_
        refine oN 2 10 (fB 19 50743) HT_.out fun K hK => ?_
        refine gS Tryd.func10 #[.int .i64 a0_0] ?_
        with_reducible refine (spec_NumText.calls k a0_0 t132 _ A4.out).mono ?_
        rintro e w19 ⟨rfl, hb⟩
        refine ⟨_, rfl, ?_⟩
        replace BK130 := zBB BK130 hb; replace HB := zLB (zL1 HB.out GE130.out) hb
        clear hb
        refine hK.out _ _ (zc6 BK130.out) fun hHeld => ?_; clear hK K
        refine nZ 10 ?_
        refine pY 3 11 (fB 19 50751) HT_.out ?_
        refine oN 6 14 (fB 19 50815) HT_.out fun K hK => ?_
        refine gS Tryd.func10 #[.int .i64 a0_1] ?_
        with_reducible refine (spec_NumText.calls k a0_1 t133 _ A6.out).mono ?_
        rintro e w20 ⟨rfl, hb⟩
        refine ⟨_, rfl, ?_⟩
        replace BK130 := zBB BK130 hb; replace HB := zLB (zL1 HB.out GE130.out) hb
        clear hb
        refine hK.out _ _ (zc6 BK130.out) fun hHeld => ?_; clear hK K
        refine nZ 14 ?_
        refine pY 7 15 (fB 19 50943) HT_.out ?_
        refine pY 8 16 (fB 19 51199) HT_.out ?_
        refine oN 11 19 (fB 19 53247) HT_.out fun K hK => ?_
        refine gS Tryd.func10 #[.int .i64 a0_2] ?_
        with_reducible refine (spec_NumText.calls k a0_2 t134 _ A9.out).mono ?_
        rintro e w21 ⟨rfl, hb⟩
        refine ⟨_, rfl, ?_⟩
        replace BK130 := zBB BK130 hb; replace HB := zLB (zL1 HB.out GE130.out) hb
        clear hb
        refine hK.out _ _ (zc6 BK130.out) fun hHeld => ?_; clear hK K
        refine nZ 19 ?_
        refine pY 12 20 (fB 19 57343) HT_.out ?_
        refine pY 13 21 (fB 19 65535) HT_.out ?_
        refine oN 16 24 (fB 19 131071) HT_.out fun K hK => ?_
        refine gS Tryd.func10 #[.int .i64 a0_3] ?_
        with_reducible refine (spec_NumText.calls k a0_3 t135 _ A12.out).mono ?_
        rintro e w22 ⟨rfl, hb⟩
        refine ⟨_, rfl, ?_⟩
        replace BK130 := zBB BK130 hb; replace HB := zLB (zL1 HB.out GE130.out) hb
        clear hb
        refine hK.out _ _ (zc6 BK130.out) fun hHeld => ?_; clear hK K
        refine nZ 24 ?_
        refine pY 17 25 (fB 19 262143) HT_.out ?_
        refine pY 18 3 (fB 19 524287) HT_.out ?_
        refine done_ (done_of HT_.out (by kernel_rfl)) ?_
        have hcz23 := zc6 BK130.out
        have hfz23 := zf6 BK130.out
        go_upto_if 27 with (fail)
        go_cut [3] (fun v3 wc => ∃ (kq : Nat) (x3_13 : ByteArray), v3 = .string x3_13 ∧ Aside0 (spec_SpanText.j0 kq x3_13 a0_0 a0_1 a0_2 a0_3 a0_4 l0_5 = some r) ∧ Aside0 (kq ≤ k) ∧ Aside0 (wc.heap[gb130]? = some (.cells #[.int .i64 a0_0, .int .i64 a0_1, .int .i64 a0_2, .int .i64 a0_3, .bool a0_4, (.slice A0_5 l0_5.length c0_5)] 38 (0, 0))) ∧ Aside0 (Below w.heap.size w wc))
        case first =>
         have H := HC14.out
         clear HC14
         by_cases c24 : a0_4 = true
         ·subst c24
          rw [if_pos rfl] at H
          by_cases c25 : ((((((t132 ++ (⟨#[47]⟩ : ByteArray)) ++ t133) ++ (⟨#[32]⟩ : ByteArray)) ++ t134) ++ (⟨#[45]⟩ : ByteArray)) ++ t135).size + 7 ≤ 9223372036854775807
          ·rw [if_pos c25] at H
           have c25b0 := eq_true c25
           have c25b1 := decide_eq_true c25
           have c25b2 := eq_false (Nat.not_lt.2 c25)
           try have c25b3 : (9223372036854775807 < t132.size + 1 + t133.size + 1 + t134.size + 1 + t135.size + 7) = False := eq_false (by have z_ := c25; simp only [ByteArray.size_append] at z_; have e0_ : ((⟨#[47]⟩ : ByteArray)).size = 1 := rfl; have e1_ : ((⟨#[32]⟩ : ByteArray)).size = 1 := rfl; have e2_ : ((⟨#[45]⟩ : ByteArray)).size = 1 := rfl; omega)
           have H' := Aside0.mk H
           clear H
           go_wp2
           go_meet
           case rel => exact ⟨_, (((((((t132 ++ (⟨#[47]⟩ : ByteArray)) ++ t133) ++ (⟨#[32]⟩ : ByteArray)) ++ t134) ++ (⟨#[45]⟩ : ByteArray)) ++ t135) ++ (⟨#[32, 102, 97, 105, 108, 101, 100]⟩ : ByteArray)), zV, H', ⟨by first | omega | exact Nat.le_refl _⟩, ⟨zB BK130.out⟩, ⟨zL1 HB.out GE130.out⟩⟩
          ·rw [if_neg c25] at H
           exact absurd H (by simp)
         ·obtain rfl := Bool.eq_false_iff.mpr c24
          rw [if_neg zn] at H
          have H' := Aside0.mk H
          clear H
          go_wp2
          go_meet
          case rel => exact ⟨_, ((((((t132 ++ (⟨#[47]⟩ : ByteArray)) ++ t133) ++ (⟨#[32]⟩ : ByteArray)) ++ t134) ++ (⟨#[45]⟩ : ByteArray)) ++ t135), zV, H', ⟨by first | omega | exact Nat.le_refl _⟩, ⟨zB BK130.out⟩, ⟨zL1 HB.out GE130.out⟩⟩
        case rest =>
         clear HC14
         try clear c1
         try clear c2
         try clear p2
         try clear c3
         try clear c4
         try clear c5
         try clear c5b0
         try clear c5b1
         try clear c5b2
         try clear c7
         try clear c7b0
         try clear c7b1
         try clear c7b2
         try clear c8
         try clear c8b0
         try clear c8b1
         try clear c8b2
         try clear c10
         try clear c10b0
         try clear c10b1
         try clear c10b2
         try clear c11
         try clear c11b0
         try clear c11b1
         try clear c11b2
         try clear c13
         try clear c13b0
         try clear c13b1
         try clear c13b2
         try clear c17
         try clear c24
         try clear c25
         try clear c25b0
         try clear c25b1
         try clear c25b2
         try clear hcz16; try clear hcz23; try clear hfz16; try clear hfz23
         obtain ⟨kq, x3_13, rfl, HA, HJ13, BK130, HB⟩ := hcut
         cases kq with
         | zero => exact absurd HA.out (by simp [spec_SpanText.j0])
         | succ kj13 =>
          have H := HA.out
          clear HA
          simp only [spec_SpanText.j0] at H
          have H' := Aside0.mk H
          clear H
          go_wp2
          go_loopg [3, 4] kj13 (fun kq v3 v4 w' => ∃ (x3_2 : ByteArray) (x4_2 : Int), v3 = .string x3_2 ∧ v4 = .int .i64 x4_2 ∧ Aside0 (spec_SpanText.l0 kq x3_2 x4_2 a0_0 a0_1 a0_2 a0_3 a0_4 l0_5 = some r) ∧ Aside0 (kq ≤ kj13) ∧ Aside0 (w'.heap[gb130]? = some (.cells #[.int .i64 a0_0, .int .i64 a0_1, .int .i64 a0_2, .int .i64 a0_3, .bool a0_4, (.slice A0_5 l0_5.length c0_5)] 38 (0, 0))) ∧ Aside0 (Below w.heap.size w w'))
          case atStart => exact ⟨(x3_13), (0), zV, zV, H', ⟨Nat.le_refl _⟩, ⟨zB BK130.out⟩, ⟨zL1 HB.out GE130.out⟩⟩
          case round =>
           clear H'
           try clear c1
           try clear c2
           try clear p2
           try clear c3
           try clear c4
           try clear c5
           try clear c5b0
           try clear c5b1
           try clear c5b2
           try clear c7
           try clear c7b0
           try clear c7b1
           try clear c7b2
           try clear c8
           try clear c8b0
           try clear c8b1
           try clear c8b2
           try clear c10
           try clear c10b0
           try clear c10b1
           try clear c10b2
           try clear c11
           try clear c11b0
           try clear c11b1
           try clear c11b2
           try clear c13
           try clear c13b0
           try clear c13b1
           try clear c13b2
           try clear c17
           try clear c24
           try clear c25
           try clear c25b0
           try clear c25b1
           try clear c25b2
           try clear hcz16; try clear hcz23; try clear hfz16; try clear hfz23
           try clear p2
           obtain ⟨x3_2, x4_2, rfl, rfl, HA, HK2, BK130, HB⟩ := hrel
           cases gk with
           | zero => exact absurd HA.out (by simp [spec_SpanText.l0])
           | succ k2 =>
            have H := HA.out
            clear HA
            simp only [spec_SpanText.l0] at H
            by_cases c26 : x4_2 < (l0_5.length : Int)
            ·rw [if_pos c26] at H
             have c26b0 := decide_eq_true c26
             clear c26
             by_cases c27 : x3_2.size + 1 ≤ 9223372036854775807
             ·rw [if_pos c27] at H
              have c27b0 := eq_true c27
              have c27b1 := decide_eq_true c27
              have c27b2 := eq_false (Nat.not_lt.2 c27)
              by_cases c28 : 0 ≤ x4_2
              ·rw [if_pos c28] at H
               have c28b0 := decide_eq_true c28
               clear c28
               obtain ⟨t137, A29, H⟩ := zO H; try dsimp only at H
               by_cases c30 : (x3_2 ++ (⟨#[32]⟩ : ByteArray)).size + t137.size ≤ 9223372036854775807
               ·rw [if_pos c30] at H
                have c30b0 := eq_true c30
                have c30b1 := decide_eq_true c30
                have c30b2 := eq_false (Nat.not_lt.2 c30)
                try have c30b3 : (9223372036854775807 < x3_2.size + 1 + t137.size) = False := eq_false (by have z_ := c30; simp only [ByteArray.size_append] at z_; have e0_ : ((⟨#[32]⟩ : ByteArray)).size = 1 := rfl; omega)
                have H' := Aside0.mk H
                clear H
                have hcz31 := zc6 BK130.out
                have hfz31 := zf6 BK130.out
                have p136 : 0 ≤ (x4_2 : Int) := zD
                have q136 : x4_2 < (l0_5.length : Int) := zD
                obtain ⟨ad136, e136, hx136_0, hx136_1, hx136_2, hx136_3⟩ := at_T28 HR0_5.out x4_2 p136 q136
                cases e136
                replace hx136_0 := zh HB.out hx136_0
                replace hx136_1 := zh HB.out hx136_1
                replace hx136_2 := zh HB.out hx136_2
                replace hx136_3 := zh HB.out hx136_3
                replace p136 := eq_true p136
                replace q136 := eq_true q136
                go_wp2_with (first | ((with_reducible refine gC 13 rfl ?_); refine gL 44 Tryd.func13 #[.agg #[.string ((rd_T28 l0_5 x4_2).f0), .bool ((rd_T28 l0_5 x4_2).f1), .int .i64 ((rd_T28 l0_5 x4_2).f2), .string ((rd_T28 l0_5 x4_2).f3)]] ?_; (with_reducible refine (spec_AttrText.calls k2 ((rd_T28 l0_5 x4_2).f0) ((rd_T28 l0_5 x4_2).f1) ((rd_T28 l0_5 x4_2).f2) ((rd_T28 l0_5 x4_2).f3) t137 _ A29.out).mono ?_); rintro e w32 ⟨rfl, hb⟩; refine ⟨_, rfl, ?_⟩; replace BK130 := zBB BK130 hb; replace HB := zLB (zL1 HB.out GE130.out) hb; clear hb))
                go_roundg k2
                case measure => have := HJ13.out; have := HK2.out; omega
                case rel => exact ⟨((x3_2 ++ (⟨#[32]⟩ : ByteArray)) ++ t137), (wrap64 (x4_2 + 1)), zV, zV, H', ⟨by have := HJ13.out; have := HK2.out; omega⟩, ⟨zB BK130.out⟩, ⟨zL1 HB.out GE130.out⟩⟩
               ·rw [if_neg c30] at H
                exact absurd H (by simp)
              ·rw [if_neg c28] at H
               exact absurd H (by simp)
             ·rw [if_neg c27] at H
              exact absurd H (by simp)
            ·rw [if_neg c26] at H
             have c26b0 := decide_eq_false c26
             clear c26
             obtain rfl := Option.some.inj H
             have hcz33 := zc6 BK130.out
             have hfz33 := zf6 BK130.out
             go_wp2
             go_ret
             exact ⟨zW, zL1 HB.out GE130.out⟩
       ·rw [if_neg c13] at H
        exact absurd H (by simp)
      ·rw [if_neg c11] at H
       exact absurd H (by simp)
     ·rw [if_neg c10] at H
      exact absurd H (by simp)
    ·rw [if_neg c8] at H
     exact absurd H (by simp)
   ·rw [if_neg c7] at H
    exact absurd H (by simp)
  ·rw [if_neg c5] at H
   exact absurd H (by simp)
 ·obtain rfl := Bool.eq_false_iff.mpr c3
  rw [if_neg zn] at H
  obtain rfl := Option.some.inj H
  go_enter Tryd.func17, Tryd.ntmps17
  go_wp2_with (first | ((with_reducible refine gD 1 rfl ?_); refine bE 1 #[.int .i64 a0_0, .int .i64 a0_1, .int .i64 a0_2, .int .i64 a0_3, .bool a0_4, .slice A0_5 l0_5.length c0_5] 38 ?_; intro gb130 hg w34 hbox hb; have BK130 := Aside0.mk hbox; have GW130 := Aside0.mk (zg (zL HB.out) hg : w.heap.size ≤ gb130); have GE130 := GW130; replace HB := zLB (zL HB.out) hb; clear hb hbox hg; have hcz35 := zc6 BK130.out; have hfz35 := zf6 BK130.out) | ((with_reducible refine gC 40 rfl ?_); refine gL 6 Tryd.func40 #[.agg #[.int .i64 a0_0, .int .i64 a0_1, .int .i64 a0_2, .int .i64 a0_3, .bool a0_4, .slice A0_5 l0_5.length c0_5]] ?_; (with_reducible refine (spec_SpanOk.calls k a0_0 a0_1 a0_2 a0_3 a0_4 _ _ l0_5 false _ ?side1 ?side2 A2.out).mono ?_); (case side1 => exact zC (Kd.C_below HR0_5.out HB.out)); (case side2 => exact HC0_5.out); rintro e w36 ⟨rfl, hb⟩; refine ⟨_, rfl, ?_⟩; replace BK130 := zBB BK130 hb; replace HB := zLB (zL1 HB.out GE130.out) hb; clear hb))
  go_ret
  exact ⟨zW, zL1 HB.out GE130.out⟩

-- function 98: below what is taken by its contract

-- function 105: below what is taken by its contract

-- function 106: below what is taken by its contract

-- function 107: below what is taken by its contract

-- function 99: below what is taken by its contract

-- function 100: below what is taken by its contract

-- function 108: below what is taken by its contract

-- function 112: below what is taken by its contract

-- function 113: below what is taken by its contract

-- function 109: below what is taken by its contract

-- function 101: below what is taken by its contract

-- function 91: below what is taken by its contract

-- function 78: below what is taken by its contract

/-! ### strconv_Itoa: function 57, by hand -/
/-- The table still reads so in a later world. -/
theorem tab_at {P : Program} {n : String} {q : IntKind} {zs : List Int} {w w1 : World} (h : Lib.TabIs P w n q zs) (hb : Below w.heap.size w w1) : Lib.TabIs P w1 n q zs := Lib.tabBelow_of_tabIs h w1 hb
def strconv_Itoa.f (a0 : Int) : Option ByteArray := if -9223372036854775808 ≤ a0 then if a0 ≤ 9223372036854775807 then some ⟨(Lib.itoa a0).toArray⟩ else none else none
theorem strconv_Itoa.calls (a0 : Int) (r : ByteArray) (w : World) (htab_ : Lib.TabIs Tryd.prog w "internal/strconv.uint64pow10" .u64 Lib.pow10Tab) (h : strconv_Itoa.f a0 = some r) :
    Calls Tryd.prog 57 #[.int .i64 a0] w fun e w' => e = .returned (.string r) ∧ Below w.heap.size w w' := by
  unfold strconv_Itoa.f at h
  by_cases h0 : -9223372036854775808 ≤ a0
  · by_cases h1 : a0 ≤ 9223372036854775807
    · rw [if_pos h0, if_pos h1] at h
      obtain rfl := Option.some.inj h
      refine (Any.strconv_Itoa Tryd.laysM171 a0 h0 h1 w htab_).mono ?_
      rintro e w' ⟨rfl, k, os, rfl⟩
      exact ⟨rfl, Lib.below_grow _ w (Nat.le_refl _) k os⟩
    · rw [if_pos h0, if_neg h1] at h
      cases h
  · rw [if_neg h0] at h
    cases h

end Go.Proofs.YtkhbhdchakbmhaaDoor.QFnSpans
