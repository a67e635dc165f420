/- What the Go functions that the law FnSpans reaches answer: each as a Lean function, with its walk. Written by a program of this session. Conditions: those that each theorem names. -/
import Derived.Test.YtkhbhdchakbmhaaDoorQFnSpansx0
import Derived.Test.YtkhbhdchakbmhaaDoorQFnSpansx4
import Derived.Test.YtkhbhdchakbmhaaDoorQFnSpansx5
import Derived.Test.YtkhbhdchakbmhaaDoorQFnSpansx6
namespace Go.Proofs.YtkhbhdchakbmhaaDoor.QFnSpans
open Go.RowKit Go.Proofs.YtkhbhdchakbmhaaDoorW.PrintWords Go.Proofs.YtkhbhdchakbmhaaDoorW.PrintLast Go.Proofs.YtkhbhdchakbmhaaDoorW.PrintMore
attribute [local go_sem] max2_int min2_int max_two min_two max_three min_three max_four min_four   -- for this text's walks alone
set_option linter.unusedVariables false
set_option linter.unusedSimpArgs false

open Go.Proofs.YtkhbhdchakbmhaaDoorW.PrintWords renaming blk_drewN → bN, blk_drew → bD, blk_alloc → bA, blk_cell → bC, blk_below → bB, below_set → bS
/-! ### impl_SpanOk: function 39 -/
def impl_SpanOk.f (k : Nat) (a0_0 : Int) (a0_1 : Int) (a0_2 : Int) (a0_3 : Int) (a0_4 : Bool) (l0_5 : List (S28)) : Option (Bool) := (impl_within.f a0_0 1 999).bind fun t159 => (if t159 = true then ((impl_within.f a0_1 1 999).bind fun t160 => (if t160 = true then ((impl_within.f a0_3 0 99999).bind fun t161 => (if t161 = true then ((impl_within.f a0_2 0 a0_3).bind fun t162 => (if t162 = true then ((impl_AttrsOk.f k l0_5).bind fun t163 => (if t163 = true then ((impl_SizeOf.f k a0_0 a0_1 a0_2 a0_3 a0_4 l0_5).bind fun t164 => (some (decide (t164 ≤ 96)))) else (some false))) else (some false))) else (some false))) else (some false))) else (some false))
theorem impl_SpanOk.mono : ∀ a0 a1 a2 a3 a4 a5 k, LeO (impl_SpanOk.f k a0 a1 a2 a3 a4 a5) (impl_SpanOk.f (k + 1) a0 a1 a2 a3 a4 a5) := by
 intro a0 a1 a2 a3 a4 a5 k
 unfold impl_SpanOk.f
 repeat' first
   | (with_reducible apply impl_AttrsOk.mono)
   | (with_reducible apply impl_SizeOf.mono)
   | (with_reducible exact LeO.refl _)
   | (with_reducible exact LeO.none _)
   | (with_reducible refine LeO.ite ?_ ?_)
   | (with_reducible refine LeO.bind ?_ (fun _ => ?_))
   | apply impl_AttrsOk.mono
   | apply impl_SizeOf.mono
   | exact LeO.none _
   | refine LeO.ite ?_ ?_
   | refine LeO.bind ?_ (fun _ => ?_)
set_option maxHeartbeats 8000000 in
set_option maxRecDepth 100000 in
theorem impl_SpanOk.calls (k : Nat) (a0_0 : Int) (a0_1 : Int) (a0_2 : Int) (a0_3 : Int) (a0_4 : Bool) (A0_5 : Option Addr) (c0_5 : Nat) (l0_5 : List (S28)) (r : Bool) (w : World) (hr0_5 : Kd.C k28 w A0_5 l0_5.length l0_5) (hc0_5 : l0_5.length ≤ c0_5) (h : impl_SpanOk.f k a0_0 a0_1 a0_2 a0_3 a0_4 l0_5 = some r) :
  Calls Tryd.prog 39 #[.agg #[.int .i64 a0_0, .int .i64 a0_1, .int .i64 a0_2, .int .i64 a0_3, .bool a0_4, .slice A0_5 l0_5.length c0_5]] w fun e w' => e = .returned (.bool r) ∧ Below w.heap.size w w' := by
 have hu38 := Tryd.underlying38
 have HR0_5 := Aside0.mk hr0_5
 have HC0_5 := Aside0.mk hc0_5
 clear hr0_5 hc0_5
 have HB := Aside0.mk (Below.refl w.heap.size w)
 unfold impl_SpanOk.f at h; have H := h
 clear h
 obtain ⟨t159, A2, H⟩ := zO H; try dsimp only at H
 by_cases c3 : t159 = true
 ·subst c3
  rw [if_pos rfl] at H
  obtain ⟨t160, A4, H⟩ := zO H; try dsimp only at H
  by_cases c5 : t160 = true
  ·subst c5
   rw [if_pos rfl] at H
   obtain ⟨t161, A6, H⟩ := zO H; try dsimp only at H
   by_cases c7 : t161 = true
   ·subst c7
    rw [if_pos rfl] at H
    obtain ⟨t162, A8, H⟩ := zO H; try dsimp only at H
    by_cases c9 : t162 = true
    ·subst c9
     rw [if_pos rfl] at H
     obtain ⟨t163, A10, H⟩ := zO H; try dsimp only at H
     by_cases c11 : t163 = true
     ·subst c11
      rw [if_pos rfl] at H
      obtain ⟨t164, A12, H⟩ := zO H; try dsimp only at H
      obtain rfl := Option.some.inj H
      go_enter Tryd.func39, Tryd.ntmps39
      go_wp2_with (first | ((with_reducible refine gD 1 rfl ?_); refine bE 1 #[.int .i64 a0_0, .int .i64 a0_1, .int .i64 a0_2, .int .i64 a0_3, .bool a0_4, .slice A0_5 l0_5.length c0_5] 38 ?_; intro gb158 hg w13 hbox hb; have BK158 := Aside0.mk hbox; have GW158 := Aside0.mk (zg (zL HB.out) hg : w.heap.size ≤ gb158); have GE158 := GW158; replace HB := zLB (zL HB.out) hb; clear hb hbox hg; have hcz14 := zc6 BK158.out; have hfz14 := zf6 BK158.out) | ((with_reducible refine gC 63 rfl ?_); refine gL 5 Tryd.func63 #[.int .i64 a0_0, .int .i64 1, .int .i64 999] ?_; (with_reducible refine (impl_within.calls a0_0 1 999 true _ A2.out).mono ?_); rintro e w' ⟨rfl, ⟨nd, rfl⟩⟩; refine ⟨_, rfl, ?_⟩) | (go_at_call 63; (with_reducible refine (impl_within.calls a0_1 1 999 true _ A4.out).mono ?_); rintro e w' ⟨rfl, ⟨nd, rfl⟩⟩) | (go_at_call 63; (with_reducible refine (impl_within.calls a0_3 0 99999 true _ A6.out).mono ?_); rintro e w' ⟨rfl, ⟨nd, rfl⟩⟩) | (go_at_call 63; (with_reducible refine (impl_within.calls a0_2 0 a0_3 true _ A8.out).mono ?_); rintro e w' ⟨rfl, ⟨nd, rfl⟩⟩) | (go_at_call 31; (with_reducible refine (impl_AttrsOk.calls k _ _ l0_5 true _ ?side1 ?side2 A10.out).mono ?_); (case side1 => repeat (first | exact (Kd.C_below HR0_5.out (zL1 HB.out GE158.out)) | (with_reducible refine Kd.C_alloc ?_ _) | (with_reducible refine Kd.C_drewN ?_ _) | (with_reducible refine Kd.C_drew ?_))); (case side2 => exact HC0_5.out); rintro e w15 ⟨rfl, hb⟩; replace BK158 := zBB BK158 hb; replace HB := zLB (zL1 HB.out GE158.out) hb; clear hb; have hcz16 := zc6 BK158.out; have hfz16 := zf6 BK158.out) | (go_at_call 41; (with_reducible refine (impl_SizeOf.calls k a0_0 a0_1 a0_2 a0_3 a0_4 _ _ l0_5 t164 _ ?side1 ?side2 A12.out).mono ?_); (case side1 => exact zC (Kd.C_below HR0_5.out HB.out)); (case side2 => exact HC0_5.out); rintro e w17 ⟨rfl, hb⟩; replace BK158 := zBB BK158 hb; replace HB := zLB (zL1 HB.out GE158.out) hb; clear hb))
      go_ret
      exact ⟨zW, zL1 HB.out GE158.out⟩
     ·obtain rfl := Bool.eq_false_iff.mpr c11
      rw [if_neg zn] at H
      obtain rfl := Option.some.inj H
      go_enter Tryd.func39, Tryd.ntmps39
      go_wp2_with (first | ((with_reducible refine gD 1 rfl ?_); refine bE 1 #[.int .i64 a0_0, .int .i64 a0_1, .int .i64 a0_2, .int .i64 a0_3, .bool a0_4, .slice A0_5 l0_5.length c0_5] 38 ?_; intro gb158 hg w18 hbox hb; have BK158 := Aside0.mk hbox; have GW158 := Aside0.mk (zg (zL HB.out) hg : w.heap.size ≤ gb158); have GE158 := GW158; replace HB := zLB (zL HB.out) hb; clear hb hbox hg; have hcz19 := zc6 BK158.out; have hfz19 := zf6 BK158.out) | ((with_reducible refine gC 63 rfl ?_); refine gL 5 Tryd.func63 #[.int .i64 a0_0, .int .i64 1, .int .i64 999] ?_; (with_reducible refine (impl_within.calls a0_0 1 999 true _ A2.out).mono ?_); rintro e w' ⟨rfl, ⟨nd, rfl⟩⟩; refine ⟨_, rfl, ?_⟩) | (go_at_call 63; (with_reducible refine (impl_within.calls a0_1 1 999 true _ A4.out).mono ?_); rintro e w' ⟨rfl, ⟨nd, rfl⟩⟩) | (go_at_call 63; (with_reducible refine (impl_within.calls a0_3 0 99999 true _ A6.out).mono ?_); rintro e w' ⟨rfl, ⟨nd, rfl⟩⟩) | (go_at_call 63; (with_reducible refine (impl_within.calls a0_2 0 a0_3 true _ A8.out).mono ?_); rintro e w' ⟨rfl, ⟨nd, rfl⟩⟩) | (go_at_call 31; (with_reducible refine (impl_AttrsOk.calls k _ _ l0_5 false _ ?side1 ?side2 A10.out).mono ?_); (case side1 => repeat (first | exact (Kd.C_below HR0_5.out (zL1 HB.out GE158.out)) | (with_reducible refine Kd.C_alloc ?_ _) | (with_reducible refine Kd.C_drewN ?_ _) | (with_reducible refine Kd.C_drew ?_))); (case side2 => exact HC0_5.out); rintro e w20 ⟨rfl, hb⟩; replace BK158 := zBB BK158 hb; replace HB := zLB (zL1 HB.out GE158.out) hb; clear hb))
      go_ret
      exact ⟨zW, zL1 HB.out GE158.out⟩
    ·obtain rfl := Bool.eq_false_iff.mpr c9
     rw [if_neg zn] at H
     obtain rfl := Option.some.inj H
     go_enter Tryd.func39, Tryd.ntmps39
     go_wp2_with (first | ((with_reducible refine gD 1 rfl ?_); refine bE 1 #[.int .i64 a0_0, .int .i64 a0_1, .int .i64 a0_2, .int .i64 a0_3, .bool a0_4, .slice A0_5 l0_5.length c0_5] 38 ?_; intro gb158 hg w21 hbox hb; have BK158 := Aside0.mk hbox; have GW158 := Aside0.mk (zg (zL HB.out) hg : w.heap.size ≤ gb158); have GE158 := GW158; replace HB := zLB (zL HB.out) hb; clear hb hbox hg; have hcz22 := zc6 BK158.out; have hfz22 := zf6 BK158.out) | ((with_reducible refine gC 63 rfl ?_); refine gL 5 Tryd.func63 #[.int .i64 a0_0, .int .i64 1, .int .i64 999] ?_; (with_reducible refine (impl_within.calls a0_0 1 999 true _ A2.out).mono ?_); rintro e w' ⟨rfl, ⟨nd, rfl⟩⟩; refine ⟨_, rfl, ?_⟩) | (go_at_call 63; (with_reducible refine (impl_within.calls a0_1 1 999 true _ A4.out).mono ?_); rintro e w' ⟨rfl, ⟨nd, rfl⟩⟩) | (go_at_call 63; (with_reducible refine (impl_within.calls a0_3 0 99999 true _ A6.out).mono ?_); rintro e w' ⟨rfl, ⟨nd, rfl⟩⟩) | (go_at_call 63; (with_reducible refine (impl_within.calls a0_2 0 a0_3 false _ A8.out).mono ?_); rintro e w' ⟨rfl, ⟨nd, rfl⟩⟩))
     go_ret
     exact ⟨zW, zL1 HB.out GE158.out⟩
   ·obtain rfl := Bool.eq_false_iff.mpr c7
    rw [if_neg zn] at H
    obtain rfl := Option.some.inj H
    go_enter Tryd.func39, Tryd.ntmps39
    go_wp2_with (first | ((with_reducible refine gD 1 rfl ?_); refine bE 1 #[.int .i64 a0_0, .int .i64 a0_1, .int .i64 a0_2, .int .i64 a0_3, .bool a0_4, .slice A0_5 l0_5.length c0_5] 38 ?_; intro gb158 hg w23 hbox hb; have BK158 := Aside0.mk hbox; have GW158 := Aside0.mk (zg (zL HB.out) hg : w.heap.size ≤ gb158); have GE158 := GW158; replace HB := zLB (zL HB.out) hb; clear hb hbox hg; have hcz24 := zc6 BK158.out; have hfz24 := zf6 BK158.out) | ((with_reducible refine gC 63 rfl ?_); refine gL 5 Tryd.func63 #[.int .i64 a0_0, .int .i64 1, .int .i64 999] ?_; (with_reducible refine (impl_within.calls a0_0 1 999 true _ A2.out).mono ?_); rintro e w' ⟨rfl, ⟨nd, rfl⟩⟩; refine ⟨_, rfl, ?_⟩) | (go_at_call 63; (with_reducible refine (impl_within.calls a0_1 1 999 true _ A4.out).mono ?_); rintro e w' ⟨rfl, ⟨nd, rfl⟩⟩) | (go_at_call 63; (with_reducible refine (impl_within.calls a0_3 0 99999 false _ A6.out).mono ?_); rintro e w' ⟨rfl, ⟨nd, rfl⟩⟩))
    go_ret
    exact ⟨zW, zL1 HB.out GE158.out⟩
  ·obtain rfl := Bool.eq_false_iff.mpr c5
   rw [if_neg zn] at H
   obtain rfl := Option.some.inj H
   go_enter Tryd.func39, Tryd.ntmps39
   go_wp2_with (first | ((with_reducible refine gD 1 rfl ?_); refine bE 1 #[.int .i64 a0_0, .int .i64 a0_1, .int .i64 a0_2, .int .i64 a0_3, .bool a0_4, .slice A0_5 l0_5.length c0_5] 38 ?_; intro gb158 hg w25 hbox hb; have BK158 := Aside0.mk hbox; have GW158 := Aside0.mk (zg (zL HB.out) hg : w.heap.size ≤ gb158); have GE158 := GW158; replace HB := zLB (zL HB.out) hb; clear hb hbox hg; have hcz26 := zc6 BK158.out; have hfz26 := zf6 BK158.out) | ((with_reducible refine gC 63 rfl ?_); refine gL 5 Tryd.func63 #[.int .i64 a0_0, .int .i64 1, .int .i64 999] ?_; (with_reducible refine (impl_within.calls a0_0 1 999 true _ A2.out).mono ?_); rintro e w' ⟨rfl, ⟨nd, rfl⟩⟩; refine ⟨_, rfl, ?_⟩) | (go_at_call 63; (with_reducible refine (impl_within.calls a0_1 1 999 false _ A4.out).mono ?_); rintro e w' ⟨rfl, ⟨nd, rfl⟩⟩))
   go_ret
   exact ⟨zW, zL1 HB.out GE158.out⟩
 ·obtain rfl := Bool.eq_false_iff.mpr c3
  rw [if_neg zn] at H
  obtain rfl := Option.some.inj H
  go_enter Tryd.func39, Tryd.ntmps39
  go_wp2_with (first | ((with_reducible refine gD 1 rfl ?_); refine bE 1 #[.int .i64 a0_0, .int .i64 a0_1, .int .i64 a0_2, .int .i64 a0_3, .bool a0_4, .slice A0_5 l0_5.length c0_5] 38 ?_; intro gb158 hg w27 hbox hb; have BK158 := Aside0.mk hbox; have GW158 := Aside0.mk (zg (zL HB.out) hg : w.heap.size ≤ gb158); have GE158 := GW158; replace HB := zLB (zL HB.out) hb; clear hb hbox hg; have hcz28 := zc6 BK158.out; have hfz28 := zf6 BK158.out) | ((with_reducible refine gC 63 rfl ?_); refine gL 5 Tryd.func63 #[.int .i64 a0_0, .int .i64 1, .int .i64 999] ?_; (with_reducible refine (impl_within.calls a0_0 1 999 false _ A2.out).mono ?_); rintro e w' ⟨rfl, ⟨nd, rfl⟩⟩; refine ⟨_, rfl, ?_⟩))
  go_ret
  exact ⟨zW, zL1 HB.out GE158.out⟩

open Go.Proofs.YtkhbhdchakbmhaaDoorW.PrintWords renaming blk_drewN → bN, blk_drew → bD, blk_alloc → bA, blk_cell → bC, blk_below → bB, below_set → bS
/-! ### impl_SpanText: function 19 -/
mutual
def impl_SpanText.j0 : Nat → ByteArray → Int → Int → Int → Int → Bool → List (S28) → Option (ByteArray)
 | 0, _, _, _, _, _, _, _ => none
 | k + 1, x3, x166000, x166001, x166002, x166003, x166004, x166005 => impl_SpanText.l0 k x3 x166005 (x166005.length : Int) 0
def impl_SpanText.l0 : Nat → ByteArray → List (S28) → Int → Int → Option (ByteArray)
 | 0, _, _, _, _ => none
 | k + 1, x3, x32, x33, x34 => if x34 < x33 then (if 0 ≤ x34 then (if x34 < (x32.length : Int) then ((impl_AttrText.f k ((rd_T28 x32 x34).f0) ((rd_T28 x32 x34).f1) ((rd_T28 x32 x34).f2) ((rd_T28 x32 x34).f3)).bind fun t173 => (if 1 + t173.size ≤ 9223372036854775807 then (if x3.size + ((⟨#[32]⟩ : ByteArray) ++ t173).size ≤ 9223372036854775807 then (impl_SpanText.l0 k (x3 ++ ((⟨#[32]⟩ : ByteArray) ++ t173)) x32 x33 (wrap64 (x34 + 1))) else (none)) else (none))) else (none)) else (none)) else (some x3)
end
def impl_SpanText.f (k : Nat) (a0_0 : Int) (a0_1 : Int) (a0_2 : Int) (a0_3 : Int) (a0_4 : Bool) (l0_5 : List (S28)) : Option (ByteArray) := (impl_SpanOk.f k a0_0 a0_1 a0_2 a0_3 a0_4 l0_5).bind fun t166 => (if t166 = true then ((impl_NumText.f a0_0).bind fun t167 => (if t167.size + 1 ≤ 9223372036854775807 then ((impl_NumText.f a0_1).bind fun t168 => (if (t167 ++ (⟨#[47]⟩ : ByteArray)).size + t168.size ≤ 9223372036854775807 then (if ((t167 ++ (⟨#[47]⟩ : ByteArray)) ++ t168).size + 1 ≤ 9223372036854775807 then ((impl_NumText.f a0_2).bind fun t169 => (if (((t167 ++ (⟨#[47]⟩ : ByteArray)) ++ t168) ++ (⟨#[32]⟩ : ByteArray)).size + t169.size ≤ 9223372036854775807 then (if ((((t167 ++ (⟨#[47]⟩ : ByteArray)) ++ t168) ++ (⟨#[32]⟩ : ByteArray)) ++ t169).size + 1 ≤ 9223372036854775807 then ((impl_NumText.f a0_3).bind fun t170 => (if (((((t167 ++ (⟨#[47]⟩ : ByteArray)) ++ t168) ++ (⟨#[32]⟩ : ByteArray)) ++ t169) ++ (⟨#[45]⟩ : ByteArray)).size + t170.size ≤ 9223372036854775807 then (if a0_4 = true then (if ((((((t167 ++ (⟨#[47]⟩ : ByteArray)) ++ t168) ++ (⟨#[32]⟩ : ByteArray)) ++ t169) ++ (⟨#[45]⟩ : ByteArray)) ++ t170).size + 7 ≤ 9223372036854775807 then (impl_SpanText.j0 k (((((((t167 ++ (⟨#[47]⟩ : ByteArray)) ++ t168) ++ (⟨#[32]⟩ : ByteArray)) ++ t169) ++ (⟨#[45]⟩ : ByteArray)) ++ t170) ++ (⟨#[32, 102, 97, 105, 108, 101, 100]⟩ : ByteArray)) a0_0 a0_1 a0_2 a0_3 a0_4 l0_5) else (none)) else (impl_SpanText.j0 k ((((((t167 ++ (⟨#[47]⟩ : ByteArray)) ++ t168) ++ (⟨#[32]⟩ : ByteArray)) ++ t169) ++ (⟨#[45]⟩ : ByteArray)) ++ t170) a0_0 a0_1 a0_2 a0_3 a0_4 l0_5)) else (none))) else (none)) else (none))) else (none)) else (none))) else (none))) else (some (⟨#[]⟩ : ByteArray)))
theorem impl_SpanText.mono_l : ∀ k, (∀ y0 y1 y2 y3 y4 y5 y6, LeO (impl_SpanText.j0 k y0 y1 y2 y3 y4 y5 y6) (impl_SpanText.j0 (k + 1) y0 y1 y2 y3 y4 y5 y6)) ∧ (∀ y0 y1 y2 y3, LeO (impl_SpanText.l0 k y0 y1 y2 y3) (impl_SpanText.l0 (k + 1) y0 y1 y2 y3))
 | 0 => ⟨fun _ _ _ _ _ _ _ r h => by simp [impl_SpanText.j0] at h, fun _ _ _ _ r h => by simp [impl_SpanText.l0] at h⟩
 | k + 1 => by
  obtain ⟨ih0, ih1⟩ := impl_SpanText.mono_l k
  refine ⟨?_, ?_⟩
  ·intro y0 y1 y2 y3 y4 y5 y6
   unfold impl_SpanText.j0
   repeat' first
   | (with_reducible exact ih0 _ _ _ _ _ _ _)
   | (with_reducible exact ih1 _ _ _ _)
   | (with_reducible apply impl_AttrText.mono)
   | (with_reducible apply impl_SpanOk.mono)
   | (with_reducible exact LeO.refl _)
   | (with_reducible exact LeO.none _)
   | (with_reducible refine LeO.ite ?_ ?_)
   | (with_reducible refine LeO.bind ?_ (fun _ => ?_))
   | exact ih0 _ _ _ _ _ _ _
   | exact ih1 _ _ _ _
   | apply impl_AttrText.mono
   | apply impl_SpanOk.mono
   | exact LeO.none _
   | refine LeO.ite ?_ ?_
   | refine LeO.bind ?_ (fun _ => ?_)
  ·intro y0 y1 y2 y3
   unfold impl_SpanText.l0
   repeat' first
   | (with_reducible exact ih0 _ _ _ _ _ _ _)
   | (with_reducible exact ih1 _ _ _ _)
   | (with_reducible apply impl_AttrText.mono)
   | (with_reducible apply impl_SpanOk.mono)
   | (with_reducible exact LeO.refl _)
   | (with_reducible exact LeO.none _)
   | (with_reducible refine LeO.ite ?_ ?_)
   | (with_reducible refine LeO.bind ?_ (fun _ => ?_))
   | exact ih0 _ _ _ _ _ _ _
   | exact ih1 _ _ _ _
   | apply impl_AttrText.mono
   | apply impl_SpanOk.mono
   | exact LeO.none _
   | refine LeO.ite ?_ ?_
   | refine LeO.bind ?_ (fun _ => ?_)
theorem impl_SpanText.mono : ∀ a0 a1 a2 a3 a4 a5 k, LeO (impl_SpanText.f k a0 a1 a2 a3 a4 a5) (impl_SpanText.f (k + 1) a0 a1 a2 a3 a4 a5) := by
 intro a0 a1 a2 a3 a4 a5 k
 obtain ⟨ih0, ih1⟩ := impl_SpanText.mono_l k
 unfold impl_SpanText.f
 repeat' first
   | (with_reducible exact ih0 _ _ _ _ _ _ _)
   | (with_reducible exact ih1 _ _ _ _)
   | (with_reducible apply impl_AttrText.mono)
   | (with_reducible apply impl_SpanOk.mono)
   | (with_reducible exact LeO.refl _)
   | (with_reducible exact LeO.none _)
   | (with_reducible refine LeO.ite ?_ ?_)
   | (with_reducible refine LeO.bind ?_ (fun _ => ?_))
   | exact ih0 _ _ _ _ _ _ _
   | exact ih1 _ _ _ _
   | apply impl_AttrText.mono
   | apply impl_SpanOk.mono
   | exact LeO.none _
   | refine LeO.ite ?_ ?_
   | refine LeO.bind ?_ (fun _ => ?_)
def impl_SpanText.T3 : Bool × List (List Nat × List Nat) := (true, [([], []), ([0], [0]), ([1], [1]), ([2], [2]), ([], []), ([4], [4]), ([5, 2], [5]), ([3, 6], [3, 6]), ([7], [7]), ([], []), ([9], [9]), ([10, 6], [10]), ([8, 11], [8, 11]), ([12], [12]), ([], []), ([14], [14]), ([15, 11], [15]), ([13, 16], [13, 16]), ([17, 16, 0, 1, 2, 3, 4, 5, 6, 7, 8, 9, 10, 11, 12, 13, 14, 15, 16, 17], [17])])
def impl_SpanText.B3 : List Nat := [0, 1, 3, 7, 0, 16, 55, 127, 255, 0, 512, 1655, 4095, 8191, 0, 16384, 52855, 131071, 262143]
theorem impl_SpanText.tab3 : rtab .any (opsOf Tryd.f19 3) = impl_SpanText.T3 := by kernel_rfl
theorem impl_SpanText.bits3 : waitsOk impl_SpanText.T3.2 impl_SpanText.B3 = true := by kernel_rfl
set_option maxHeartbeats 8000000 in
set_option maxRecDepth 100000 in
theorem impl_SpanText.calls (k : Nat) (a0_0 : Int) (a0_1 : Int) (a0_2 : Int) (a0_3 : Int) (a0_4 : Bool) (A0_5 : Option Addr) (c0_5 : Nat) (l0_5 : List (S28)) (r : ByteArray) (w : World) (hr0_5 : Kd.C k28 w A0_5 l0_5.length l0_5) (hc0_5 : l0_5.length ≤ c0_5) (htab_ : Lib.TabIs Tryd.prog w "internal/strconv.uint64pow10" .u64 Lib.pow10Tab) (h : impl_SpanText.f k a0_0 a0_1 a0_2 a0_3 a0_4 l0_5 = some r) :
  Calls Tryd.prog 19 #[.agg #[.int .i64 a0_0, .int .i64 a0_1, .int .i64 a0_2, .int .i64 a0_3, .bool a0_4, .slice A0_5 l0_5.length c0_5]] w fun e w' => e = .returned (.string r) ∧ Below w.heap.size w w' := by
 have HTAB := Aside0.mk htab_
 clear htab_
 have hu38 := Tryd.underlying38
 have hu28 := Tryd.underlying28
 have HR0_5 := Aside0.mk hr0_5
 have HC0_5 := Aside0.mk hc0_5
 clear hr0_5 hc0_5
 have HB := Aside0.mk (Below.refl w.heap.size w)
 unfold impl_SpanText.f at h; have H := h
 clear h
 obtain ⟨t166, A2, H⟩ := zO H; try dsimp only at H
 by_cases c3 : t166 = true
 ·subst c3
  rw [if_pos rfl] at H
  obtain ⟨t167, A4, H⟩ := zO H; try dsimp only at H
  by_cases c5 : t167.size + 1 ≤ 9223372036854775807
  ·rw [if_pos c5] at H
   have c5b0 := eq_true c5
   have c5b1 := decide_eq_true c5
   have c5b2 := eq_false (Nat.not_lt.2 c5)
   obtain ⟨t168, A6, H⟩ := zO H; try dsimp only at H
   by_cases c7 : (t167 ++ (⟨#[47]⟩ : ByteArray)).size + t168.size ≤ 9223372036854775807
   ·rw [if_pos c7] at H
    have c7b0 := eq_true c7
    have c7b1 := decide_eq_true c7
    have c7b2 := eq_false (Nat.not_lt.2 c7)
    try have c7b3 : (9223372036854775807 < t167.size + 1 + t168.size) = False := eq_false (by have z_ := c7; simp only [ByteArray.size_append] at z_; have e0_ : ((⟨#[47]⟩ : ByteArray)).size = 1 := rfl; omega)
    by_cases c8 : ((t167 ++ (⟨#[47]⟩ : ByteArray)) ++ t168).size + 1 ≤ 9223372036854775807
    ·rw [if_pos c8] at H
     have c8b0 := eq_true c8
     have c8b1 := decide_eq_true c8
     have c8b2 := eq_false (Nat.not_lt.2 c8)
     try have c8b3 : (9223372036854775807 < t167.size + 1 + t168.size + 1) = False := eq_false (by have z_ := c8; simp only [ByteArray.size_append] at z_; have e0_ : ((⟨#[47]⟩ : ByteArray)).size = 1 := rfl; omega)
     obtain ⟨t169, A9, H⟩ := zO H; try dsimp only at H
     by_cases c10 : (((t167 ++ (⟨#[47]⟩ : ByteArray)) ++ t168) ++ (⟨#[32]⟩ : ByteArray)).size + t169.size ≤ 9223372036854775807
     ·rw [if_pos c10] at H
      have c10b0 := eq_true c10
      have c10b1 := decide_eq_true c10
      have c10b2 := eq_false (Nat.not_lt.2 c10)
      try have c10b3 : (9223372036854775807 < t167.size + 1 + t168.size + 1 + t169.size) = False := eq_false (by have z_ := c10; simp only [ByteArray.size_append] at z_; have e0_ : ((⟨#[47]⟩ : ByteArray)).size = 1 := rfl; have e1_ : ((⟨#[32]⟩ : ByteArray)).size = 1 := rfl; omega)
      by_cases c11 : ((((t167 ++ (⟨#[47]⟩ : ByteArray)) ++ t168) ++ (⟨#[32]⟩ : ByteArray)) ++ t169).size + 1 ≤ 9223372036854775807
      ·rw [if_pos c11] at H
       have c11b0 := eq_true c11
       have c11b1 := decide_eq_true c11
       have c11b2 := eq_false (Nat.not_lt.2 c11)
       try have c11b3 : (9223372036854775807 < t167.size + 1 + t168.size + 1 + t169.size + 1) = False := eq_false (by have z_ := c11; simp only [ByteArray.size_append] at z_; have e0_ : ((⟨#[47]⟩ : ByteArray)).size = 1 := rfl; have e1_ : ((⟨#[32]⟩ : ByteArray)).size = 1 := rfl; omega)
       obtain ⟨t170, A12, H⟩ := zO H; try dsimp only at H
       by_cases c13 : (((((t167 ++ (⟨#[47]⟩ : ByteArray)) ++ t168) ++ (⟨#[32]⟩ : ByteArray)) ++ t169) ++ (⟨#[45]⟩ : ByteArray)).size + t170.size ≤ 9223372036854775807
       ·rw [if_pos c13] at H
        have c13b0 := eq_true c13
        have c13b1 := decide_eq_true c13
        have c13b2 := eq_false (Nat.not_lt.2 c13)
        try have c13b3 : (9223372036854775807 < t167.size + 1 + t168.size + 1 + t169.size + 1 + t170.size) = False := eq_false (by have z_ := c13; simp only [ByteArray.size_append] at z_; have e0_ : ((⟨#[47]⟩ : ByteArray)).size = 1 := rfl; have e1_ : ((⟨#[32]⟩ : ByteArray)).size = 1 := rfl; have e2_ : ((⟨#[45]⟩ : ByteArray)).size = 1 := rfl; omega)
        have HC14 := Aside0.mk H
        clear H
        go_enter Tryd.func19, Tryd.ntmps19
        try go_wp2_with (first | ((with_reducible refine gD 1 rfl ?_); refine bE 1 #[.int .i64 a0_0, .int .i64 a0_1, .int .i64 a0_2, .int .i64 a0_3, .bool a0_4, .slice A0_5 l0_5.length c0_5] 38 ?_; intro gb165 hg w15 hbox hb; have BK165 := Aside0.mk hbox; have GW165 := Aside0.mk (zg (zL HB.out) hg : w.heap.size ≤ gb165); have GE165 := GW165; replace HB := zLB (zL HB.out) hb; clear hb hbox hg; have hcz16 := zc6 BK165.out; have hfz16 := zf6 BK165.out) | ((with_reducible refine gC 39 rfl ?_); refine gL 7 Tryd.func39 #[.agg #[.int .i64 a0_0, .int .i64 a0_1, .int .i64 a0_2, .int .i64 a0_3, .bool a0_4, .slice A0_5 l0_5.length c0_5]] ?_; (with_reducible refine (impl_SpanOk.calls k a0_0 a0_1 a0_2 a0_3 a0_4 _ _ l0_5 true _ ?side1 ?side2 A2.out).mono ?_); (case side1 => exact zC (Kd.C_below HR0_5.out HB.out)); (case side2 => exact HC0_5.out); rintro e w17 ⟨rfl, hb⟩; refine ⟨_, rfl, ?_⟩; replace BK165 := zBB BK165 hb; replace HB := zLB (zL1 HB.out GE165.out) hb; clear hb))
        replace BK165 := zBD BK165; replace HB := zLD HB
        refine start_ (n := 19) (S := fun w' => zs6 w' gb165 (.int .i64 a0_0) (.int .i64 a0_1) (.int .i64 a0_2) (.int .i64 a0_3) (.bool a0_4) (.slice A0_5 l0_5.length c0_5)) (ds := []) (fB 19 0) (by kernel_rfl) rfl rfl (zc6 BK165.out) (fun hHeld => ?_); refine with_tabW impl_SpanText.tab3 impl_SpanText.bits3 (fun HT_ HW_ => ?_)
        generalize w17.drew = w18 at BK165 HB hHeld ⊢
        refine pY 0 9 (fB 19 1) HT_.out ?_
        refine pY 4 13 (fB 19 17) HT_.out ?_
        refine pY 9 18 (fB 19 529) HT_.out ?_
        refine pY 14 23 (fB 19 16913) HT_.out ?_
        refine tY 1 10 (fB 19 16915) HT_.out HW_.out hHeld ?_
        refine tY 5 14 (fB 19 16947) HT_.out HW_.out hHeld ?_
        refine tY 10 19 (fB 19 17971) HT_.out HW_.out hHeld ?_
        refine tY 15 24 (fB 19 50739) HT_.out HW_.out hHeld ?_
        refine oN 2 11 (fB 19 50743) HT_.out fun K hK => ?_
        refine gS Tryd.func11 #[.int .i64 a0_0] ?_
        with_reducible refine (impl_NumText.calls a0_0 t167 _ (tab_at HTAB.out (zL1 HB.out GE165.out)) A4.out).mono ?_
        rintro e w19 ⟨rfl, hb⟩
        refine ⟨_, rfl, ?_⟩
        replace BK165 := zBB BK165 hb; replace HB := zLB (zL1 HB.out GE165.out) hb
        clear hb
        refine hK.out _ _ (zc6 BK165.out) fun hHeld => ?_; clear hK K
        refine nZ 11 ?_
        refine pY 3 12 (fB 19 50751) HT_.out ?_
        refine oN 6 15 (fB 19 50815) HT_.out fun K hK => ?_
        refine gS Tryd.func11 #[.int .i64 a0_1] ?_
        with_reducible refine (impl_NumText.calls a0_1 t168 _ (tab_at HTAB.out (zL1 HB.out GE165.out)) A6.out).mono ?_
        rintro e w20 ⟨rfl, hb⟩
        refine ⟨_, rfl, ?_⟩
        replace BK165 := zBB BK165 hb; replace HB := zLB (zL1 HB.out GE165.out) hb
        clear hb
        refine hK.out _ _ (zc6 BK165.out) fun hHeld => ?_; clear hK K
        refine nZ 15 ?_
        refine pY 7 16 (fB 19 50943) HT_.out ?_
        refine pY 8 17 (fB 19 51199) HT_.out ?_
        refine oN 11 20 (fB 19 53247) HT_.out fun K hK => ?_
        refine gS Tryd.func11 #[.int .i64 a0_2] ?_
        with_reducible refine (impl_NumText.calls a0_2 t169 _ (tab_at HTAB.out (zL1 HB.out GE165.out)) A9.out).mono ?_
        rintro e w21 ⟨rfl, hb⟩
        refine ⟨_, rfl, ?_⟩
        replace BK165 := zBB BK165 hb; replace HB := zLB (zL1 HB.out GE165.out) hb
        clear hb
        refine hK.out _ _ (zc6 BK165.out) fun hHeld => ?_; clear hK K
        refine nZ 20 ?_
        refine pY 12 21 (fB 19 57343) HT_.out ?_
        refine pY 13 22 (fB 19 65535) HT_.out ?_
        refine oN 16 25 (fB 19 131071) HT_.out fun K hK => ?_
        refine gS Tryd.func11 #[.int .i64 a0_3] ?_
        with_reducible refine (impl_NumText.calls a0_3 t170 _ (tab_at HTAB.out (zL1 HB.out GE165.out)) A12.out).mono ?_
        rintro e w22 ⟨rfl, hb⟩
        refine ⟨_, rfl, ?_⟩
        replace BK165 := zBB BK165 hb; replace HB := zLB (zL1 HB.out GE165.out) hb
        clear hb
        refine hK.out _ _ (zc6 BK165.out) fun hHeld => ?_; clear hK K
        refine nZ 25 ?_
        refine pY 17 26 (fB 19 262143) HT_.out ?_
        refine pY 18 3 (fB 19 524287) HT_.out ?_
        refine done_ (done_of HT_.out (by kernel_rfl)) ?_
        have hcz23 := zc6 BK165.out
        have hfz23 := zf6 BK165.out
        go_upto_if 28 with (fail)
        go_cut [3] (fun v3 wc => ∃ (kq : Nat) (x3_13 : ByteArray), v3 = .string x3_13 ∧ Aside0 (impl_SpanText.j0 kq x3_13 a0_0 a0_1 a0_2 a0_3 a0_4 l0_5 = some r) ∧ Aside0 (kq ≤ k) ∧ Aside0 (wc.heap[gb165]? = some (.cells #[.int .i64 a0_0, .int .i64 a0_1, .int .i64 a0_2, .int .i64 a0_3, .bool a0_4, (.slice A0_5 l0_5.length c0_5)] 38 (0, 0))) ∧ Aside0 (Below w.heap.size w wc))
        case first =>
         have H := HC14.out
         clear HC14
         by_cases c24 : a0_4 = true
         ·subst c24
          rw [if_pos rfl] at H
          by_cases c25 : ((((((t167 ++ (⟨#[47]⟩ : ByteArray)) ++ t168) ++ (⟨#[32]⟩ : ByteArray)) ++ t169) ++ (⟨#[45]⟩ : ByteArray)) ++ t170).size + 7 ≤ 9223372036854775807
          ·rw [if_pos c25] at H
           have c25b0 := eq_true c25
           have c25b1 := decide_eq_true c25
           have c25b2 := eq_false (Nat.not_lt.2 c25)
           try have c25b3 : (9223372036854775807 < t167.size + 1 + t168.size + 1 + t169.size + 1 + t170.size + 7) = False := eq_false (by have z_ := c25; simp only [ByteArray.size_append] at z_; have e0_ : ((⟨#[47]⟩ : ByteArray)).size = 1 := rfl; have e1_ : ((⟨#[32]⟩ : ByteArray)).size = 1 := rfl; have e2_ : ((⟨#[45]⟩ : ByteArray)).size = 1 := rfl; omega)
           have H' := Aside0.mk H
           clear H
           go_wp2
           go_meet
           case rel => exact ⟨_, (((((((t167 ++ (⟨#[47]⟩ : ByteArray)) ++ t168) ++ (⟨#[32]⟩ : ByteArray)) ++ t169) ++ (⟨#[45]⟩ : ByteArray)) ++ t170) ++ (⟨#[32, 102, 97, 105, 108, 101, 100]⟩ : ByteArray)), zV, H', ⟨by first | omega | exact Nat.le_refl _⟩, ⟨zB BK165.out⟩, ⟨zL1 HB.out GE165.out⟩⟩
          ·rw [if_neg c25] at H
           exact absurd H (by simp)
         ·obtain rfl := Bool.eq_false_iff.mpr c24
          rw [if_neg zn] at H
          have H' := Aside0.mk H
          clear H
          go_wp2
          go_meet
          case rel => exact ⟨_, ((((((t167 ++ (⟨#[47]⟩ : ByteArray)) ++ t168) ++ (⟨#[32]⟩ : ByteArray)) ++ t169) ++ (⟨#[45]⟩ : ByteArray)) ++ t170), zV, H', ⟨by first | omega | exact Nat.le_refl _⟩, ⟨zB BK165.out⟩, ⟨zL1 HB.out GE165.out⟩⟩
        case rest =>
         clear HC14
         try clear c1
         try clear c2
         try clear p2
         try clear c3
         try clear c5
         try clear c5b0
         try clear c5b1
         try clear c5b2
         try clear c7
         try clear c7b0
         try clear c7b1
         try clear c7b2
         try clear c8
         try clear c8b0
         try clear c8b1
         try clear c8b2
         try clear c10
         try clear c10b0
         try clear c10b1
         try clear c10b2
         try clear c11
         try clear c11b0
         try clear c11b1
         try clear c11b2
         try clear c13
         try clear c13b0
         try clear c13b1
         try clear c13b2
         try clear c19
         try clear c24
         try clear c25
         try clear c25b0
         try clear c25b1
         try clear c25b2
         try clear hcz16; try clear hcz23; try clear hfz16; try clear hfz23
         obtain ⟨kq, x3_13, rfl, HA, HJ13, BK165, HB⟩ := hcut
         cases kq with
         | zero => exact absurd HA.out (by simp [impl_SpanText.j0])
         | succ kj13 =>
          have H := HA.out
          clear HA
          simp only [impl_SpanText.j0] at H
          have H' := Aside0.mk H
          clear H
          have hcz26 := zc6 BK165.out
          have hfz26 := zf6 BK165.out
          go_wp2
          go_loopg [3, 34] kj13 (fun kq v3 v34 w' => ∃ (x3_2 : ByteArray) (x34_2 : Int), v3 = .string x3_2 ∧ v34 = .int .i64 x34_2 ∧ Aside0 (impl_SpanText.l0 kq x3_2 l0_5 (l0_5.length : Int) x34_2 = some r) ∧ Aside0 (kq ≤ kj13) ∧ Aside0 (w'.heap[gb165]? = some (.cells #[.int .i64 a0_0, .int .i64 a0_1, .int .i64 a0_2, .int .i64 a0_3, .bool a0_4, (.slice A0_5 l0_5.length c0_5)] 38 (0, 0))) ∧ Aside0 (Below w.heap.size w w'))
          case atStart => exact ⟨(x3_13), (0), zV, zV, H', ⟨Nat.le_refl _⟩, ⟨zB BK165.out⟩, ⟨zL1 HB.out GE165.out⟩⟩
          case round =>
           clear H'
           try clear c1
           try clear c2
           try clear p2
           try clear c3
           try clear c5
           try clear c5b0
           try clear c5b1
           try clear c5b2
           try clear c7
           try clear c7b0
           try clear c7b1
           try clear c7b2
           try clear c8
           try clear c8b0
           try clear c8b1
           try clear c8b2
           try clear c10
           try clear c10b0
           try clear c10b1
           try clear c10b2
           try clear c11
           try clear c11b0
           try clear c11b1
           try clear c11b2
           try clear c13
           try clear c13b0
           try clear c13b1
           try clear c13b2
           try clear c19
           try clear c24
           try clear c25
           try clear c25b0
           try clear c25b1
           try clear c25b2
           try clear hcz16; try clear hcz23; try clear hcz26; try clear hfz16; try clear hfz23; try clear hfz26
           try clear p2
           obtain ⟨x3_2, x34_2, rfl, rfl, HA, HK2, BK165, HB⟩ := hrel
           cases gk with
           | zero => exact absurd HA.out (by simp [impl_SpanText.l0])
           | succ k2 =>
            have H := HA.out
            clear HA
            simp only [impl_SpanText.l0] at H
            by_cases c27 : x34_2 < (l0_5.length : Int)
            ·rw [if_pos c27] at H
             have c27b0 := decide_eq_true c27
             clear c27
             by_cases c28 : 0 ≤ x34_2
             ·rw [if_pos c28] at H
              have c28b0 := decide_eq_true c28
              clear c28
              by_cases c29 : x34_2 < (l0_5.length : Int)
              ·rw [if_pos c29] at H
               have c29b0 := decide_eq_true c29
               clear c29
               obtain ⟨t173, A30, H⟩ := zO H; try dsimp only at H
               by_cases c31 : 1 + t173.size ≤ 9223372036854775807
               ·rw [if_pos c31] at H
                have c31b0 := eq_true c31
                have c31b1 := decide_eq_true c31
                have c31b2 := eq_false (Nat.not_lt.2 c31)
                by_cases c32 : x3_2.size + ((⟨#[32]⟩ : ByteArray) ++ t173).size ≤ 9223372036854775807
                ·rw [if_pos c32] at H
                 have c32b0 := eq_true c32
                 have c32b1 := decide_eq_true c32
                 have c32b2 := eq_false (Nat.not_lt.2 c32)
                 try have c32b3 : (9223372036854775807 < x3_2.size + (1 + t173.size)) = False := eq_false (by have z_ := c32; simp only [ByteArray.size_append] at z_; have e0_ : ((⟨#[32]⟩ : ByteArray)).size = 1 := rfl; omega)
                 have H' := Aside0.mk H
                 clear H
                 have p171 : 0 ≤ (x34_2 : Int) := zD
                 have q171 : x34_2 < (l0_5.length : Int) := zD
                 obtain ⟨ad171, e171, hx171_0, hx171_1, hx171_2, hx171_3⟩ := at_T28 HR0_5.out x34_2 p171 q171
                 cases e171
                 replace hx171_0 := zh HB.out hx171_0
                 replace hx171_1 := zh HB.out hx171_1
                 replace hx171_2 := zh HB.out hx171_2
                 replace hx171_3 := zh HB.out hx171_3
                 replace p171 := eq_true p171
                 replace q171 := eq_true q171
                 go_wp2_with (first | ((with_reducible refine gD 5 rfl ?_); refine bE 5 #[.string (⟨#[]⟩ : ByteArray), .bool false, .int .i64 0, .string (⟨#[]⟩ : ByteArray)] 28 ?_; intro gb172 hg w33 hbox hb; have BK172 := Aside0.mk hbox; have GW172 := Aside0.mk (zg (zL1 HB.out GE165.out) hg : w.heap.size ≤ gb172); have GE172 := GW172; replace HB := zLB (zL1 HB.out GE165.out) hb; have NB165_172 := Aside0.mk (zN BK165.out hg : gb165 ≠ gb172); have NB172_165 := Aside0.mk (zM BK165.out hg : gb172 ≠ gb165); replace BK165 := zBB BK165 hb; clear hb hbox hg; have hnb34 := NB172_165.out; have hnc34 := NB165_172.out; have hcz35 := zc4 BK172.out; have hfz35 := zf4 BK172.out) | ((with_reducible refine gC 15 rfl ?_); refine gL 40 Tryd.func15 #[.agg #[.string ((rd_T28 l0_5 x34_2).f0), .bool ((rd_T28 l0_5 x34_2).f1), .int .i64 ((rd_T28 l0_5 x34_2).f2), .string ((rd_T28 l0_5 x34_2).f3)]] ?_; (with_reducible refine (impl_AttrText.calls k2 ((rd_T28 l0_5 x34_2).f0) ((rd_T28 l0_5 x34_2).f1) ((rd_T28 l0_5 x34_2).f2) ((rd_T28 l0_5 x34_2).f3) t173 _ (tab_at HTAB.out (zL2 HB.out GE165.out GE172.out)) A30.out).mono ?_); rintro e w36 ⟨rfl, hb⟩; refine ⟨_, rfl, ?_⟩; replace BK165 := Aside0.mk (bB (g := gb165) (o := .cells #[.int .i64 a0_0, .int .i64 a0_1, .int .i64 a0_2, .int .i64 a0_3, .bool a0_4, .slice (some ad171) l0_5.length c0_5] 38 (0, 0)) (by refine zB ?_; refine zr4 ?_ NB165_172.out; exact zB BK165.out) hb); replace BK172 := Aside0.mk (bB (g := gb172) (o := .cells #[.string ((rd_T28 l0_5 x34_2).f0), .bool ((rd_T28 l0_5 x34_2).f1), .int .i64 ((rd_T28 l0_5 x34_2).f2), .string ((rd_T28 l0_5 x34_2).f3)] 28 (0, 0)) (by refine zB ?_; refine zp4 (cs := #[.string (⟨#[]⟩ : ByteArray), .bool false, .int .i64 0, .string (⟨#[]⟩ : ByteArray)]) ?_; exact zB BK172.out) hb); replace HB := zLB (zL2 HB.out GE165.out GE172.out) hb; clear hb))
                 go_roundg k2
                 case measure => have := HJ13.out; have := HK2.out; omega
                 case rel => exact ⟨(x3_2 ++ ((⟨#[32]⟩ : ByteArray) ++ t173)), (wrap64 (x34_2 + 1)), zV, zV, H', ⟨by have := HJ13.out; have := HK2.out; omega⟩, ⟨zB BK165.out⟩, ⟨zL2 HB.out GE165.out GE172.out⟩⟩
                ·rw [if_neg c32] at H
                 exact absurd H (by simp)
               ·rw [if_neg c31] at H
                exact absurd H (by simp)
              ·rw [if_neg c29] at H
               exact absurd H (by simp)
             ·rw [if_neg c28] at H
              exact absurd H (by simp)
            ·rw [if_neg c27] at H
             have c27b0 := decide_eq_false c27
             clear c27
             obtain rfl := Option.some.inj H
             go_wp2
             go_ret
             exact ⟨zW, zL1 HB.out GE165.out⟩
       ·rw [if_neg c13] at H
        exact absurd H (by simp)
      ·rw [if_neg c11] at H
       exact absurd H (by simp)
     ·rw [if_neg c10] at H
      exact absurd H (by simp)
    ·rw [if_neg c8] at H
     exact absurd H (by simp)
   ·rw [if_neg c7] at H
    exact absurd H (by simp)
  ·rw [if_neg c5] at H
   exact absurd H (by simp)
 ·obtain rfl := Bool.eq_false_iff.mpr c3
  rw [if_neg zn] at H
  obtain rfl := Option.some.inj H
  go_enter Tryd.func19, Tryd.ntmps19
  go_wp2_with (first | ((with_reducible refine gD 1 rfl ?_); refine bE 1 #[.int .i64 a0_0, .int .i64 a0_1, .int .i64 a0_2, .int .i64 a0_3, .bool a0_4, .slice A0_5 l0_5.length c0_5] 38 ?_; intro gb165 hg w37 hbox hb; have BK165 := Aside0.mk hbox; have GW165 := Aside0.mk (zg (zL HB.out) hg : w.heap.size ≤ gb165); have GE165 := GW165; replace HB := zLB (zL HB.out) hb; clear hb hbox hg; have hcz38 := zc6 BK165.out; have hfz38 := zf6 BK165.out) | ((with_reducible refine gC 39 rfl ?_); refine gL 7 Tryd.func39 #[.agg #[.int .i64 a0_0, .int .i64 a0_1, .int .i64 a0_2, .int .i64 a0_3, .bool a0_4, .slice A0_5 l0_5.length c0_5]] ?_; (with_reducible refine (impl_SpanOk.calls k a0_0 a0_1 a0_2 a0_3 a0_4 _ _ l0_5 false _ ?side1 ?side2 A2.out).mono ?_); (case side1 => exact zC (Kd.C_below HR0_5.out HB.out)); (case side2 => exact HC0_5.out); rintro e w39 ⟨rfl, hb⟩; refine ⟨_, rfl, ?_⟩; replace BK165 := zBB BK165 hb; replace HB := zLB (zL1 HB.out GE165.out) hb; clear hb))
  go_ret
  exact ⟨zW, zL1 HB.out GE165.out⟩

open Go.Proofs.YtkhbhdchakbmhaaDoorW.PrintWords renaming blk_drewN → bN, blk_drew → bD, blk_alloc → bA, blk_cell → bC, blk_below → bB, below_set → bS
/-! ### laws_big: function 23 -/
def laws_big.f (l0 : List Int) : Option (Bool) := some (decide ((l0.length : Int) > 1048576))
set_option maxHeartbeats 8000000 in
set_option maxRecDepth 100000 in
theorem laws_big.calls (A0 : Option Addr) (c0 : Nat) (l0 : List Int) (r : Bool) (w : World) (hr0 : Kd.C (Kd.int .u8) w A0 l0.length l0) (hc0 : l0.length ≤ c0) (h : laws_big.f l0 = some r) :
  Calls Tryd.prog 23 #[.slice A0 l0.length c0] w fun e w' => e = .returned (.bool r) ∧ Drawn0 w w' := by
 have HR0 := Aside0.mk hr0
 have HC0 := Aside0.mk hc0
 clear hr0 hc0
 unfold laws_big.f at h; have H := h
 clear h
 obtain rfl := Option.some.inj H
 go_enter Tryd.func23, Tryd.ntmps23
 go_wp2
 go_ret
 exact ⟨zV, zU⟩

end Go.Proofs.YtkhbhdchakbmhaaDoor.QFnSpans
