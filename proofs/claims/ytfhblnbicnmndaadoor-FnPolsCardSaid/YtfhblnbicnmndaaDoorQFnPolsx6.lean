/- What the Go functions that the law FnPols reaches answer: each as a Lean function, with its walk. Written by a program of this session. Conditions: those that each theorem names. -/
import Derived.Test.YtfhblnbicnmndaaDoorQFnPolsx0
import Derived.Test.YtfhblnbicnmndaaDoorQFnPolsx5
namespace Go.Proofs.YtfhblnbicnmndaaDoor.QFnPols
open Go.RowKit Go.Proofs.YtfhblnbicnmndaaDoorW.PrintWords Go.Proofs.YtfhblnbicnmndaaDoorW.PrintLast Go.Proofs.YtfhblnbicnmndaaDoorW.PrintMore
attribute [local go_sem] max2_int min2_int max_two min_two max_three min_three max_four min_four   -- for this text's walks alone
set_option linter.unusedVariables false
set_option linter.unusedSimpArgs false

open Go.Proofs.YtfhblnbicnmndaaDoorW.PrintWords renaming blk_drewN → bN, blk_drew → bD, blk_alloc → bA, blk_cell → bC, blk_below → bB, below_set → bS
/-! ### spec_l5One: function 44 -/
def spec_l5One.j0 : Nat → Int → Bool → Int → Int → ByteArray → ByteArray → List (S26) → Option (Bool)
 | 0, _, _, _, _, _, _, _ => none
 | k + 1, x4, x5, x432000, x432001, x432002, x432003, x432004 => if x5 = true then (if x432001 = 0 then (if x432002.toList = ([] : List UInt8) then (if x432003.toList = ([] : List UInt8) then (some ((x432004.length : Int) == 0)) else (some false)) else (some false)) else (some false)) else (if x4 = 3 then ((spec_l1In.f x432001 0 2147483647).bind fun t432 => (if t432 = true then (if x432002.toList = ([] : List UInt8) then (if x432003.toList = ([] : List UInt8) then (some ((x432004.length : Int) == 0)) else (some false)) else (some false)) else (some false))) else (if x4 = 4 then (if x432001 = 0 then ((spec_NameOk.f k x432002).bind fun t433 => (if t433 = true then ((spec_PlainOk.f k x432003).bind fun t434 => (if t434 = true then (some ((x432004.length : Int) == 0)) else (some false))) else (some false))) else (some false)) else (if x4 = 5 then ((spec_l1In.f x432001 0 2147483647).bind fun t435 => (if t435 = true then ((spec_NameOk.f k x432002).bind fun t436 => (if t436 = true then (if x432003.toList = ([] : List UInt8) then (some ((x432004.length : Int) == 0)) else (some false)) else (some false))) else (some false))) else (if x4 = 7 then (if x432001 = 0 then (if x432002.toList = ([] : List UInt8) then (if x432003.toList = ([] : List UInt8) then ((spec_l1In.f (x432004.length : Int) 1 4).bind fun t437 => (some t437)) else (some false)) else (some false)) else (some false)) else (if x4 = 8 then (if x432001 = 0 then (if x432002.toList = ([] : List UInt8) then (if x432003.toList = ([] : List UInt8) then ((spec_l1In.f (x432004.length : Int) 1 4).bind fun t438 => (some t438)) else (some false)) else (some false)) else (some false)) else (if x432000 = 9 then (if x432001 = 0 then (if x432002.toList = ([] : List UInt8) then (if x432003.toList = ([] : List UInt8) then (some ((x432004.length : Int) == 1)) else (some false)) else (some false)) else (some false)) else (some false)))))))
def spec_l5One.f (k : Nat) (a0_0 : Int) (a0_1 : Int) (a0_2 : ByteArray) (a0_3 : ByteArray) (l0_4 : List (S26)) : Option (Bool) := if a0_0 = 1 then (spec_l5One.j0 k a0_0 (a0_0 == 1) a0_0 a0_1 a0_2 a0_3 l0_4) else (if a0_0 = 2 then (spec_l5One.j0 k a0_0 (a0_0 == 2) a0_0 a0_1 a0_2 a0_3 l0_4) else (spec_l5One.j0 k a0_0 (a0_0 == 6) a0_0 a0_1 a0_2 a0_3 l0_4))
theorem spec_l5One.mono_l : ∀ k, (∀ y0 y1 y2 y3 y4 y5 y6, LeO (spec_l5One.j0 k y0 y1 y2 y3 y4 y5 y6) (spec_l5One.j0 (k + 1) y0 y1 y2 y3 y4 y5 y6))
 | 0 => fun _ _ _ _ _ _ _ r h => by simp [spec_l5One.j0] at h
 | k + 1 => by
  have ih0 := spec_l5One.mono_l k
  ·intro y0 y1 y2 y3 y4 y5 y6
   unfold spec_l5One.j0
   repeat' first
   | (with_reducible exact ih0 _ _ _ _ _ _ _)
   | (with_reducible apply spec_NameOk.mono)
   | (with_reducible apply spec_PlainOk.mono)
   | (with_reducible exact LeO.refl _)
   | (with_reducible exact LeO.none _)
   | (with_reducible refine LeO.ite ?_ ?_)
   | (with_reducible refine LeO.bind ?_ (fun _ => ?_))
   | exact ih0 _ _ _ _ _ _ _
   | apply spec_NameOk.mono
   | apply spec_PlainOk.mono
   | exact LeO.none _
   | refine LeO.ite ?_ ?_
   | refine LeO.bind ?_ (fun _ => ?_)
theorem spec_l5One.mono : ∀ a0 a1 a2 a3 a4 k, LeO (spec_l5One.f k a0 a1 a2 a3 a4) (spec_l5One.f (k + 1) a0 a1 a2 a3 a4) := by
 intro a0 a1 a2 a3 a4 k
 have ih0 := spec_l5One.mono_l k
 unfold spec_l5One.f
 repeat' first
   | (with_reducible exact ih0 _ _ _ _ _ _ _)
   | (with_reducible apply spec_NameOk.mono)
   | (with_reducible apply spec_PlainOk.mono)
   | (with_reducible exact LeO.refl _)
   | (with_reducible exact LeO.none _)
   | (with_reducible refine LeO.ite ?_ ?_)
   | (with_reducible refine LeO.bind ?_ (fun _ => ?_))
   | exact ih0 _ _ _ _ _ _ _
   | apply spec_NameOk.mono
   | apply spec_PlainOk.mono
   | exact LeO.none _
   | refine LeO.ite ?_ ?_
   | refine LeO.bind ?_ (fun _ => ?_)
set_option maxHeartbeats 8000000 in
set_option maxRecDepth 100000 in
theorem spec_l5One.calls (k : Nat) (a0_0 : Int) (a0_1 : Int) (a0_2 : ByteArray) (a0_3 : ByteArray) (A0_4 : Option Addr) (c0_4 : Nat) (l0_4 : List (S26)) (r : Bool) (w : World) (hr0_4 : Kd.C k26 w A0_4 l0_4.length l0_4) (hc0_4 : l0_4.length ≤ c0_4) (h : spec_l5One.f k a0_0 a0_1 a0_2 a0_3 l0_4 = some r) :
  Calls Tryd.prog 44 #[.agg #[.int .i64 a0_0, .int .i64 a0_1, .string a0_2, .string a0_3, .slice A0_4 l0_4.length c0_4]] w fun e w' => e = .returned (.bool r) ∧ Below w.heap.size w w' := by
 have hu26 := Tryd.underlying26
 have HR0_4 := Aside0.mk hr0_4
 have HC0_4 := Aside0.mk hc0_4
 clear hr0_4 hc0_4
 have HB := Aside0.mk (Below.refl w.heap.size w)
 unfold spec_l5One.f at h; have H := h
 clear h
 have HC2 := Aside0.mk H
 clear H
 go_enter Tryd.func44, Tryd.ntmps44
 go_upto_if 5 with (first | ((with_reducible refine gD 1 rfl ?_); (try (refine gate_guard (by rfl) ?_; dsimp only)); refine box_event ?hg (N := 1) ?hd (cs := #[.int .i64 a0_0, .int .i64 a0_1, .string a0_2, .string a0_3, .slice A0_4 l0_4.length c0_4]) (t := 26) ?hr ?_; (case hd => rfl); (case hg => rfl); (case hr => first | (go_simp; done) | (go_simp; rfl)); intro gb431 hg w3 hbox hb; have BK431 := Aside0.mk hbox; have GW431 := Aside0.mk (zg (zL HB.out) hg : w.heap.size ≤ gb431); have GE431 := GW431; replace HB := zLB (zL HB.out) hb; clear hb hbox hg; have hcz4 := zc5 BK431.out; have hfz4 := zf5 BK431.out))
 (try simp only [Act.put, List.setIfInBounds_toArray, List.set_cons_zero, List.set_cons_succ])
 go_cut [5] (fun v5 wc => ∃ (kq : Nat) (x5_1 : Bool), v5 = .bool x5_1 ∧ Aside0 (spec_l5One.j0 kq a0_0 x5_1 a0_0 a0_1 a0_2 a0_3 l0_4 = some r) ∧ Aside0 (kq ≤ k) ∧ Aside0 (wc.heap[gb431]? = some (.cells #[.int .i64 a0_0, .int .i64 a0_1, .string a0_2, .string a0_3, (.slice A0_4 l0_4.length c0_4)] 26 (0, 0))) ∧ Aside0 (Below w.heap.size w wc))
 case first =>
  have H := HC2.out
  clear HC2
  by_cases c5 : a0_0 = 1
  ·rw [if_pos c5] at H
   obtain ⟨c5b0, c5b1⟩ := zt c5
   clear c5
   (first | rw [c5b0] | (simp only [i64_w, i32_w]; rw [c5b0]) | skip)
   have H' := Aside0.mk H
   clear H
   go_wp2
   go_meet
   case rel => exact ⟨_, ((a0_0 == 1)), zV, H', ⟨by first | omega | exact Nat.le_refl _⟩, ⟨zB BK431.out⟩, ⟨zL1 HB.out GE431.out⟩⟩
  ·rw [if_neg c5] at H
   obtain ⟨c5b0, c5b1⟩ := zf c5
   (first | rw [c5b0] | (simp only [i64_w, i32_w]; rw [c5b0]) | skip)
   by_cases c6 : a0_0 = 2
   ·rw [if_pos c6] at H
    obtain ⟨c6b0, c6b1⟩ := zt c6
    clear c6
    have H' := Aside0.mk H
    clear H
    go_wp2
    go_meet
    case rel => exact ⟨_, ((a0_0 == 2)), zV, H', ⟨by first | omega | exact Nat.le_refl _⟩, ⟨zB BK431.out⟩, ⟨zL1 HB.out GE431.out⟩⟩
   ·rw [if_neg c6] at H
    obtain ⟨c6b0, c6b1⟩ := zf c6
    have H' := Aside0.mk H
    clear H
    go_wp2
    go_meet
    case rel => exact ⟨_, ((a0_0 == 6)), zV, H', ⟨by first | omega | exact Nat.le_refl _⟩, ⟨zB BK431.out⟩, ⟨zL1 HB.out GE431.out⟩⟩
 case rest =>
  clear HC2
  try clear p2
  try clear c4
  try clear c5
  try clear c5b0
  try clear c5b1
  try clear c6
  try clear c6b0
  try clear c6b1
  try clear hcz4; try clear hfz4
  obtain ⟨kq, x5_1, rfl, HA, HJ1, BK431, HB⟩ := hcut
  cases kq with
  | zero => exact absurd HA.out (by simp [spec_l5One.j0])
  | succ kj1 =>
   have H := HA.out
   clear HA
   simp only [spec_l5One.j0] at H
   by_cases c7 : x5_1 = true
   ·subst c7
    rw [if_pos rfl] at H
    by_cases c8 : a0_1 = 0
    ·rw [if_pos c8] at H
     obtain ⟨c8b0, c8b1⟩ := zt c8
     clear c8
     by_cases c9 : a0_2.toList = ([] : List UInt8)
     ·rw [if_pos c9] at H
      obtain ⟨c9b0, c9b1⟩ := zt c9
      clear c9
      by_cases c10 : a0_3.toList = ([] : List UInt8)
      ·rw [if_pos c10] at H
       obtain ⟨c10b0, c10b1⟩ := zt c10
       clear c10
       obtain rfl := Option.some.inj H
       have hcz11 := zc5 BK431.out
       have hfz11 := zf5 BK431.out
       go_wp2
       go_ret
       exact ⟨zW, zL1 HB.out GE431.out⟩
      ·rw [if_neg c10] at H
       obtain ⟨c10b0, c10b1⟩ := zf c10
       obtain rfl := Option.some.inj H
       have hcz12 := zc5 BK431.out
       have hfz12 := zf5 BK431.out
       go_wp2
       go_ret
       exact ⟨zW, zL1 HB.out GE431.out⟩
     ·rw [if_neg c9] at H
      obtain ⟨c9b0, c9b1⟩ := zf c9
      obtain rfl := Option.some.inj H
      have hcz13 := zc5 BK431.out
      have hfz13 := zf5 BK431.out
      go_wp2
      go_ret
      exact ⟨zW, zL1 HB.out GE431.out⟩
    ·rw [if_neg c8] at H
     obtain ⟨c8b0, c8b1⟩ := zf c8
     obtain rfl := Option.some.inj H
     have hcz14 := zc5 BK431.out
     have hfz14 := zf5 BK431.out
     go_wp2
     go_ret
     exact ⟨zW, zL1 HB.out GE431.out⟩
   ·obtain rfl := Bool.eq_false_iff.mpr c7
    rw [if_neg zn] at H
    by_cases c15 : a0_0 = 3
    ·rw [if_pos c15] at H
     obtain ⟨c15b0, c15b1⟩ := zt c15
     clear c15
     obtain ⟨t432, A16, H⟩ := zO H; try dsimp only at H
     by_cases c17 : t432 = true
     ·subst c17
      rw [if_pos rfl] at H
      by_cases c18 : a0_2.toList = ([] : List UInt8)
      ·rw [if_pos c18] at H
       obtain ⟨c18b0, c18b1⟩ := zt c18
       clear c18
       by_cases c19 : a0_3.toList = ([] : List UInt8)
       ·rw [if_pos c19] at H
        obtain ⟨c19b0, c19b1⟩ := zt c19
        clear c19
        obtain rfl := Option.some.inj H
        have hcz20 := zc5 BK431.out
        have hfz20 := zf5 BK431.out
        go_wp2_with (first | ((with_reducible refine gC 56 rfl ?_); refine gL 32 Tryd.func56 #[.int .i64 a0_1, .int .i64 0, .int .i64 2147483647] ?_; (with_reducible refine (spec_l1In.calls a0_1 0 2147483647 true _ A16.out).mono ?_); rintro e w' ⟨rfl, ⟨nd, rfl⟩⟩; refine ⟨_, rfl, ?_⟩))
        go_ret
        exact ⟨zW, zL1 HB.out GE431.out⟩
       ·rw [if_neg c19] at H
        obtain ⟨c19b0, c19b1⟩ := zf c19
        obtain rfl := Option.some.inj H
        have hcz21 := zc5 BK431.out
        have hfz21 := zf5 BK431.out
        go_wp2_with (first | ((with_reducible refine gC 56 rfl ?_); refine gL 32 Tryd.func56 #[.int .i64 a0_1, .int .i64 0, .int .i64 2147483647] ?_; (with_reducible refine (spec_l1In.calls a0_1 0 2147483647 true _ A16.out).mono ?_); rintro e w' ⟨rfl, ⟨nd, rfl⟩⟩; refine ⟨_, rfl, ?_⟩))
        go_ret
        exact ⟨zW, zL1 HB.out GE431.out⟩
      ·rw [if_neg c18] at H
       obtain ⟨c18b0, c18b1⟩ := zf c18
       obtain rfl := Option.some.inj H
       have hcz22 := zc5 BK431.out
       have hfz22 := zf5 BK431.out
       go_wp2_with (first | ((with_reducible refine gC 56 rfl ?_); refine gL 32 Tryd.func56 #[.int .i64 a0_1, .int .i64 0, .int .i64 2147483647] ?_; (with_reducible refine (spec_l1In.calls a0_1 0 2147483647 true _ A16.out).mono ?_); rintro e w' ⟨rfl, ⟨nd, rfl⟩⟩; refine ⟨_, rfl, ?_⟩))
       go_ret
       exact ⟨zW, zL1 HB.out GE431.out⟩
     ·obtain rfl := Bool.eq_false_iff.mpr c17
      rw [if_neg zn] at H
      obtain rfl := Option.some.inj H
      have hcz23 := zc5 BK431.out
      have hfz23 := zf5 BK431.out
      go_wp2_with (first | ((with_reducible refine gC 56 rfl ?_); refine gL 32 Tryd.func56 #[.int .i64 a0_1, .int .i64 0, .int .i64 2147483647] ?_; (with_reducible refine (spec_l1In.calls a0_1 0 2147483647 false _ A16.out).mono ?_); rintro e w' ⟨rfl, ⟨nd, rfl⟩⟩; refine ⟨_, rfl, ?_⟩))
      go_ret
      exact ⟨zW, zL1 HB.out GE431.out⟩
    ·rw [if_neg c15] at H
     obtain ⟨c15b0, c15b1⟩ := zf c15
     by_cases c24 : a0_0 = 4
     ·rw [if_pos c24] at H
      obtain ⟨c24b0, c24b1⟩ := zt c24
      clear c24
      by_cases c25 : a0_1 = 0
      ·rw [if_pos c25] at H
       obtain ⟨c25b0, c25b1⟩ := zt c25
       clear c25
       obtain ⟨t433, A26, H⟩ := zO H; try dsimp only at H
       by_cases c27 : t433 = true
       ·subst c27
        rw [if_pos rfl] at H
        obtain ⟨t434, A28, H⟩ := zO H; try dsimp only at H
        by_cases c29 : t434 = true
        ·subst c29
         rw [if_pos rfl] at H
         obtain rfl := Option.some.inj H
         have hcz30 := zc5 BK431.out
         have hfz30 := zf5 BK431.out
         go_wp2_with (first | (go_at_call 57; (with_reducible refine (spec_NameOk.calls kj1 a0_2 true _ A26.out).mono ?_); rintro e w' ⟨rfl, ⟨nd, rfl⟩⟩) | (go_at_call 58; (with_reducible refine (spec_PlainOk.calls kj1 a0_3 true _ A28.out).mono ?_); rintro e w' ⟨rfl, ⟨nd, rfl⟩⟩))
         go_ret
         exact ⟨zW, zL1 HB.out GE431.out⟩
        ·obtain rfl := Bool.eq_false_iff.mpr c29
         rw [if_neg zn] at H
         obtain rfl := Option.some.inj H
         have hcz31 := zc5 BK431.out
         have hfz31 := zf5 BK431.out
         go_wp2_with (first | (go_at_call 57; (with_reducible refine (spec_NameOk.calls kj1 a0_2 true _ A26.out).mono ?_); rintro e w' ⟨rfl, ⟨nd, rfl⟩⟩) | (go_at_call 58; (with_reducible refine (spec_PlainOk.calls kj1 a0_3 false _ A28.out).mono ?_); rintro e w' ⟨rfl, ⟨nd, rfl⟩⟩))
         go_ret
         exact ⟨zW, zL1 HB.out GE431.out⟩
       ·obtain rfl := Bool.eq_false_iff.mpr c27
        rw [if_neg zn] at H
        obtain rfl := Option.some.inj H
        have hcz32 := zc5 BK431.out
        have hfz32 := zf5 BK431.out
        go_wp2_with (first | (go_at_call 57; (with_reducible refine (spec_NameOk.calls kj1 a0_2 false _ A26.out).mono ?_); rintro e w' ⟨rfl, ⟨nd, rfl⟩⟩))
        go_ret
        exact ⟨zW, zL1 HB.out GE431.out⟩
      ·rw [if_neg c25] at H
       obtain ⟨c25b0, c25b1⟩ := zf c25
       obtain rfl := Option.some.inj H
       have hcz33 := zc5 BK431.out
       have hfz33 := zf5 BK431.out
       go_wp2
       go_ret
       exact ⟨zW, zL1 HB.out GE431.out⟩
     ·rw [if_neg c24] at H
      obtain ⟨c24b0, c24b1⟩ := zf c24
      by_cases c34 : a0_0 = 5
      ·rw [if_pos c34] at H
       obtain ⟨c34b0, c34b1⟩ := zt c34
       clear c34
       obtain ⟨t435, A35, H⟩ := zO H; try dsimp only at H
       by_cases c36 : t435 = true
       ·subst c36
        rw [if_pos rfl] at H
        obtain ⟨t436, A37, H⟩ := zO H; try dsimp only at H
        by_cases c38 : t436 = true
        ·subst c38
         rw [if_pos rfl] at H
         by_cases c39 : a0_3.toList = ([] : List UInt8)
         ·rw [if_pos c39] at H
          obtain ⟨c39b0, c39b1⟩ := zt c39
          clear c39
          obtain rfl := Option.some.inj H
          have hcz40 := zc5 BK431.out
          have hfz40 := zf5 BK431.out
          go_wp2_with (first | ((with_reducible refine gC 56 rfl ?_); refine gL 74 Tryd.func56 #[.int .i64 a0_1, .int .i64 0, .int .i64 2147483647] ?_; (with_reducible refine (spec_l1In.calls a0_1 0 2147483647 true _ A35.out).mono ?_); rintro e w' ⟨rfl, ⟨nd, rfl⟩⟩; refine ⟨_, rfl, ?_⟩) | (go_at_call 57; (with_reducible refine (spec_NameOk.calls kj1 a0_2 true _ A37.out).mono ?_); rintro e w' ⟨rfl, ⟨nd, rfl⟩⟩))
          go_ret
          exact ⟨zW, zL1 HB.out GE431.out⟩
         ·rw [if_neg c39] at H
          obtain ⟨c39b0, c39b1⟩ := zf c39
          obtain rfl := Option.some.inj H
          have hcz41 := zc5 BK431.out
          have hfz41 := zf5 BK431.out
          go_wp2_with (first | ((with_reducible refine gC 56 rfl ?_); refine gL 74 Tryd.func56 #[.int .i64 a0_1, .int .i64 0, .int .i64 2147483647] ?_; (with_reducible refine (spec_l1In.calls a0_1 0 2147483647 true _ A35.out).mono ?_); rintro e w' ⟨rfl, ⟨nd, rfl⟩⟩; refine ⟨_, rfl, ?_⟩) | (go_at_call 57; (with_reducible refine (spec_NameOk.calls kj1 a0_2 true _ A37.out).mono ?_); rintro e w' ⟨rfl, ⟨nd, rfl⟩⟩))
          go_ret
          exact ⟨zW, zL1 HB.out GE431.out⟩
        ·obtain rfl := Bool.eq_false_iff.mpr c38
         rw [if_neg zn] at H
         obtain rfl := Option.some.inj H
         have hcz42 := zc5 BK431.out
         have hfz42 := zf5 BK431.out
         go_wp2_with (first | ((with_reducible refine gC 56 rfl ?_); refine gL 74 Tryd.func56 #[.int .i64 a0_1, .int .i64 0, .int .i64 2147483647] ?_; (with_reducible refine (spec_l1In.calls a0_1 0 2147483647 true _ A35.out).mono ?_); rintro e w' ⟨rfl, ⟨nd, rfl⟩⟩; refine ⟨_, rfl, ?_⟩) | (go_at_call 57; (with_reducible refine (spec_NameOk.calls kj1 a0_2 false _ A37.out).mono ?_); rintro e w' ⟨rfl, ⟨nd, rfl⟩⟩))
         go_ret
         exact ⟨zW, zL1 HB.out GE431.out⟩
       ·obtain rfl := Bool.eq_false_iff.mpr c36
        rw [if_neg zn] at H
        obtain rfl := Option.some.inj H
        have hcz43 := zc5 BK431.out
        have hfz43 := zf5 BK431.out
        go_wp2_with (first | ((with_reducible refine gC 56 rfl ?_); refine gL 74 Tryd.func56 #[.int .i64 a0_1, .int .i64 0, .int .i64 2147483647] ?_; (with_reducible refine (spec_l1In.calls a0_1 0 2147483647 false _ A35.out).mono ?_); rintro e w' ⟨rfl, ⟨nd, rfl⟩⟩; refine ⟨_, rfl, ?_⟩))
        go_ret
        exact ⟨zW, zL1 HB.out GE431.out⟩
      ·rw [if_neg c34] at H
       obtain ⟨c34b0, c34b1⟩ := zf c34
       by_cases c44 : a0_0 = 7
       ·rw [if_pos c44] at H
        obtain ⟨c44b0, c44b1⟩ := zt c44
        clear c44
        by_cases c45 : a0_1 = 0
        ·rw [if_pos c45] at H
         obtain ⟨c45b0, c45b1⟩ := zt c45
         clear c45
         by_cases c46 : a0_2.toList = ([] : List UInt8)
         ·rw [if_pos c46] at H
          obtain ⟨c46b0, c46b1⟩ := zt c46
          clear c46
          by_cases c47 : a0_3.toList = ([] : List UInt8)
          ·rw [if_pos c47] at H
           obtain ⟨c47b0, c47b1⟩ := zt c47
           clear c47
           obtain ⟨t437, A48, H⟩ := zO H; try dsimp only at H
           obtain rfl := Option.some.inj H
           have hcz49 := zc5 BK431.out
           have hfz49 := zf5 BK431.out
           go_wp2_with (first | (go_at_call 56; (with_reducible refine (spec_l1In.calls (l0_4.length : Int) 1 4 t437 _ A48.out).mono ?_); rintro e w' ⟨rfl, ⟨nd, rfl⟩⟩))
           go_ret
           exact ⟨zW, zL1 HB.out GE431.out⟩
          ·rw [if_neg c47] at H
           obtain ⟨c47b0, c47b1⟩ := zf c47
           obtain rfl := Option.some.inj H
           have hcz50 := zc5 BK431.out
           have hfz50 := zf5 BK431.out
           go_wp2
           go_ret
           exact ⟨zW, zL1 HB.out GE431.out⟩
         ·rw [if_neg c46] at H
          obtain ⟨c46b0, c46b1⟩ := zf c46
          obtain rfl := Option.some.inj H
          have hcz51 := zc5 BK431.out
          have hfz51 := zf5 BK431.out
          go_wp2
          go_ret
          exact ⟨zW, zL1 HB.out GE431.out⟩
        ·rw [if_neg c45] at H
         obtain ⟨c45b0, c45b1⟩ := zf c45
         obtain rfl := Option.some.inj H
         have hcz52 := zc5 BK431.out
         have hfz52 := zf5 BK431.out
         go_wp2
         go_ret
         exact ⟨zW, zL1 HB.out GE431.out⟩
       ·rw [if_neg c44] at H
        obtain ⟨c44b0, c44b1⟩ := zf c44
        by_cases c53 : a0_0 = 8
        ·rw [if_pos c53] at H
         obtain ⟨c53b0, c53b1⟩ := zt c53
         clear c53
         by_cases c54 : a0_1 = 0
         ·rw [if_pos c54] at H
          obtain ⟨c54b0, c54b1⟩ := zt c54
          clear c54
          by_cases c55 : a0_2.toList = ([] : List UInt8)
          ·rw [if_pos c55] at H
           obtain ⟨c55b0, c55b1⟩ := zt c55
           clear c55
           by_cases c56 : a0_3.toList = ([] : List UInt8)
           ·rw [if_pos c56] at H
            obtain ⟨c56b0, c56b1⟩ := zt c56
            clear c56
            obtain ⟨t438, A57, H⟩ := zO H; try dsimp only at H
            obtain rfl := Option.some.inj H
            have hcz58 := zc5 BK431.out
            have hfz58 := zf5 BK431.out
            go_wp2_with (first | (go_at_call 56; (with_reducible refine (spec_l1In.calls (l0_4.length : Int) 1 4 t438 _ A57.out).mono ?_); rintro e w' ⟨rfl, ⟨nd, rfl⟩⟩))
            go_ret
            exact ⟨zW, zL1 HB.out GE431.out⟩
           ·rw [if_neg c56] at H
            obtain ⟨c56b0, c56b1⟩ := zf c56
            obtain rfl := Option.some.inj H
            have hcz59 := zc5 BK431.out
            have hfz59 := zf5 BK431.out
            go_wp2
            go_ret
            exact ⟨zW, zL1 HB.out GE431.out⟩
          ·rw [if_neg c55] at H
           obtain ⟨c55b0, c55b1⟩ := zf c55
           obtain rfl := Option.some.inj H
           have hcz60 := zc5 BK431.out
           have hfz60 := zf5 BK431.out
           go_wp2
           go_ret
           exact ⟨zW, zL1 HB.out GE431.out⟩
         ·rw [if_neg c54] at H
          obtain ⟨c54b0, c54b1⟩ := zf c54
          obtain rfl := Option.some.inj H
          have hcz61 := zc5 BK431.out
          have hfz61 := zf5 BK431.out
          go_wp2
          go_ret
          exact ⟨zW, zL1 HB.out GE431.out⟩
        ·rw [if_neg c53] at H
         obtain ⟨c53b0, c53b1⟩ := zf c53
         by_cases c62 : a0_0 = 9
         ·rw [if_pos c62] at H
          obtain ⟨c62b0, c62b1⟩ := zt c62
          clear c62
          by_cases c63 : a0_1 = 0
          ·rw [if_pos c63] at H
           obtain ⟨c63b0, c63b1⟩ := zt c63
           clear c63
           by_cases c64 : a0_2.toList = ([] : List UInt8)
           ·rw [if_pos c64] at H
            obtain ⟨c64b0, c64b1⟩ := zt c64
            clear c64
            by_cases c65 : a0_3.toList = ([] : List UInt8)
            ·rw [if_pos c65] at H
             obtain ⟨c65b0, c65b1⟩ := zt c65
             clear c65
             obtain rfl := Option.some.inj H
             have hcz66 := zc5 BK431.out
             have hfz66 := zf5 BK431.out
             go_wp2
             go_ret
             exact ⟨zW, zL1 HB.out GE431.out⟩
            ·rw [if_neg c65] at H
             obtain ⟨c65b0, c65b1⟩ := zf c65
             obtain rfl := Option.some.inj H
             have hcz67 := zc5 BK431.out
             have hfz67 := zf5 BK431.out
             go_wp2
             go_ret
             exact ⟨zW, zL1 HB.out GE431.out⟩
           ·rw [if_neg c64] at H
            obtain ⟨c64b0, c64b1⟩ := zf c64
            obtain rfl := Option.some.inj H
            have hcz68 := zc5 BK431.out
            have hfz68 := zf5 BK431.out
            go_wp2
            go_ret
            exact ⟨zW, zL1 HB.out GE431.out⟩
          ·rw [if_neg c63] at H
           obtain ⟨c63b0, c63b1⟩ := zf c63
           obtain rfl := Option.some.inj H
           have hcz69 := zc5 BK431.out
           have hfz69 := zf5 BK431.out
           go_wp2
           go_ret
           exact ⟨zW, zL1 HB.out GE431.out⟩
         ·rw [if_neg c62] at H
          obtain ⟨c62b0, c62b1⟩ := zf c62
          obtain rfl := Option.some.inj H
          have hcz70 := zc5 BK431.out
          have hfz70 := zf5 BK431.out
          go_wp2
          go_ret
          exact ⟨zW, zL1 HB.out GE431.out⟩

open Go.Proofs.YtfhblnbicnmndaaDoorW.PrintWords renaming blk_drewN → bN, blk_drew → bD, blk_alloc → bA, blk_cell → bC, blk_below → bB, below_set → bS
/-! ### spec_l5Deep: function 29 -/
mutual
def spec_l5Deep.j0 : Nat → Int → Bool → Int → Int → ByteArray → ByteArray → List (S26) → Option (Bool)
 | 0, _, _, _, _, _, _, _ => none
 | k + 1, x1, x12, x440000, x440001, x440002, x440003, x440004 => if x12 = true then (some false) else (spec_l5Deep.l0 k x1 0 x440000 x440001 x440002 x440003 x440004)
def spec_l5Deep.l0 : Nat → Int → Int → Int → Int → ByteArray → ByteArray → List (S26) → Option (Bool)
 | 0, _, _, _, _, _, _, _ => none
 | k + 1, x1, x5, x440000, x440001, x440002, x440003, x440004 => if x5 < (x440004.length : Int) then (if 0 ≤ x5 then ((spec_l5Deep.f k ((rd_T26 x440004 x5).f0) ((rd_T26 x440004 x5).f1) ((rd_T26 x440004 x5).f2) ((rd_T26 x440004 x5).f3) ((rd_T26 x440004 x5).f4) (wrap64 (x1 + 1))).bind fun t442 => (if t442 = true then (spec_l5Deep.l0 k x1 (wrap64 (x5 + 1)) x440000 x440001 x440002 x440003 x440004) else (some false))) else (none)) else (some true)
def spec_l5Deep.f : Nat → Int → Int → ByteArray → ByteArray → List (S26) → Int → Option (Bool)
 | 0, _, _, _, _, _, _ => none
 | k + 1, a0_0, a0_1, a0_2, a0_3, l0_4, a1 => if a1 > 4 then (spec_l5Deep.j0 k a1 true a0_0 a0_1 a0_2 a0_3 l0_4) else ((spec_l5One.f k a0_0 a0_1 a0_2 a0_3 l0_4).bind fun t440 => (spec_l5Deep.j0 k a1 (!t440) a0_0 a0_1 a0_2 a0_3 l0_4))
end
theorem spec_l5Deep.mono_l : ∀ k, (∀ y0 y1 y2 y3 y4 y5, LeO (spec_l5Deep.f k y0 y1 y2 y3 y4 y5) (spec_l5Deep.f (k + 1) y0 y1 y2 y3 y4 y5)) ∧ (∀ y0 y1 y2 y3 y4 y5 y6, LeO (spec_l5Deep.j0 k y0 y1 y2 y3 y4 y5 y6) (spec_l5Deep.j0 (k + 1) y0 y1 y2 y3 y4 y5 y6)) ∧ (∀ y0 y1 y2 y3 y4 y5 y6, LeO (spec_l5Deep.l0 k y0 y1 y2 y3 y4 y5 y6) (spec_l5Deep.l0 (k + 1) y0 y1 y2 y3 y4 y5 y6))
 | 0 => ⟨fun _ _ _ _ _ _ r h => by simp [spec_l5Deep.f] at h, fun _ _ _ _ _ _ _ r h => by simp [spec_l5Deep.j0] at h, fun _ _ _ _ _ _ _ r h => by simp [spec_l5Deep.l0] at h⟩
 | k + 1 => by
  obtain ⟨ih0, ih1, ih2⟩ := spec_l5Deep.mono_l k
  refine ⟨?_, ?_, ?_⟩
  ·intro y0 y1 y2 y3 y4 y5
   unfold spec_l5Deep.f
   repeat' first
   | (with_reducible exact ih0 _ _ _ _ _ _)
   | (with_reducible exact ih1 _ _ _ _ _ _ _)
   | (with_reducible exact ih2 _ _ _ _ _ _ _)
   | (with_reducible apply spec_l5One.mono)
   | (with_reducible exact LeO.refl _)
   | (with_reducible exact LeO.none _)
   | (with_reducible refine LeO.ite ?_ ?_)
   | (with_reducible refine LeO.bind ?_ (fun _ => ?_))
   | exact ih0 _ _ _ _ _ _
   | exact ih1 _ _ _ _ _ _ _
   | exact ih2 _ _ _ _ _ _ _
   | apply spec_l5One.mono
   | exact LeO.none _
   | refine LeO.ite ?_ ?_
   | refine LeO.bind ?_ (fun _ => ?_)
  ·intro y0 y1 y2 y3 y4 y5 y6
   unfold spec_l5Deep.j0
   repeat' first
   | (with_reducible exact ih0 _ _ _ _ _ _)
   | (with_reducible exact ih1 _ _ _ _ _ _ _)
   | (with_reducible exact ih2 _ _ _ _ _ _ _)
   | (with_reducible apply spec_l5One.mono)
   | (with_reducible exact LeO.refl _)
   | (with_reducible exact LeO.none _)
   | (with_reducible refine LeO.ite ?_ ?_)
   | (with_reducible refine LeO.bind ?_ (fun _ => ?_))
   | exact ih0 _ _ _ _ _ _
   | exact ih1 _ _ _ _ _ _ _
   | exact ih2 _ _ _ _ _ _ _
   | apply spec_l5One.mono
   | exact LeO.none _
   | refine LeO.ite ?_ ?_
   | refine LeO.bind ?_ (fun _ => ?_)
  ·intro y0 y1 y2 y3 y4 y5 y6
   unfold spec_l5Deep.l0
   repeat' first
   | (with_reducible exact ih0 _ _ _ _ _ _)
   | (with_reducible exact ih1 _ _ _ _ _ _ _)
   | (with_reducible exact ih2 _ _ _ _ _ _ _)
   | (with_reducible apply spec_l5One.mono)
   | (with_reducible exact LeO.refl _)
   | (with_reducible exact LeO.none _)
   | (with_reducible refine LeO.ite ?_ ?_)
   | (with_reducible refine LeO.bind ?_ (fun _ => ?_))
   | exact ih0 _ _ _ _ _ _
   | exact ih1 _ _ _ _ _ _ _
   | exact ih2 _ _ _ _ _ _ _
   | apply spec_l5One.mono
   | exact LeO.none _
   | refine LeO.ite ?_ ?_
   | refine LeO.bind ?_ (fun _ => ?_)
theorem spec_l5Deep.mono : ∀ a0 a1 a2 a3 a4 a5 k, LeO (spec_l5Deep.f k a0 a1 a2 a3 a4 a5) (spec_l5Deep.f (k + 1) a0 a1 a2 a3 a4 a5) := by
 intro a0 a1 a2 a3 a4 a5 k
 obtain ⟨ih0, ih1, ih2⟩ := spec_l5Deep.mono_l k
 exact ih0 a0 a1 a2 a3 a4 a5
set_option maxHeartbeats 8000000 in
set_option maxRecDepth 100000 in
theorem spec_l5Deep.calls (k : Nat) : ∀ (a0_0 : Int) (a0_1 : Int) (a0_2 : ByteArray) (a0_3 : ByteArray) (A0_4 : Option Addr) (c0_4 : Nat) (l0_4 : List (S26)) (a1 : Int) (r : Bool) (w : World) (hr0_4 : Kd.C k26 w A0_4 l0_4.length l0_4) (hc0_4 : l0_4.length ≤ c0_4) (h : spec_l5Deep.f k a0_0 a0_1 a0_2 a0_3 l0_4 a1 = some r),
  Calls Tryd.prog 29 #[.agg #[.int .i64 a0_0, .int .i64 a0_1, .string a0_2, .string a0_3, .slice A0_4 l0_4.length c0_4], .int .i64 a1] w fun e w' => e = .returned (.bool r) ∧ Below w.heap.size w w' := by
 induction k using Nat.strongRecOn with
 | _ k ih =>
 intro a0_0 a0_1 a0_2 a0_3 A0_4 c0_4 l0_4 a1 r w hr0_4 hc0_4 h
 cases k with
 | zero => exact absurd h (by simp [spec_l5Deep.f])
 | succ k =>
 simp only [spec_l5Deep.f] at h
 have hu26 := Tryd.underlying26
 have HR0_4 := Aside0.mk hr0_4
 have HC0_4 := Aside0.mk hc0_4
 clear hr0_4 hc0_4
 have HB := Aside0.mk (Below.refl w.heap.size w)
 have H : (if a1 > 4 then (spec_l5Deep.j0 k a1 true a0_0 a0_1 a0_2 a0_3 l0_4) else ((spec_l5One.f k a0_0 a0_1 a0_2 a0_3 l0_4).bind fun t440 => (spec_l5Deep.j0 k a1 (!t440) a0_0 a0_1 a0_2 a0_3 l0_4))) = some r := h
 clear h
 have HC3 := Aside0.mk H
 clear H
 go_enter Tryd.func29, Tryd.ntmps29
 go_upto_region 1 with (first | ((with_reducible refine gD 2 rfl ?_); refine bE 2 #[.int .i64 a0_0, .int .i64 a0_1, .string a0_2, .string a0_3, .slice A0_4 l0_4.length c0_4] 26 ?_; intro gb439 hg w4 hbox hb; have BK439 := Aside0.mk hbox; have GW439 := Aside0.mk (zg (zL HB.out) hg : w.heap.size ≤ gb439); have GE439 := GW439; replace HB := zLB (zL HB.out) hb; clear hb hbox hg))
 (try simp only [Act.put, List.setIfInBounds_toArray, List.set_cons_zero, List.set_cons_succ])
 go_cut [12] (fun v12 wc => ∃ (kq : Nat) (x12_2 : Bool), v12 = .bool x12_2 ∧ Aside0 (spec_l5Deep.j0 kq a1 x12_2 a0_0 a0_1 a0_2 a0_3 l0_4 = some r) ∧ Aside0 (kq ≤ k) ∧ Aside0 (wc.heap[gb439]? = some (.cells #[.int .i64 a0_0, .int .i64 a0_1, .string a0_2, .string a0_3, (.slice A0_4 l0_4.length c0_4)] 26 (0, 0))) ∧ Aside0 (Below w.heap.size w wc))
 case first =>
  have H := HC3.out
  clear HC3
  by_cases c5 : a1 > 4
  ·rw [if_pos c5] at H
   have c5b0 := decide_eq_true c5
   clear c5
   (first | rw [c5b0] | (simp only [i64_w, i32_w]; rw [c5b0]) | skip)
   have H' := Aside0.mk H
   clear H
   go_wp2
   go_meet
   case rel => exact ⟨_, (true), zV, H', ⟨by first | omega | exact Nat.le_refl _⟩, ⟨zB BK439.out⟩, ⟨zL1 HB.out GE439.out⟩⟩
  ·rw [if_neg c5] at H
   have c5b0 := decide_eq_false c5
   clear c5
   (first | rw [c5b0] | (simp only [i64_w, i32_w]; rw [c5b0]) | skip)
   obtain ⟨t440, A6, H⟩ := zO H; try dsimp only at H
   have H' := Aside0.mk H
   clear H
   have hcz7 := zc5 BK439.out
   have hfz7 := zf5 BK439.out
   go_wp2_with (first | (go_at_call 44; (with_reducible refine (spec_l5One.calls k a0_0 a0_1 a0_2 a0_3 _ _ l0_4 t440 _ ?side1 ?side2 A6.out).mono ?_); (case side1 => exact zC (Kd.C_below HR0_4.out HB.out)); (case side2 => exact HC0_4.out); rintro e w8 ⟨rfl, hb⟩; replace BK439 := zBB BK439 hb; replace HB := zLB (zL1 HB.out GE439.out) hb; clear hb))
   go_meet
   case rel => exact ⟨_, (!t440), zV, H', ⟨by first | omega | exact Nat.le_refl _⟩, ⟨zB BK439.out⟩, ⟨zL1 HB.out GE439.out⟩⟩
 case rest =>
  clear HC3
  try clear c2
  try clear p2
  try clear c5
  try clear c5b0
  try clear hcz7; try clear hfz7
  obtain ⟨kq, x12_2, rfl, HA, HJ2, BK439, HB⟩ := hcut
  cases kq with
  | zero => exact absurd HA.out (by simp [spec_l5Deep.j0])
  | succ kj2 =>
   have H := HA.out
   clear HA
   simp only [spec_l5Deep.j0] at H
   by_cases c9 : x12_2 = true
   ·subst c9
    rw [if_pos rfl] at H
    obtain rfl := Option.some.inj H
    go_wp2
    go_ret
    exact ⟨zW, zL1 HB.out GE439.out⟩
   ·obtain rfl := Bool.eq_false_iff.mpr c9
    rw [if_neg zn] at H
    have H' := Aside0.mk H
    clear H
    go_wp2
    go_loopg [5] kj2 (fun kq v5 w' => ∃ (x5_2 : Int), v5 = .int .i64 x5_2 ∧ Aside0 (spec_l5Deep.l0 kq a1 x5_2 a0_0 a0_1 a0_2 a0_3 l0_4 = some r) ∧ Aside0 (kq ≤ kj2) ∧ Aside0 (w'.heap[gb439]? = some (.cells #[.int .i64 a0_0, .int .i64 a0_1, .string a0_2, .string a0_3, (.slice A0_4 l0_4.length c0_4)] 26 (0, 0))) ∧ Aside0 (Below w.heap.size w w'))
    case atStart => exact ⟨(0), zV, H', ⟨Nat.le_refl _⟩, ⟨zB BK439.out⟩, ⟨zL1 HB.out GE439.out⟩⟩
    case round =>
     clear H'
     try clear c2
     try clear p2
     try clear c5
     try clear c5b0
     try clear c9
     try clear hcz7; try clear hfz7
     try clear p2
     try clear BK439
     obtain ⟨x5_2, rfl, HA, HK2, BK439, HB⟩ := hrel
     cases gk with
     | zero => exact absurd HA.out (by simp [spec_l5Deep.l0])
     | succ k2 =>
      have H := HA.out
      clear HA
      simp only [spec_l5Deep.l0] at H
      by_cases c10 : x5_2 < (l0_4.length : Int)
      ·rw [if_pos c10] at H
       have c10b0 := decide_eq_true c10
       clear c10
       by_cases c11 : 0 ≤ x5_2
       ·rw [if_pos c11] at H
        have c11b0 := decide_eq_true c11
        clear c11
        obtain ⟨t442, A12, H⟩ := zO H; try dsimp only at H
        by_cases c13 : t442 = true
        ·subst c13
         rw [if_pos rfl] at H
         have H' := Aside0.mk H
         clear H
         have hcz14 := zc5 BK439.out
         have hfz14 := zf5 BK439.out
         have p441 : 0 ≤ (x5_2 : Int) := zD
         have q441 : x5_2 < (l0_4.length : Int) := zD
         obtain ⟨ad441, A441_4, c441_4, e441, hx441_0, hx441_1, hx441_2, hx441_3, hx441_4, hl441_4, hi441_4⟩ := at_T26 HR0_4.out x5_2 p441 q441
         cases e441
         replace hx441_0 := zh HB.out hx441_0
         replace hx441_1 := zh HB.out hx441_1
         replace hx441_2 := zh HB.out hx441_2
         replace hx441_3 := zh HB.out hx441_3
         replace hx441_4 := zh HB.out hx441_4
         have HR441_4 := Aside0.mk hi441_4
         have HC441_4 := Aside0.mk hl441_4
         clear hi441_4 hl441_4
         replace p441 := eq_true p441
         replace q441 := eq_true q441
         go_wp2_with (first | ((with_reducible refine gC 29 rfl ?_); refine gL 27 Tryd.func29 #[.agg #[.int .i64 ((rd_T26 l0_4 x5_2).f0), .int .i64 ((rd_T26 l0_4 x5_2).f1), .string ((rd_T26 l0_4 x5_2).f2), .string ((rd_T26 l0_4 x5_2).f3), .slice A441_4 ((rd_T26 l0_4 x5_2).f4).length c441_4], .int .i64 (wrap64 (a1 + 1))] ?_; (with_reducible refine (ih k2 (by have := HJ2.out; have := HK2.out; omega) ((rd_T26 l0_4 x5_2).f0) ((rd_T26 l0_4 x5_2).f1) ((rd_T26 l0_4 x5_2).f2) ((rd_T26 l0_4 x5_2).f3) _ _ ((rd_T26 l0_4 x5_2).f4) (wrap64 (a1 + 1)) true _ ?side1 ?side2 A12.out).mono ?_); (case side1 => exact zC (Kd.C_below HR441_4.out HB.out)); (case side2 => exact HC441_4.out); rintro e w15 ⟨rfl, hb⟩; refine ⟨_, rfl, ?_⟩; replace BK439 := zBB BK439 hb; replace HB := zLB (zL1 HB.out GE439.out) hb; clear hb))
         go_roundg k2
         case measure => have := HJ2.out; have := HK2.out; omega
         case rel => exact ⟨(wrap64 (x5_2 + 1)), zV, H', ⟨by have := HJ2.out; have := HK2.out; omega⟩, ⟨zB BK439.out⟩, ⟨zL1 HB.out GE439.out⟩⟩
        ·obtain rfl := Bool.eq_false_iff.mpr c13
         rw [if_neg zn] at H
         obtain rfl := Option.some.inj H
         have hcz16 := zc5 BK439.out
         have hfz16 := zf5 BK439.out
         have p441 : 0 ≤ (x5_2 : Int) := zD
         have q441 : x5_2 < (l0_4.length : Int) := zD
         obtain ⟨ad441, A441_4, c441_4, e441, hx441_0, hx441_1, hx441_2, hx441_3, hx441_4, hl441_4, hi441_4⟩ := at_T26 HR0_4.out x5_2 p441 q441
         cases e441
         replace hx441_0 := zh HB.out hx441_0
         replace hx441_1 := zh HB.out hx441_1
         replace hx441_2 := zh HB.out hx441_2
         replace hx441_3 := zh HB.out hx441_3
         replace hx441_4 := zh HB.out hx441_4
         have HR441_4 := Aside0.mk hi441_4
         have HC441_4 := Aside0.mk hl441_4
         clear hi441_4 hl441_4
         replace p441 := eq_true p441
         replace q441 := eq_true q441
         go_wp2_with (first | ((with_reducible refine gC 29 rfl ?_); refine gL 27 Tryd.func29 #[.agg #[.int .i64 ((rd_T26 l0_4 x5_2).f0), .int .i64 ((rd_T26 l0_4 x5_2).f1), .string ((rd_T26 l0_4 x5_2).f2), .string ((rd_T26 l0_4 x5_2).f3), .slice A441_4 ((rd_T26 l0_4 x5_2).f4).length c441_4], .int .i64 (wrap64 (a1 + 1))] ?_; (with_reducible refine (ih k2 (by have := HJ2.out; have := HK2.out; omega) ((rd_T26 l0_4 x5_2).f0) ((rd_T26 l0_4 x5_2).f1) ((rd_T26 l0_4 x5_2).f2) ((rd_T26 l0_4 x5_2).f3) _ _ ((rd_T26 l0_4 x5_2).f4) (wrap64 (a1 + 1)) false _ ?side1 ?side2 A12.out).mono ?_); (case side1 => exact zC (Kd.C_below HR441_4.out HB.out)); (case side2 => exact HC441_4.out); rintro e w17 ⟨rfl, hb⟩; refine ⟨_, rfl, ?_⟩; replace BK439 := zBB BK439 hb; replace HB := zLB (zL1 HB.out GE439.out) hb; clear hb))
         go_ret
         exact ⟨zW, zL1 HB.out GE439.out⟩
       ·rw [if_neg c11] at H
        exact absurd H (by simp)
      ·rw [if_neg c10] at H
       have c10b0 := decide_eq_false c10
       clear c10
       obtain rfl := Option.some.inj H
       have hcz18 := zc5 BK439.out
       have hfz18 := zf5 BK439.out
       go_wp2
       go_ret
       exact ⟨zW, zL1 HB.out GE439.out⟩

open Go.Proofs.YtfhblnbicnmndaaDoorW.PrintWords renaming blk_drewN → bN, blk_drew → bD, blk_alloc → bA, blk_cell → bC, blk_below → bB, below_set → bS
/-! ### spec_PolOk: function 12 -/
def spec_PolOk.f (k : Nat) (a0_0 : Int) (a0_1 : Int) (a0_2 : ByteArray) (a0_3 : ByteArray) (l0_4 : List (S26)) : Option (Bool) := (spec_PolCount.f k a0_0 a0_1 a0_2 a0_3 l0_4).bind fun t444 => (if t444 ≤ 12 then ((spec_l5Deep.f k a0_0 a0_1 a0_2 a0_3 l0_4 1).bind fun t445 => (some t445)) else (some false))
theorem spec_PolOk.mono : ∀ a0 a1 a2 a3 a4 k, LeO (spec_PolOk.f k a0 a1 a2 a3 a4) (spec_PolOk.f (k + 1) a0 a1 a2 a3 a4) := by
 intro a0 a1 a2 a3 a4 k
 unfold spec_PolOk.f
 repeat' first
   | (with_reducible apply spec_PolCount.mono)
   | (with_reducible apply spec_l5Deep.mono)
   | (with_reducible exact LeO.refl _)
   | (with_reducible exact LeO.none _)
   | (with_reducible refine LeO.ite ?_ ?_)
   | (with_reducible refine LeO.bind ?_ (fun _ => ?_))
   | apply spec_PolCount.mono
   | apply spec_l5Deep.mono
   | exact LeO.none _
   | refine LeO.ite ?_ ?_
   | refine LeO.bind ?_ (fun _ => ?_)
set_option maxHeartbeats 8000000 in
set_option maxRecDepth 100000 in
theorem spec_PolOk.calls (k : Nat) (a0_0 : Int) (a0_1 : Int) (a0_2 : ByteArray) (a0_3 : ByteArray) (A0_4 : Option Addr) (c0_4 : Nat) (l0_4 : List (S26)) (r : Bool) (w : World) (hr0_4 : Kd.C k26 w A0_4 l0_4.length l0_4) (hc0_4 : l0_4.length ≤ c0_4) (h : spec_PolOk.f k a0_0 a0_1 a0_2 a0_3 l0_4 = some r) :
  Calls Tryd.prog 12 #[.agg #[.int .i64 a0_0, .int .i64 a0_1, .string a0_2, .string a0_3, .slice A0_4 l0_4.length c0_4]] w fun e w' => e = .returned (.bool r) ∧ Below w.heap.size w w' := by
 have hu26 := Tryd.underlying26
 have HR0_4 := Aside0.mk hr0_4
 have HC0_4 := Aside0.mk hc0_4
 clear hr0_4 hc0_4
 have HB := Aside0.mk (Below.refl w.heap.size w)
 unfold spec_PolOk.f at h; have H := h
 clear h
 obtain ⟨t444, A2, H⟩ := zO H; try dsimp only at H
 by_cases c3 : t444 ≤ 12
 ·rw [if_pos c3] at H
  have c3b0 := decide_eq_true c3
  clear c3
  obtain ⟨t445, A4, H⟩ := zO H; try dsimp only at H
  obtain rfl := Option.some.inj H
  go_enter Tryd.func12, Tryd.ntmps12
  go_wp2_with (first | ((with_reducible refine gD 1 rfl ?_); refine bE 1 #[.int .i64 a0_0, .int .i64 a0_1, .string a0_2, .string a0_3, .slice A0_4 l0_4.length c0_4] 26 ?_; intro gb443 hg w5 hbox hb; have BK443 := Aside0.mk hbox; have GW443 := Aside0.mk (zg (zL HB.out) hg : w.heap.size ≤ gb443); have GE443 := GW443; replace HB := zLB (zL HB.out) hb; clear hb hbox hg; have hcz6 := zc5 BK443.out; have hfz6 := zf5 BK443.out) | ((with_reducible refine gC 16 rfl ?_); refine gL 4 Tryd.func16 #[.agg #[.int .i64 a0_0, .int .i64 a0_1, .string a0_2, .string a0_3, .slice A0_4 l0_4.length c0_4]] ?_; (with_reducible refine (spec_PolCount.calls k a0_0 a0_1 a0_2 a0_3 _ _ l0_4 t444 _ ?side1 ?side2 A2.out).mono ?_); (case side1 => exact zC (Kd.C_below HR0_4.out HB.out)); (case side2 => exact HC0_4.out); rintro e w7 ⟨rfl, hb⟩; refine ⟨_, rfl, ?_⟩; replace BK443 := zBB BK443 hb; replace HB := zLB (zL1 HB.out GE443.out) hb; clear hb; have hcz8 := zc5 BK443.out; have hfz8 := zf5 BK443.out) | (go_at_call 29; (with_reducible refine (spec_l5Deep.calls k a0_0 a0_1 a0_2 a0_3 _ _ l0_4 1 t445 _ ?side1 ?side2 A4.out).mono ?_); (case side1 => exact zC (Kd.C_below HR0_4.out HB.out)); (case side2 => exact HC0_4.out); rintro e w9 ⟨rfl, hb⟩; replace BK443 := zBB BK443 hb; replace HB := zLB (zL1 HB.out GE443.out) hb; clear hb))
  go_ret
  exact ⟨zW, zL1 HB.out GE443.out⟩
 ·rw [if_neg c3] at H
  have c3b0 := decide_eq_false c3
  clear c3
  obtain rfl := Option.some.inj H
  go_enter Tryd.func12, Tryd.ntmps12
  go_wp2_with (first | ((with_reducible refine gD 1 rfl ?_); refine bE 1 #[.int .i64 a0_0, .int .i64 a0_1, .string a0_2, .string a0_3, .slice A0_4 l0_4.length c0_4] 26 ?_; intro gb443 hg w10 hbox hb; have BK443 := Aside0.mk hbox; have GW443 := Aside0.mk (zg (zL HB.out) hg : w.heap.size ≤ gb443); have GE443 := GW443; replace HB := zLB (zL HB.out) hb; clear hb hbox hg; have hcz11 := zc5 BK443.out; have hfz11 := zf5 BK443.out) | ((with_reducible refine gC 16 rfl ?_); refine gL 4 Tryd.func16 #[.agg #[.int .i64 a0_0, .int .i64 a0_1, .string a0_2, .string a0_3, .slice A0_4 l0_4.length c0_4]] ?_; (with_reducible refine (spec_PolCount.calls k a0_0 a0_1 a0_2 a0_3 _ _ l0_4 t444 _ ?side1 ?side2 A2.out).mono ?_); (case side1 => exact zC (Kd.C_below HR0_4.out HB.out)); (case side2 => exact HC0_4.out); rintro e w12 ⟨rfl, hb⟩; refine ⟨_, rfl, ?_⟩; replace BK443 := zBB BK443 hb; replace HB := zLB (zL1 HB.out GE443.out) hb; clear hb))
  go_ret
  exact ⟨zW, zL1 HB.out GE443.out⟩

section
variable {P : Program} {ops : Array Oper} {rest : List Oper} {Q : Exit → Act → World → Prop} {W : World} {a : Act}
/-- The operation is a call of a function value in a place. -/
theorem gate_calleeT {o : Oper} {t : Tmp} {us : Array Operand} {ts : Array TypeId} (_ho : o.op = .call { callee := .value (.tmp t), args := us, argTypes := ts }) (h : wpList P ops Q (o :: rest) a W) : wpList P ops Q (o :: rest) a W := h
/-- A call of a function value, in a plain region. -/
theorem goesT_ {oi : Oper} {w : World} {t : Tmp} {f : FuncId} (hv : a.eval (.tmp t) = .func (.func f) #[] #[]) (N : Option Tmp) (hd : oi.dst = N) (hg : oi.guard = none) {fn : Func} {us : Array Operand} {ts : Array TypeId} (hf : P.funcs[f]? = some fn) (hname : (fn.name == "runtime.NumGoroutine") = false) (hb : fn.body.isSome = true) (args : Array Value)
    (hop : oi.op = .call { callee := .value (.tmp t), args := us, argTypes := ts }) (hargs : us.map a.eval = args)
    (h : Calls P f args w fun e w' => ∃ v, e = .returned v ∧ wpList P ops Q rest (a.put N v) w') : wpList P ops Q (oi :: rest) a w := by
  refine wpList_plain hg fun K hK => ?_
  have he := enters_ hf hname hb args w
  have hrun : (execOp a.eval oi).run P w = .ok (.enter f args) w := by
    unfold execOp
    simp [hop, resolve, Deferred.ofValue, invoke, hv, hargs, he]
  unfold Oper.wp
  rw [hrun, Oper.upon_enter]
  refine h.mono fun e w'' hh => ?_
  obtain ⟨v, rfl, hk⟩ := hh
  subst hd
  exact hK _ _ hk
end
open Go.Proofs.YtfhblnbicnmndaaDoorW.PrintWords renaming blk_drewN → bN, blk_drew → bD, blk_alloc → bA, blk_cell → bC, blk_below → bB, below_set → bS
/-! ### impl_Pol_30: function 30 -/
def impl_Pol_30.l0 (F_ : Int → Int → ByteArray → ByteArray → List (S26) → Int → Int → ByteArray → ByteArray → List (S26) → Option (Bool)) : Nat → List (S26) → List (S26) → Int → Int → Option (Bool)
 | 0, _, _, _, _ => none
 | k + 1, x1, x15, x16, x17 => if x17 < x16 then (if 0 ≤ x17 then (if x17 < (x15.length : Int) then (if x17 < (x1.length : Int) then ((F_ ((rd_T26 x15 x17).f0) ((rd_T26 x15 x17).f1) ((rd_T26 x15 x17).f2) ((rd_T26 x15 x17).f3) ((rd_T26 x15 x17).f4) ((rd_T26 x1 x17).f0) ((rd_T26 x1 x17).f1) ((rd_T26 x1 x17).f2) ((rd_T26 x1 x17).f3) ((rd_T26 x1 x17).f4)).bind fun t450 => (if t450 = true then (impl_Pol_30.l0 F_ k x1 x15 x16 (wrap64 (x17 + 1))) else (some false))) else (none)) else (none)) else (none)) else (some true)
def impl_Pol_30.f (F_ : Int → Int → ByteArray → ByteArray → List (S26) → Int → Int → ByteArray → ByteArray → List (S26) → Option (Bool)) (k : Nat) (l0 : List (S26)) (l1 : List (S26)) : Option (Bool) := if (l0.length : Int) = (l1.length : Int) then (impl_Pol_30.l0 F_ k l1 l0 (l0.length : Int) 0) else (some false)
set_option maxHeartbeats 8000000 in
set_option maxRecDepth 100000 in
theorem impl_Pol_30.calls {F_ : Int → Int → ByteArray → ByteArray → List (S26) → Int → Int → ByteArray → ByteArray → List (S26) → Option (Bool)} (hF_ : ∀ (a0_0 : Int) (a0_1 : Int) (a0_2 : ByteArray) (a0_3 : ByteArray) (A0_4 : Option Addr) (c0_4 : Nat) (l0_4 : List (S26)) (a1_0 : Int) (a1_1 : Int) (a1_2 : ByteArray) (a1_3 : ByteArray) (A1_4 : Option Addr) (c1_4 : Nat) (l1_4 : List (S26)) (r : Bool) (w : World) (hr0_4 : Kd.C k26 w A0_4 l0_4.length l0_4) (hc0_4 : l0_4.length ≤ c0_4) (hr1_4 : Kd.C k26 w A1_4 l1_4.length l1_4) (hc1_4 : l1_4.length ≤ c1_4) (h : F_ a0_0 a0_1 a0_2 a0_3 l0_4 a1_0 a1_1 a1_2 a1_3 l1_4 = some r),
    Calls Tryd.prog 13 #[.agg #[.int .i64 a0_0, .int .i64 a0_1, .string a0_2, .string a0_3, .slice A0_4 l0_4.length c0_4], .agg #[.int .i64 a1_0, .int .i64 a1_1, .string a1_2, .string a1_3, .slice A1_4 l1_4.length c1_4]] w fun e w' => e = .returned (.bool r) ∧ Below w.heap.size w w') (k : Nat) (A0 : Option Addr) (c0 : Nat) (l0 : List (S26)) (A1 : Option Addr) (c1 : Nat) (l1 : List (S26)) (r : Bool) (w : World) (hr0 : Kd.C k26 w A0 l0.length l0) (hc0 : l0.length ≤ c0) (hr1 : Kd.C k26 w A1 l1.length l1) (hc1 : l1.length ≤ c1) (h : impl_Pol_30.f F_ k l0 l1 = some r) :
  Calls Tryd.prog 30 #[.slice A0 l0.length c0, .slice A1 l1.length c1, .func (.func 13) #[] #[]] w fun e w' => e = .returned (.bool r) ∧ Below w.heap.size w w' := by
 have hu26 := Tryd.underlying26
 have HR0 := Aside0.mk hr0
 have HC0 := Aside0.mk hc0
 clear hr0 hc0
 have HR1 := Aside0.mk hr1
 have HC1 := Aside0.mk hc1
 clear hr1 hc1
 have HB := Aside0.mk (Below.refl w.heap.size w)
 unfold impl_Pol_30.f at h; have H := h
 clear h
 by_cases c3 : (l0.length : Int) = (l1.length : Int)
 ·rw [if_pos c3] at H
  obtain ⟨c3b0, c3b1⟩ := zt c3
  have c3b2 : (l0.length == l1.length) = true := by first | simpa using c3 | (simp at c3 ⊢; omega)
  clear c3
  have H' := Aside0.mk H
  clear H
  go_enter Tryd.func30, Tryd.ntmps30
  go_wp2
  go_loopg [17] k (fun kq v17 w' => ∃ (x17_1 : Int), v17 = .int .i64 x17_1 ∧ Aside0 (impl_Pol_30.l0 F_ kq l1 l0 (l0.length : Int) x17_1 = some r) ∧ Aside0 (kq ≤ k) ∧ Aside0 (Below w.heap.size w w'))
  case atStart => exact ⟨(0), zV, H', ⟨Nat.le_refl _⟩, ⟨zL HB.out⟩⟩
  case round =>
   clear H'
   try clear c1
   try clear p2
   try clear c3
   try clear c3b0
   try clear c3b1
   try clear c3b2
   obtain ⟨x17_1, rfl, HA, HK1, HB⟩ := hrel
   cases gk with
   | zero => exact absurd HA.out (by simp [impl_Pol_30.l0])
   | succ k1 =>
    have H := HA.out
    clear HA
    simp only [impl_Pol_30.l0] at H
    by_cases c4 : x17_1 < (l0.length : Int)
    ·rw [if_pos c4] at H
     have c4b0 := decide_eq_true c4
     clear c4
     by_cases c5 : 0 ≤ x17_1
     ·rw [if_pos c5] at H
      have c5b0 := decide_eq_true c5
      clear c5
      by_cases c6 : x17_1 < (l0.length : Int)
      ·rw [if_pos c6] at H
       have c6b0 := decide_eq_true c6
       clear c6
       by_cases c7 : x17_1 < (l1.length : Int)
       ·rw [if_pos c7] at H
        have c7b0 := decide_eq_true c7
        clear c7
        obtain ⟨t450, A8, H⟩ := zO H; try dsimp only at H
        by_cases c9 : t450 = true
        ·subst c9
         rw [if_pos rfl] at H
         have H' := Aside0.mk H
         clear H
         have p446 : 0 ≤ (x17_1 : Int) := zD
         have q446 : x17_1 < (l0.length : Int) := zD
         obtain ⟨ad446, A446_4, c446_4, e446, hx446_0, hx446_1, hx446_2, hx446_3, hx446_4, hl446_4, hi446_4⟩ := at_T26 HR0.out x17_1 p446 q446
         cases e446
         replace hx446_0 := zh HB.out hx446_0
         replace hx446_1 := zh HB.out hx446_1
         replace hx446_2 := zh HB.out hx446_2
         replace hx446_3 := zh HB.out hx446_3
         replace hx446_4 := zh HB.out hx446_4
         have HR446_4 := Aside0.mk hi446_4
         have HC446_4 := Aside0.mk hl446_4
         clear hi446_4 hl446_4
         replace p446 := eq_true p446
         replace q446 := eq_true q446
         go_wp2_with (first | ((with_reducible refine gD 8 rfl ?_); refine bE 8 #[.int .i64 0, .int .i64 0, .string (⟨#[]⟩ : ByteArray), .string (⟨#[]⟩ : ByteArray), .slice none 0 0] 26 ?_; intro gb447 hg w10 hbox hb; have BK447 := Aside0.mk hbox; have GW447 := Aside0.mk (zg (zL HB.out) hg : w.heap.size ≤ gb447); have GE447 := GW447; replace HB := zLB (zL HB.out) hb; clear hb hbox hg; have hcz11 := zc5 BK447.out; have hfz11 := zf5 BK447.out; have p448 : 0 ≤ (x17_1 : Int) := zD; have q448 : x17_1 < (l1.length : Int) := zD; obtain ⟨ad448, A448_4, c448_4, e448, hx448_0, hx448_1, hx448_2, hx448_3, hx448_4, hl448_4, hi448_4⟩ := at_T26 HR1.out x17_1 p448 q448; cases e448; have hn448_0 : ad448.block ≠ gb447 := Nat.ne_of_lt (Nat.lt_of_lt_of_le (by have := World.block_lt_of_cell? _ _ hx448_0; first | rwa [add_block] at this | exact this) GW447.out); have hn448_1 : ad448.block ≠ gb447 := Nat.ne_of_lt (Nat.lt_of_lt_of_le (by have := World.block_lt_of_cell? _ _ hx448_0; first | rwa [add_block] at this | exact this) GW447.out); have hn448_2 : ad448.block ≠ gb447 := Nat.ne_of_lt (Nat.lt_of_lt_of_le (by have := World.block_lt_of_cell? _ _ hx448_0; first | rwa [add_block] at this | exact this) GW447.out); have hn448_3 : ad448.block ≠ gb447 := Nat.ne_of_lt (Nat.lt_of_lt_of_le (by have := World.block_lt_of_cell? _ _ hx448_0; first | rwa [add_block] at this | exact this) GW447.out); have hn448_4 : ad448.block ≠ gb447 := Nat.ne_of_lt (Nat.lt_of_lt_of_le (by have := World.block_lt_of_cell? _ _ hx448_0; first | rwa [add_block] at this | exact this) GW447.out); replace hx448_0 := zh HB.out hx448_0; replace hx448_1 := zh HB.out hx448_1; replace hx448_2 := zh HB.out hx448_2; replace hx448_3 := zh HB.out hx448_3; replace hx448_4 := zh HB.out hx448_4; have HR448_4 := Aside0.mk hi448_4; have HC448_4 := Aside0.mk hl448_4; clear hi448_4 hl448_4; replace hx448_0 := (cell_far (p := ⟨gb447, 0, none⟩) (by first | (rw [add_block]; exact hn448_0) | (show (Addr.add _ _).block ≠ _; rw [add_block]; exact hn448_0) | exact hn448_0) (.int .i64 ((rd_T26 l0 x17_1).f0))).trans hx448_0; replace hx448_1 := (cell_far (p := ⟨gb447, 0, none⟩) (by first | (rw [add_block]; exact hn448_0) | (show (Addr.add _ _).block ≠ _; rw [add_block]; exact hn448_0) | exact hn448_0) (.int .i64 ((rd_T26 l0 x17_1).f0))).trans hx448_1; replace hx448_2 := (cell_far (p := ⟨gb447, 0, none⟩) (by first | (rw [add_block]; exact hn448_0) | (show (Addr.add _ _).block ≠ _; rw [add_block]; exact hn448_0) | exact hn448_0) (.int .i64 ((rd_T26 l0 x17_1).f0))).trans hx448_2; replace hx448_3 := (cell_far (p := ⟨gb447, 0, none⟩) (by first | (rw [add_block]; exact hn448_0) | (show (Addr.add _ _).block ≠ _; rw [add_block]; exact hn448_0) | exact hn448_0) (.int .i64 ((rd_T26 l0 x17_1).f0))).trans hx448_3; replace hx448_4 := (cell_far (p := ⟨gb447, 0, none⟩) (by first | (rw [add_block]; exact hn448_0) | (show (Addr.add _ _).block ≠ _; rw [add_block]; exact hn448_0) | exact hn448_0) (.int .i64 ((rd_T26 l0 x17_1).f0))).trans hx448_4; replace hx448_0 := (cell_far (p := ⟨gb447, 1, none⟩) (by first | (rw [add_block]; exact hn448_1) | (show (Addr.add _ _).block ≠ _; rw [add_block]; exact hn448_1) | exact hn448_1) (.int .i64 ((rd_T26 l0 x17_1).f1))).trans hx448_0; replace hx448_1 := (cell_far (p := ⟨gb447, 1, none⟩) (by first | (rw [add_block]; exact hn448_1) | (show (Addr.add _ _).block ≠ _; rw [add_block]; exact hn448_1) | exact hn448_1) (.int .i64 ((rd_T26 l0 x17_1).f1))).trans hx448_1; replace hx448_2 := (cell_far (p := ⟨gb447, 1, none⟩) (by first | (rw [add_block]; exact hn448_1) | (show (Addr.add _ _).block ≠ _; rw [add_block]; exact hn448_1) | exact hn448_1) (.int .i64 ((rd_T26 l0 x17_1).f1))).trans hx448_2; replace hx448_3 := (cell_far (p := ⟨gb447, 1, none⟩) (by first | (rw [add_block]; exact hn448_1) | (show (Addr.add _ _).block ≠ _; rw [add_block]; exact hn448_1) | exact hn448_1) (.int .i64 ((rd_T26 l0 x17_1).f1))).trans hx448_3; replace hx448_4 := (cell_far (p := ⟨gb447, 1, none⟩) (by first | (rw [add_block]; exact hn448_1) | (show (Addr.add _ _).block ≠ _; rw [add_block]; exact hn448_1) | exact hn448_1) (.int .i64 ((rd_T26 l0 x17_1).f1))).trans hx448_4; replace hx448_0 := (cell_far (p := ⟨gb447, 2, none⟩) (by first | (rw [add_block]; exact hn448_2) | (show (Addr.add _ _).block ≠ _; rw [add_block]; exact hn448_2) | exact hn448_2) (.string ((rd_T26 l0 x17_1).f2))).trans hx448_0; replace hx448_1 := (cell_far (p := ⟨gb447, 2, none⟩) (by first | (rw [add_block]; exact hn448_2) | (show (Addr.add _ _).block ≠ _; rw [add_block]; exact hn448_2) | exact hn448_2) (.string ((rd_T26 l0 x17_1).f2))).trans hx448_1; replace hx448_2 := (cell_far (p := ⟨gb447, 2, none⟩) (by first | (rw [add_block]; exact hn448_2) | (show (Addr.add _ _).block ≠ _; rw [add_block]; exact hn448_2) | exact hn448_2) (.string ((rd_T26 l0 x17_1).f2))).trans hx448_2; replace hx448_3 := (cell_far (p := ⟨gb447, 2, none⟩) (by first | (rw [add_block]; exact hn448_2) | (show (Addr.add _ _).block ≠ _; rw [add_block]; exact hn448_2) | exact hn448_2) (.string ((rd_T26 l0 x17_1).f2))).trans hx448_3; replace hx448_4 := (cell_far (p := ⟨gb447, 2, none⟩) (by first | (rw [add_block]; exact hn448_2) | (show (Addr.add _ _).block ≠ _; rw [add_block]; exact hn448_2) | exact hn448_2) (.string ((rd_T26 l0 x17_1).f2))).trans hx448_4; replace hx448_0 := (cell_far (p := ⟨gb447, 3, none⟩) (by first | (rw [add_block]; exact hn448_3) | (show (Addr.add _ _).block ≠ _; rw [add_block]; exact hn448_3) | exact hn448_3) (.string ((rd_T26 l0 x17_1).f3))).trans hx448_0; replace hx448_1 := (cell_far (p := ⟨gb447, 3, none⟩) (by first | (rw [add_block]; exact hn448_3) | (show (Addr.add _ _).block ≠ _; rw [add_block]; exact hn448_3) | exact hn448_3) (.string ((rd_T26 l0 x17_1).f3))).trans hx448_1; replace hx448_2 := (cell_far (p := ⟨gb447, 3, none⟩) (by first | (rw [add_block]; exact hn448_3) | (show (Addr.add _ _).block ≠ _; rw [add_block]; exact hn448_3) | exact hn448_3) (.string ((rd_T26 l0 x17_1).f3))).trans hx448_2; replace hx448_3 := (cell_far (p := ⟨gb447, 3, none⟩) (by first | (rw [add_block]; exact hn448_3) | (show (Addr.add _ _).block ≠ _; rw [add_block]; exact hn448_3) | exact hn448_3) (.string ((rd_T26 l0 x17_1).f3))).trans hx448_3; replace hx448_4 := (cell_far (p := ⟨gb447, 3, none⟩) (by first | (rw [add_block]; exact hn448_3) | (show (Addr.add _ _).block ≠ _; rw [add_block]; exact hn448_3) | exact hn448_3) (.string ((rd_T26 l0 x17_1).f3))).trans hx448_4; replace hx448_0 := (cell_far (p := ⟨gb447, 4, none⟩) (by first | (rw [add_block]; exact hn448_4) | (show (Addr.add _ _).block ≠ _; rw [add_block]; exact hn448_4) | exact hn448_4) (.slice A446_4 ((rd_T26 l0 x17_1).f4).length c446_4)).trans hx448_0; replace hx448_1 := (cell_far (p := ⟨gb447, 4, none⟩) (by first | (rw [add_block]; exact hn448_4) | (show (Addr.add _ _).block ≠ _; rw [add_block]; exact hn448_4) | exact hn448_4) (.slice A446_4 ((rd_T26 l0 x17_1).f4).length c446_4)).trans hx448_1; replace hx448_2 := (cell_far (p := ⟨gb447, 4, none⟩) (by first | (rw [add_block]; exact hn448_4) | (show (Addr.add _ _).block ≠ _; rw [add_block]; exact hn448_4) | exact hn448_4) (.slice A446_4 ((rd_T26 l0 x17_1).f4).length c446_4)).trans hx448_2; replace hx448_3 := (cell_far (p := ⟨gb447, 4, none⟩) (by first | (rw [add_block]; exact hn448_4) | (show (Addr.add _ _).block ≠ _; rw [add_block]; exact hn448_4) | exact hn448_4) (.slice A446_4 ((rd_T26 l0 x17_1).f4).length c446_4)).trans hx448_3; replace hx448_4 := (cell_far (p := ⟨gb447, 4, none⟩) (by first | (rw [add_block]; exact hn448_4) | (show (Addr.add _ _).block ≠ _; rw [add_block]; exact hn448_4) | exact hn448_4) (.slice A446_4 ((rd_T26 l0 x17_1).f4).length c446_4)).trans hx448_4; clear hn448_0; clear hn448_1; clear hn448_2; clear hn448_3; clear hn448_4; replace p448 := eq_true p448; replace q448 := eq_true q448) | ((with_reducible refine gD 9 rfl ?_); refine bE 9 #[.int .i64 0, .int .i64 0, .string (⟨#[]⟩ : ByteArray), .string (⟨#[]⟩ : ByteArray), .slice none 0 0] 26 ?_; intro gb449 hg w12 hbox hb; have BK449 := Aside0.mk hbox; have GW449 := Aside0.mk (zg (zL1 HB.out GE447.out) hg : w.heap.size ≤ gb449); have GE449 := GW449; replace HB := zLB (zL1 HB.out GE447.out) hb; have NB447_449 := Aside0.mk ((by rw [hg]; exact Nat.ne_of_lt (blk_lt (g := gb447) (o := .cells #[.int .i64 ((rd_T26 l0 x17_1).f0), .int .i64 ((rd_T26 l0 x17_1).f1), .string ((rd_T26 l0 x17_1).f2), .string ((rd_T26 l0 x17_1).f3), .slice A446_4 ((rd_T26 l0 x17_1).f4).length c446_4] 26 (0, 0)) (by refine zB ?_; refine zp5 (cs := #[.int .i64 0, .int .i64 0, .string (⟨#[]⟩ : ByteArray), .string (⟨#[]⟩ : ByteArray), .slice none 0 0]) ?_; exact zB BK447.out)) : gb447 ≠ gb449)); have NB449_447 := Aside0.mk ((by rw [hg]; exact Nat.ne_of_gt (blk_lt (g := gb447) (o := .cells #[.int .i64 ((rd_T26 l0 x17_1).f0), .int .i64 ((rd_T26 l0 x17_1).f1), .string ((rd_T26 l0 x17_1).f2), .string ((rd_T26 l0 x17_1).f3), .slice A446_4 ((rd_T26 l0 x17_1).f4).length c446_4] 26 (0, 0)) (by refine zB ?_; refine zp5 (cs := #[.int .i64 0, .int .i64 0, .string (⟨#[]⟩ : ByteArray), .string (⟨#[]⟩ : ByteArray), .slice none 0 0]) ?_; exact zB BK447.out)) : gb449 ≠ gb447)); replace BK447 := Aside0.mk (bB (g := gb447) (o := .cells #[.int .i64 ((rd_T26 l0 x17_1).f0), .int .i64 ((rd_T26 l0 x17_1).f1), .string ((rd_T26 l0 x17_1).f2), .string ((rd_T26 l0 x17_1).f3), .slice A446_4 ((rd_T26 l0 x17_1).f4).length c446_4] 26 (0, 0)) (by refine zB ?_; refine zp5 (cs := #[.int .i64 0, .int .i64 0, .string (⟨#[]⟩ : ByteArray), .string (⟨#[]⟩ : ByteArray), .slice none 0 0]) ?_; exact zB BK447.out) hb); clear hb hbox hg; have hnb13 := NB449_447.out; have hnc13 := NB447_449.out; have hcz14 := zc5 BK449.out; have hfz14 := zf5 BK449.out; have hcz15 := zc5 BK447.out; have hfz15 := zf5 BK447.out) | ((with_reducible refine gate_calleeT (t := 26) rfl ?_); refine goesT_ (t := 26) (f := 13) (by rfl) (some 29) rfl rfl Tryd.func13 (by kernel_rfl) rfl #[.agg #[.int .i64 ((rd_T26 l0 x17_1).f0), .int .i64 ((rd_T26 l0 x17_1).f1), .string ((rd_T26 l0 x17_1).f2), .string ((rd_T26 l0 x17_1).f3), .slice A446_4 ((rd_T26 l0 x17_1).f4).length c446_4], .agg #[.int .i64 ((rd_T26 l1 x17_1).f0), .int .i64 ((rd_T26 l1 x17_1).f1), .string ((rd_T26 l1 x17_1).f2), .string ((rd_T26 l1 x17_1).f3), .slice A448_4 ((rd_T26 l1 x17_1).f4).length c448_4]] rfl zE ?_; (with_reducible refine (hF_ ((rd_T26 l0 x17_1).f0) ((rd_T26 l0 x17_1).f1) ((rd_T26 l0 x17_1).f2) ((rd_T26 l0 x17_1).f3) _ _ ((rd_T26 l0 x17_1).f4) ((rd_T26 l1 x17_1).f0) ((rd_T26 l1 x17_1).f1) ((rd_T26 l1 x17_1).f2) ((rd_T26 l1 x17_1).f3) _ _ ((rd_T26 l1 x17_1).f4) true _ ?side1 ?side2 ?side3 ?side4 A8.out).mono ?_); (case side1 => exact Kd.C_below HR446_4.out (zL2 HB.out GE447.out GE449.out)); (case side2 => exact HC446_4.out); (case side3 => exact Kd.C_below HR448_4.out (zL2 HB.out GE447.out GE449.out)); (case side4 => exact HC448_4.out); rintro e w16 ⟨rfl, hb⟩; refine ⟨_, rfl, ?_⟩; replace BK447 := Aside0.mk (bB (g := gb447) (o := .cells #[.int .i64 ((rd_T26 l0 x17_1).f0), .int .i64 ((rd_T26 l0 x17_1).f1), .string ((rd_T26 l0 x17_1).f2), .string ((rd_T26 l0 x17_1).f3), .slice A446_4 ((rd_T26 l0 x17_1).f4).length c446_4] 26 (0, 0)) (by refine zB ?_; refine zr5 ?_ NB447_449.out; exact zB BK447.out) hb); replace BK449 := Aside0.mk (bB (g := gb449) (o := .cells #[.int .i64 ((rd_T26 l1 x17_1).f0), .int .i64 ((rd_T26 l1 x17_1).f1), .string ((rd_T26 l1 x17_1).f2), .string ((rd_T26 l1 x17_1).f3), .slice A448_4 ((rd_T26 l1 x17_1).f4).length c448_4] 26 (0, 0)) (by refine zB ?_; refine zp5 (cs := #[.int .i64 0, .int .i64 0, .string (⟨#[]⟩ : ByteArray), .string (⟨#[]⟩ : ByteArray), .slice none 0 0]) ?_; exact zB BK449.out) hb); replace HB := zLB (zL2 HB.out GE447.out GE449.out) hb; clear hb))
         go_roundg k1
         case measure => have := HK1.out; omega
         case rel => exact ⟨(wrap64 (x17_1 + 1)), zV, H', ⟨by have := HK1.out; omega⟩, ⟨zL2 HB.out GE447.out GE449.out⟩⟩
        ·obtain rfl := Bool.eq_false_iff.mpr c9
         rw [if_neg zn] at H
         obtain rfl := Option.some.inj H
         have p446 : 0 ≤ (x17_1 : Int) := zD
         have q446 : x17_1 < (l0.length : Int) := zD
         obtain ⟨ad446, A446_4, c446_4, e446, hx446_0, hx446_1, hx446_2, hx446_3, hx446_4, hl446_4, hi446_4⟩ := at_T26 HR0.out x17_1 p446 q446
         cases e446
         replace hx446_0 := zh HB.out hx446_0
         replace hx446_1 := zh HB.out hx446_1
         replace hx446_2 := zh HB.out hx446_2
         replace hx446_3 := zh HB.out hx446_3
         replace hx446_4 := zh HB.out hx446_4
         have HR446_4 := Aside0.mk hi446_4
         have HC446_4 := Aside0.mk hl446_4
         clear hi446_4 hl446_4
         replace p446 := eq_true p446
         replace q446 := eq_true q446
         go_wp2_with (first | ((with_reducible refine gD 8 rfl ?_); refine bE 8 #[.int .i64 0, .int .i64 0, .string (⟨#[]⟩ : ByteArray), .string (⟨#[]⟩ : ByteArray), .slice none 0 0] 26 ?_; intro gb447 hg w17 hbox hb; have BK447 := Aside0.mk hbox; have GW447 := Aside0.mk (zg (zL HB.out) hg : w.heap.size ≤ gb447); have GE447 := GW447; replace HB := zLB (zL HB.out) hb; clear hb hbox hg; have hcz18 := zc5 BK447.out; have hfz18 := zf5 BK447.out; have p448 : 0 ≤ (x17_1 : Int) := zD; have q448 : x17_1 < (l1.length : Int) := zD; obtain ⟨ad448, A448_4, c448_4, e448, hx448_0, hx448_1, hx448_2, hx448_3, hx448_4, hl448_4, hi448_4⟩ := at_T26 HR1.out x17_1 p448 q448; cases e448; have hn448_0 : ad448.block ≠ gb447 := Nat.ne_of_lt (Nat.lt_of_lt_of_le (by have := World.block_lt_of_cell? _ _ hx448_0; first | rwa [add_block] at this | exact this) GW447.out); have hn448_1 : ad448.block ≠ gb447 := Nat.ne_of_lt (Nat.lt_of_lt_of_le (by have := World.block_lt_of_cell? _ _ hx448_0; first | rwa [add_block] at this | exact this) GW447.out); have hn448_2 : ad448.block ≠ gb447 := Nat.ne_of_lt (Nat.lt_of_lt_of_le (by have := World.block_lt_of_cell? _ _ hx448_0; first | rwa [add_block] at this | exact this) GW447.out); have hn448_3 : ad448.block ≠ gb447 := Nat.ne_of_lt (Nat.lt_of_lt_of_le (by have := World.block_lt_of_cell? _ _ hx448_0; first | rwa [add_block] at this | exact this) GW447.out); have hn448_4 : ad448.block ≠ gb447 := Nat.ne_of_lt (Nat.lt_of_lt_of_le (by have := World.block_lt_of_cell? _ _ hx448_0; first | rwa [add_block] at this | exact this) GW447.out); replace hx448_0 := zh HB.out hx448_0; replace hx448_1 := zh HB.out hx448_1; replace hx448_2 := zh HB.out hx448_2; replace hx448_3 := zh HB.out hx448_3; replace hx448_4 := zh HB.out hx448_4; have HR448_4 := Aside0.mk hi448_4; have HC448_4 := Aside0.mk hl448_4; clear hi448_4 hl448_4; replace hx448_0 := (cell_far (p := ⟨gb447, 0, none⟩) (by first | (rw [add_block]; exact hn448_0) | (show (Addr.add _ _).block ≠ _; rw [add_block]; exact hn448_0) | exact hn448_0) (.int .i64 ((rd_T26 l0 x17_1).f0))).trans hx448_0; replace hx448_1 := (cell_far (p := ⟨gb447, 0, none⟩) (by first | (rw [add_block]; exact hn448_0) | (show (Addr.add _ _).block ≠ _; rw [add_block]; exact hn448_0) | exact hn448_0) (.int .i64 ((rd_T26 l0 x17_1).f0))).trans hx448_1; replace hx448_2 := (cell_far (p := ⟨gb447, 0, none⟩) (by first | (rw [add_block]; exact hn448_0) | (show (Addr.add _ _).block ≠ _; rw [add_block]; exact hn448_0) | exact hn448_0) (.int .i64 ((rd_T26 l0 x17_1).f0))).trans hx448_2; replace hx448_3 := (cell_far (p := ⟨gb447, 0, none⟩) (by first | (rw [add_block]; exact hn448_0) | (show (Addr.add _ _).block ≠ _; rw [add_block]; exact hn448_0) | exact hn448_0) (.int .i64 ((rd_T26 l0 x17_1).f0))).trans hx448_3; replace hx448_4 := (cell_far (p := ⟨gb447, 0, none⟩) (by first | (rw [add_block]; exact hn448_0) | (show (Addr.add _ _).block ≠ _; rw [add_block]; exact hn448_0) | exact hn448_0) (.int .i64 ((rd_T26 l0 x17_1).f0))).trans hx448_4; replace hx448_0 := (cell_far (p := ⟨gb447, 1, none⟩) (by first | (rw [add_block]; exact hn448_1) | (show (Addr.add _ _).block ≠ _; rw [add_block]; exact hn448_1) | exact hn448_1) (.int .i64 ((rd_T26 l0 x17_1).f1))).trans hx448_0; replace hx448_1 := (cell_far (p := ⟨gb447, 1, none⟩) (by first | (rw [add_block]; exact hn448_1) | (show (Addr.add _ _).block ≠ _; rw [add_block]; exact hn448_1) | exact hn448_1) (.int .i64 ((rd_T26 l0 x17_1).f1))).trans hx448_1; replace hx448_2 := (cell_far (p := ⟨gb447, 1, none⟩) (by first | (rw [add_block]; exact hn448_1) | (show (Addr.add _ _).block ≠ _; rw [add_block]; exact hn448_1) | exact hn448_1) (.int .i64 ((rd_T26 l0 x17_1).f1))).trans hx448_2; replace hx448_3 := (cell_far (p := ⟨gb447, 1, none⟩) (by first | (rw [add_block]; exact hn448_1) | (show (Addr.add _ _).block ≠ _; rw [add_block]; exact hn448_1) | exact hn448_1) (.int .i64 ((rd_T26 l0 x17_1).f1))).trans hx448_3; replace hx448_4 := (cell_far (p := ⟨gb447, 1, none⟩) (by first | (rw [add_block]; exact hn448_1) | (show (Addr.add _ _).block ≠ _; rw [add_block]; exact hn448_1) | exact hn448_1) (.int .i64 ((rd_T26 l0 x17_1).f1))).trans hx448_4; replace hx448_0 := (cell_far (p := ⟨gb447, 2, none⟩) (by first | (rw [add_block]; exact hn448_2) | (show (Addr.add _ _).block ≠ _; rw [add_block]; exact hn448_2) | exact hn448_2) (.string ((rd_T26 l0 x17_1).f2))).trans hx448_0; replace hx448_1 := (cell_far (p := ⟨gb447, 2, none⟩) (by first | (rw [add_block]; exact hn448_2) | (show (Addr.add _ _).block ≠ _; rw [add_block]; exact hn448_2) | exact hn448_2) (.string ((rd_T26 l0 x17_1).f2))).trans hx448_1; replace hx448_2 := (cell_far (p := ⟨gb447, 2, none⟩) (by first | (rw [add_block]; exact hn448_2) | (show (Addr.add _ _).block ≠ _; rw [add_block]; exact hn448_2) | exact hn448_2) (.string ((rd_T26 l0 x17_1).f2))).trans hx448_2; replace hx448_3 := (cell_far (p := ⟨gb447, 2, none⟩) (by first | (rw [add_block]; exact hn448_2) | (show (Addr.add _ _).block ≠ _; rw [add_block]; exact hn448_2) | exact hn448_2) (.string ((rd_T26 l0 x17_1).f2))).trans hx448_3; replace hx448_4 := (cell_far (p := ⟨gb447, 2, none⟩) (by first | (rw [add_block]; exact hn448_2) | (show (Addr.add _ _).block ≠ _; rw [add_block]; exact hn448_2) | exact hn448_2) (.string ((rd_T26 l0 x17_1).f2))).trans hx448_4; replace hx448_0 := (cell_far (p := ⟨gb447, 3, none⟩) (by first | (rw [add_block]; exact hn448_3) | (show (Addr.add _ _).block ≠ _; rw [add_block]; exact hn448_3) | exact hn448_3) (.string ((rd_T26 l0 x17_1).f3))).trans hx448_0; replace hx448_1 := (cell_far (p := ⟨gb447, 3, none⟩) (by first | (rw [add_block]; exact hn448_3) | (show (Addr.add _ _).block ≠ _; rw [add_block]; exact hn448_3) | exact hn448_3) (.string ((rd_T26 l0 x17_1).f3))).trans hx448_1; replace hx448_2 := (cell_far (p := ⟨gb447, 3, none⟩) (by first | (rw [add_block]; exact hn448_3) | (show (Addr.add _ _).block ≠ _; rw [add_block]; exact hn448_3) | exact hn448_3) (.string ((rd_T26 l0 x17_1).f3))).trans hx448_2; replace hx448_3 := (cell_far (p := ⟨gb447, 3, none⟩) (by first | (rw [add_block]; exact hn448_3) | (show (Addr.add _ _).block ≠ _; rw [add_block]; exact hn448_3) | exact hn448_3) (.string ((rd_T26 l0 x17_1).f3))).trans hx448_3; replace hx448_4 := (cell_far (p := ⟨gb447, 3, none⟩) (by first | (rw [add_block]; exact hn448_3) | (show (Addr.add _ _).block ≠ _; rw [add_block]; exact hn448_3) | exact hn448_3) (.string ((rd_T26 l0 x17_1).f3))).trans hx448_4; replace hx448_0 := (cell_far (p := ⟨gb447, 4, none⟩) (by first | (rw [add_block]; exact hn448_4) | (show (Addr.add _ _).block ≠ _; rw [add_block]; exact hn448_4) | exact hn448_4) (.slice A446_4 ((rd_T26 l0 x17_1).f4).length c446_4)).trans hx448_0; replace hx448_1 := (cell_far (p := ⟨gb447, 4, none⟩) (by first | (rw [add_block]; exact hn448_4) | (show (Addr.add _ _).block ≠ _; rw [add_block]; exact hn448_4) | exact hn448_4) (.slice A446_4 ((rd_T26 l0 x17_1).f4).length c446_4)).trans hx448_1; replace hx448_2 := (cell_far (p := ⟨gb447, 4, none⟩) (by first | (rw [add_block]; exact hn448_4) | (show (Addr.add _ _).block ≠ _; rw [add_block]; exact hn448_4) | exact hn448_4) (.slice A446_4 ((rd_T26 l0 x17_1).f4).length c446_4)).trans hx448_2; replace hx448_3 := (cell_far (p := ⟨gb447, 4, none⟩) (by first | (rw [add_block]; exact hn448_4) | (show (Addr.add _ _).block ≠ _; rw [add_block]; exact hn448_4) | exact hn448_4) (.slice A446_4 ((rd_T26 l0 x17_1).f4).length c446_4)).trans hx448_3; replace hx448_4 := (cell_far (p := ⟨gb447, 4, none⟩) (by first | (rw [add_block]; exact hn448_4) | (show (Addr.add _ _).block ≠ _; rw [add_block]; exact hn448_4) | exact hn448_4) (.slice A446_4 ((rd_T26 l0 x17_1).f4).length c446_4)).trans hx448_4; clear hn448_0; clear hn448_1; clear hn448_2; clear hn448_3; clear hn448_4; replace p448 := eq_true p448; replace q448 := eq_true q448) | ((with_reducible refine gD 9 rfl ?_); refine bE 9 #[.int .i64 0, .int .i64 0, .string (⟨#[]⟩ : ByteArray), .string (⟨#[]⟩ : ByteArray), .slice none 0 0] 26 ?_; intro gb449 hg w19 hbox hb; have BK449 := Aside0.mk hbox; have GW449 := Aside0.mk (zg (zL1 HB.out GE447.out) hg : w.heap.size ≤ gb449); have GE449 := GW449; replace HB := zLB (zL1 HB.out GE447.out) hb; have NB447_449 := Aside0.mk ((by rw [hg]; exact Nat.ne_of_lt (blk_lt (g := gb447) (o := .cells #[.int .i64 ((rd_T26 l0 x17_1).f0), .int .i64 ((rd_T26 l0 x17_1).f1), .string ((rd_T26 l0 x17_1).f2), .string ((rd_T26 l0 x17_1).f3), .slice A446_4 ((rd_T26 l0 x17_1).f4).length c446_4] 26 (0, 0)) (by refine zB ?_; refine zp5 (cs := #[.int .i64 0, .int .i64 0, .string (⟨#[]⟩ : ByteArray), .string (⟨#[]⟩ : ByteArray), .slice none 0 0]) ?_; exact zB BK447.out)) : gb447 ≠ gb449)); have NB449_447 := Aside0.mk ((by rw [hg]; exact Nat.ne_of_gt (blk_lt (g := gb447) (o := .cells #[.int .i64 ((rd_T26 l0 x17_1).f0), .int .i64 ((rd_T26 l0 x17_1).f1), .string ((rd_T26 l0 x17_1).f2), .string ((rd_T26 l0 x17_1).f3), .slice A446_4 ((rd_T26 l0 x17_1).f4).length c446_4] 26 (0, 0)) (by refine zB ?_; refine zp5 (cs := #[.int .i64 0, .int .i64 0, .string (⟨#[]⟩ : ByteArray), .string (⟨#[]⟩ : ByteArray), .slice none 0 0]) ?_; exact zB BK447.out)) : gb449 ≠ gb447)); replace BK447 := Aside0.mk (bB (g := gb447) (o := .cells #[.int .i64 ((rd_T26 l0 x17_1).f0), .int .i64 ((rd_T26 l0 x17_1).f1), .string ((rd_T26 l0 x17_1).f2), .string ((rd_T26 l0 x17_1).f3), .slice A446_4 ((rd_T26 l0 x17_1).f4).length c446_4] 26 (0, 0)) (by refine zB ?_; refine zp5 (cs := #[.int .i64 0, .int .i64 0, .string (⟨#[]⟩ : ByteArray), .string (⟨#[]⟩ : ByteArray), .slice none 0 0]) ?_; exact zB BK447.out) hb); clear hb hbox hg; have hnb20 := NB449_447.out; have hnc20 := NB447_449.out; have hcz21 := zc5 BK449.out; have hfz21 := zf5 BK449.out; have hcz22 := zc5 BK447.out; have hfz22 := zf5 BK447.out) | ((with_reducible refine gate_calleeT (t := 26) rfl ?_); refine goesT_ (t := 26) (f := 13) (by rfl) (some 29) rfl rfl Tryd.func13 (by kernel_rfl) rfl #[.agg #[.int .i64 ((rd_T26 l0 x17_1).f0), .int .i64 ((rd_T26 l0 x17_1).f1), .string ((rd_T26 l0 x17_1).f2), .string ((rd_T26 l0 x17_1).f3), .slice A446_4 ((rd_T26 l0 x17_1).f4).length c446_4], .agg #[.int .i64 ((rd_T26 l1 x17_1).f0), .int .i64 ((rd_T26 l1 x17_1).f1), .string ((rd_T26 l1 x17_1).f2), .string ((rd_T26 l1 x17_1).f3), .slice A448_4 ((rd_T26 l1 x17_1).f4).length c448_4]] rfl zE ?_; (with_reducible refine (hF_ ((rd_T26 l0 x17_1).f0) ((rd_T26 l0 x17_1).f1) ((rd_T26 l0 x17_1).f2) ((rd_T26 l0 x17_1).f3) _ _ ((rd_T26 l0 x17_1).f4) ((rd_T26 l1 x17_1).f0) ((rd_T26 l1 x17_1).f1) ((rd_T26 l1 x17_1).f2) ((rd_T26 l1 x17_1).f3) _ _ ((rd_T26 l1 x17_1).f4) false _ ?side1 ?side2 ?side3 ?side4 A8.out).mono ?_); (case side1 => exact Kd.C_below HR446_4.out (zL2 HB.out GE447.out GE449.out)); (case side2 => exact HC446_4.out); (case side3 => exact Kd.C_below HR448_4.out (zL2 HB.out GE447.out GE449.out)); (case side4 => exact HC448_4.out); rintro e w23 ⟨rfl, hb⟩; refine ⟨_, rfl, ?_⟩; replace BK447 := Aside0.mk (bB (g := gb447) (o := .cells #[.int .i64 ((rd_T26 l0 x17_1).f0), .int .i64 ((rd_T26 l0 x17_1).f1), .string ((rd_T26 l0 x17_1).f2), .string ((rd_T26 l0 x17_1).f3), .slice A446_4 ((rd_T26 l0 x17_1).f4).length c446_4] 26 (0, 0)) (by refine zB ?_; refine zr5 ?_ NB447_449.out; exact zB BK447.out) hb); replace BK449 := Aside0.mk (bB (g := gb449) (o := .cells #[.int .i64 ((rd_T26 l1 x17_1).f0), .int .i64 ((rd_T26 l1 x17_1).f1), .string ((rd_T26 l1 x17_1).f2), .string ((rd_T26 l1 x17_1).f3), .slice A448_4 ((rd_T26 l1 x17_1).f4).length c448_4] 26 (0, 0)) (by refine zB ?_; refine zp5 (cs := #[.int .i64 0, .int .i64 0, .string (⟨#[]⟩ : ByteArray), .string (⟨#[]⟩ : ByteArray), .slice none 0 0]) ?_; exact zB BK449.out) hb); replace HB := zLB (zL2 HB.out GE447.out GE449.out) hb; clear hb))
         go_ret
         exact ⟨zW, zL2 HB.out GE447.out GE449.out⟩
       ·rw [if_neg c7] at H
        exact absurd H (by simp)
      ·rw [if_neg c6] at H
       exact absurd H (by simp)
     ·rw [if_neg c5] at H
      exact absurd H (by simp)
    ·rw [if_neg c4] at H
     have c4b0 := decide_eq_false c4
     clear c4
     obtain rfl := Option.some.inj H
     go_wp2
     go_ret
     exact ⟨zW, zL HB.out⟩
 ·rw [if_neg c3] at H
  obtain ⟨c3b0, c3b1⟩ := zf c3
  have c3b2 : (l0.length == l1.length) = false := by first | simpa using c3 | (simp at c3 ⊢; omega)
  obtain rfl := Option.some.inj H
  go_enter Tryd.func30, Tryd.ntmps30
  go_wp2
  go_ret
  exact ⟨zW, zL HB.out⟩

end Go.Proofs.YtfhblnbicnmndaaDoor.QFnPols
