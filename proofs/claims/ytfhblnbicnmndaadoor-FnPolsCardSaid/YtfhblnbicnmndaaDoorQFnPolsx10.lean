/- What the Go functions that the law FnPols reaches answer: each as a Lean function, with its walk. Written by a program of this session. Conditions: those that each theorem names. -/
import Derived.Test.YtfhblnbicnmndaaDoorQFnPolsx0
import Derived.Test.YtfhblnbicnmndaaDoorQFnPolsx1
import Derived.Test.YtfhblnbicnmndaaDoorQFnPolsx3
import Derived.Test.YtfhblnbicnmndaaDoorQFnPolsx4
import Derived.Test.YtfhblnbicnmndaaDoorQFnPolsx5
import Derived.Test.YtfhblnbicnmndaaDoorQFnPolsx6
import Derived.Test.YtfhblnbicnmndaaDoorQFnPolsx7
import Derived.Test.YtfhblnbicnmndaaDoorQFnPolsx8
import Derived.Test.YtfhblnbicnmndaaDoorQFnPolsx9
namespace Go.Proofs.YtfhblnbicnmndaaDoor.QFnPols
open Go.RowKit Go.Proofs.YtfhblnbicnmndaaDoorW.PrintWords Go.Proofs.YtfhblnbicnmndaaDoorW.PrintLast Go.Proofs.YtfhblnbicnmndaaDoorW.PrintMore
attribute [local go_sem] max2_int min2_int max_two min_two max_three min_three max_four min_four   -- for this text's walks alone
set_option linter.unusedVariables false
set_option linter.unusedSimpArgs false

open Go.Proofs.YtfhblnbicnmndaaDoorW.PrintWords renaming blk_drewN → bN, blk_drew → bD, blk_alloc → bA, blk_cell → bC, blk_below → bB, below_set → bS
theorem zL6 {p q g0 g1 g2 g3 g4 g5 : Prop} (h : q) (k0 : g0) (k1 : g1) (k2 : g2) (k3 : g3) (k4 : g4) (k5 : g5) (c : q → g0 → g1 → g2 → g3 → g4 → g5 → p := by intro h_ k0_ k1_ k2_ k3_ k4_ k5_; repeat (first | (with_reducible first | exact h_ | apply below_alloc | apply pw_below_drewN | apply below_drew1 | refine below_set ?_ k0_ | refine below_set ?_ k1_ | refine below_set ?_ k2_ | refine below_set ?_ k3_ | refine below_set ?_ k4_ | refine below_set ?_ k5_) | exact h_)) : p := c h k0 k1 k2 k3 k4 k5
theorem zne (l : List UInt8) : (!l.isEmpty) = (l != []) := by cases l <;> rfl
theorem zW2 {p : Prop} (c : p := by first | rfl | (rw [zne]; rfl) | (simp [errW_none, errW_some] <;> rfl) | (simp [*, errW_none, errW_some] <;> rfl)) : p := c
/-! ### laws_FnPols: function 3 -/
def laws_FnPols.f (k : Nat) (l0 : List Int) : Option (Bool) := (laws_big.f l0).bind fun t501 => (if t501 = true then (some true) else ((spec_DrawPolOk.f k l0).bind fun bt502 => ((spec_DrawSamePol.f k l0).bind fun bt510 => ((spec_DrawPolCount.f k l0).bind fun bt526 => ((spec_DrawHasRate.f k l0).bind fun bt534 => ((spec_DrawPolText.f k l0).bind fun bt542 => ((impl_PolOk.f k bt502.1 bt502.2.1 bt502.2.2.1 bt502.2.2.2.1 bt502.2.2.2.2).bind fun t550 => ((spec_PolOk.f k bt502.1 bt502.2.1 bt502.2.2.1 bt502.2.2.2.1 bt502.2.2.2.2).bind fun t551 => (if (t550 == t551) = true then ((impl_SamePol.f k bt510.1 bt510.2.1 bt510.2.2.1 bt510.2.2.2.1 bt510.2.2.2.2.1 bt510.2.2.2.2.2.1 bt510.2.2.2.2.2.2.1 bt510.2.2.2.2.2.2.2.1 bt510.2.2.2.2.2.2.2.2.1 bt510.2.2.2.2.2.2.2.2.2).bind fun t552 => ((spec_SamePol.f k bt510.1 bt510.2.1 bt510.2.2.1 bt510.2.2.2.1 bt510.2.2.2.2.1 bt510.2.2.2.2.2.1 bt510.2.2.2.2.2.2.1 bt510.2.2.2.2.2.2.2.1 bt510.2.2.2.2.2.2.2.2.1 bt510.2.2.2.2.2.2.2.2.2).bind fun t553 => (if (t552 == t553) = true then ((impl_SamePol.f k bt502.1 bt502.2.1 bt502.2.2.1 bt502.2.2.2.1 bt502.2.2.2.2 bt502.1 bt502.2.1 bt502.2.2.1 bt502.2.2.2.1 bt502.2.2.2.2).bind fun t554 => (if t554 = true then ((impl_PolCount.f k bt526.1 bt526.2.1 bt526.2.2.1 bt526.2.2.2.1 bt526.2.2.2.2).bind fun t555 => ((spec_PolCount.f k bt526.1 bt526.2.1 bt526.2.2.1 bt526.2.2.2.1 bt526.2.2.2.2).bind fun t556 => (if t555 = t556 then ((impl_PolCount.f k bt526.1 bt526.2.1 bt526.2.2.1 bt526.2.2.2.1 bt526.2.2.2.2).bind fun t557 => (if t557 ≥ 1 then ((impl_HasRate.f k bt534.1 bt534.2.1 bt534.2.2.1 bt534.2.2.2.1 bt534.2.2.2.2).bind fun t558 => ((spec_HasRate.f k bt534.1 bt534.2.1 bt534.2.2.1 bt534.2.2.2.1 bt534.2.2.2.2).bind fun t559 => (if (t558 == t559) = true then ((impl_PolText.f k bt542.1 bt542.2.1 bt542.2.2.1 bt542.2.2.2.1 bt542.2.2.2.2).bind fun t560 => ((spec_PolText.f k bt542.1 bt542.2.1 bt542.2.2.1 bt542.2.2.2.1 bt542.2.2.2.2).bind fun t561 => (if t560.toList = t561.toList then ((impl_PolText.f k bt542.1 bt542.2.1 bt542.2.2.1 bt542.2.2.2.1 bt542.2.2.2.2).bind fun t562 => ((impl_PolOk.f k bt542.1 bt542.2.1 bt542.2.2.1 bt542.2.2.2.1 bt542.2.2.2.2).bind fun t563 => (some ((t562.toList != ([] : List UInt8)) == t563)))) else (some false)))) else (some false)))) else (some false))) else (some false)))) else (some false))) else (some false)))) else (some false))))))))))
def laws_FnPols.T8 : Bool × List (List Nat × List Nat) := (true, [([], []), ([0], [0]), ([], []), ([2, 1], [2]), ([1, 3], [1, 3]), ([4, 3], [4]), ([5], [5]), ([5], [5]), ([6, 7, 5, 5], [5, 6, 7]), ([5], [5]), ([5], [5]), ([9, 10, 8, 5], [5, 9, 10]), ([8, 11, 5], [5, 8, 11]), ([5, 12], [5, 12]), ([13, 11], [13]), ([14], [14]), ([14], [14]), ([15, 16, 14, 14], [14, 15, 16]), ([14, 17], [14, 17]), ([18, 17], [18]), ([19], [19]), ([20, 19, 19], [19, 20]), ([19], [19]), ([22, 21, 19], [19, 22]), ([21, 23, 19], [19, 21, 23]), ([19, 24], [19, 24]), ([25, 23], [25]), ([26], [26]), ([27, 26, 26], [26, 27]), ([28, 26], [26, 28]), ([26, 29], [26, 29]), ([30, 28], [30]), ([31], [31]), ([32, 31, 31], [31, 32]), ([31], [31]), ([34, 33, 31], [31, 34]), ([33, 35, 31], [31, 33, 35]), ([31, 36], [31, 36]), ([37, 35], [37]), ([38], [38]), ([39, 38, 38], [38, 39]), ([38], [38]), ([41, 40, 38], [38, 41]), ([40, 42, 38], [38, 40, 42]), ([38, 43], [38, 43]), ([44, 42], [44]), ([45], [45]), ([46, 45, 45], [45, 46]), ([47, 45], [45, 47]), ([45], [45]), ([49, 47, 45], [45, 49]), ([48, 50, 45], [45, 48, 50]), ([45, 51], [45, 51]), ([52, 50, 0, 1, 2, 3, 4, 5, 6, 7, 8, 9, 10, 11, 12, 13, 14, 15, 16, 17, 18, 19, 20, 21, 22, 23, 24, 25, 26, 27, 28, 29, 30, 31, 32, 33, 34, 35, 36, 37, 38, 39, 40, 41, 42, 43, 44, 45, 46, 47, 48, 49, 50, 51, 52], [52])])
def laws_FnPols.B8 : List Nat := [0, 1, 0, 7, 15, 31, 63, 63, 255, 63, 63, 2047, 4095, 8191, 16383, 32767, 32767, 131071, 262143, 524287, 1048575, 2097151, 1048575, 8388607, 16777215, 33554431, 67108863, 134217727, 268435455, 536870911, 1073741823, 2147483647, 4294967295, 8589934591, 4294967295, 34359738367, 68719476735, 137438953471, 274877906943, 549755813887, 1099511627775, 549755813887, 4398046511103, 8796093022207, 17592186044415, 35184372088831, 70368744177663, 140737488355327, 281474976710655, 70368744177663, 844424930131967, 2251799813685247, 4503599627370495, 9007199254740991]
theorem laws_FnPols.tab8 : rtab .any (opsOf Tryd.f3 8) = laws_FnPols.T8 := by kernel_rfl
theorem laws_FnPols.bits8 : waitsOk laws_FnPols.T8.2 laws_FnPols.B8 = true := by kernel_rfl
set_option maxHeartbeats 8000000 in
set_option maxRecDepth 100000 in
theorem laws_FnPols.calls (k : Nat) (A0 : Option Addr) (c0 : Nat) (l0 : List Int) (r : Bool) (w : World) (hr0 : Kd.C (Kd.int .u8) w A0 l0.length l0) (hc0 : l0.length ≤ c0) (hrt_ : Aside0 (r = true)) (htab_ : Lib.TabIs Tryd.prog w "internal/strconv.uint64pow10" .u64 Lib.pow10Tab) (h : laws_FnPols.f k l0 = some r) :
  Calls Tryd.prog 3 #[.slice A0 l0.length c0] w fun e w' => e = .returned (.bool r) ∧ Below w.heap.size w w' := by
 have HTAB := Aside0.mk htab_
 clear htab_
 have hu26 := Tryd.underlying26
 have HR0 := Aside0.mk hr0
 have HC0 := Aside0.mk hc0
 clear hr0 hc0
 have HB := Aside0.mk (Below.refl w.heap.size w)
 unfold laws_FnPols.f at h; have H := h
 clear h
 obtain ⟨t501, A2, H⟩ := zO H; try dsimp only at H
 by_cases c3 : t501 = true
 ·subst c3
  rw [if_pos rfl] at H
  obtain rfl := Option.some.inj H
  go_enter Tryd.func3, Tryd.ntmps3
  go_wp2_with (first | ((with_reducible refine gC 5 rfl ?_); refine gL 10 Tryd.func5 #[.slice A0 l0.length c0] ?_; (with_reducible refine (laws_big.calls _ _ l0 true _ ?side1 ?side2 A2.out).mono ?_); (case side1 => exact zC HR0.out); (case side2 => exact HC0.out); rintro e w' ⟨rfl, ⟨nd, rfl⟩⟩; refine ⟨_, rfl, ?_⟩))
  go_ret
  exact ⟨zW2, zL HB.out⟩
 ·obtain rfl := Bool.eq_false_iff.mpr c3
  rw [if_neg zn] at H
  obtain ⟨⟨t502, t503, t504, t505, t506⟩, A4, H⟩ := zO H; try dsimp only at H
  obtain ⟨⟨t510, t511, t512, t513, t514, t517, t518, t519, t520, t521⟩, A5, H⟩ := zO H; try dsimp only at H
  obtain ⟨⟨t526, t527, t528, t529, t530⟩, A6, H⟩ := zO H; try dsimp only at H
  obtain ⟨⟨t534, t535, t536, t537, t538⟩, A7, H⟩ := zO H; try dsimp only at H
  obtain ⟨⟨t542, t543, t544, t545, t546⟩, A8, H⟩ := zO H; try dsimp only at H
  obtain ⟨t550, A9, H⟩ := zO H; try dsimp only at H
  obtain ⟨t551, A10, H⟩ := zO H; try dsimp only at H
  by_cases c11 : (t550 == t551) = true
  ·rw [if_pos c11] at H
   have c11b0 := c11
   (try (have c11b1 : decide (t550 = t551) = true := by simpa using c11))
   (try (have c11b2 : (t550 == t551) = true := by simpa using c11))
   clear c11
   obtain ⟨t552, A12, H⟩ := zO H; try dsimp only at H
   obtain ⟨t553, A13, H⟩ := zO H; try dsimp only at H
   by_cases c14 : (t552 == t553) = true
   ·rw [if_pos c14] at H
    have c14b0 := c14
    (try (have c14b1 : decide (t552 = t553) = true := by simpa using c14))
    (try (have c14b2 : (t552 == t553) = true := by simpa using c14))
    clear c14
    obtain ⟨t554, A15, H⟩ := zO H; try dsimp only at H
    by_cases c16 : t554 = true
    ·subst c16
     rw [if_pos rfl] at H
     obtain ⟨t555, A17, H⟩ := zO H; try dsimp only at H
     obtain ⟨t556, A18, H⟩ := zO H; try dsimp only at H
     by_cases c19 : t555 = t556
     ·rw [if_pos c19] at H
      obtain ⟨c19b0, c19b1⟩ := zt c19
      clear c19
      obtain ⟨t557, A20, H⟩ := zO H; try dsimp only at H
      obtain rfl : t555 = t557 := Option.some.inj (A17.out.symm.trans A20.out)
      clear A20
      by_cases c21 : t555 ≥ 1
      ·rw [if_pos c21] at H
       have c21b0 := decide_eq_true c21
       clear c21
       obtain ⟨t558, A22, H⟩ := zO H; try dsimp only at H
       obtain ⟨t559, A23, H⟩ := zO H; try dsimp only at H
       by_cases c24 : (t558 == t559) = true
       ·rw [if_pos c24] at H
        have c24b0 := c24
        (try (have c24b1 : decide (t558 = t559) = true := by simpa using c24))
        (try (have c24b2 : (t558 == t559) = true := by simpa using c24))
        clear c24
        obtain ⟨t560, A25, H⟩ := zO H; try dsimp only at H
        obtain ⟨t561, A26, H⟩ := zO H; try dsimp only at H
        by_cases c27 : t560.toList = t561.toList
        ·rw [if_pos c27] at H
         obtain ⟨c27b0, c27b1⟩ := zt c27
         clear c27
         obtain ⟨t562, A28, H⟩ := zO H; try dsimp only at H
         obtain rfl : t560 = t562 := Option.some.inj (A25.out.symm.trans A28.out)
         clear A28
         obtain ⟨t563, A29, H⟩ := zO H; try dsimp only at H
         obtain rfl := Option.some.inj H
         go_enter Tryd.func3, Tryd.ntmps3
         try go_wp2_with (first | ((with_reducible refine gC 5 rfl ?_); refine gL 10 Tryd.func5 #[.slice A0 l0.length c0] ?_; (with_reducible refine (laws_big.calls _ _ l0 false _ ?side1 ?side2 A2.out).mono ?_); (case side1 => exact zC HR0.out); (case side2 => exact HC0.out); rintro e w' ⟨rfl, ⟨nd, rfl⟩⟩; refine ⟨_, rfl, ?_⟩) | ((with_reducible refine gC 6 rfl ?_); refine gL 12 Tryd.func6 #[.slice A0 l0.length c0] ?_; (with_reducible refine (spec_DrawPolOk.calls k _ _ l0 t502 t503 t504 t505 t506 _ ?side1 ?side2 A4.out).mono ?_); (case side1 => exact zC HR0.out); (case side2 => exact HC0.out); rintro e w30 ⟨v507, rfl, ho0, hb⟩; refine ⟨_, rfl, ?_⟩; have HO508 := Aside0.mk (Kd.N_lower (Kd.N_mono (ok' := fun k_ => True) ho0 (fun k_ hk_ => trivial)) (below_size (zL HB.out))); replace HB := zLB (zL HB.out) hb; clear ho0 hb) | ((with_reducible refine gD 3 rfl ?_); refine bE 3 #[.int .i64 0, .int .i64 0, .string (⟨#[]⟩ : ByteArray), .string (⟨#[]⟩ : ByteArray), .slice none 0 0] 26 ?_; intro gb509 hg w31 hbox hb; replace HO508 := Aside0.mk (Kd.N_below (Kd.N_elderB (zX HO508.out) gb509 (Nat.le_of_eq hg.symm)) hb); have BK509 := Aside0.mk hbox; have GW509 := Aside0.mk (zg (zL HB.out) hg : w.heap.size ≤ gb509); have GE509 := GW509; replace HB := zLB (zL HB.out) hb; clear hb hbox hg; have hcz32 := zc5 BK509.out; have hfz32 := zf5 BK509.out; obtain ⟨Ao33, co33, eo33⟩ := Kd.N_slice HO508.out; subst eo33) | ((with_reducible refine gC 7 rfl ?_); refine gL 15 Tryd.func7 #[.slice A0 l0.length c0] ?_; (with_reducible refine (spec_DrawSamePol.calls k _ _ l0 t510 t511 t512 t513 t514 t517 t518 t519 t520 t521 _ ?side1 ?side2 A5.out).mono ?_); (case side1 => exact Kd.C_below HR0.out (zL1 HB.out GE509.out)); (case side2 => exact HC0.out); rintro e w34 ⟨v515, v522, rfl, ho0, ho1, hb⟩; refine ⟨_, rfl, ?_⟩; have HO516 := Aside0.mk (Kd.N_lower (Kd.N_mono (ok' := fun k_ => some k_ ≠ (v522 : Value).ownBlock ∧ some k_ ≠ (.slice Ao33 t506.length co33 : Value).ownBlock ∧ k_ ≠ gb509) ho0 (fun k_ hk_ => ⟨hk_.2, (Kd.fresh' (Kd.N_lt (by (with_reducible repeat (first | apply Kd.N_alloc | apply Kd.N_drewN | apply Kd.N_drew)); exact (Kd.N_mono (zNF5 (Kd.N_mono HO508.out (fun k_ hk => (⟨hk, hk.2⟩ : _ ∧ k_ ≠ gb509))) gb509 (fun _ hk => hk.2) (.int .i64 t502) (.int .i64 t503) (.string t504) (.string t505) (.slice Ao33 t506.length co33)) (fun _ h_ => h_.1)))) k_ hk_.1), (Kd.freshB (g := gb509) (o := .cells #[.int .i64 t502, .int .i64 t503, .string t504, .string t505, .slice Ao33 t506.length co33] 26 (0, 0)) (by refine zB ?_; refine zp5 (cs := #[.int .i64 0, .int .i64 0, .string (⟨#[]⟩ : ByteArray), .string (⟨#[]⟩ : ByteArray), .slice none 0 0]) ?_; exact zB BK509.out) k_ hk_.1)⟩)) (below_size (zL1 HB.out GE509.out))); have HO523 := Aside0.mk (Kd.N_lower (Kd.N_mono (ok' := fun k_ => some k_ ≠ (v515 : Value).ownBlock ∧ some k_ ≠ (.slice Ao33 t506.length co33 : Value).ownBlock ∧ k_ ≠ gb509) ho1 (fun k_ hk_ => ⟨hk_.2, (Kd.fresh' (Kd.N_lt (by (with_reducible repeat (first | apply Kd.N_alloc | apply Kd.N_drewN | apply Kd.N_drew)); exact (Kd.N_mono (zNF5 (Kd.N_mono HO508.out (fun k_ hk => (⟨hk, hk.2⟩ : _ ∧ k_ ≠ gb509))) gb509 (fun _ hk => hk.2) (.int .i64 t502) (.int .i64 t503) (.string t504) (.string t505) (.slice Ao33 t506.length co33)) (fun _ h_ => h_.1)))) k_ hk_.1), (Kd.freshB (g := gb509) (o := .cells #[.int .i64 t502, .int .i64 t503, .string t504, .string t505, .slice Ao33 t506.length co33] 26 (0, 0)) (by refine zB ?_; refine zp5 (cs := #[.int .i64 0, .int .i64 0, .string (⟨#[]⟩ : ByteArray), .string (⟨#[]⟩ : ByteArray), .slice none 0 0]) ?_; exact zB BK509.out) k_ hk_.1)⟩)) (below_size (zL1 HB.out GE509.out))); replace HO508 := Aside0.mk (Kd.N_mono (Kd.N_told (Kd.N_told (Kd.N_old (by (with_reducible repeat (first | apply Kd.N_alloc | apply Kd.N_drewN | apply Kd.N_drew)); exact (Kd.N_mono (zNF5 (Kd.N_mono HO508.out (fun k_ hk => (⟨hk, hk.2⟩ : _ ∧ k_ ≠ gb509))) gb509 (fun _ hk => hk.2) (.int .i64 t502) (.int .i64 t503) (.string t504) (.string t505) (.slice Ao33 t506.length co33)) (fun _ h_ => h_.1))) hb) (by first | exact Kd.N_base ho0 | exact Kd.R_base ho0)) (Kd.N_base ho1)) (fun _ h_ => h_.1)); replace BK509 := Aside0.mk (bB (g := gb509) (o := .cells #[.int .i64 t502, .int .i64 t503, .string t504, .string t505, .slice Ao33 t506.length co33] 26 (0, 0)) (by refine zB ?_; refine zp5 (cs := #[.int .i64 0, .int .i64 0, .string (⟨#[]⟩ : ByteArray), .string (⟨#[]⟩ : ByteArray), .slice none 0 0]) ?_; exact zB BK509.out) hb); replace HB := zLB (zL1 HB.out GE509.out) hb; clear ho0 hb; (try clear ho1)) | ((with_reducible refine gD 4 rfl ?_); refine bE 4 #[.int .i64 0, .int .i64 0, .string (⟨#[]⟩ : ByteArray), .string (⟨#[]⟩ : ByteArray), .slice none 0 0] 26 ?_; intro gb524 hg w35 hbox hb; replace HO508 := Aside0.mk (Kd.N_below (Kd.N_elderB (zX HO508.out) gb524 (Nat.le_of_eq hg.symm)) hb); replace HO516 := Aside0.mk (Kd.N_below (Kd.N_elderB (zX HO516.out) gb524 (Nat.le_of_eq hg.symm)) hb); replace HO523 := Aside0.mk (Kd.N_below (Kd.N_elderB (zX HO523.out) gb524 (Nat.le_of_eq hg.symm)) hb); have BK524 := Aside0.mk hbox; have GW524 := Aside0.mk (zg (zL1 HB.out GE509.out) hg : w.heap.size ≤ gb524); have GE524 := GW524; replace HB := zLB (zL1 HB.out GE509.out) hb; have NB509_524 := Aside0.mk (zN BK509.out hg : gb509 ≠ gb524); have NB524_509 := Aside0.mk (zM BK509.out hg : gb524 ≠ gb509); replace BK509 := zBB BK509 hb; clear hb hbox hg) | ((with_reducible refine gD 5 rfl ?_); refine bE 5 #[.int .i64 0, .int .i64 0, .string (⟨#[]⟩ : ByteArray), .string (⟨#[]⟩ : ByteArray), .slice none 0 0] 26 ?_; intro gb525 hg w36 hbox hb; replace HO508 := Aside0.mk (Kd.N_below (Kd.N_elderB (zX HO508.out) gb525 (Nat.le_of_eq hg.symm)) hb); replace HO516 := Aside0.mk (Kd.N_below (Kd.N_elderB (zX HO516.out) gb525 (Nat.le_of_eq hg.symm)) hb); replace HO523 := Aside0.mk (Kd.N_below (Kd.N_elderB (zX HO523.out) gb525 (Nat.le_of_eq hg.symm)) hb); have BK525 := Aside0.mk hbox; have GW525 := Aside0.mk (zg (zL2 HB.out GE509.out GE524.out) hg : w.heap.size ≤ gb525); have GE525 := GW525; replace HB := zLB (zL2 HB.out GE509.out GE524.out) hb; have NB509_525 := Aside0.mk (zN BK509.out hg : gb509 ≠ gb525); have NB525_509 := Aside0.mk (zM BK509.out hg : gb525 ≠ gb509); replace BK509 := zBB BK509 hb; have NB524_525 := Aside0.mk (zN BK524.out hg : gb524 ≠ gb525); have NB525_524 := Aside0.mk (zM BK524.out hg : gb525 ≠ gb524); replace BK524 := zBB BK524 hb; clear hb hbox hg; have hnb37 := NB524_509.out; have hnc37 := NB509_524.out; have hnb38 := NB524_525.out; have hnc38 := NB525_524.out; have hcz39 := zc5 BK524.out; have hfz39 := zf5 BK524.out; obtain ⟨Ao40, co40, eo40⟩ := Kd.N_slice HO516.out; subst eo40; have hnb41 := NB525_509.out; have hnc41 := NB509_525.out; have hcz42 := zc5 BK525.out; have hfz42 := zf5 BK525.out; obtain ⟨Ao43, co43, eo43⟩ := Kd.N_slice HO523.out; subst eo43) | ((with_reducible refine gC 8 rfl ?_); refine gL 19 Tryd.func8 #[.slice A0 l0.length c0] ?_; (with_reducible refine (spec_DrawPolCount.calls k _ _ l0 t526 t527 t528 t529 t530 _ ?side1 ?side2 A6.out).mono ?_); (case side1 => exact Kd.C_below HR0.out (zL3 HB.out GE509.out GE524.out GE525.out)); (case side2 => exact HC0.out); rintro e w44 ⟨v531, rfl, ho0, hb⟩; refine ⟨_, rfl, ?_⟩; have HO532 := Aside0.mk (Kd.N_lower (Kd.N_mono (ok' := fun k_ => some k_ ≠ (.slice Ao33 t506.length co33 : Value).ownBlock ∧ some k_ ≠ (.slice Ao40 t514.length co40 : Value).ownBlock ∧ some k_ ≠ (.slice Ao43 t521.length co43 : Value).ownBlock ∧ k_ ≠ gb509 ∧ k_ ≠ gb524 ∧ k_ ≠ gb525) ho0 (fun k_ hk_ => ⟨(Kd.fresh' (Kd.N_lt (by (with_reducible repeat (first | apply Kd.N_alloc | apply Kd.N_drewN | apply Kd.N_drew)); exact (Kd.N_mono (Kd.N_mono (zNF5 (zNF5 (Kd.N_mono (Kd.N_mono HO508.out (fun k_ hk => (⟨hk, hk.1.2⟩ : _ ∧ k_ ≠ gb524))) (fun k_ hk => (⟨hk, hk.1.2⟩ : _ ∧ k_ ≠ gb525))) gb524 (fun _ hk => hk.1.2) (.int .i64 t510) (.int .i64 t511) (.string t512) (.string t513) (.slice Ao40 t514.length co40)) gb525 (fun _ hk => hk.2) (.int .i64 t517) (.int .i64 t518) (.string t519) (.string t520) (.slice Ao43 t521.length co43)) (fun _ h_ => h_.1)) (fun _ h_ => h_.1)))) k_ hk_), (Kd.fresh' (Kd.N_lt (by (with_reducible repeat (first | apply Kd.N_alloc | apply Kd.N_drewN | apply Kd.N_drew)); exact (Kd.N_mono (Kd.N_mono (zNF5 (zNF5 (Kd.N_mono (Kd.N_mono HO516.out (fun k_ hk => (⟨hk, hk.1.2⟩ : _ ∧ k_ ≠ gb524))) (fun k_ hk => (⟨hk, hk.1.2⟩ : _ ∧ k_ ≠ gb525))) gb524 (fun _ hk => hk.1.2) (.int .i64 t510) (.int .i64 t511) (.string t512) (.string t513) (.slice Ao40 t514.length co40)) gb525 (fun _ hk => hk.2) (.int .i64 t517) (.int .i64 t518) (.string t519) (.string t520) (.slice Ao43 t521.length co43)) (fun _ h_ => h_.1)) (fun _ h_ => h_.1)))) k_ hk_), (Kd.fresh' (Kd.N_lt (by (with_reducible repeat (first | apply Kd.N_alloc | apply Kd.N_drewN | apply Kd.N_drew)); exact (Kd.N_mono (Kd.N_mono (zNF5 (zNF5 (Kd.N_mono (Kd.N_mono HO523.out (fun k_ hk => (⟨hk, hk.1.2⟩ : _ ∧ k_ ≠ gb524))) (fun k_ hk => (⟨hk, hk.1.2⟩ : _ ∧ k_ ≠ gb525))) gb524 (fun _ hk => hk.1.2) (.int .i64 t510) (.int .i64 t511) (.string t512) (.string t513) (.slice Ao40 t514.length co40)) gb525 (fun _ hk => hk.2) (.int .i64 t517) (.int .i64 t518) (.string t519) (.string t520) (.slice Ao43 t521.length co43)) (fun _ h_ => h_.1)) (fun _ h_ => h_.1)))) k_ hk_), (Kd.freshB (g := gb509) (o := .cells #[.int .i64 t502, .int .i64 t503, .string t504, .string t505, .slice Ao33 t506.length co33] 26 (0, 0)) (by refine zB ?_; refine zr5 ?_ NB509_525.out; refine zB ?_; refine zr5 ?_ NB509_524.out; exact zB BK509.out) k_ hk_), (Kd.freshB (g := gb524) (o := .cells #[.int .i64 t510, .int .i64 t511, .string t512, .string t513, .slice Ao40 t514.length co40] 26 (0, 0)) (by refine zB ?_; refine zr5 ?_ NB524_525.out; refine zB ?_; refine zp5 (cs := #[.int .i64 0, .int .i64 0, .string (⟨#[]⟩ : ByteArray), .string (⟨#[]⟩ : ByteArray), .slice none 0 0]) ?_; exact zB BK524.out) k_ hk_), (Kd.freshB (g := gb525) (o := .cells #[.int .i64 t517, .int .i64 t518, .string t519, .string t520, .slice Ao43 t521.length co43] 26 (0, 0)) (by refine zB ?_; refine zp5 (cs := #[.int .i64 0, .int .i64 0, .string (⟨#[]⟩ : ByteArray), .string (⟨#[]⟩ : ByteArray), .slice none 0 0]) ?_; refine zB ?_; refine zr5 ?_ NB525_524.out; exact zB BK525.out) k_ hk_)⟩)) (below_size (zL3 HB.out GE509.out GE524.out GE525.out))); replace HO508 := Aside0.mk (Kd.N_elder' (by (with_reducible repeat (first | apply Kd.N_alloc | apply Kd.N_drewN | apply Kd.N_drew)); exact (Kd.N_mono (Kd.N_mono (zNF5 (zNF5 (Kd.N_mono (Kd.N_mono HO508.out (fun k_ hk => (⟨hk, hk.1.2⟩ : _ ∧ k_ ≠ gb524))) (fun k_ hk => (⟨hk, hk.1.2⟩ : _ ∧ k_ ≠ gb525))) gb524 (fun _ hk => hk.1.2) (.int .i64 t510) (.int .i64 t511) (.string t512) (.string t513) (.slice Ao40 t514.length co40)) gb525 (fun _ hk => hk.2) (.int .i64 t517) (.int .i64 t518) (.string t519) (.string t520) (.slice Ao43 t521.length co43)) (fun _ h_ => h_.1)) (fun _ h_ => h_.1))) (by first | exact Kd.N_base ho0 | exact Kd.R_base ho0) hb); replace HO516 := Aside0.mk (Kd.N_elder' (by (with_reducible repeat (first | apply Kd.N_alloc | apply Kd.N_drewN | apply Kd.N_drew)); exact (Kd.N_mono (Kd.N_mono (zNF5 (zNF5 (Kd.N_mono (Kd.N_mono HO516.out (fun k_ hk => (⟨hk, hk.1.2⟩ : _ ∧ k_ ≠ gb524))) (fun k_ hk => (⟨hk, hk.1.2⟩ : _ ∧ k_ ≠ gb525))) gb524 (fun _ hk => hk.1.2) (.int .i64 t510) (.int .i64 t511) (.string t512) (.string t513) (.slice Ao40 t514.length co40)) gb525 (fun _ hk => hk.2) (.int .i64 t517) (.int .i64 t518) (.string t519) (.string t520) (.slice Ao43 t521.length co43)) (fun _ h_ => h_.1)) (fun _ h_ => h_.1))) (by first | exact Kd.N_base ho0 | exact Kd.R_base ho0) hb); replace HO523 := Aside0.mk (Kd.N_elder' (by (with_reducible repeat (first | apply Kd.N_alloc | apply Kd.N_drewN | apply Kd.N_drew)); exact (Kd.N_mono (Kd.N_mono (zNF5 (zNF5 (Kd.N_mono (Kd.N_mono HO523.out (fun k_ hk => (⟨hk, hk.1.2⟩ : _ ∧ k_ ≠ gb524))) (fun k_ hk => (⟨hk, hk.1.2⟩ : _ ∧ k_ ≠ gb525))) gb524 (fun _ hk => hk.1.2) (.int .i64 t510) (.int .i64 t511) (.string t512) (.string t513) (.slice Ao40 t514.length co40)) gb525 (fun _ hk => hk.2) (.int .i64 t517) (.int .i64 t518) (.string t519) (.string t520) (.slice Ao43 t521.length co43)) (fun _ h_ => h_.1)) (fun _ h_ => h_.1))) (by first | exact Kd.N_base ho0 | exact Kd.R_base ho0) hb); replace BK509 := Aside0.mk (bB (g := gb509) (o := .cells #[.int .i64 t502, .int .i64 t503, .string t504, .string t505, .slice Ao33 t506.length co33] 26 (0, 0)) (by refine zB ?_; refine zr5 ?_ NB509_525.out; refine zB ?_; refine zr5 ?_ NB509_524.out; exact zB BK509.out) hb); replace BK524 := Aside0.mk (bB (g := gb524) (o := .cells #[.int .i64 t510, .int .i64 t511, .string t512, .string t513, .slice Ao40 t514.length co40] 26 (0, 0)) (by refine zB ?_; refine zr5 ?_ NB524_525.out; refine zB ?_; refine zp5 (cs := #[.int .i64 0, .int .i64 0, .string (⟨#[]⟩ : ByteArray), .string (⟨#[]⟩ : ByteArray), .slice none 0 0]) ?_; exact zB BK524.out) hb); replace BK525 := Aside0.mk (bB (g := gb525) (o := .cells #[.int .i64 t517, .int .i64 t518, .string t519, .string t520, .slice Ao43 t521.length co43] 26 (0, 0)) (by refine zB ?_; refine zp5 (cs := #[.int .i64 0, .int .i64 0, .string (⟨#[]⟩ : ByteArray), .string (⟨#[]⟩ : ByteArray), .slice none 0 0]) ?_; refine zB ?_; refine zr5 ?_ NB525_524.out; exact zB BK525.out) hb); replace HB := zLB (zL3 HB.out GE509.out GE524.out GE525.out) hb; clear ho0 hb) | ((with_reducible refine gD 6 rfl ?_); refine bE 6 #[.int .i64 0, .int .i64 0, .string (⟨#[]⟩ : ByteArray), .string (⟨#[]⟩ : ByteArray), .slice none 0 0] 26 ?_; intro gb533 hg w45 hbox hb; replace HO508 := Aside0.mk (Kd.N_below (Kd.N_elderB (zX HO508.out) gb533 (Nat.le_of_eq hg.symm)) hb); replace HO516 := Aside0.mk (Kd.N_below (Kd.N_elderB (zX HO516.out) gb533 (Nat.le_of_eq hg.symm)) hb); replace HO523 := Aside0.mk (Kd.N_below (Kd.N_elderB (zX HO523.out) gb533 (Nat.le_of_eq hg.symm)) hb); replace HO532 := Aside0.mk (Kd.N_below (Kd.N_elderB (zX HO532.out) gb533 (Nat.le_of_eq hg.symm)) hb); have BK533 := Aside0.mk hbox; have GW533 := Aside0.mk (zg (zL3 HB.out GE509.out GE524.out GE525.out) hg : w.heap.size ≤ gb533); have GE533 := GW533; replace HB := zLB (zL3 HB.out GE509.out GE524.out GE525.out) hb; have NB509_533 := Aside0.mk (zN BK509.out hg : gb509 ≠ gb533); have NB533_509 := Aside0.mk (zM BK509.out hg : gb533 ≠ gb509); replace BK509 := zBB BK509 hb; have NB524_533 := Aside0.mk (zN BK524.out hg : gb524 ≠ gb533); have NB533_524 := Aside0.mk (zM BK524.out hg : gb533 ≠ gb524); replace BK524 := zBB BK524 hb; have NB525_533 := Aside0.mk (zN BK525.out hg : gb525 ≠ gb533); have NB533_525 := Aside0.mk (zM BK525.out hg : gb533 ≠ gb525); replace BK525 := zBB BK525 hb; clear hb hbox hg; have hnb46 := NB533_509.out; have hnc46 := NB509_533.out; have hnb47 := NB533_524.out; have hnc47 := NB524_533.out; have hnb48 := NB533_525.out; have hnc48 := NB525_533.out; have hcz49 := zc5 BK533.out; have hfz49 := zf5 BK533.out; obtain ⟨Ao50, co50, eo50⟩ := Kd.N_slice HO532.out; subst eo50) | ((with_reducible refine gC 9 rfl ?_); refine gL 21 Tryd.func9 #[.slice A0 l0.length c0] ?_; (with_reducible refine (spec_DrawHasRate.calls k _ _ l0 t534 t535 t536 t537 t538 _ ?side1 ?side2 A7.out).mono ?_); (case side1 => exact Kd.C_below HR0.out (zL4 HB.out GE509.out GE524.out GE525.out GE533.out)); (case side2 => exact HC0.out); rintro e w51 ⟨v539, rfl, ho0, hb⟩; refine ⟨_, rfl, ?_⟩; have HO540 := Aside0.mk (Kd.N_lower (Kd.N_mono (ok' := fun k_ => some k_ ≠ (.slice Ao33 t506.length co33 : Value).ownBlock ∧ some k_ ≠ (.slice Ao40 t514.length co40 : Value).ownBlock ∧ some k_ ≠ (.slice Ao43 t521.length co43 : Value).ownBlock ∧ some k_ ≠ (.slice Ao50 t530.length co50 : Value).ownBlock ∧ k_ ≠ gb509 ∧ k_ ≠ gb524 ∧ k_ ≠ gb525 ∧ k_ ≠ gb533) ho0 (fun k_ hk_ => ⟨(Kd.fresh' (Kd.N_lt (by (with_reducible repeat (first | apply Kd.N_alloc | apply Kd.N_drewN | apply Kd.N_drew)); exact (Kd.N_mono (zNF5 (Kd.N_mono HO508.out (fun k_ hk => (⟨hk, hk.2⟩ : _ ∧ k_ ≠ gb533))) gb533 (fun _ hk => hk.2) (.int .i64 t526) (.int .i64 t527) (.string t528) (.string t529) (.slice Ao50 t530.length co50)) (fun _ h_ => h_.1)))) k_ hk_), (Kd.fresh' (Kd.N_lt (by (with_reducible repeat (first | apply Kd.N_alloc | apply Kd.N_drewN | apply Kd.N_drew)); exact (Kd.N_mono (zNF5 (Kd.N_mono HO516.out (fun k_ hk => (⟨hk, hk.2⟩ : _ ∧ k_ ≠ gb533))) gb533 (fun _ hk => hk.2) (.int .i64 t526) (.int .i64 t527) (.string t528) (.string t529) (.slice Ao50 t530.length co50)) (fun _ h_ => h_.1)))) k_ hk_), (Kd.fresh' (Kd.N_lt (by (with_reducible repeat (first | apply Kd.N_alloc | apply Kd.N_drewN | apply Kd.N_drew)); exact (Kd.N_mono (zNF5 (Kd.N_mono HO523.out (fun k_ hk => (⟨hk, hk.2⟩ : _ ∧ k_ ≠ gb533))) gb533 (fun _ hk => hk.2) (.int .i64 t526) (.int .i64 t527) (.string t528) (.string t529) (.slice Ao50 t530.length co50)) (fun _ h_ => h_.1)))) k_ hk_), (Kd.fresh' (Kd.N_lt (by (with_reducible repeat (first | apply Kd.N_alloc | apply Kd.N_drewN | apply Kd.N_drew)); exact (Kd.N_mono (zNF5 (Kd.N_mono HO532.out (fun k_ hk => (⟨hk, hk.2⟩ : _ ∧ k_ ≠ gb533))) gb533 (fun _ hk => hk.2) (.int .i64 t526) (.int .i64 t527) (.string t528) (.string t529) (.slice Ao50 t530.length co50)) (fun _ h_ => h_.1)))) k_ hk_), (Kd.freshB (g := gb509) (o := .cells #[.int .i64 t502, .int .i64 t503, .string t504, .string t505, .slice Ao33 t506.length co33] 26 (0, 0)) (by refine zB ?_; refine zr5 ?_ NB509_533.out; exact zB BK509.out) k_ hk_), (Kd.freshB (g := gb524) (o := .cells #[.int .i64 t510, .int .i64 t511, .string t512, .string t513, .slice Ao40 t514.length co40] 26 (0, 0)) (by refine zB ?_; refine zr5 ?_ NB524_533.out; exact zB BK524.out) k_ hk_), (Kd.freshB (g := gb525) (o := .cells #[.int .i64 t517, .int .i64 t518, .string t519, .string t520, .slice Ao43 t521.length co43] 26 (0, 0)) (by refine zB ?_; refine zr5 ?_ NB525_533.out; exact zB BK525.out) k_ hk_), (Kd.freshB (g := gb533) (o := .cells #[.int .i64 t526, .int .i64 t527, .string t528, .string t529, .slice Ao50 t530.length co50] 26 (0, 0)) (by refine zB ?_; refine zp5 (cs := #[.int .i64 0, .int .i64 0, .string (⟨#[]⟩ : ByteArray), .string (⟨#[]⟩ : ByteArray), .slice none 0 0]) ?_; exact zB BK533.out) k_ hk_)⟩)) (below_size (zL4 HB.out GE509.out GE524.out GE525.out GE533.out))); replace HO508 := Aside0.mk (Kd.N_elder' (by (with_reducible repeat (first | apply Kd.N_alloc | apply Kd.N_drewN | apply Kd.N_drew)); exact (Kd.N_mono (zNF5 (Kd.N_mono HO508.out (fun k_ hk => (⟨hk, hk.2⟩ : _ ∧ k_ ≠ gb533))) gb533 (fun _ hk => hk.2) (.int .i64 t526) (.int .i64 t527) (.string t528) (.string t529) (.slice Ao50 t530.length co50)) (fun _ h_ => h_.1))) (by first | exact Kd.N_base ho0 | exact Kd.R_base ho0) hb); replace HO516 := Aside0.mk (Kd.N_elder' (by (with_reducible repeat (first | apply Kd.N_alloc | apply Kd.N_drewN | apply Kd.N_drew)); exact (Kd.N_mono (zNF5 (Kd.N_mono HO516.out (fun k_ hk => (⟨hk, hk.2⟩ : _ ∧ k_ ≠ gb533))) gb533 (fun _ hk => hk.2) (.int .i64 t526) (.int .i64 t527) (.string t528) (.string t529) (.slice Ao50 t530.length co50)) (fun _ h_ => h_.1))) (by first | exact Kd.N_base ho0 | exact Kd.R_base ho0) hb); replace HO523 := Aside0.mk (Kd.N_elder' (by (with_reducible repeat (first | apply Kd.N_alloc | apply Kd.N_drewN | apply Kd.N_drew)); exact (Kd.N_mono (zNF5 (Kd.N_mono HO523.out (fun k_ hk => (⟨hk, hk.2⟩ : _ ∧ k_ ≠ gb533))) gb533 (fun _ hk => hk.2) (.int .i64 t526) (.int .i64 t527) (.string t528) (.string t529) (.slice Ao50 t530.length co50)) (fun _ h_ => h_.1))) (by first | exact Kd.N_base ho0 | exact Kd.R_base ho0) hb); replace HO532 := Aside0.mk (Kd.N_elder' (by (with_reducible repeat (first | apply Kd.N_alloc | apply Kd.N_drewN | apply Kd.N_drew)); exact (Kd.N_mono (zNF5 (Kd.N_mono HO532.out (fun k_ hk => (⟨hk, hk.2⟩ : _ ∧ k_ ≠ gb533))) gb533 (fun _ hk => hk.2) (.int .i64 t526) (.int .i64 t527) (.string t528) (.string t529) (.slice Ao50 t530.length co50)) (fun _ h_ => h_.1))) (by first | exact Kd.N_base ho0 | exact Kd.R_base ho0) hb); replace BK509 := Aside0.mk (bB (g := gb509) (o := .cells #[.int .i64 t502, .int .i64 t503, .string t504, .string t505, .slice Ao33 t506.length co33] 26 (0, 0)) (by refine zB ?_; refine zr5 ?_ NB509_533.out; exact zB BK509.out) hb); replace BK524 := Aside0.mk (bB (g := gb524) (o := .cells #[.int .i64 t510, .int .i64 t511, .string t512, .string t513, .slice Ao40 t514.length co40] 26 (0, 0)) (by refine zB ?_; refine zr5 ?_ NB524_533.out; exact zB BK524.out) hb); replace BK525 := Aside0.mk (bB (g := gb525) (o := .cells #[.int .i64 t517, .int .i64 t518, .string t519, .string t520, .slice Ao43 t521.length co43] 26 (0, 0)) (by refine zB ?_; refine zr5 ?_ NB525_533.out; exact zB BK525.out) hb); replace BK533 := Aside0.mk (bB (g := gb533) (o := .cells #[.int .i64 t526, .int .i64 t527, .string t528, .string t529, .slice Ao50 t530.length co50] 26 (0, 0)) (by refine zB ?_; refine zp5 (cs := #[.int .i64 0, .int .i64 0, .string (⟨#[]⟩ : ByteArray), .string (⟨#[]⟩ : ByteArray), .slice none 0 0]) ?_; exact zB BK533.out) hb); replace HB := zLB (zL4 HB.out GE509.out GE524.out GE525.out GE533.out) hb; clear ho0 hb) | ((with_reducible refine gD 7 rfl ?_); refine bE 7 #[.int .i64 0, .int .i64 0, .string (⟨#[]⟩ : ByteArray), .string (⟨#[]⟩ : ByteArray), .slice none 0 0] 26 ?_; intro gb541 hg w52 hbox hb; replace HO508 := Aside0.mk (Kd.N_below (Kd.N_elderB (zX HO508.out) gb541 (Nat.le_of_eq hg.symm)) hb); replace HO516 := Aside0.mk (Kd.N_below (Kd.N_elderB (zX HO516.out) gb541 (Nat.le_of_eq hg.symm)) hb); replace HO523 := Aside0.mk (Kd.N_below (Kd.N_elderB (zX HO523.out) gb541 (Nat.le_of_eq hg.symm)) hb); replace HO532 := Aside0.mk (Kd.N_below (Kd.N_elderB (zX HO532.out) gb541 (Nat.le_of_eq hg.symm)) hb); replace HO540 := Aside0.mk (Kd.N_below (Kd.N_elderB (zX HO540.out) gb541 (Nat.le_of_eq hg.symm)) hb); have BK541 := Aside0.mk hbox; have GW541 := Aside0.mk (zg (zL4 HB.out GE509.out GE524.out GE525.out GE533.out) hg : w.heap.size ≤ gb541); have GE541 := GW541; replace HB := zLB (zL4 HB.out GE509.out GE524.out GE525.out GE533.out) hb; have NB509_541 := Aside0.mk (zN BK509.out hg : gb509 ≠ gb541); have NB541_509 := Aside0.mk (zM BK509.out hg : gb541 ≠ gb509); replace BK509 := zBB BK509 hb; have NB524_541 := Aside0.mk (zN BK524.out hg : gb524 ≠ gb541); have NB541_524 := Aside0.mk (zM BK524.out hg : gb541 ≠ gb524); replace BK524 := zBB BK524 hb; have NB525_541 := Aside0.mk (zN BK525.out hg : gb525 ≠ gb541); have NB541_525 := Aside0.mk (zM BK525.out hg : gb541 ≠ gb525); replace BK525 := zBB BK525 hb; have NB533_541 := Aside0.mk (zN BK533.out hg : gb533 ≠ gb541); have NB541_533 := Aside0.mk (zM BK533.out hg : gb541 ≠ gb533); replace BK533 := zBB BK533 hb; clear hb hbox hg; have hnb53 := NB541_509.out; have hnc53 := NB509_541.out; have hnb54 := NB541_524.out; have hnc54 := NB524_541.out; have hnb55 := NB541_525.out; have hnc55 := NB525_541.out; have hnb56 := NB541_533.out; have hnc56 := NB533_541.out; have hcz57 := zc5 BK541.out; have hfz57 := zf5 BK541.out; obtain ⟨Ao58, co58, eo58⟩ := Kd.N_slice HO540.out; subst eo58) | ((with_reducible refine gC 10 rfl ?_); refine gL 23 Tryd.func10 #[.slice A0 l0.length c0] ?_; (with_reducible refine (spec_DrawPolText.calls k _ _ l0 t542 t543 t544 t545 t546 _ ?side1 ?side2 A8.out).mono ?_); (case side1 => exact Kd.C_below HR0.out (zL5 HB.out GE509.out GE524.out GE525.out GE533.out GE541.out)); (case side2 => exact HC0.out); rintro e w59 ⟨v547, rfl, ho0, hb⟩; refine ⟨_, rfl, ?_⟩; have HO548 := Aside0.mk (Kd.N_lower (Kd.N_mono (ok' := fun k_ => some k_ ≠ (.slice Ao33 t506.length co33 : Value).ownBlock ∧ some k_ ≠ (.slice Ao40 t514.length co40 : Value).ownBlock ∧ some k_ ≠ (.slice Ao43 t521.length co43 : Value).ownBlock ∧ some k_ ≠ (.slice Ao50 t530.length co50 : Value).ownBlock ∧ some k_ ≠ (.slice Ao58 t538.length co58 : Value).ownBlock ∧ k_ ≠ gb509 ∧ k_ ≠ gb524 ∧ k_ ≠ gb525 ∧ k_ ≠ gb533 ∧ k_ ≠ gb541) ho0 (fun k_ hk_ => ⟨(Kd.fresh' (Kd.N_lt (by (with_reducible repeat (first | apply Kd.N_alloc | apply Kd.N_drewN | apply Kd.N_drew)); exact (Kd.N_mono (zNF5 (Kd.N_mono HO508.out (fun k_ hk => (⟨hk, hk.2⟩ : _ ∧ k_ ≠ gb541))) gb541 (fun _ hk => hk.2) (.int .i64 t534) (.int .i64 t535) (.string t536) (.string t537) (.slice Ao58 t538.length co58)) (fun _ h_ => h_.1)))) k_ hk_), (Kd.fresh' (Kd.N_lt (by (with_reducible repeat (first | apply Kd.N_alloc | apply Kd.N_drewN | apply Kd.N_drew)); exact (Kd.N_mono (zNF5 (Kd.N_mono HO516.out (fun k_ hk => (⟨hk, hk.2⟩ : _ ∧ k_ ≠ gb541))) gb541 (fun _ hk => hk.2) (.int .i64 t534) (.int .i64 t535) (.string t536) (.string t537) (.slice Ao58 t538.length co58)) (fun _ h_ => h_.1)))) k_ hk_), (Kd.fresh' (Kd.N_lt (by (with_reducible repeat (first | apply Kd.N_alloc | apply Kd.N_drewN | apply Kd.N_drew)); exact (Kd.N_mono (zNF5 (Kd.N_mono HO523.out (fun k_ hk => (⟨hk, hk.2⟩ : _ ∧ k_ ≠ gb541))) gb541 (fun _ hk => hk.2) (.int .i64 t534) (.int .i64 t535) (.string t536) (.string t537) (.slice Ao58 t538.length co58)) (fun _ h_ => h_.1)))) k_ hk_), (Kd.fresh' (Kd.N_lt (by (with_reducible repeat (first | apply Kd.N_alloc | apply Kd.N_drewN | apply Kd.N_drew)); exact (Kd.N_mono (zNF5 (Kd.N_mono HO532.out (fun k_ hk => (⟨hk, hk.2⟩ : _ ∧ k_ ≠ gb541))) gb541 (fun _ hk => hk.2) (.int .i64 t534) (.int .i64 t535) (.string t536) (.string t537) (.slice Ao58 t538.length co58)) (fun _ h_ => h_.1)))) k_ hk_), (Kd.fresh' (Kd.N_lt (by (with_reducible repeat (first | apply Kd.N_alloc | apply Kd.N_drewN | apply Kd.N_drew)); exact (Kd.N_mono (zNF5 (Kd.N_mono HO540.out (fun k_ hk => (⟨hk, hk.2⟩ : _ ∧ k_ ≠ gb541))) gb541 (fun _ hk => hk.2) (.int .i64 t534) (.int .i64 t535) (.string t536) (.string t537) (.slice Ao58 t538.length co58)) (fun _ h_ => h_.1)))) k_ hk_), (Kd.freshB (g := gb509) (o := .cells #[.int .i64 t502, .int .i64 t503, .string t504, .string t505, .slice Ao33 t506.length co33] 26 (0, 0)) (by refine zB ?_; refine zr5 ?_ NB509_541.out; exact zB BK509.out) k_ hk_), (Kd.freshB (g := gb524) (o := .cells #[.int .i64 t510, .int .i64 t511, .string t512, .string t513, .slice Ao40 t514.length co40] 26 (0, 0)) (by refine zB ?_; refine zr5 ?_ NB524_541.out; exact zB BK524.out) k_ hk_), (Kd.freshB (g := gb525) (o := .cells #[.int .i64 t517, .int .i64 t518, .string t519, .string t520, .slice Ao43 t521.length co43] 26 (0, 0)) (by refine zB ?_; refine zr5 ?_ NB525_541.out; exact zB BK525.out) k_ hk_), (Kd.freshB (g := gb533) (o := .cells #[.int .i64 t526, .int .i64 t527, .string t528, .string t529, .slice Ao50 t530.length co50] 26 (0, 0)) (by refine zB ?_; refine zr5 ?_ NB533_541.out; exact zB BK533.out) k_ hk_), (Kd.freshB (g := gb541) (o := .cells #[.int .i64 t534, .int .i64 t535, .string t536, .string t537, .slice Ao58 t538.length co58] 26 (0, 0)) (by refine zB ?_; refine zp5 (cs := #[.int .i64 0, .int .i64 0, .string (⟨#[]⟩ : ByteArray), .string (⟨#[]⟩ : ByteArray), .slice none 0 0]) ?_; exact zB BK541.out) k_ hk_)⟩)) (below_size (zL5 HB.out GE509.out GE524.out GE525.out GE533.out GE541.out))); replace HO508 := Aside0.mk (Kd.N_elder' (by (with_reducible repeat (first | apply Kd.N_alloc | apply Kd.N_drewN | apply Kd.N_drew)); exact (Kd.N_mono (zNF5 (Kd.N_mono HO508.out (fun k_ hk => (⟨hk, hk.2⟩ : _ ∧ k_ ≠ gb541))) gb541 (fun _ hk => hk.2) (.int .i64 t534) (.int .i64 t535) (.string t536) (.string t537) (.slice Ao58 t538.length co58)) (fun _ h_ => h_.1))) (by first | exact Kd.N_base ho0 | exact Kd.R_base ho0) hb); replace HO516 := Aside0.mk (Kd.N_elder' (by (with_reducible repeat (first | apply Kd.N_alloc | apply Kd.N_drewN | apply Kd.N_drew)); exact (Kd.N_mono (zNF5 (Kd.N_mono HO516.out (fun k_ hk => (⟨hk, hk.2⟩ : _ ∧ k_ ≠ gb541))) gb541 (fun _ hk => hk.2) (.int .i64 t534) (.int .i64 t535) (.string t536) (.string t537) (.slice Ao58 t538.length co58)) (fun _ h_ => h_.1))) (by first | exact Kd.N_base ho0 | exact Kd.R_base ho0) hb); replace HO523 := Aside0.mk (Kd.N_elder' (by (with_reducible repeat (first | apply Kd.N_alloc | apply Kd.N_drewN | apply Kd.N_drew)); exact (Kd.N_mono (zNF5 (Kd.N_mono HO523.out (fun k_ hk => (⟨hk, hk.2⟩ : _ ∧ k_ ≠ gb541))) gb541 (fun _ hk => hk.2) (.int .i64 t534) (.int .i64 t535) (.string t536) (.string t537) (.slice Ao58 t538.length co58)) (fun _ h_ => h_.1))) (by first | exact Kd.N_base ho0 | exact Kd.R_base ho0) hb); replace HO532 := Aside0.mk (Kd.N_elder' (by (with_reducible repeat (first | apply Kd.N_alloc | apply Kd.N_drewN | apply Kd.N_drew)); exact (Kd.N_mono (zNF5 (Kd.N_mono HO532.out (fun k_ hk => (⟨hk, hk.2⟩ : _ ∧ k_ ≠ gb541))) gb541 (fun _ hk => hk.2) (.int .i64 t534) (.int .i64 t535) (.string t536) (.string t537) (.slice Ao58 t538.length co58)) (fun _ h_ => h_.1))) (by first | exact Kd.N_base ho0 | exact Kd.R_base ho0) hb); replace HO540 := Aside0.mk (Kd.N_elder' (by (with_reducible repeat (first | apply Kd.N_alloc | apply Kd.N_drewN | apply Kd.N_drew)); exact (Kd.N_mono (zNF5 (Kd.N_mono HO540.out (fun k_ hk => (⟨hk, hk.2⟩ : _ ∧ k_ ≠ gb541))) gb541 (fun _ hk => hk.2) (.int .i64 t534) (.int .i64 t535) (.string t536) (.string t537) (.slice Ao58 t538.length co58)) (fun _ h_ => h_.1))) (by first | exact Kd.N_base ho0 | exact Kd.R_base ho0) hb); replace BK509 := Aside0.mk (bB (g := gb509) (o := .cells #[.int .i64 t502, .int .i64 t503, .string t504, .string t505, .slice Ao33 t506.length co33] 26 (0, 0)) (by refine zB ?_; refine zr5 ?_ NB509_541.out; exact zB BK509.out) hb); replace BK524 := Aside0.mk (bB (g := gb524) (o := .cells #[.int .i64 t510, .int .i64 t511, .string t512, .string t513, .slice Ao40 t514.length co40] 26 (0, 0)) (by refine zB ?_; refine zr5 ?_ NB524_541.out; exact zB BK524.out) hb); replace BK525 := Aside0.mk (bB (g := gb525) (o := .cells #[.int .i64 t517, .int .i64 t518, .string t519, .string t520, .slice Ao43 t521.length co43] 26 (0, 0)) (by refine zB ?_; refine zr5 ?_ NB525_541.out; exact zB BK525.out) hb); replace BK533 := Aside0.mk (bB (g := gb533) (o := .cells #[.int .i64 t526, .int .i64 t527, .string t528, .string t529, .slice Ao50 t530.length co50] 26 (0, 0)) (by refine zB ?_; refine zr5 ?_ NB533_541.out; exact zB BK533.out) hb); replace BK541 := Aside0.mk (bB (g := gb541) (o := .cells #[.int .i64 t534, .int .i64 t535, .string t536, .string t537, .slice Ao58 t538.length co58] 26 (0, 0)) (by refine zB ?_; refine zp5 (cs := #[.int .i64 0, .int .i64 0, .string (⟨#[]⟩ : ByteArray), .string (⟨#[]⟩ : ByteArray), .slice none 0 0]) ?_; exact zB BK541.out) hb); replace HB := zLB (zL5 HB.out GE509.out GE524.out GE525.out GE533.out GE541.out) hb; clear ho0 hb) | ((with_reducible refine gD 8 rfl ?_); refine bE 8 #[.int .i64 0, .int .i64 0, .string (⟨#[]⟩ : ByteArray), .string (⟨#[]⟩ : ByteArray), .slice none 0 0] 26 ?_; intro gb549 hg w60 hbox hb; replace HO508 := Aside0.mk (Kd.N_below (Kd.N_elderB (zX HO508.out) gb549 (Nat.le_of_eq hg.symm)) hb); replace HO516 := Aside0.mk (Kd.N_below (Kd.N_elderB (zX HO516.out) gb549 (Nat.le_of_eq hg.symm)) hb); replace HO523 := Aside0.mk (Kd.N_below (Kd.N_elderB (zX HO523.out) gb549 (Nat.le_of_eq hg.symm)) hb); replace HO532 := Aside0.mk (Kd.N_below (Kd.N_elderB (zX HO532.out) gb549 (Nat.le_of_eq hg.symm)) hb); replace HO540 := Aside0.mk (Kd.N_below (Kd.N_elderB (zX HO540.out) gb549 (Nat.le_of_eq hg.symm)) hb); replace HO548 := Aside0.mk (Kd.N_below (Kd.N_elderB (zX HO548.out) gb549 (Nat.le_of_eq hg.symm)) hb); have BK549 := Aside0.mk hbox; have GW549 := Aside0.mk (zg (zL5 HB.out GE509.out GE524.out GE525.out GE533.out GE541.out) hg : w.heap.size ≤ gb549); have GE549 := GW549; replace HB := zLB (zL5 HB.out GE509.out GE524.out GE525.out GE533.out GE541.out) hb; have NB509_549 := Aside0.mk (zN BK509.out hg : gb509 ≠ gb549); have NB549_509 := Aside0.mk (zM BK509.out hg : gb549 ≠ gb509); replace BK509 := zBB BK509 hb; have NB524_549 := Aside0.mk (zN BK524.out hg : gb524 ≠ gb549); have NB549_524 := Aside0.mk (zM BK524.out hg : gb549 ≠ gb524); replace BK524 := zBB BK524 hb; have NB525_549 := Aside0.mk (zN BK525.out hg : gb525 ≠ gb549); have NB549_525 := Aside0.mk (zM BK525.out hg : gb549 ≠ gb525); replace BK525 := zBB BK525 hb; have NB533_549 := Aside0.mk (zN BK533.out hg : gb533 ≠ gb549); have NB549_533 := Aside0.mk (zM BK533.out hg : gb549 ≠ gb533); replace BK533 := zBB BK533 hb; have NB541_549 := Aside0.mk (zN BK541.out hg : gb541 ≠ gb549); have NB549_541 := Aside0.mk (zM BK541.out hg : gb549 ≠ gb541); replace BK541 := zBB BK541 hb; clear hb hbox hg; have hnb61 := NB549_509.out; have hnc61 := NB509_549.out; have hnb62 := NB549_524.out; have hnc62 := NB524_549.out; have hnb63 := NB549_525.out; have hnc63 := NB525_549.out; have hnb64 := NB549_533.out; have hnc64 := NB533_549.out; have hnb65 := NB549_541.out; have hnc65 := NB541_549.out; have hcz66 := zc5 BK549.out; have hfz66 := zf5 BK549.out; obtain ⟨Ao67, co67, eo67⟩ := Kd.N_slice HO548.out; subst eo67))
         have n0_ : Aside0 (Kd.N k26 26 (((((w60.setCell ⟨gb549, 0, none⟩ (.int .i64 t542)).setCell ⟨gb549, 1, none⟩ (.int .i64 t543)).setCell ⟨gb549, 2, none⟩ (.string t544)).setCell ⟨gb549, 3, none⟩ (.string t545)).setCell ⟨gb549, 4, none⟩ (.slice Ao67 t546.length co67)) w.heap.size (fun k_ => some k_ ≠ (.slice Ao40 t514.length co40 : Value).ownBlock ∧ some k_ ≠ (.slice Ao43 t521.length co43 : Value).ownBlock ∧ some k_ ≠ (.slice Ao50 t530.length co50 : Value).ownBlock ∧ some k_ ≠ (.slice Ao58 t538.length co58 : Value).ownBlock ∧ some k_ ≠ (.slice Ao67 t546.length co67 : Value).ownBlock ∧ k_ ≠ gb509 ∧ k_ ≠ gb524 ∧ k_ ≠ gb525 ∧ k_ ≠ gb533 ∧ k_ ≠ gb541 ∧ k_ ≠ gb549) (.slice Ao33 t506.length co33) t506) := ⟨by (with_reducible repeat (first | apply Kd.N_alloc | apply Kd.N_drewN | apply Kd.N_drew)); exact Kd.N_mono (zNF5 (Kd.N_mono HO508.out (fun k_ hk => (⟨hk, hk.2⟩ : _ ∧ k_ ≠ gb549))) gb549 (fun _ hk => hk.2) (.int .i64 t542) (.int .i64 t543) (.string t544) (.string t545) (.slice Ao67 t546.length co67)) (fun _ hk => ⟨hk.1.1.1.1.1.1.1.1.1.1.2, ⟨hk.1.1.1.1.1.1.1.1.1.2, ⟨hk.1.1.1.1.1.1.2, ⟨hk.1.1.1.1.2, ⟨hk.1.1.2, ⟨hk.1.1.1.1.1.1.1.1.1.1.1.2, ⟨hk.1.1.1.1.1.1.1.1.2, ⟨hk.1.1.1.1.1.1.1.2, ⟨hk.1.1.1.1.1.2, ⟨hk.1.1.1.2, hk.1.2⟩⟩⟩⟩⟩⟩⟩⟩⟩⟩)⟩
         have n1_ : Aside0 (Kd.N k26 26 (((((w60.setCell ⟨gb549, 0, none⟩ (.int .i64 t542)).setCell ⟨gb549, 1, none⟩ (.int .i64 t543)).setCell ⟨gb549, 2, none⟩ (.string t544)).setCell ⟨gb549, 3, none⟩ (.string t545)).setCell ⟨gb549, 4, none⟩ (.slice Ao67 t546.length co67)) w.heap.size (fun k_ => some k_ ≠ (.slice Ao33 t506.length co33 : Value).ownBlock ∧ some k_ ≠ (.slice Ao43 t521.length co43 : Value).ownBlock ∧ some k_ ≠ (.slice Ao50 t530.length co50 : Value).ownBlock ∧ some k_ ≠ (.slice Ao58 t538.length co58 : Value).ownBlock ∧ some k_ ≠ (.slice Ao67 t546.length co67 : Value).ownBlock ∧ k_ ≠ gb509 ∧ k_ ≠ gb524 ∧ k_ ≠ gb525 ∧ k_ ≠ gb533 ∧ k_ ≠ gb541 ∧ k_ ≠ gb549) (.slice Ao40 t514.length co40) t514) := ⟨by (with_reducible repeat (first | apply Kd.N_alloc | apply Kd.N_drewN | apply Kd.N_drew)); exact Kd.N_mono (zNF5 (Kd.N_mono HO516.out (fun k_ hk => (⟨hk, hk.2⟩ : _ ∧ k_ ≠ gb549))) gb549 (fun _ hk => hk.2) (.int .i64 t542) (.int .i64 t543) (.string t544) (.string t545) (.slice Ao67 t546.length co67)) (fun _ hk => ⟨hk.1.1.1.1.1.1.1.1.1.2.1, ⟨hk.1.1.1.1.1.1.1.1.1.1, ⟨hk.1.1.1.1.1.1.2, ⟨hk.1.1.1.1.2, ⟨hk.1.1.2, ⟨hk.1.1.1.1.1.1.1.1.1.2.2, ⟨hk.1.1.1.1.1.1.1.1.2, ⟨hk.1.1.1.1.1.1.1.2, ⟨hk.1.1.1.1.1.2, ⟨hk.1.1.1.2, hk.1.2⟩⟩⟩⟩⟩⟩⟩⟩⟩⟩)⟩
         have n2_ : Aside0 (Kd.N k26 26 (((((w60.setCell ⟨gb549, 0, none⟩ (.int .i64 t542)).setCell ⟨gb549, 1, none⟩ (.int .i64 t543)).setCell ⟨gb549, 2, none⟩ (.string t544)).setCell ⟨gb549, 3, none⟩ (.string t545)).setCell ⟨gb549, 4, none⟩ (.slice Ao67 t546.length co67)) w.heap.size (fun k_ => some k_ ≠ (.slice Ao33 t506.length co33 : Value).ownBlock ∧ some k_ ≠ (.slice Ao40 t514.length co40 : Value).ownBlock ∧ some k_ ≠ (.slice Ao50 t530.length co50 : Value).ownBlock ∧ some k_ ≠ (.slice Ao58 t538.length co58 : Value).ownBlock ∧ some k_ ≠ (.slice Ao67 t546.length co67 : Value).ownBlock ∧ k_ ≠ gb509 ∧ k_ ≠ gb524 ∧ k_ ≠ gb525 ∧ k_ ≠ gb533 ∧ k_ ≠ gb541 ∧ k_ ≠ gb549) (.slice Ao43 t521.length co43) t521) := ⟨by (with_reducible repeat (first | apply Kd.N_alloc | apply Kd.N_drewN | apply Kd.N_drew)); exact Kd.N_mono (zNF5 (Kd.N_mono HO523.out (fun k_ hk => (⟨hk, hk.2⟩ : _ ∧ k_ ≠ gb549))) gb549 (fun _ hk => hk.2) (.int .i64 t542) (.int .i64 t543) (.string t544) (.string t545) (.slice Ao67 t546.length co67)) (fun _ hk => ⟨hk.1.1.1.1.1.1.1.1.1.2.1, ⟨hk.1.1.1.1.1.1.1.1.1.1, ⟨hk.1.1.1.1.1.1.2, ⟨hk.1.1.1.1.2, ⟨hk.1.1.2, ⟨hk.1.1.1.1.1.1.1.1.1.2.2, ⟨hk.1.1.1.1.1.1.1.1.2, ⟨hk.1.1.1.1.1.1.1.2, ⟨hk.1.1.1.1.1.2, ⟨hk.1.1.1.2, hk.1.2⟩⟩⟩⟩⟩⟩⟩⟩⟩⟩)⟩
         have n3_ : Aside0 (Kd.N k26 26 (((((w60.setCell ⟨gb549, 0, none⟩ (.int .i64 t542)).setCell ⟨gb549, 1, none⟩ (.int .i64 t543)).setCell ⟨gb549, 2, none⟩ (.string t544)).setCell ⟨gb549, 3, none⟩ (.string t545)).setCell ⟨gb549, 4, none⟩ (.slice Ao67 t546.length co67)) w.heap.size (fun k_ => some k_ ≠ (.slice Ao33 t506.length co33 : Value).ownBlock ∧ some k_ ≠ (.slice Ao40 t514.length co40 : Value).ownBlock ∧ some k_ ≠ (.slice Ao43 t521.length co43 : Value).ownBlock ∧ some k_ ≠ (.slice Ao58 t538.length co58 : Value).ownBlock ∧ some k_ ≠ (.slice Ao67 t546.length co67 : Value).ownBlock ∧ k_ ≠ gb509 ∧ k_ ≠ gb524 ∧ k_ ≠ gb525 ∧ k_ ≠ gb533 ∧ k_ ≠ gb541 ∧ k_ ≠ gb549) (.slice Ao50 t530.length co50) t530) := ⟨by (with_reducible repeat (first | apply Kd.N_alloc | apply Kd.N_drewN | apply Kd.N_drew)); exact Kd.N_mono (zNF5 (Kd.N_mono HO532.out (fun k_ hk => (⟨hk, hk.2⟩ : _ ∧ k_ ≠ gb549))) gb549 (fun _ hk => hk.2) (.int .i64 t542) (.int .i64 t543) (.string t544) (.string t545) (.slice Ao67 t546.length co67)) (fun _ hk => ⟨hk.1.1.1.1.1.1.1, ⟨hk.1.1.1.1.1.1.2.1, ⟨hk.1.1.1.1.1.1.2.2.1, ⟨hk.1.1.1.1.2, ⟨hk.1.1.2, ⟨hk.1.1.1.1.1.1.2.2.2.1, ⟨hk.1.1.1.1.1.1.2.2.2.2.1, ⟨hk.1.1.1.1.1.1.2.2.2.2.2, ⟨hk.1.1.1.1.1.2, ⟨hk.1.1.1.2, hk.1.2⟩⟩⟩⟩⟩⟩⟩⟩⟩⟩)⟩
         have n4_ : Aside0 (Kd.N k26 26 (((((w60.setCell ⟨gb549, 0, none⟩ (.int .i64 t542)).setCell ⟨gb549, 1, none⟩ (.int .i64 t543)).setCell ⟨gb549, 2, none⟩ (.string t544)).setCell ⟨gb549, 3, none⟩ (.string t545)).setCell ⟨gb549, 4, none⟩ (.slice Ao67 t546.length co67)) w.heap.size (fun k_ => some k_ ≠ (.slice Ao33 t506.length co33 : Value).ownBlock ∧ some k_ ≠ (.slice Ao40 t514.length co40 : Value).ownBlock ∧ some k_ ≠ (.slice Ao43 t521.length co43 : Value).ownBlock ∧ some k_ ≠ (.slice Ao50 t530.length co50 : Value).ownBlock ∧ some k_ ≠ (.slice Ao67 t546.length co67 : Value).ownBlock ∧ k_ ≠ gb509 ∧ k_ ≠ gb524 ∧ k_ ≠ gb525 ∧ k_ ≠ gb533 ∧ k_ ≠ gb541 ∧ k_ ≠ gb549) (.slice Ao58 t538.length co58) t538) := ⟨by (with_reducible repeat (first | apply Kd.N_alloc | apply Kd.N_drewN | apply Kd.N_drew)); exact Kd.N_mono (zNF5 (Kd.N_mono HO540.out (fun k_ hk => (⟨hk, hk.2⟩ : _ ∧ k_ ≠ gb549))) gb549 (fun _ hk => hk.2) (.int .i64 t542) (.int .i64 t543) (.string t544) (.string t545) (.slice Ao67 t546.length co67)) (fun _ hk => ⟨hk.1.1.1.1.1, ⟨hk.1.1.1.1.2.1, ⟨hk.1.1.1.1.2.2.1, ⟨hk.1.1.1.1.2.2.2.1, ⟨hk.1.1.2, ⟨hk.1.1.1.1.2.2.2.2.1, ⟨hk.1.1.1.1.2.2.2.2.2.1, ⟨hk.1.1.1.1.2.2.2.2.2.2.1, ⟨hk.1.1.1.1.2.2.2.2.2.2.2, ⟨hk.1.1.1.2, hk.1.2⟩⟩⟩⟩⟩⟩⟩⟩⟩⟩)⟩
         have n5_ : Aside0 (Kd.N k26 26 (((((w60.setCell ⟨gb549, 0, none⟩ (.int .i64 t542)).setCell ⟨gb549, 1, none⟩ (.int .i64 t543)).setCell ⟨gb549, 2, none⟩ (.string t544)).setCell ⟨gb549, 3, none⟩ (.string t545)).setCell ⟨gb549, 4, none⟩ (.slice Ao67 t546.length co67)) w.heap.size (fun k_ => some k_ ≠ (.slice Ao33 t506.length co33 : Value).ownBlock ∧ some k_ ≠ (.slice Ao40 t514.length co40 : Value).ownBlock ∧ some k_ ≠ (.slice Ao43 t521.length co43 : Value).ownBlock ∧ some k_ ≠ (.slice Ao50 t530.length co50 : Value).ownBlock ∧ some k_ ≠ (.slice Ao58 t538.length co58 : Value).ownBlock ∧ k_ ≠ gb509 ∧ k_ ≠ gb524 ∧ k_ ≠ gb525 ∧ k_ ≠ gb533 ∧ k_ ≠ gb541 ∧ k_ ≠ gb549) (.slice Ao67 t546.length co67) t546) := ⟨by (with_reducible repeat (first | apply Kd.N_alloc | apply Kd.N_drewN | apply Kd.N_drew)); exact Kd.N_mono (zNF5 (Kd.N_mono HO548.out (fun k_ hk => (⟨hk, hk.2⟩ : _ ∧ k_ ≠ gb549))) gb549 (fun _ hk => hk.2) (.int .i64 t542) (.int .i64 t543) (.string t544) (.string t545) (.slice Ao67 t546.length co67)) (fun _ hk => ⟨hk.1.1.1, ⟨hk.1.1.2.1, ⟨hk.1.1.2.2.1, ⟨hk.1.1.2.2.2.1, ⟨hk.1.1.2.2.2.2.1, ⟨hk.1.1.2.2.2.2.2.1, ⟨hk.1.1.2.2.2.2.2.2.1, ⟨hk.1.1.2.2.2.2.2.2.2.1, ⟨hk.1.1.2.2.2.2.2.2.2.2.1, ⟨hk.1.1.2.2.2.2.2.2.2.2.2, hk.1.2⟩⟩⟩⟩⟩⟩⟩⟩⟩⟩)⟩
         have n6_ : Aside0 ((((((w60.setCell ⟨gb549, 0, none⟩ (.int .i64 t542)).setCell ⟨gb549, 1, none⟩ (.int .i64 t543)).setCell ⟨gb549, 2, none⟩ (.string t544)).setCell ⟨gb549, 3, none⟩ (.string t545)).setCell ⟨gb549, 4, none⟩ (.slice Ao67 t546.length co67)).heap[gb509]? = some (.cells #[.int .i64 t502, .int .i64 t503, .string t504, .string t505, .slice Ao33 t506.length co33] 26 (0, 0))) := ⟨by refine zB ?_; refine zr5 ?_ NB509_549.out; exact zB BK509.out⟩
         have n7_ : Aside0 ((((((w60.setCell ⟨gb549, 0, none⟩ (.int .i64 t542)).setCell ⟨gb549, 1, none⟩ (.int .i64 t543)).setCell ⟨gb549, 2, none⟩ (.string t544)).setCell ⟨gb549, 3, none⟩ (.string t545)).setCell ⟨gb549, 4, none⟩ (.slice Ao67 t546.length co67)).heap[gb524]? = some (.cells #[.int .i64 t510, .int .i64 t511, .string t512, .string t513, .slice Ao40 t514.length co40] 26 (0, 0))) := ⟨by refine zB ?_; refine zr5 ?_ NB524_549.out; exact zB BK524.out⟩
         have n8_ : Aside0 ((((((w60.setCell ⟨gb549, 0, none⟩ (.int .i64 t542)).setCell ⟨gb549, 1, none⟩ (.int .i64 t543)).setCell ⟨gb549, 2, none⟩ (.string t544)).setCell ⟨gb549, 3, none⟩ (.string t545)).setCell ⟨gb549, 4, none⟩ (.slice Ao67 t546.length co67)).heap[gb525]? = some (.cells #[.int .i64 t517, .int .i64 t518, .string t519, .string t520, .slice Ao43 t521.length co43] 26 (0, 0))) := ⟨by refine zB ?_; refine zr5 ?_ NB525_549.out; exact zB BK525.out⟩
         have n9_ : Aside0 ((((((w60.setCell ⟨gb549, 0, none⟩ (.int .i64 t542)).setCell ⟨gb549, 1, none⟩ (.int .i64 t543)).setCell ⟨gb549, 2, none⟩ (.string t544)).setCell ⟨gb549, 3, none⟩ (.string t545)).setCell ⟨gb549, 4, none⟩ (.slice Ao67 t546.length co67)).heap[gb533]? = some (.cells #[.int .i64 t526, .int .i64 t527, .string t528, .string t529, .slice Ao50 t530.length co50] 26 (0, 0))) := ⟨by refine zB ?_; refine zr5 ?_ NB533_549.out; exact zB BK533.out⟩
         have n10_ : Aside0 ((((((w60.setCell ⟨gb549, 0, none⟩ (.int .i64 t542)).setCell ⟨gb549, 1, none⟩ (.int .i64 t543)).setCell ⟨gb549, 2, none⟩ (.string t544)).setCell ⟨gb549, 3, none⟩ (.string t545)).setCell ⟨gb549, 4, none⟩ (.slice Ao67 t546.length co67)).heap[gb541]? = some (.cells #[.int .i64 t534, .int .i64 t535, .string t536, .string t537, .slice Ao58 t538.length co58] 26 (0, 0))) := ⟨by refine zB ?_; refine zr5 ?_ NB541_549.out; exact zB BK541.out⟩
         have n11_ : Aside0 ((((((w60.setCell ⟨gb549, 0, none⟩ (.int .i64 t542)).setCell ⟨gb549, 1, none⟩ (.int .i64 t543)).setCell ⟨gb549, 2, none⟩ (.string t544)).setCell ⟨gb549, 3, none⟩ (.string t545)).setCell ⟨gb549, 4, none⟩ (.slice Ao67 t546.length co67)).heap[gb549]? = some (.cells #[.int .i64 t542, .int .i64 t543, .string t544, .string t545, .slice Ao67 t546.length co67] 26 (0, 0))) := ⟨by refine zB ?_; refine zp5 (cs := #[.int .i64 0, .int .i64 0, .string (⟨#[]⟩ : ByteArray), .string (⟨#[]⟩ : ByteArray), .slice none 0 0]) ?_; exact zB BK549.out⟩
         have n12_ : Aside0 (Below w.heap.size w (((((w60.setCell ⟨gb549, 0, none⟩ (.int .i64 t542)).setCell ⟨gb549, 1, none⟩ (.int .i64 t543)).setCell ⟨gb549, 2, none⟩ (.string t544)).setCell ⟨gb549, 3, none⟩ (.string t545)).setCell ⟨gb549, 4, none⟩ (.slice Ao67 t546.length co67))) := ⟨zL6 HB.out GE509.out GE524.out GE525.out GE533.out GE541.out GE549.out⟩
         (try clear HO508)
         (try clear HO516)
         (try clear HO523)
         (try clear HO532)
         (try clear HO540)
         (try clear HO548)
         (try clear BK509)
         (try clear BK524)
         (try clear BK525)
         (try clear BK533)
         (try clear BK541)
         (try clear BK549)
         (try clear HB)
         generalize (((((w60.setCell ⟨gb549, 0, none⟩ (.int .i64 t542)).setCell ⟨gb549, 1, none⟩ (.int .i64 t543)).setCell ⟨gb549, 2, none⟩ (.string t544)).setCell ⟨gb549, 3, none⟩ (.string t545)).setCell ⟨gb549, 4, none⟩ (.slice Ao67 t546.length co67)) = w68 at n0_ n1_ n2_ n3_ n4_ n5_ n6_ n7_ n8_ n9_ n10_ n11_ n12_ ⊢
         have HO508 := n0_
         have HO516 := n1_
         have HO523 := n2_
         have HO532 := n3_
         have HO540 := n4_
         have HO548 := n5_
         have BK509 := n6_
         have BK524 := n7_
         have BK525 := n8_
         have BK533 := n9_
         have BK541 := n10_
         have BK549 := n11_
         have HB := n12_
         clear n0_ n1_ n2_ n3_ n4_ n5_ n6_ n7_ n8_ n9_ n10_ n11_ n12_
         replace HO508 := zXD HO508; replace HO516 := zXD HO516; replace HO523 := zXD HO523; replace HO532 := zXD HO532; replace HO540 := zXD HO540; replace HO548 := zXD HO548; replace BK509 := zBD BK509; replace BK524 := zBD BK524; replace BK525 := zBD BK525; replace BK533 := zBD BK533; replace BK541 := zBD BK541; replace BK549 := zBD BK549; replace HB := zLD HB
         refine start_ (n := 54) (S := fun w' => zt5 w' gb509 (.int .i64 t502) (.int .i64 t503) (.string t504) (.string t505) (.slice Ao33 t506.length co33) (zt5 w' gb524 (.int .i64 t510) (.int .i64 t511) (.string t512) (.string t513) (.slice Ao40 t514.length co40) (zt5 w' gb525 (.int .i64 t517) (.int .i64 t518) (.string t519) (.string t520) (.slice Ao43 t521.length co43) (zt5 w' gb533 (.int .i64 t526) (.int .i64 t527) (.string t528) (.string t529) (.slice Ao50 t530.length co50) (zt5 w' gb541 (.int .i64 t534) (.int .i64 t535) (.string t536) (.string t537) (.slice Ao58 t538.length co58) (zs5 w' gb549 (.int .i64 t542) (.int .i64 t543) (.string t544) (.string t545) (.slice Ao67 t546.length co67))))))) (ds := []) (fB 54 0) (by kernel_rfl) rfl rfl (zk5 BK509.out (zk5 BK524.out (zk5 BK525.out (zk5 BK533.out (zk5 BK541.out (zc5 BK549.out)))))) (fun hHeld => ?_); refine with_tabW laws_FnPols.tab8 laws_FnPols.bits8 (fun HT_ HW_ => ?_)
         generalize w68.drew = w69 at HO508 HO516 HO523 HO532 HO540 HO548 BK509 BK524 BK525 BK533 BK541 BK549 HB hHeld ⊢
         refine tY 0 24 (fB 54 1) HT_.out HW_.out hHeld ?_
         refine tY 2 26 (fB 54 5) HT_.out HW_.out hHeld ?_
         refine oN 1 25 (fB 54 7) HT_.out fun K hK => ?_
         refine gS Tryd.func11 #[.agg #[.int .i64 t502, .int .i64 t503, .string t504, .string t505, .slice Ao33 t506.length co33]] ?_
         with_reducible refine (impl_PolOk.calls k t502 t503 t504 t505 _ _ t506 t550 _ ?side1 ?side2 A9.out).mono ?_
         (case side1 => exact zC (Kd.N_reads' HO508.out).2.2)
         (case side2 => exact (Kd.N_reads' HO508.out).2.1)
         rintro e w70 ⟨rfl, hb⟩
         refine ⟨_, rfl, ?_⟩
         replace HO508 := zXB HO508 hb; replace HO516 := zXB HO516 hb; replace HO523 := zXB HO523 hb; replace HO532 := zXB HO532 hb; replace HO540 := zXB HO540 hb; replace HO548 := zXB HO548 hb; replace BK509 := zBB BK509 hb; replace BK524 := zBB BK524 hb; replace BK525 := zBB BK525 hb; replace BK533 := zBB BK533 hb; replace BK541 := zBB BK541 hb; replace BK549 := zBB BK549 hb; replace HB := zLB (zL6 HB.out GE509.out GE524.out GE525.out GE533.out GE541.out GE549.out) hb
         clear hb
         refine hK.out _ _ (zk5 BK509.out (zk5 BK524.out (zk5 BK525.out (zk5 BK533.out (zk5 BK541.out (zc5 BK549.out)))))) fun hHeld => ?_; clear hK K
         refine nZ 25 ?_
         refine oN 3 27 (fB 54 15) HT_.out fun K hK => ?_
         refine gS Tryd.func12 #[.agg #[.int .i64 t502, .int .i64 t503, .string t504, .string t505, .slice Ao33 t506.length co33]] ?_
         with_reducible refine (spec_PolOk.calls k t502 t503 t504 t505 _ _ t506 t551 _ ?side1 ?side2 A10.out).mono ?_
         (case side1 => exact zC (Kd.N_reads' HO508.out).2.2)
         (case side2 => exact (Kd.N_reads' HO508.out).2.1)
         rintro e w71 ⟨rfl, hb⟩
         refine ⟨_, rfl, ?_⟩
         replace HO508 := zXB HO508 hb; replace HO516 := zXB HO516 hb; replace HO523 := zXB HO523 hb; replace HO532 := zXB HO532 hb; replace HO540 := zXB HO540 hb; replace HO548 := zXB HO548 hb; replace BK509 := zBB BK509 hb; replace BK524 := zBB BK524 hb; replace BK525 := zBB BK525 hb; replace BK533 := zBB BK533 hb; replace BK541 := zBB BK541 hb; replace BK549 := zBB BK549 hb; replace HB := zLB (zL6 HB.out GE509.out GE524.out GE525.out GE533.out GE541.out GE549.out) hb
         clear hb
         refine hK.out _ _ (zk5 BK509.out (zk5 BK524.out (zk5 BK525.out (zk5 BK533.out (zk5 BK541.out (zc5 BK549.out)))))) fun hHeld => ?_; clear hK K
         refine nZ 27 ?_
         refine pY 4 28 (fB 54 31) HT_.out ?_
         refine pY 5 29 (fB 54 63) HT_.out ?_
         refine tY 6 30 (fB 54 127) HT_.out HW_.out hHeld ?_
         refine tY 7 31 (fB 54 255) HT_.out HW_.out hHeld ?_
         refine tY 9 33 (fB 54 767) HT_.out HW_.out hHeld ?_
         refine tY 10 34 (fB 54 1791) HT_.out HW_.out hHeld ?_
         refine oN 8 32 (fB 54 2047) HT_.out fun K hK => ?_
         refine gS Tryd.func13 #[.agg #[.int .i64 t510, .int .i64 t511, .string t512, .string t513, .slice Ao40 t514.length co40], .agg #[.int .i64 t517, .int .i64 t518, .string t519, .string t520, .slice Ao43 t521.length co43]] ?_
         with_reducible refine (impl_SamePol.calls k t510 t511 t512 t513 _ _ t514 t517 t518 t519 t520 _ _ t521 t552 _ ?side1 ?side2 ?side3 ?side4 A12.out).mono ?_
         (case side1 => exact zC (Kd.N_reads' HO516.out).2.2)
         (case side2 => exact (Kd.N_reads' HO516.out).2.1)
         (case side3 => exact zC (Kd.N_reads' HO523.out).2.2)
         (case side4 => exact (Kd.N_reads' HO523.out).2.1)
         rintro e w72 ⟨rfl, hb⟩
         refine ⟨_, rfl, ?_⟩
         replace HO508 := zXB HO508 hb; replace HO516 := zXB HO516 hb; replace HO523 := zXB HO523 hb; replace HO532 := zXB HO532 hb; replace HO540 := zXB HO540 hb; replace HO548 := zXB HO548 hb; replace BK509 := zBB BK509 hb; replace BK524 := zBB BK524 hb; replace BK525 := zBB BK525 hb; replace BK533 := zBB BK533 hb; replace BK541 := zBB BK541 hb; replace BK549 := zBB BK549 hb; replace HB := zLB (zL6 HB.out GE509.out GE524.out GE525.out GE533.out GE541.out GE549.out) hb
         clear hb
         refine hK.out _ _ (zk5 BK509.out (zk5 BK524.out (zk5 BK525.out (zk5 BK533.out (zk5 BK541.out (zc5 BK549.out)))))) fun hHeld => ?_; clear hK K
         refine nZ 32 ?_
         refine oN 11 35 (fB 54 4095) HT_.out fun K hK => ?_
         refine gS Tryd.func14 #[.agg #[.int .i64 t510, .int .i64 t511, .string t512, .string t513, .slice Ao40 t514.length co40], .agg #[.int .i64 t517, .int .i64 t518, .string t519, .string t520, .slice Ao43 t521.length co43]] ?_
         with_reducible refine (spec_SamePol.calls k t510 t511 t512 t513 _ _ t514 t517 t518 t519 t520 _ _ t521 t553 _ ?side1 ?side2 ?side3 ?side4 A13.out).mono ?_
         (case side1 => exact zC (Kd.N_reads' HO516.out).2.2)
         (case side2 => exact (Kd.N_reads' HO516.out).2.1)
         (case side3 => exact zC (Kd.N_reads' HO523.out).2.2)
         (case side4 => exact (Kd.N_reads' HO523.out).2.1)
         rintro e w73 ⟨rfl, hb⟩
         refine ⟨_, rfl, ?_⟩
         replace HO508 := zXB HO508 hb; replace HO516 := zXB HO516 hb; replace HO523 := zXB HO523 hb; replace HO532 := zXB HO532 hb; replace HO540 := zXB HO540 hb; replace HO548 := zXB HO548 hb; replace BK509 := zBB BK509 hb; replace BK524 := zBB BK524 hb; replace BK525 := zBB BK525 hb; replace BK533 := zBB BK533 hb; replace BK541 := zBB BK541 hb; replace BK549 := zBB BK549 hb; replace HB := zLB (zL6 HB.out GE509.out GE524.out GE525.out GE533.out GE541.out GE549.out) hb
         clear hb
         refine hK.out _ _ (zk5 BK509.out (zk5 BK524.out (zk5 BK525.out (zk5 BK533.out (zk5 BK541.out (zc5 BK549.out)))))) fun hHeld => ?_; clear hK K
         refine nZ 35 ?_
         refine pY 12 36 (fB 54 8191) HT_.out ?_
         refine pY 13 37 (fB 54 16383) HT_.out ?_
         refine pY 14 38 (fB 54 32767) HT_.out ?_
         refine tY 15 39 (fB 54 65535) HT_.out HW_.out hHeld ?_
         refine tY 16 40 (fB 54 131071) HT_.out HW_.out hHeld ?_
         refine oN 17 41 (fB 54 262143) HT_.out fun K hK => ?_
         refine gS Tryd.func13 #[.agg #[.int .i64 t502, .int .i64 t503, .string t504, .string t505, .slice Ao33 t506.length co33], .agg #[.int .i64 t502, .int .i64 t503, .string t504, .string t505, .slice Ao33 t506.length co33]] ?_
         with_reducible refine (impl_SamePol.calls k t502 t503 t504 t505 _ _ t506 t502 t503 t504 t505 _ _ t506 true _ ?side1 ?side2 ?side3 ?side4 A15.out).mono ?_
         (case side1 => exact zC (Kd.N_reads' HO508.out).2.2)
         (case side2 => exact (Kd.N_reads' HO508.out).2.1)
         (case side3 => exact zC (Kd.N_reads' HO508.out).2.2)
         (case side4 => exact (Kd.N_reads' HO508.out).2.1)
         rintro e w74 ⟨rfl, hb⟩
         refine ⟨_, rfl, ?_⟩
         replace HO508 := zXB HO508 hb; replace HO516 := zXB HO516 hb; replace HO523 := zXB HO523 hb; replace HO532 := zXB HO532 hb; replace HO540 := zXB HO540 hb; replace HO548 := zXB HO548 hb; replace BK509 := zBB BK509 hb; replace BK524 := zBB BK524 hb; replace BK525 := zBB BK525 hb; replace BK533 := zBB BK533 hb; replace BK541 := zBB BK541 hb; replace BK549 := zBB BK549 hb; replace HB := zLB (zL6 HB.out GE509.out GE524.out GE525.out GE533.out GE541.out GE549.out) hb
         clear hb
         refine hK.out _ _ (zk5 BK509.out (zk5 BK524.out (zk5 BK525.out (zk5 BK533.out (zk5 BK541.out (zc5 BK549.out)))))) fun hHeld => ?_; clear hK K
         refine nZ 41 ?_
         refine pY 18 42 (fB 54 524287) HT_.out ?_
         refine pY 19 43 (fB 54 1048575) HT_.out ?_
         refine tY 20 44 (fB 54 2097151) HT_.out HW_.out hHeld ?_
         refine tY 22 46 (fB 54 6291455) HT_.out HW_.out hHeld ?_
         refine oN 21 45 (fB 54 8388607) HT_.out fun K hK => ?_
         refine gS Tryd.func15 #[.agg #[.int .i64 t526, .int .i64 t527, .string t528, .string t529, .slice Ao50 t530.length co50]] ?_
         with_reducible refine (impl_PolCount.calls k t526 t527 t528 t529 _ _ t530 t555 _ ?side1 ?side2 A17.out).mono ?_
         (case side1 => exact zC (Kd.N_reads' HO532.out).2.2)
         (case side2 => exact (Kd.N_reads' HO532.out).2.1)
         rintro e w75 ⟨rfl, hb⟩
         refine ⟨_, rfl, ?_⟩
         replace HO508 := zXB HO508 hb; replace HO516 := zXB HO516 hb; replace HO523 := zXB HO523 hb; replace HO532 := zXB HO532 hb; replace HO540 := zXB HO540 hb; replace HO548 := zXB HO548 hb; replace BK509 := zBB BK509 hb; replace BK524 := zBB BK524 hb; replace BK525 := zBB BK525 hb; replace BK533 := zBB BK533 hb; replace BK541 := zBB BK541 hb; replace BK549 := zBB BK549 hb; replace HB := zLB (zL6 HB.out GE509.out GE524.out GE525.out GE533.out GE541.out GE549.out) hb
         clear hb
         refine hK.out _ _ (zk5 BK509.out (zk5 BK524.out (zk5 BK525.out (zk5 BK533.out (zk5 BK541.out (zc5 BK549.out)))))) fun hHeld => ?_; clear hK K
         refine nZ 45 ?_
         refine oN 23 47 (fB 54 16777215) HT_.out fun K hK => ?_
         refine gS Tryd.func16 #[.agg #[.int .i64 t526, .int .i64 t527, .string t528, .string t529, .slice Ao50 t530.length co50]] ?_
         with_reducible refine (spec_PolCount.calls k t526 t527 t528 t529 _ _ t530 t556 _ ?side1 ?side2 A18.out).mono ?_
         (case side1 => exact zC (Kd.N_reads' HO532.out).2.2)
         (case side2 => exact (Kd.N_reads' HO532.out).2.1)
         rintro e w76 ⟨rfl, hb⟩
         refine ⟨_, rfl, ?_⟩
         replace HO508 := zXB HO508 hb; replace HO516 := zXB HO516 hb; replace HO523 := zXB HO523 hb; replace HO532 := zXB HO532 hb; replace HO540 := zXB HO540 hb; replace HO548 := zXB HO548 hb; replace BK509 := zBB BK509 hb; replace BK524 := zBB BK524 hb; replace BK525 := zBB BK525 hb; replace BK533 := zBB BK533 hb; replace BK541 := zBB BK541 hb; replace BK549 := zBB BK549 hb; replace HB := zLB (zL6 HB.out GE509.out GE524.out GE525.out GE533.out GE541.out GE549.out) hb
         clear hb
         refine hK.out _ _ (zk5 BK509.out (zk5 BK524.out (zk5 BK525.out (zk5 BK533.out (zk5 BK541.out (zc5 BK549.out)))))) fun hHeld => ?_; clear hK K
         refine nZ 47 ?_
         refine pY 24 48 (fB 54 33554431) HT_.out ?_
         refine pY 25 49 (fB 54 67108863) HT_.out ?_
         refine pY 26 50 (fB 54 134217727) HT_.out ?_
         refine tY 27 51 (fB 54 268435455) HT_.out HW_.out hHeld ?_
         refine oN 28 52 (fB 54 536870911) HT_.out fun K hK => ?_
         refine gS Tryd.func15 #[.agg #[.int .i64 t526, .int .i64 t527, .string t528, .string t529, .slice Ao50 t530.length co50]] ?_
         with_reducible refine (impl_PolCount.calls k t526 t527 t528 t529 _ _ t530 t555 _ ?side1 ?side2 A17.out).mono ?_
         (case side1 => exact zC (Kd.N_reads' HO532.out).2.2)
         (case side2 => exact (Kd.N_reads' HO532.out).2.1)
         rintro e w77 ⟨rfl, hb⟩
         refine ⟨_, rfl, ?_⟩
         replace HO508 := zXB HO508 hb; replace HO516 := zXB HO516 hb; replace HO523 := zXB HO523 hb; replace HO532 := zXB HO532 hb; replace HO540 := zXB HO540 hb; replace HO548 := zXB HO548 hb; replace BK509 := zBB BK509 hb; replace BK524 := zBB BK524 hb; replace BK525 := zBB BK525 hb; replace BK533 := zBB BK533 hb; replace BK541 := zBB BK541 hb; replace BK549 := zBB BK549 hb; replace HB := zLB (zL6 HB.out GE509.out GE524.out GE525.out GE533.out GE541.out GE549.out) hb
         clear hb
         refine hK.out _ _ (zk5 BK509.out (zk5 BK524.out (zk5 BK525.out (zk5 BK533.out (zk5 BK541.out (zc5 BK549.out)))))) fun hHeld => ?_; clear hK K
         refine nZ 52 ?_
         refine pY 29 53 (fB 54 1073741823) HT_.out ?_
         refine pY 30 54 (fB 54 2147483647) HT_.out ?_
         refine pY 31 55 (fB 54 4294967295) HT_.out ?_
         refine tY 32 56 (fB 54 8589934591) HT_.out HW_.out hHeld ?_
         refine tY 34 58 (fB 54 25769803775) HT_.out HW_.out hHeld ?_
         refine oN 33 57 (fB 54 34359738367) HT_.out fun K hK => ?_
         refine gS Tryd.func17 #[.agg #[.int .i64 t534, .int .i64 t535, .string t536, .string t537, .slice Ao58 t538.length co58]] ?_
         with_reducible refine (impl_HasRate.calls k t534 t535 t536 t537 _ _ t538 t558 _ ?side1 ?side2 A22.out).mono ?_
         (case side1 => exact zC (Kd.N_reads' HO540.out).2.2)
         (case side2 => exact (Kd.N_reads' HO540.out).2.1)
         rintro e w78 ⟨rfl, hb⟩
         refine ⟨_, rfl, ?_⟩
         replace HO508 := zXB HO508 hb; replace HO516 := zXB HO516 hb; replace HO523 := zXB HO523 hb; replace HO532 := zXB HO532 hb; replace HO540 := zXB HO540 hb; replace HO548 := zXB HO548 hb; replace BK509 := zBB BK509 hb; replace BK524 := zBB BK524 hb; replace BK525 := zBB BK525 hb; replace BK533 := zBB BK533 hb; replace BK541 := zBB BK541 hb; replace BK549 := zBB BK549 hb; replace HB := zLB (zL6 HB.out GE509.out GE524.out GE525.out GE533.out GE541.out GE549.out) hb
         clear hb
         refine hK.out _ _ (zk5 BK509.out (zk5 BK524.out (zk5 BK525.out (zk5 BK533.out (zk5 BK541.out (zc5 BK549.out)))))) fun hHeld => ?_; clear hK K
         refine nZ 57 ?_
         refine oN 35 59 (fB 54 68719476735) HT_.out fun K hK => ?_
         refine gS Tryd.func18 #[.agg #[.int .i64 t534, .int .i64 t535, .string t536, .string t537, .slice Ao58 t538.length co58]] ?_
         with_reducible refine (spec_HasRate.calls k t534 t535 t536 t537 _ _ t538 t559 _ ?side1 ?side2 A23.out).mono ?_
         (case side1 => exact zC (Kd.N_reads' HO540.out).2.2)
         (case side2 => exact (Kd.N_reads' HO540.out).2.1)
         rintro e w79 ⟨rfl, hb⟩
         refine ⟨_, rfl, ?_⟩
         replace HO508 := zXB HO508 hb; replace HO516 := zXB HO516 hb; replace HO523 := zXB HO523 hb; replace HO532 := zXB HO532 hb; replace HO540 := zXB HO540 hb; replace HO548 := zXB HO548 hb; replace BK509 := zBB BK509 hb; replace BK524 := zBB BK524 hb; replace BK525 := zBB BK525 hb; replace BK533 := zBB BK533 hb; replace BK541 := zBB BK541 hb; replace BK549 := zBB BK549 hb; replace HB := zLB (zL6 HB.out GE509.out GE524.out GE525.out GE533.out GE541.out GE549.out) hb
         clear hb
         refine hK.out _ _ (zk5 BK509.out (zk5 BK524.out (zk5 BK525.out (zk5 BK533.out (zk5 BK541.out (zc5 BK549.out)))))) fun hHeld => ?_; clear hK K
         refine nZ 59 ?_
         refine pY 36 60 (fB 54 137438953471) HT_.out ?_
         refine pY 37 61 (fB 54 274877906943) HT_.out ?_
         refine pY 38 62 (fB 54 549755813887) HT_.out ?_
         refine tY 39 63 (fB 54 1099511627775) HT_.out HW_.out hHeld ?_
         refine tY 41 65 (fB 54 3298534883327) HT_.out HW_.out hHeld ?_
         refine oN 40 64 (fB 54 4398046511103) HT_.out fun K hK => ?_
         refine gS Tryd.func19 #[.agg #[.int .i64 t542, .int .i64 t543, .string t544, .string t545, .slice Ao67 t546.length co67]] ?_
         with_reducible refine (impl_PolText.calls k t542 t543 t544 t545 _ _ t546 t560 _ ?side1 ?side2 (tab_at HTAB.out (zL6 HB.out GE509.out GE524.out GE525.out GE533.out GE541.out GE549.out)) A25.out).mono ?_
         (case side1 => exact zC (Kd.N_reads' HO548.out).2.2)
         (case side2 => exact (Kd.N_reads' HO548.out).2.1)
         rintro e w80 ⟨rfl, hb⟩
         refine ⟨_, rfl, ?_⟩
         replace HO508 := zXB HO508 hb; replace HO516 := zXB HO516 hb; replace HO523 := zXB HO523 hb; replace HO532 := zXB HO532 hb; replace HO540 := zXB HO540 hb; replace HO548 := zXB HO548 hb; replace BK509 := zBB BK509 hb; replace BK524 := zBB BK524 hb; replace BK525 := zBB BK525 hb; replace BK533 := zBB BK533 hb; replace BK541 := zBB BK541 hb; replace BK549 := zBB BK549 hb; replace HB := zLB (zL6 HB.out GE509.out GE524.out GE525.out GE533.out GE541.out GE549.out) hb
         clear hb
         refine hK.out _ _ (zk5 BK509.out (zk5 BK524.out (zk5 BK525.out (zk5 BK533.out (zk5 BK541.out (zc5 BK549.out)))))) fun hHeld => ?_; clear hK K
         refine nZ 64 ?_
         refine oN 42 66 (fB 54 8796093022207) HT_.out fun K hK => ?_
         refine gS Tryd.func20 #[.agg #[.int .i64 t542, .int .i64 t543, .string t544, .string t545, .slice Ao67 t546.length co67]] ?_
         with_reducible refine (spec_PolText.calls k t542 t543 t544 t545 _ _ t546 t561 _ ?side1 ?side2 A26.out).mono ?_
         (case side1 => exact zC (Kd.N_reads' HO548.out).2.2)
         (case side2 => exact (Kd.N_reads' HO548.out).2.1)
         rintro e w81 ⟨rfl, hb⟩
         refine ⟨_, rfl, ?_⟩
         replace HO508 := zXB HO508 hb; replace HO516 := zXB HO516 hb; replace HO523 := zXB HO523 hb; replace HO532 := zXB HO532 hb; replace HO540 := zXB HO540 hb; replace HO548 := zXB HO548 hb; replace BK509 := zBB BK509 hb; replace BK524 := zBB BK524 hb; replace BK525 := zBB BK525 hb; replace BK533 := zBB BK533 hb; replace BK541 := zBB BK541 hb; replace BK549 := zBB BK549 hb; replace HB := zLB (zL6 HB.out GE509.out GE524.out GE525.out GE533.out GE541.out GE549.out) hb
         clear hb
         refine hK.out _ _ (zk5 BK509.out (zk5 BK524.out (zk5 BK525.out (zk5 BK533.out (zk5 BK541.out (zc5 BK549.out)))))) fun hHeld => ?_; clear hK K
         refine nZ 66 ?_
         refine pY 43 67 (fB 54 17592186044415) HT_.out ?_
         refine pY 44 68 (fB 54 35184372088831) HT_.out ?_
         refine pY 45 69 (fB 54 70368744177663) HT_.out ?_
         refine tY 46 70 (fB 54 140737488355327) HT_.out HW_.out hHeld ?_
         refine tY 49 73 (fB 54 703687441776639) HT_.out HW_.out hHeld ?_
         refine oN 47 71 (fB 54 844424930131967) HT_.out fun K hK => ?_
         refine gS Tryd.func19 #[.agg #[.int .i64 t542, .int .i64 t543, .string t544, .string t545, .slice Ao67 t546.length co67]] ?_
         with_reducible refine (impl_PolText.calls k t542 t543 t544 t545 _ _ t546 t560 _ ?side1 ?side2 (tab_at HTAB.out (zL6 HB.out GE509.out GE524.out GE525.out GE533.out GE541.out GE549.out)) A25.out).mono ?_
         (case side1 => exact zC (Kd.N_reads' HO548.out).2.2)
         (case side2 => exact (Kd.N_reads' HO548.out).2.1)
         rintro e w82 ⟨rfl, hb⟩
         refine ⟨_, rfl, ?_⟩
         replace HO508 := zXB HO508 hb; replace HO516 := zXB HO516 hb; replace HO523 := zXB HO523 hb; replace HO532 := zXB HO532 hb; replace HO540 := zXB HO540 hb; replace HO548 := zXB HO548 hb; replace BK509 := zBB BK509 hb; replace BK524 := zBB BK524 hb; replace BK525 := zBB BK525 hb; replace BK533 := zBB BK533 hb; replace BK541 := zBB BK541 hb; replace BK549 := zBB BK549 hb; replace HB := zLB (zL6 HB.out GE509.out GE524.out GE525.out GE533.out GE541.out GE549.out) hb
         clear hb
         refine hK.out _ _ (zk5 BK509.out (zk5 BK524.out (zk5 BK525.out (zk5 BK533.out (zk5 BK541.out (zc5 BK549.out)))))) fun hHeld => ?_; clear hK K
         refine nZ 71 ?_
         refine pY 48 72 (fB 54 1125899906842623) HT_.out ?_
         refine oN 50 74 (fB 54 2251799813685247) HT_.out fun K hK => ?_
         refine gS Tryd.func11 #[.agg #[.int .i64 t542, .int .i64 t543, .string t544, .string t545, .slice Ao67 t546.length co67]] ?_
         with_reducible refine (impl_PolOk.calls k t542 t543 t544 t545 _ _ t546 t563 _ ?side1 ?side2 A29.out).mono ?_
         (case side1 => exact zC (Kd.N_reads' HO548.out).2.2)
         (case side2 => exact (Kd.N_reads' HO548.out).2.1)
         rintro e w83 ⟨rfl, hb⟩
         refine ⟨_, rfl, ?_⟩
         replace HO508 := zXB HO508 hb; replace HO516 := zXB HO516 hb; replace HO523 := zXB HO523 hb; replace HO532 := zXB HO532 hb; replace HO540 := zXB HO540 hb; replace HO548 := zXB HO548 hb; replace BK509 := zBB BK509 hb; replace BK524 := zBB BK524 hb; replace BK525 := zBB BK525 hb; replace BK533 := zBB BK533 hb; replace BK541 := zBB BK541 hb; replace BK549 := zBB BK549 hb; replace HB := zLB (zL6 HB.out GE509.out GE524.out GE525.out GE533.out GE541.out GE549.out) hb
         clear hb
         refine hK.out _ _ (zk5 BK509.out (zk5 BK524.out (zk5 BK525.out (zk5 BK533.out (zk5 BK541.out (zc5 BK549.out)))))) fun hHeld => ?_; clear hK K
         refine nZ 74 ?_
         refine pY 51 75 (fB 54 4503599627370495) HT_.out ?_
         refine pY 52 76 (fB 54 9007199254740991) HT_.out ?_
         refine pY 53 2 (fB 54 18014398509481983) HT_.out ?_
         refine done_ (done_of HT_.out (by kernel_rfl)) ?_
         try go_wp2
         go_ret
         exact ⟨zW2, zL6 HB.out GE509.out GE524.out GE525.out GE533.out GE541.out GE549.out⟩
        ·rw [if_neg c27] at H
         obtain ⟨c27b0, c27b1⟩ := zf c27
         exact absurd ((Option.some.inj H).trans hrt_.out) (by decide)
       ·rw [if_neg c24] at H
        have c24b0 : (t558 == t559) = false := by simpa using c24
        (try (have c24b1 : decide (t558 = t559) = false := by simpa using c24))
        (try (have c24b2 : (t558 == t559) = false := by simpa using c24))
        (try (have c24b3 : ¬ (t558 = t559) := by simpa using c24))
        clear c24
        exact absurd ((Option.some.inj H).trans hrt_.out) (by decide)
      ·rw [if_neg c21] at H
       have c21b0 := decide_eq_false c21
       clear c21
       exact absurd ((Option.some.inj H).trans hrt_.out) (by decide)
     ·rw [if_neg c19] at H
      obtain ⟨c19b0, c19b1⟩ := zf c19
      exact absurd ((Option.some.inj H).trans hrt_.out) (by decide)
    ·obtain rfl := Bool.eq_false_iff.mpr c16
     rw [if_neg zn] at H
     exact absurd ((Option.some.inj H).trans hrt_.out) (by decide)
   ·rw [if_neg c14] at H
    have c14b0 : (t552 == t553) = false := by simpa using c14
    (try (have c14b1 : decide (t552 = t553) = false := by simpa using c14))
    (try (have c14b2 : (t552 == t553) = false := by simpa using c14))
    (try (have c14b3 : ¬ (t552 = t553) := by simpa using c14))
    clear c14
    exact absurd ((Option.some.inj H).trans hrt_.out) (by decide)
  ·rw [if_neg c11] at H
   have c11b0 : (t550 == t551) = false := by simpa using c11
   (try (have c11b1 : decide (t550 = t551) = false := by simpa using c11))
   (try (have c11b2 : (t550 == t551) = false := by simpa using c11))
   (try (have c11b3 : ¬ (t550 = t551) := by simpa using c11))
   clear c11
   exact absurd ((Option.some.inj H).trans hrt_.out) (by decide)

end Go.Proofs.YtfhblnbicnmndaaDoor.QFnPols
