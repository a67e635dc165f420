/- What the Go functions that the law FnPols reaches answer: each as a Lean function, with its walk. Written by a program of this session. Conditions: those that each theorem names. -/
import Derived.Test.YtfhblnbicnmndaaDoorQFnPolsx0
import Derived.Test.YtfhblnbicnmndaaDoorQFnPolsx1
import Derived.Test.YtfhblnbicnmndaaDoorQFnPolsx3
namespace Go.Proofs.YtfhblnbicnmndaaDoor.QFnPols
open Go.RowKit Go.Proofs.YtfhblnbicnmndaaDoorW.PrintWords Go.Proofs.YtfhblnbicnmndaaDoorW.PrintLast Go.Proofs.YtfhblnbicnmndaaDoorW.PrintMore
attribute [local go_sem] max2_int min2_int max_two min_two max_three min_three max_four min_four   -- for this text's walks alone
set_option linter.unusedVariables false
set_option linter.unusedSimpArgs false

open Go.Proofs.YtfhblnbicnmndaaDoorW.PrintWords renaming blk_drewN → bN, blk_drew → bD, blk_alloc → bA, blk_cell → bC, blk_below → bB, below_set → bS
/-! ### spec_DrawPolText: function 10 -/
def spec_DrawPolText.f (k : Nat) (l0 : List Int) : Option (Int × Int × ByteArray × ByteArray × (List (S26))) := (spec_l1New.f k l0).bind fun bt398 => ((spec_l5Any.f k bt398.1 bt398.2.1 bt398.2.2).bind fun bt402 => (some (bt402.1, bt402.2.1, bt402.2.2.1, bt402.2.2.2.1, bt402.2.2.2.2.1)))
theorem spec_DrawPolText.mono : ∀ a0 k, LeO (spec_DrawPolText.f k a0) (spec_DrawPolText.f (k + 1) a0) := by
 intro a0 k
 unfold spec_DrawPolText.f
 repeat' first
   | (with_reducible apply spec_l1New.mono)
   | (with_reducible apply spec_l5Any.mono)
   | (with_reducible exact LeO.refl _)
   | (with_reducible exact LeO.none _)
   | (with_reducible refine LeO.ite ?_ ?_)
   | (with_reducible refine LeO.bind ?_ (fun _ => ?_))
   | apply spec_l1New.mono
   | apply spec_l5Any.mono
   | exact LeO.none _
   | refine LeO.ite ?_ ?_
   | refine LeO.bind ?_ (fun _ => ?_)
set_option maxHeartbeats 8000000 in
set_option maxRecDepth 100000 in
theorem spec_DrawPolText.calls (k : Nat) (A0 : Option Addr) (c0 : Nat) (l0 : List Int) (r1 : Int) (r2 : Int) (r3 : ByteArray) (r4 : ByteArray) (r5 : List (S26)) (w : World) (hr0 : Kd.C (Kd.int .u8) w A0 l0.length l0) (hc0 : l0.length ≤ c0) (h : spec_DrawPolText.f k l0 = some (r1, r2, r3, r4, r5)) :
  Calls Tryd.prog 10 #[.slice A0 l0.length c0] w fun e w' => ∃ v4_ : Value, e = .returned (.agg #[.int .i64 r1, .int .i64 r2, .string r3, .string r4, v4_]) ∧ Kd.N k26 26 w' w.heap.size (fun k_ => (w.heap.size ≤ k_)) v4_ r5 ∧ Below w.heap.size w w' := by
 have hu26 := Tryd.underlying26
 have HR0 := Aside0.mk hr0
 have HC0 := Aside0.mk hc0
 clear hr0 hc0
 have HB := Aside0.mk (Below.refl w.heap.size w)
 unfold spec_DrawPolText.f at h; have H := h
 clear h
 obtain ⟨⟨t398, t399, t400⟩, A2, H⟩ := zO H; try dsimp only at H
 obtain ⟨⟨t402, t403, t404, t405, t406, t409, t410⟩, A3, H⟩ := zO H; try dsimp only at H
 simp only [Option.some.injEq, Prod.mk.injEq] at H
 obtain ⟨rfl, rfl, rfl, rfl, rfl⟩ := H
 go_enter Tryd.func10, Tryd.ntmps10
 go_wp2_with (first | ((with_reducible refine gD 2 rfl ?_); refine bE 2 #[.int .i64 0, .int .i64 0, .string (⟨#[]⟩ : ByteArray), .string (⟨#[]⟩ : ByteArray), .slice none 0 0] 26 ?_; intro gb397 hg w4 hbox hb; have BK397 := Aside0.mk hbox; have GW397 := Aside0.mk (zg (zL HB.out) hg : w.heap.size ≤ gb397); have GE397 := GW397; replace HB := zLB (zL HB.out) hb; clear hb hbox hg) | ((with_reducible refine gC 24 rfl ?_); refine gL 5 Tryd.func24 #[.slice A0 l0.length c0] ?_; (with_reducible refine (spec_l1New.calls k _ _ l0 t398 t399 t400 w _ ?side1 ?side2 ?side3 A2.out).mono ?_); (case side1 => exact zL1 HB.out GE397.out); (case side2 => exact HR0.out); (case side3 => exact HC0.out); rintro e w5 ⟨g401, rfl, hi, hb, hb2⟩; refine ⟨_, rfl, ?_⟩; replace HB := Aside0.mk hb; have HI401 := Aside0.mk hi; have NB401_397 := Aside0.mk (IsS53.ne_blk hi (bB (g := gb397) (o := .cells #[.int .i64 0, .int .i64 0, .string (⟨#[]⟩ : ByteArray), .string (⟨#[]⟩ : ByteArray), .slice none 0 0] 26 (0, 0)) (zB BK397.out) hb2) (by decide)); have NB397_401 := Aside0.mk (Ne.symm (IsS53.ne_blk hi (bB (g := gb397) (o := .cells #[.int .i64 0, .int .i64 0, .string (⟨#[]⟩ : ByteArray), .string (⟨#[]⟩ : ByteArray), .slice none 0 0] 26 (0, 0)) (zB BK397.out) hb2) (by decide))); replace BK397 := zBB BK397 hb2; clear hi hb hb2) | ((with_reducible refine gC 25 rfl ?_); refine gL 7 Tryd.func25 #[.pointer (some ⟨g401, 0, none⟩)] ?_; (with_reducible refine (spec_l5Any.calls k g401 t398 t399 t400 t402 t403 t404 t405 t406 t409 t410 w _ ?side1 ?side2 A3.out).mono ?_); (case side1 => exact zI1 HI401.out NB401_397.out); (case side2 => exact zL2 HB.out (IsS53.ge HI401.out) GE397.out); rintro e w6 ⟨v407, rfl, ho0, hi, hb, hk⟩; refine ⟨_, rfl, ?_⟩; have HO408 := Aside0.mk (Kd.N_lower (Kd.N_mono (ok' := fun k_ => (w.heap.size ≤ k_) ∧ k_ ≠ gb397 ∧ k_ ≠ g401) ho0 (fun k_ hk_ => ⟨(Nat.le_trans (below_size (zL2 HB.out (IsS53.ge HI401.out) GE397.out)) hk_), (Kd.freshB (g := gb397) (o := .cells #[.int .i64 0, .int .i64 0, .string (⟨#[]⟩ : ByteArray), .string (⟨#[]⟩ : ByteArray), .slice none 0 0] 26 (0, 0)) (zB BK397.out) k_ hk_), (IsS53.fresh (zI1 HI401.out NB401_397.out) k_ hk_)⟩)) (below_size (zL2 HB.out (IsS53.ge HI401.out) GE397.out))); replace BK397 := zBK hk BK397 NB397_401; replace HB := Aside0.mk hb; replace HI401 := Aside0.mk hi; clear ho0 hi hb hk; have hnb7 := NB397_401.out; have hnc7 := NB401_397.out; have hcz8 := zc5 BK397.out; have hfz8 := zf5 BK397.out; obtain ⟨Ao9, co9, eo9⟩ := Kd.N_slice HO408.out; subst eo9))
 refine bodyPost_ret (results_cell_row rfl _ _ gb397 26 #[.int .i64 t402, .int .i64 t403, .string t404, .string t405, .slice Ao9 t406.length co9] (0, 0) _ rfl (by refine zB ?_; refine zp5 (cs := #[.int .i64 0, .int .i64 0, .string (⟨#[]⟩ : ByteArray), .string (⟨#[]⟩ : ByteArray), .slice none 0 0]) ?_; exact zB BK397.out) Tryd.underlying26 rfl (by kernel_rfl)) rfl ?_
 exact ⟨_, zW, by (with_reducible repeat (first | apply Kd.N_alloc | apply Kd.N_drewN | apply Kd.N_drew)); exact Kd.N_mono (zNF5 (Kd.N_mono HO408.out (fun k_ hk => (⟨hk, hk.2.1⟩ : _ ∧ k_ ≠ gb397))) gb397 (fun _ hk => hk.2) (.int .i64 t402) (.int .i64 t403) (.string t404) (.string t405) (.slice Ao9 t406.length co9)) (fun _ hk => hk.1.1), zL2 HB.out (IsS53.ge HI401.out) GE397.out⟩

open Go.Proofs.YtfhblnbicnmndaaDoorW.PrintWords renaming blk_drewN → bN, blk_drew → bD, blk_alloc → bA, blk_cell → bC, blk_below → bB, below_set → bS
/-! ### impl_within: function 53 -/
def impl_within.f (a0 : Int) (a1 : Int) (a2 : Int) : Option (Bool) := if a0 ≥ a1 then (some (decide (a0 ≤ a2))) else (some false)
set_option maxHeartbeats 8000000 in
set_option maxRecDepth 100000 in
theorem impl_within.calls (a0 : Int) (a1 : Int) (a2 : Int) (r : Bool) (w : World) (h : impl_within.f a0 a1 a2 = some r) :
  Calls Tryd.prog 53 #[.int .i64 a0, .int .i64 a1, .int .i64 a2] w fun e w' => e = .returned (.bool r) ∧ Drawn0 w w' := by
 unfold impl_within.f at h; have H := h
 clear h
 by_cases c4 : a0 ≥ a1
 ·rw [if_pos c4] at H
  have c4b0 := decide_eq_true c4
  clear c4
  obtain rfl := Option.some.inj H
  go_enter Tryd.func53, Tryd.ntmps53
  go_wp2
  go_ret
  exact ⟨zV, zU⟩
 ·rw [if_neg c4] at H
  have c4b0 := decide_eq_false c4
  clear c4
  obtain rfl := Option.some.inj H
  go_enter Tryd.func53, Tryd.ntmps53
  go_wp2
  go_ret
  exact ⟨zV, zU⟩

open Go.Proofs.YtfhblnbicnmndaaDoorW.PrintWords renaming blk_drewN → bN, blk_drew → bD, blk_alloc → bA, blk_cell → bC, blk_below → bB, below_set → bS
/-! ### impl_NameOk: function 54 -/
def impl_NameOk.l0 : Nat → ByteArray → Int → Option (Bool)
 | 0, _, _ => none
 | k + 1, x0, x3 => if x3 < (x0.size : Int) then (if 0 ≤ x3 then (if (bt x0 x3) < 97 then (some false) else (if (bt x0 x3) > 122 then (some false) else (impl_NameOk.l0 k x0 (wrap64 (x3 + 1))))) else (none)) else ((impl_within.f (x0.size : Int) 1 8).bind fun t411 => (some t411))
def impl_NameOk.f (k : Nat) (a0 : ByteArray) : Option (Bool) := impl_NameOk.l0 k a0 0
theorem impl_NameOk.mono_l : ∀ k, (∀ y0 y1, LeO (impl_NameOk.l0 k y0 y1) (impl_NameOk.l0 (k + 1) y0 y1))
 | 0 => fun _ _ r h => by simp [impl_NameOk.l0] at h
 | k + 1 => by
  have ih0 := impl_NameOk.mono_l k
  ·intro y0 y1
   unfold impl_NameOk.l0
   repeat' first
   | (with_reducible exact ih0 _ _)
   | (with_reducible exact LeO.refl _)
   | (with_reducible exact LeO.none _)
   | (with_reducible refine LeO.ite ?_ ?_)
   | (with_reducible refine LeO.bind ?_ (fun _ => ?_))
   | exact ih0 _ _
   | exact LeO.none _
   | refine LeO.ite ?_ ?_
   | refine LeO.bind ?_ (fun _ => ?_)
theorem impl_NameOk.mono : ∀ a0 k, LeO (impl_NameOk.f k a0) (impl_NameOk.f (k + 1) a0) := by
 intro a0 k
 have ih0 := impl_NameOk.mono_l k
 unfold impl_NameOk.f
 repeat' first
   | (with_reducible exact ih0 _ _)
   | (with_reducible exact LeO.refl _)
   | (with_reducible exact LeO.none _)
   | (with_reducible refine LeO.ite ?_ ?_)
   | (with_reducible refine LeO.bind ?_ (fun _ => ?_))
   | exact ih0 _ _
   | exact LeO.none _
   | refine LeO.ite ?_ ?_
   | refine LeO.bind ?_ (fun _ => ?_)
set_option maxHeartbeats 8000000 in
set_option maxRecDepth 100000 in
theorem impl_NameOk.calls (k : Nat) (a0 : ByteArray) (r : Bool) (w : World) (h : impl_NameOk.f k a0 = some r) :
  Calls Tryd.prog 54 #[.string a0] w fun e w' => e = .returned (.bool r) ∧ Drawn0 w w' := by
 unfold impl_NameOk.f at h; have H := h
 clear h
 have H' := Aside0.mk H
 clear H
 go_enter Tryd.func54, Tryd.ntmps54
 go_wp2
 go_loopg [3] k (fun kq v3 w' => ∃ (x3_1 : Int), v3 = .int .i64 x3_1 ∧ Aside0 (impl_NameOk.l0 kq a0 x3_1 = some r) ∧ Aside0 (kq ≤ k) ∧ Drawn0 w w')
 case atStart => exact ⟨(0), zV, H', ⟨Nat.le_refl _⟩, zU⟩
 case round =>
  clear H'
  obtain ⟨x3_1, rfl, HA, HK1, ⟨m1, rfl⟩⟩ := hrel
  cases gk with
  | zero => exact absurd HA.out (by simp [impl_NameOk.l0])
  | succ k1 =>
   have H := HA.out
   clear HA
   simp only [impl_NameOk.l0] at H
   by_cases c2 : x3_1 < (a0.size : Int)
   ·rw [if_pos c2] at H
    have c2b0 := decide_eq_true c2
    clear c2
    by_cases c3 : 0 ≤ x3_1
    ·rw [if_pos c3] at H
     have c3b0 := decide_eq_true c3
     clear c3
     by_cases c5 : (bt a0 x3_1) < 97
     ·rw [if_pos c5] at H
      have c5b0 := decide_eq_true c5
      clear c5
      obtain rfl := Option.some.inj H
      have p4 : 0 ≤ (x3_1 : Int) := zD
      have q4 : x3_1 < (a0.size : Int) := zD
      have hx4 := bt_at a0 x3_1
      replace p4 := eq_true p4
      replace q4 := eq_true q4
      go_wp2
      go_ret
      exact ⟨zV, zU⟩
     ·rw [if_neg c5] at H
      have c5b0 := decide_eq_false c5
      clear c5
      by_cases c7 : (bt a0 x3_1) > 122
      ·rw [if_pos c7] at H
       have c7b0 := decide_eq_true c7
       clear c7
       obtain rfl := Option.some.inj H
       have p4 : 0 ≤ (x3_1 : Int) := zD
       have q4 : x3_1 < (a0.size : Int) := zD
       have hx4 := bt_at a0 x3_1
       replace p4 := eq_true p4
       replace q4 := eq_true q4
       have p6 : 0 ≤ (x3_1 : Int) := zD
       have q6 : x3_1 < (a0.size : Int) := zD
       have hx6 := bt_at a0 x3_1
       replace p6 := eq_true p6
       replace q6 := eq_true q6
       go_wp2
       go_ret
       exact ⟨zV, zU⟩
      ·rw [if_neg c7] at H
       have c7b0 := decide_eq_false c7
       clear c7
       have H' := Aside0.mk H
       clear H
       have p4 : 0 ≤ (x3_1 : Int) := zD
       have q4 : x3_1 < (a0.size : Int) := zD
       have hx4 := bt_at a0 x3_1
       replace p4 := eq_true p4
       replace q4 := eq_true q4
       have p6 : 0 ≤ (x3_1 : Int) := zD
       have q6 : x3_1 < (a0.size : Int) := zD
       have hx6 := bt_at a0 x3_1
       replace p6 := eq_true p6
       replace q6 := eq_true q6
       go_wp2
       go_roundg k1
       case measure => have := HK1.out; omega
       case rel => exact ⟨(wrap64 (x3_1 + 1)), zV, H', ⟨by have := HK1.out; omega⟩, zU⟩
    ·rw [if_neg c3] at H
     exact absurd H (by simp)
   ·rw [if_neg c2] at H
    have c2b0 := decide_eq_false c2
    clear c2
    obtain ⟨t411, A8, H⟩ := zO H; try dsimp only at H
    obtain rfl := Option.some.inj H
    go_wp2_with (first | ((with_reducible refine gC 53 rfl ?_); refine gL 22 Tryd.func53 #[.int .i64 (a0.size : Int), .int .i64 1, .int .i64 8] ?_; (with_reducible refine (impl_within.calls (a0.size : Int) 1 8 t411 _ A8.out).mono ?_); rintro e w' ⟨rfl, ⟨nd, rfl⟩⟩; refine ⟨_, rfl, ?_⟩))
    go_ret
    exact ⟨zV, zU⟩

open Go.Proofs.YtfhblnbicnmndaaDoorW.PrintWords renaming blk_drewN → bN, blk_drew → bD, blk_alloc → bA, blk_cell → bC, blk_below → bB, below_set → bS
/-! ### impl_PlainOk: function 55 -/
def impl_PlainOk.l0 : Nat → ByteArray → Int → Option (Bool)
 | 0, _, _ => none
 | k + 1, x0, x3 => if x3 < (x0.size : Int) then (if 0 ≤ x3 then ((impl_within.f (wrap64 (bt x0 x3)) 32 126).bind fun t412 => (if t412 = true then (if (bt x0 x3) = 34 then (some false) else (impl_PlainOk.l0 k x0 (wrap64 (x3 + 1)))) else (some false))) else (none)) else (some (decide ((x0.size : Int) ≤ 20)))
def impl_PlainOk.f (k : Nat) (a0 : ByteArray) : Option (Bool) := impl_PlainOk.l0 k a0 0
theorem impl_PlainOk.mono_l : ∀ k, (∀ y0 y1, LeO (impl_PlainOk.l0 k y0 y1) (impl_PlainOk.l0 (k + 1) y0 y1))
 | 0 => fun _ _ r h => by simp [impl_PlainOk.l0] at h
 | k + 1 => by
  have ih0 := impl_PlainOk.mono_l k
  ·intro y0 y1
   unfold impl_PlainOk.l0
   repeat' first
   | (with_reducible exact ih0 _ _)
   | (with_reducible exact LeO.refl _)
   | (with_reducible exact LeO.none _)
   | (with_reducible refine LeO.ite ?_ ?_)
   | (with_reducible refine LeO.bind ?_ (fun _ => ?_))
   | exact ih0 _ _
   | exact LeO.none _
   | refine LeO.ite ?_ ?_
   | refine LeO.bind ?_ (fun _ => ?_)
theorem impl_PlainOk.mono : ∀ a0 k, LeO (impl_PlainOk.f k a0) (impl_PlainOk.f (k + 1) a0) := by
 intro a0 k
 have ih0 := impl_PlainOk.mono_l k
 unfold impl_PlainOk.f
 repeat' first
   | (with_reducible exact ih0 _ _)
   | (with_reducible exact LeO.refl _)
   | (with_reducible exact LeO.none _)
   | (with_reducible refine LeO.ite ?_ ?_)
   | (with_reducible refine LeO.bind ?_ (fun _ => ?_))
   | exact ih0 _ _
   | exact LeO.none _
   | refine LeO.ite ?_ ?_
   | refine LeO.bind ?_ (fun _ => ?_)
set_option maxHeartbeats 8000000 in
set_option maxRecDepth 100000 in
theorem impl_PlainOk.calls (k : Nat) (a0 : ByteArray) (r : Bool) (w : World) (h : impl_PlainOk.f k a0 = some r) :
  Calls Tryd.prog 55 #[.string a0] w fun e w' => e = .returned (.bool r) ∧ Drawn0 w w' := by
 unfold impl_PlainOk.f at h; have H := h
 clear h
 have H' := Aside0.mk H
 clear H
 go_enter Tryd.func55, Tryd.ntmps55
 go_wp2
 go_loopg [3] k (fun kq v3 w' => ∃ (x3_1 : Int), v3 = .int .i64 x3_1 ∧ Aside0 (impl_PlainOk.l0 kq a0 x3_1 = some r) ∧ Aside0 (kq ≤ k) ∧ Drawn0 w w')
 case atStart => exact ⟨(0), zV, H', ⟨Nat.le_refl _⟩, zU⟩
 case round =>
  clear H'
  obtain ⟨x3_1, rfl, HA, HK1, ⟨m1, rfl⟩⟩ := hrel
  cases gk with
  | zero => exact absurd HA.out (by simp [impl_PlainOk.l0])
  | succ k1 =>
   have H := HA.out
   clear HA
   simp only [impl_PlainOk.l0] at H
   by_cases c2 : x3_1 < (a0.size : Int)
   ·rw [if_pos c2] at H
    have c2b0 := decide_eq_true c2
    clear c2
    by_cases c3 : 0 ≤ x3_1
    ·rw [if_pos c3] at H
     have c3b0 := decide_eq_true c3
     clear c3
     obtain ⟨t412, A5, H⟩ := zO H; try dsimp only at H
     by_cases c6 : t412 = true
     ·subst c6
      rw [if_pos rfl] at H
      by_cases c8 : (bt a0 x3_1) = 34
      ·rw [if_pos c8] at H
       obtain ⟨c8b0, c8b1⟩ := zt c8
       clear c8
       obtain rfl := Option.some.inj H
       have p4 : 0 ≤ (x3_1 : Int) := zD
       have q4 : x3_1 < (a0.size : Int) := zD
       have hx4 := bt_at a0 x3_1
       replace p4 := eq_true p4
       replace q4 := eq_true q4
       go_wp2_with (first | ((with_reducible refine gC 53 rfl ?_); refine gL 14 Tryd.func53 #[.int .i64 (wrap64 (bt a0 x3_1)), .int .i64 32, .int .i64 126] ?_; (with_reducible refine (impl_within.calls (wrap64 (bt a0 x3_1)) 32 126 true _ A5.out).mono ?_); rintro e w' ⟨rfl, ⟨nd, rfl⟩⟩; refine ⟨_, rfl, ?_⟩; have p7 : 0 ≤ (x3_1 : Int) := zD; have q7 : x3_1 < (a0.size : Int) := zD; have hx7 := bt_at a0 x3_1; replace p7 := eq_true p7; replace q7 := eq_true q7))
       go_ret
       exact ⟨zV, zU⟩
      ·rw [if_neg c8] at H
       obtain ⟨c8b0, c8b1⟩ := zf c8
       have H' := Aside0.mk H
       clear H
       have p4 : 0 ≤ (x3_1 : Int) := zD
       have q4 : x3_1 < (a0.size : Int) := zD
       have hx4 := bt_at a0 x3_1
       replace p4 := eq_true p4
       replace q4 := eq_true q4
       go_wp2_with (first | ((with_reducible refine gC 53 rfl ?_); refine gL 14 Tryd.func53 #[.int .i64 (wrap64 (bt a0 x3_1)), .int .i64 32, .int .i64 126] ?_; (with_reducible refine (impl_within.calls (wrap64 (bt a0 x3_1)) 32 126 true _ A5.out).mono ?_); rintro e w' ⟨rfl, ⟨nd, rfl⟩⟩; refine ⟨_, rfl, ?_⟩; have p7 : 0 ≤ (x3_1 : Int) := zD; have q7 : x3_1 < (a0.size : Int) := zD; have hx7 := bt_at a0 x3_1; replace p7 := eq_true p7; replace q7 := eq_true q7))
       go_roundg k1
       case measure => have := HK1.out; omega
       case rel => exact ⟨(wrap64 (x3_1 + 1)), zV, H', ⟨by have := HK1.out; omega⟩, zU⟩
     ·obtain rfl := Bool.eq_false_iff.mpr c6
      rw [if_neg zn] at H
      obtain rfl := Option.some.inj H
      have p4 : 0 ≤ (x3_1 : Int) := zD
      have q4 : x3_1 < (a0.size : Int) := zD
      have hx4 := bt_at a0 x3_1
      replace p4 := eq_true p4
      replace q4 := eq_true q4
      go_wp2_with (first | ((with_reducible refine gC 53 rfl ?_); refine gL 14 Tryd.func53 #[.int .i64 (wrap64 (bt a0 x3_1)), .int .i64 32, .int .i64 126] ?_; (with_reducible refine (impl_within.calls (wrap64 (bt a0 x3_1)) 32 126 false _ A5.out).mono ?_); rintro e w' ⟨rfl, ⟨nd, rfl⟩⟩; refine ⟨_, rfl, ?_⟩))
      go_ret
      exact ⟨zV, zU⟩
    ·rw [if_neg c3] at H
     exact absurd H (by simp)
   ·rw [if_neg c2] at H
    have c2b0 := decide_eq_false c2
    clear c2
    obtain rfl := Option.some.inj H
    go_wp2
    go_ret
    exact ⟨zV, zU⟩

open Go.Proofs.YtfhblnbicnmndaaDoorW.PrintWords renaming blk_drewN → bN, blk_drew → bD, blk_alloc → bA, blk_cell → bC, blk_below → bB, below_set → bS
/-! ### impl_polHeadOk: function 43 -/
mutual
def impl_polHeadOk.j0 : Nat → Bool → Int → Int → ByteArray → ByteArray → List (S26) → Option (Bool)
 | 0, _, _, _, _, _, _ => none
 | k + 1, x3, x414000, x414001, x414002, x414003, x414004 => if x414000 = 1 then (impl_polHeadOk.j1 k x3 x414000 (x414000 == 1) x414000 x414001 x414002 x414003 x414004) else (if x414000 = 2 then (impl_polHeadOk.j1 k x3 x414000 (x414000 == 2) x414000 x414001 x414002 x414003 x414004) else (impl_polHeadOk.j1 k x3 x414000 (x414000 == 6) x414000 x414001 x414002 x414003 x414004))
def impl_polHeadOk.j1 : Nat → Bool → Int → Bool → Int → Int → ByteArray → ByteArray → List (S26) → Option (Bool)
 | 0, _, _, _, _, _, _, _, _ => none
 | k + 1, x3, x18, x19, x414000, x414001, x414002, x414003, x414004 => if x19 = true then (if x3 = true then (some ((x414004.length : Int) == 0)) else (some false)) else (if x18 = 3 then ((impl_within.f x414001 0 2147483647).bind fun t414 => (if t414 = true then (if x414002.toList = ([] : List UInt8) then (if x414003.toList = ([] : List UInt8) then (some ((x414004.length : Int) == 0)) else (some false)) else (some false)) else (some false))) else (if x18 = 4 then (if x414001 = 0 then ((impl_NameOk.f k x414002).bind fun t415 => (if t415 = true then ((impl_PlainOk.f k x414003).bind fun t416 => (if t416 = true then (some ((x414004.length : Int) == 0)) else (some false))) else (some false))) else (some false)) else (if x18 = 5 then ((impl_within.f x414001 0 2147483647).bind fun t417 => (if t417 = true then ((impl_NameOk.f k x414002).bind fun t418 => (if t418 = true then (if x414003.toList = ([] : List UInt8) then (some ((x414004.length : Int) == 0)) else (some false)) else (some false))) else (some false))) else (if x18 = 7 then (impl_polHeadOk.j2 k x3 x18 (x18 == 7) x414000 x414001 x414002 x414003 x414004) else (impl_polHeadOk.j2 k x3 x18 (x18 == 8) x414000 x414001 x414002 x414003 x414004)))))
def impl_polHeadOk.j2 : Nat → Bool → Int → Bool → Int → Int → ByteArray → ByteArray → List (S26) → Option (Bool)
 | 0, _, _, _, _, _, _, _, _ => none
 | k + 1, x3, x18, x93, x414000, x414001, x414002, x414003, x414004 => if x93 = true then (if x3 = true then ((impl_within.f (x414004.length : Int) 1 4).bind fun t419 => (some t419)) else (some false)) else (if x18 = 9 then (if x3 = true then (some ((x414004.length : Int) == 1)) else (some false)) else (some false))
end
def impl_polHeadOk.f (k : Nat) (a0_0 : Int) (a0_1 : Int) (a0_2 : ByteArray) (a0_3 : ByteArray) (l0_4 : List (S26)) : Option (Bool) := if a0_1 = 0 then (if a0_2.toList = ([] : List UInt8) then (impl_polHeadOk.j0 k (a0_3.toList == ([] : List UInt8)) a0_0 a0_1 a0_2 a0_3 l0_4) else (impl_polHeadOk.j0 k false a0_0 a0_1 a0_2 a0_3 l0_4)) else (impl_polHeadOk.j0 k false a0_0 a0_1 a0_2 a0_3 l0_4)
theorem impl_polHeadOk.mono_l : ∀ k, (∀ y0 y1 y2 y3 y4 y5, LeO (impl_polHeadOk.j0 k y0 y1 y2 y3 y4 y5) (impl_polHeadOk.j0 (k + 1) y0 y1 y2 y3 y4 y5)) ∧ (∀ y0 y1 y2 y3 y4 y5 y6 y7, LeO (impl_polHeadOk.j1 k y0 y1 y2 y3 y4 y5 y6 y7) (impl_polHeadOk.j1 (k + 1) y0 y1 y2 y3 y4 y5 y6 y7)) ∧ (∀ y0 y1 y2 y3 y4 y5 y6 y7, LeO (impl_polHeadOk.j2 k y0 y1 y2 y3 y4 y5 y6 y7) (impl_polHeadOk.j2 (k + 1) y0 y1 y2 y3 y4 y5 y6 y7))
 | 0 => ⟨fun _ _ _ _ _ _ r h => by simp [impl_polHeadOk.j0] at h, fun _ _ _ _ _ _ _ _ r h => by simp [impl_polHeadOk.j1] at h, fun _ _ _ _ _ _ _ _ r h => by simp [impl_polHeadOk.j2] at h⟩
 | k + 1 => by
  obtain ⟨ih0, ih1, ih2⟩ := impl_polHeadOk.mono_l k
  refine ⟨?_, ?_, ?_⟩
  ·intro y0 y1 y2 y3 y4 y5
   unfold impl_polHeadOk.j0
   repeat' first
   | (with_reducible exact ih0 _ _ _ _ _ _)
   | (with_reducible exact ih1 _ _ _ _ _ _ _ _)
   | (with_reducible exact ih2 _ _ _ _ _ _ _ _)
   | (with_reducible apply impl_NameOk.mono)
   | (with_reducible apply impl_PlainOk.mono)
   | (with_reducible exact LeO.refl _)
   | (with_reducible exact LeO.none _)
   | (with_reducible refine LeO.ite ?_ ?_)
   | (with_reducible refine LeO.bind ?_ (fun _ => ?_))
   | exact ih0 _ _ _ _ _ _
   | exact ih1 _ _ _ _ _ _ _ _
   | exact ih2 _ _ _ _ _ _ _ _
   | apply impl_NameOk.mono
   | apply impl_PlainOk.mono
   | exact LeO.none _
   | refine LeO.ite ?_ ?_
   | refine LeO.bind ?_ (fun _ => ?_)
  ·intro y0 y1 y2 y3 y4 y5 y6 y7
   unfold impl_polHeadOk.j1
   repeat' first
   | (with_reducible exact ih0 _ _ _ _ _ _)
   | (with_reducible exact ih1 _ _ _ _ _ _ _ _)
   | (with_reducible exact ih2 _ _ _ _ _ _ _ _)
   | (with_reducible apply impl_NameOk.mono)
   | (with_reducible apply impl_PlainOk.mono)
   | (with_reducible exact LeO.refl _)
   | (with_reducible exact LeO.none _)
   | (with_reducible refine LeO.ite ?_ ?_)
   | (with_reducible refine LeO.bind ?_ (fun _ => ?_))
   | exact ih0 _ _ _ _ _ _
   | exact ih1 _ _ _ _ _ _ _ _
   | exact ih2 _ _ _ _ _ _ _ _
   | apply impl_NameOk.mono
   | apply impl_PlainOk.mono
   | exact LeO.none _
   | refine LeO.ite ?_ ?_
   | refine LeO.bind ?_ (fun _ => ?_)
  ·intro y0 y1 y2 y3 y4 y5 y6 y7
   unfold impl_polHeadOk.j2
   repeat' first
   | (with_reducible exact ih0 _ _ _ _ _ _)
   | (with_reducible exact ih1 _ _ _ _ _ _ _ _)
   | (with_reducible exact ih2 _ _ _ _ _ _ _ _)
   | (with_reducible apply impl_NameOk.mono)
   | (with_reducible apply impl_PlainOk.mono)
   | (with_reducible exact LeO.refl _)
   | (with_reducible exact LeO.none _)
   | (with_reducible refine LeO.ite ?_ ?_)
   | (with_reducible refine LeO.bind ?_ (fun _ => ?_))
   | exact ih0 _ _ _ _ _ _
   | exact ih1 _ _ _ _ _ _ _ _
   | exact ih2 _ _ _ _ _ _ _ _
   | apply impl_NameOk.mono
   | apply impl_PlainOk.mono
   | exact LeO.none _
   | refine LeO.ite ?_ ?_
   | refine LeO.bind ?_ (fun _ => ?_)
theorem impl_polHeadOk.mono : ∀ a0 a1 a2 a3 a4 k, LeO (impl_polHeadOk.f k a0 a1 a2 a3 a4) (impl_polHeadOk.f (k + 1) a0 a1 a2 a3 a4) := by
 intro a0 a1 a2 a3 a4 k
 obtain ⟨ih0, ih1, ih2⟩ := impl_polHeadOk.mono_l k
 unfold impl_polHeadOk.f
 repeat' first
   | (with_reducible exact ih0 _ _ _ _ _ _)
   | (with_reducible exact ih1 _ _ _ _ _ _ _ _)
   | (with_reducible exact ih2 _ _ _ _ _ _ _ _)
   | (with_reducible apply impl_NameOk.mono)
   | (with_reducible apply impl_PlainOk.mono)
   | (with_reducible exact LeO.refl _)
   | (with_reducible exact LeO.none _)
   | (with_reducible refine LeO.ite ?_ ?_)
   | (with_reducible refine LeO.bind ?_ (fun _ => ?_))
   | exact ih0 _ _ _ _ _ _
   | exact ih1 _ _ _ _ _ _ _ _
   | exact ih2 _ _ _ _ _ _ _ _
   | apply impl_NameOk.mono
   | apply impl_PlainOk.mono
   | exact LeO.none _
   | refine LeO.ite ?_ ?_
   | refine LeO.bind ?_ (fun _ => ?_)
set_option maxHeartbeats 8000000 in
set_option maxRecDepth 100000 in
theorem impl_polHeadOk.calls (k : Nat) (a0_0 : Int) (a0_1 : Int) (a0_2 : ByteArray) (a0_3 : ByteArray) (A0_4 : Option Addr) (c0_4 : Nat) (l0_4 : List (S26)) (r : Bool) (w : World) (hr0_4 : Kd.C k26 w A0_4 l0_4.length l0_4) (hc0_4 : l0_4.length ≤ c0_4) (h : impl_polHeadOk.f k a0_0 a0_1 a0_2 a0_3 l0_4 = some r) :
  Calls Tryd.prog 43 #[.agg #[.int .i64 a0_0, .int .i64 a0_1, .string a0_2, .string a0_3, .slice A0_4 l0_4.length c0_4]] w fun e w' => e = .returned (.bool r) ∧ Below w.heap.size w w' := by
 have hu26 := Tryd.underlying26
 have HR0_4 := Aside0.mk hr0_4
 have HC0_4 := Aside0.mk hc0_4
 clear hr0_4 hc0_4
 have HB := Aside0.mk (Below.refl w.heap.size w)
 unfold impl_polHeadOk.f at h; have H := h
 clear h
 have HC2 := Aside0.mk H
 clear H
 go_enter Tryd.func43, Tryd.ntmps43
 go_upto_region 1 with (first | ((with_reducible refine gD 1 rfl ?_); (try (refine gate_guard (by rfl) ?_; dsimp only)); refine box_event ?hg (N := 1) ?hd (cs := #[.int .i64 a0_0, .int .i64 a0_1, .string a0_2, .string a0_3, .slice A0_4 l0_4.length c0_4]) (t := 26) ?hr ?_; (case hd => rfl); (case hg => rfl); (case hr => first | (go_simp; done) | (go_simp; rfl)); intro gb413 hg w3 hbox hb; have BK413 := Aside0.mk hbox; have GW413 := Aside0.mk (zg (zL HB.out) hg : w.heap.size ≤ gb413); have GE413 := GW413; replace HB := zLB (zL HB.out) hb; clear hb hbox hg))
 (try simp only [Act.put, List.setIfInBounds_toArray, List.set_cons_zero, List.set_cons_succ])
 go_cut [3] (fun v3 wc => ∃ (kq : Nat) (x3_1 : Bool), v3 = .bool x3_1 ∧ Aside0 (impl_polHeadOk.j0 kq x3_1 a0_0 a0_1 a0_2 a0_3 l0_4 = some r) ∧ Aside0 (kq ≤ k) ∧ Aside0 (wc.heap[gb413]? = some (.cells #[.int .i64 a0_0, .int .i64 a0_1, .string a0_2, .string a0_3, (.slice A0_4 l0_4.length c0_4)] 26 (0, 0))) ∧ Aside0 (Below w.heap.size w wc))
 case first =>
  have H := HC2.out
  clear HC2
  by_cases c4 : a0_1 = 0
  ·rw [if_pos c4] at H
   obtain ⟨c4b0, c4b1⟩ := zt c4
   clear c4
   (first | rw [c4b0] | (simp only [i64_w, i32_w]; rw [c4b0]) | skip)
   by_cases c5 : a0_2.toList = ([] : List UInt8)
   ·rw [if_pos c5] at H
    obtain ⟨c5b0, c5b1⟩ := zt c5
    clear c5
    have H' := Aside0.mk H
    clear H
    have hcz6 := zc5 BK413.out
    have hfz6 := zf5 BK413.out
    go_wp2
    go_meet
    case rel => exact ⟨_, ((a0_3.toList == ([] : List UInt8))), zV, H', ⟨by first | omega | exact Nat.le_refl _⟩, ⟨zB BK413.out⟩, ⟨zL1 HB.out GE413.out⟩⟩
   ·rw [if_neg c5] at H
    obtain ⟨c5b0, c5b1⟩ := zf c5
    have H' := Aside0.mk H
    clear H
    have hcz7 := zc5 BK413.out
    have hfz7 := zf5 BK413.out
    go_wp2
    go_meet
    case rel => exact ⟨_, (false), zV, H', ⟨by first | omega | exact Nat.le_refl _⟩, ⟨zB BK413.out⟩, ⟨zL1 HB.out GE413.out⟩⟩
  ·rw [if_neg c4] at H
   obtain ⟨c4b0, c4b1⟩ := zf c4
   (first | rw [c4b0] | (simp only [i64_w, i32_w]; rw [c4b0]) | skip)
   have H' := Aside0.mk H
   clear H
   have hcz8 := zc5 BK413.out
   have hfz8 := zf5 BK413.out
   go_wp2
   go_meet
   case rel => exact ⟨_, (false), zV, H', ⟨by first | omega | exact Nat.le_refl _⟩, ⟨zB BK413.out⟩, ⟨zL1 HB.out GE413.out⟩⟩
 case rest =>
  clear HC2
  try clear p2
  try clear c4
  try clear c4b0
  try clear c4b1
  try clear c5
  try clear c5b0
  try clear c5b1
  try clear hcz6; try clear hcz7; try clear hcz8; try clear hfz6; try clear hfz7; try clear hfz8
  obtain ⟨kq, x3_1, rfl, HA, HJ1, BK413, HB⟩ := hcut
  cases kq with
  | zero => exact absurd HA.out (by simp [impl_polHeadOk.j0])
  | succ kj1 =>
   have H := HA.out
   clear HA
   simp only [impl_polHeadOk.j0] at H
   have HC9 := Aside0.mk H
   clear H
   have hcz10 := zc5 BK413.out
   have hfz10 := zf5 BK413.out
   go_upto_if 19 with (fail)
   go_cut [19] (fun v19 wc => ∃ (kq : Nat) (x19_8 : Bool), v19 = .bool x19_8 ∧ Aside0 (impl_polHeadOk.j1 kq x3_1 a0_0 x19_8 a0_0 a0_1 a0_2 a0_3 l0_4 = some r) ∧ Aside0 (kq ≤ kj1) ∧ Aside0 (wc.heap[gb413]? = some (.cells #[.int .i64 a0_0, .int .i64 a0_1, .string a0_2, .string a0_3, (.slice A0_4 l0_4.length c0_4)] 26 (0, 0))) ∧ Aside0 (Below w.heap.size w wc))
   case first =>
    have H := HC9.out
    clear HC9
    by_cases c11 : a0_0 = 1
    ·rw [if_pos c11] at H
     obtain ⟨c11b0, c11b1⟩ := zt c11
     clear c11
     (first | rw [c11b0] | (simp only [i64_w, i32_w]; rw [c11b0]) | skip)
     have H' := Aside0.mk H
     clear H
     go_wp2
     go_meet
     case rel => exact ⟨_, ((a0_0 == 1)), zV, H', ⟨by have := HJ1.out; first | omega | exact Nat.le_refl _⟩, ⟨zB BK413.out⟩, ⟨zL1 HB.out GE413.out⟩⟩
    ·rw [if_neg c11] at H
     obtain ⟨c11b0, c11b1⟩ := zf c11
     (first | rw [c11b0] | (simp only [i64_w, i32_w]; rw [c11b0]) | skip)
     by_cases c12 : a0_0 = 2
     ·rw [if_pos c12] at H
      obtain ⟨c12b0, c12b1⟩ := zt c12
      clear c12
      have H' := Aside0.mk H
      clear H
      go_wp2
      go_meet
      case rel => exact ⟨_, ((a0_0 == 2)), zV, H', ⟨by have := HJ1.out; first | omega | exact Nat.le_refl _⟩, ⟨zB BK413.out⟩, ⟨zL1 HB.out GE413.out⟩⟩
     ·rw [if_neg c12] at H
      obtain ⟨c12b0, c12b1⟩ := zf c12
      have H' := Aside0.mk H
      clear H
      go_wp2
      go_meet
      case rel => exact ⟨_, ((a0_0 == 6)), zV, H', ⟨by have := HJ1.out; first | omega | exact Nat.le_refl _⟩, ⟨zB BK413.out⟩, ⟨zL1 HB.out GE413.out⟩⟩
   case rest =>
    clear HC9
    try clear c1
    try clear p2
    try clear c4
    try clear c4b0
    try clear c4b1
    try clear c5
    try clear c5b0
    try clear c5b1
    try clear c11
    try clear c11b0
    try clear c11b1
    try clear c12
    try clear c12b0
    try clear c12b1
    try clear hcz10; try clear hcz6; try clear hcz7; try clear hcz8; try clear hfz10; try clear hfz6; try clear hfz7; try clear hfz8
    try clear p2
    obtain ⟨kq, x19_8, rfl, HA, HJ8, BK413, HB⟩ := hcut
    cases kq with
    | zero => exact absurd HA.out (by simp [impl_polHeadOk.j1])
    | succ kj8 =>
     have H := HA.out
     clear HA
     simp only [impl_polHeadOk.j1] at H
     by_cases c13 : x19_8 = true
     ·subst c13
      rw [if_pos rfl] at H
      by_cases c14 : x3_1 = true
      ·subst c14
       rw [if_pos rfl] at H
       obtain rfl := Option.some.inj H
       have hcz15 := zc5 BK413.out
       have hfz15 := zf5 BK413.out
       go_wp2
       go_ret
       exact ⟨zW, zL1 HB.out GE413.out⟩
      ·obtain rfl := Bool.eq_false_iff.mpr c14
       rw [if_neg zn] at H
       obtain rfl := Option.some.inj H
       go_wp2
       go_ret
       exact ⟨zW, zL1 HB.out GE413.out⟩
     ·obtain rfl := Bool.eq_false_iff.mpr c13
      rw [if_neg zn] at H
      by_cases c16 : a0_0 = 3
      ·rw [if_pos c16] at H
       obtain ⟨c16b0, c16b1⟩ := zt c16
       clear c16
       obtain ⟨t414, A17, H⟩ := zO H; try dsimp only at H
       by_cases c18 : t414 = true
       ·subst c18
        rw [if_pos rfl] at H
        by_cases c19 : a0_2.toList = ([] : List UInt8)
        ·rw [if_pos c19] at H
         obtain ⟨c19b0, c19b1⟩ := zt c19
         clear c19
         by_cases c20 : a0_3.toList = ([] : List UInt8)
         ·rw [if_pos c20] at H
          obtain ⟨c20b0, c20b1⟩ := zt c20
          clear c20
          obtain rfl := Option.some.inj H
          have hcz21 := zc5 BK413.out
          have hfz21 := zf5 BK413.out
          go_wp2_with (first | ((with_reducible refine gC 53 rfl ?_); refine gL 34 Tryd.func53 #[.int .i64 a0_1, .int .i64 0, .int .i64 2147483647] ?_; (with_reducible refine (impl_within.calls a0_1 0 2147483647 true _ A17.out).mono ?_); rintro e w' ⟨rfl, ⟨nd, rfl⟩⟩; refine ⟨_, rfl, ?_⟩))
          go_ret
          exact ⟨zW, zL1 HB.out GE413.out⟩
         ·rw [if_neg c20] at H
          obtain ⟨c20b0, c20b1⟩ := zf c20
          obtain rfl := Option.some.inj H
          have hcz22 := zc5 BK413.out
          have hfz22 := zf5 BK413.out
          go_wp2_with (first | ((with_reducible refine gC 53 rfl ?_); refine gL 34 Tryd.func53 #[.int .i64 a0_1, .int .i64 0, .int .i64 2147483647] ?_; (with_reducible refine (impl_within.calls a0_1 0 2147483647 true _ A17.out).mono ?_); rintro e w' ⟨rfl, ⟨nd, rfl⟩⟩; refine ⟨_, rfl, ?_⟩))
          go_ret
          exact ⟨zW, zL1 HB.out GE413.out⟩
        ·rw [if_neg c19] at H
         obtain ⟨c19b0, c19b1⟩ := zf c19
         obtain rfl := Option.some.inj H
         have hcz23 := zc5 BK413.out
         have hfz23 := zf5 BK413.out
         go_wp2_with (first | ((with_reducible refine gC 53 rfl ?_); refine gL 34 Tryd.func53 #[.int .i64 a0_1, .int .i64 0, .int .i64 2147483647] ?_; (with_reducible refine (impl_within.calls a0_1 0 2147483647 true _ A17.out).mono ?_); rintro e w' ⟨rfl, ⟨nd, rfl⟩⟩; refine ⟨_, rfl, ?_⟩))
         go_ret
         exact ⟨zW, zL1 HB.out GE413.out⟩
       ·obtain rfl := Bool.eq_false_iff.mpr c18
        rw [if_neg zn] at H
        obtain rfl := Option.some.inj H
        have hcz24 := zc5 BK413.out
        have hfz24 := zf5 BK413.out
        go_wp2_with (first | ((with_reducible refine gC 53 rfl ?_); refine gL 34 Tryd.func53 #[.int .i64 a0_1, .int .i64 0, .int .i64 2147483647] ?_; (with_reducible refine (impl_within.calls a0_1 0 2147483647 false _ A17.out).mono ?_); rintro e w' ⟨rfl, ⟨nd, rfl⟩⟩; refine ⟨_, rfl, ?_⟩))
        go_ret
        exact ⟨zW, zL1 HB.out GE413.out⟩
      ·rw [if_neg c16] at H
       obtain ⟨c16b0, c16b1⟩ := zf c16
       by_cases c25 : a0_0 = 4
       ·rw [if_pos c25] at H
        obtain ⟨c25b0, c25b1⟩ := zt c25
        clear c25
        by_cases c26 : a0_1 = 0
        ·rw [if_pos c26] at H
         obtain ⟨c26b0, c26b1⟩ := zt c26
         clear c26
         obtain ⟨t415, A27, H⟩ := zO H; try dsimp only at H
         by_cases c28 : t415 = true
         ·subst c28
          rw [if_pos rfl] at H
          obtain ⟨t416, A29, H⟩ := zO H; try dsimp only at H
          by_cases c30 : t416 = true
          ·subst c30
           rw [if_pos rfl] at H
           obtain rfl := Option.some.inj H
           have hcz31 := zc5 BK413.out
           have hfz31 := zf5 BK413.out
           go_wp2_with (first | (go_at_call 54; (with_reducible refine (impl_NameOk.calls kj8 a0_2 true _ A27.out).mono ?_); rintro e w' ⟨rfl, ⟨nd, rfl⟩⟩) | (go_at_call 55; (with_reducible refine (impl_PlainOk.calls kj8 a0_3 true _ A29.out).mono ?_); rintro e w' ⟨rfl, ⟨nd, rfl⟩⟩))
           go_ret
           exact ⟨zW, zL1 HB.out GE413.out⟩
          ·obtain rfl := Bool.eq_false_iff.mpr c30
           rw [if_neg zn] at H
           obtain rfl := Option.some.inj H
           have hcz32 := zc5 BK413.out
           have hfz32 := zf5 BK413.out
           go_wp2_with (first | (go_at_call 54; (with_reducible refine (impl_NameOk.calls kj8 a0_2 true _ A27.out).mono ?_); rintro e w' ⟨rfl, ⟨nd, rfl⟩⟩) | (go_at_call 55; (with_reducible refine (impl_PlainOk.calls kj8 a0_3 false _ A29.out).mono ?_); rintro e w' ⟨rfl, ⟨nd, rfl⟩⟩))
           go_ret
           exact ⟨zW, zL1 HB.out GE413.out⟩
         ·obtain rfl := Bool.eq_false_iff.mpr c28
          rw [if_neg zn] at H
          obtain rfl := Option.some.inj H
          have hcz33 := zc5 BK413.out
          have hfz33 := zf5 BK413.out
          go_wp2_with (first | (go_at_call 54; (with_reducible refine (impl_NameOk.calls kj8 a0_2 false _ A27.out).mono ?_); rintro e w' ⟨rfl, ⟨nd, rfl⟩⟩))
          go_ret
          exact ⟨zW, zL1 HB.out GE413.out⟩
        ·rw [if_neg c26] at H
         obtain ⟨c26b0, c26b1⟩ := zf c26
         obtain rfl := Option.some.inj H
         have hcz34 := zc5 BK413.out
         have hfz34 := zf5 BK413.out
         go_wp2
         go_ret
         exact ⟨zW, zL1 HB.out GE413.out⟩
       ·rw [if_neg c25] at H
        obtain ⟨c25b0, c25b1⟩ := zf c25
        by_cases c35 : a0_0 = 5
        ·rw [if_pos c35] at H
         obtain ⟨c35b0, c35b1⟩ := zt c35
         clear c35
         obtain ⟨t417, A36, H⟩ := zO H; try dsimp only at H
         by_cases c37 : t417 = true
         ·subst c37
          rw [if_pos rfl] at H
          obtain ⟨t418, A38, H⟩ := zO H; try dsimp only at H
          by_cases c39 : t418 = true
          ·subst c39
           rw [if_pos rfl] at H
           by_cases c40 : a0_3.toList = ([] : List UInt8)
           ·rw [if_pos c40] at H
            obtain ⟨c40b0, c40b1⟩ := zt c40
            clear c40
            obtain rfl := Option.some.inj H
            have hcz41 := zc5 BK413.out
            have hfz41 := zf5 BK413.out
            go_wp2_with (first | ((with_reducible refine gC 53 rfl ?_); refine gL 76 Tryd.func53 #[.int .i64 a0_1, .int .i64 0, .int .i64 2147483647] ?_; (with_reducible refine (impl_within.calls a0_1 0 2147483647 true _ A36.out).mono ?_); rintro e w' ⟨rfl, ⟨nd, rfl⟩⟩; refine ⟨_, rfl, ?_⟩) | (go_at_call 54; (with_reducible refine (impl_NameOk.calls kj8 a0_2 true _ A38.out).mono ?_); rintro e w' ⟨rfl, ⟨nd, rfl⟩⟩))
            go_ret
            exact ⟨zW, zL1 HB.out GE413.out⟩
           ·rw [if_neg c40] at H
            obtain ⟨c40b0, c40b1⟩ := zf c40
            obtain rfl := Option.some.inj H
            have hcz42 := zc5 BK413.out
            have hfz42 := zf5 BK413.out
            go_wp2_with (first | ((with_reducible refine gC 53 rfl ?_); refine gL 76 Tryd.func53 #[.int .i64 a0_1, .int .i64 0, .int .i64 2147483647] ?_; (with_reducible refine (impl_within.calls a0_1 0 2147483647 true _ A36.out).mono ?_); rintro e w' ⟨rfl, ⟨nd, rfl⟩⟩; refine ⟨_, rfl, ?_⟩) | (go_at_call 54; (with_reducible refine (impl_NameOk.calls kj8 a0_2 true _ A38.out).mono ?_); rintro e w' ⟨rfl, ⟨nd, rfl⟩⟩))
            go_ret
            exact ⟨zW, zL1 HB.out GE413.out⟩
          ·obtain rfl := Bool.eq_false_iff.mpr c39
           rw [if_neg zn] at H
           obtain rfl := Option.some.inj H
           have hcz43 := zc5 BK413.out
           have hfz43 := zf5 BK413.out
           go_wp2_with (first | ((with_reducible refine gC 53 rfl ?_); refine gL 76 Tryd.func53 #[.int .i64 a0_1, .int .i64 0, .int .i64 2147483647] ?_; (with_reducible refine (impl_within.calls a0_1 0 2147483647 true _ A36.out).mono ?_); rintro e w' ⟨rfl, ⟨nd, rfl⟩⟩; refine ⟨_, rfl, ?_⟩) | (go_at_call 54; (with_reducible refine (impl_NameOk.calls kj8 a0_2 false _ A38.out).mono ?_); rintro e w' ⟨rfl, ⟨nd, rfl⟩⟩))
           go_ret
           exact ⟨zW, zL1 HB.out GE413.out⟩
         ·obtain rfl := Bool.eq_false_iff.mpr c37
          rw [if_neg zn] at H
          obtain rfl := Option.some.inj H
          have hcz44 := zc5 BK413.out
          have hfz44 := zf5 BK413.out
          go_wp2_with (first | ((with_reducible refine gC 53 rfl ?_); refine gL 76 Tryd.func53 #[.int .i64 a0_1, .int .i64 0, .int .i64 2147483647] ?_; (with_reducible refine (impl_within.calls a0_1 0 2147483647 false _ A36.out).mono ?_); rintro e w' ⟨rfl, ⟨nd, rfl⟩⟩; refine ⟨_, rfl, ?_⟩))
          go_ret
          exact ⟨zW, zL1 HB.out GE413.out⟩
        ·rw [if_neg c35] at H
         obtain ⟨c35b0, c35b1⟩ := zf c35
         have HC45 := Aside0.mk H
         clear H
         go_upto_if 93 with (fail)
         go_cut [93] (fun v93 wc => ∃ (kq : Nat) (x93_44 : Bool), v93 = .bool x93_44 ∧ Aside0 (impl_polHeadOk.j2 kq x3_1 a0_0 x93_44 a0_0 a0_1 a0_2 a0_3 l0_4 = some r) ∧ Aside0 (kq ≤ kj8) ∧ Aside0 (wc.heap[gb413]? = some (.cells #[.int .i64 a0_0, .int .i64 a0_1, .string a0_2, .string a0_3, (.slice A0_4 l0_4.length c0_4)] 26 (0, 0))) ∧ Aside0 (Below w.heap.size w wc))
         case first =>
          have H := HC45.out
          clear HC45
          by_cases c46 : a0_0 = 7
          ·rw [if_pos c46] at H
           obtain ⟨c46b0, c46b1⟩ := zt c46
           clear c46
           (first | rw [c46b0] | (simp only [i64_w, i32_w]; rw [c46b0]) | skip)
           have H' := Aside0.mk H
           clear H
           go_wp2
           go_meet
           case rel => exact ⟨_, ((a0_0 == 7)), zV, H', ⟨by have := HJ1.out; have := HJ8.out; first | omega | exact Nat.le_refl _⟩, ⟨zB BK413.out⟩, ⟨zL1 HB.out GE413.out⟩⟩
          ·rw [if_neg c46] at H
           obtain ⟨c46b0, c46b1⟩ := zf c46
           (first | rw [c46b0] | (simp only [i64_w, i32_w]; rw [c46b0]) | skip)
           have H' := Aside0.mk H
           clear H
           go_wp2
           go_meet
           case rel => exact ⟨_, ((a0_0 == 8)), zV, H', ⟨by have := HJ1.out; have := HJ8.out; first | omega | exact Nat.le_refl _⟩, ⟨zB BK413.out⟩, ⟨zL1 HB.out GE413.out⟩⟩
         case rest =>
          clear HC45
          try clear c1
          try clear c2
          try clear p2
          try clear c3
          try clear c4
          try clear c4b0
          try clear c4b1
          try clear c5
          try clear c5b0
          try clear c5b1
          try clear c11
          try clear c11b0
          try clear c11b1
          try clear c12
          try clear c12b0
          try clear c12b1
          try clear c13
          try clear c14
          try clear c16
          try clear c16b0
          try clear c16b1
          try clear c18
          try clear c19
          try clear c19b0
          try clear c19b1
          try clear c20
          try clear c20b0
          try clear c20b1
          try clear c25
          try clear c25b0
          try clear c25b1
          try clear c26
          try clear c26b0
          try clear c26b1
          try clear c28
          try clear c30
          try clear c35
          try clear c35b0
          try clear c35b1
          try clear c37
          try clear c39
          try clear c40
          try clear c40b0
          try clear c40b1
          try clear c46
          try clear c46b0
          try clear c46b1
          try clear hcz10; try clear hcz15; try clear hcz21; try clear hcz22; try clear hcz23; try clear hcz24; try clear hcz31; try clear hcz32; try clear hcz33; try clear hcz34; try clear hcz41; try clear hcz42; try clear hcz43; try clear hcz44; try clear hcz6; try clear hcz7; try clear hcz8; try clear hfz10; try clear hfz15; try clear hfz21; try clear hfz22; try clear hfz23; try clear hfz24; try clear hfz31; try clear hfz32; try clear hfz33; try clear hfz34; try clear hfz41; try clear hfz42; try clear hfz43; try clear hfz44; try clear hfz6; try clear hfz7; try clear hfz8
          try clear p2
          obtain ⟨kq, x93_44, rfl, HA, HJ44, BK413, HB⟩ := hcut
          cases kq with
          | zero => exact absurd HA.out (by simp [impl_polHeadOk.j2])
          | succ kj44 =>
           have H := HA.out
           clear HA
           simp only [impl_polHeadOk.j2] at H
           by_cases c47 : x93_44 = true
           ·subst c47
            rw [if_pos rfl] at H
            by_cases c48 : x3_1 = true
            ·subst c48
             rw [if_pos rfl] at H
             obtain ⟨t419, A49, H⟩ := zO H; try dsimp only at H
             obtain rfl := Option.some.inj H
             have hcz50 := zc5 BK413.out
             have hfz50 := zf5 BK413.out
             go_wp2_with (first | (go_at_call 53; (with_reducible refine (impl_within.calls (l0_4.length : Int) 1 4 t419 _ A49.out).mono ?_); rintro e w' ⟨rfl, ⟨nd, rfl⟩⟩))
             go_ret
             exact ⟨zW, zL1 HB.out GE413.out⟩
            ·obtain rfl := Bool.eq_false_iff.mpr c48
             rw [if_neg zn] at H
             obtain rfl := Option.some.inj H
             go_wp2
             go_ret
             exact ⟨zW, zL1 HB.out GE413.out⟩
           ·obtain rfl := Bool.eq_false_iff.mpr c47
            rw [if_neg zn] at H
            by_cases c51 : a0_0 = 9
            ·rw [if_pos c51] at H
             obtain ⟨c51b0, c51b1⟩ := zt c51
             clear c51
             by_cases c52 : x3_1 = true
             ·subst c52
              rw [if_pos rfl] at H
              obtain rfl := Option.some.inj H
              have hcz53 := zc5 BK413.out
              have hfz53 := zf5 BK413.out
              go_wp2
              go_ret
              exact ⟨zW, zL1 HB.out GE413.out⟩
             ·obtain rfl := Bool.eq_false_iff.mpr c52
              rw [if_neg zn] at H
              obtain rfl := Option.some.inj H
              go_wp2
              go_ret
              exact ⟨zW, zL1 HB.out GE413.out⟩
            ·rw [if_neg c51] at H
             obtain ⟨c51b0, c51b1⟩ := zf c51
             obtain rfl := Option.some.inj H
             go_wp2
             go_ret
             exact ⟨zW, zL1 HB.out GE413.out⟩

end Go.Proofs.YtfhblnbicnmndaaDoor.QFnPols
