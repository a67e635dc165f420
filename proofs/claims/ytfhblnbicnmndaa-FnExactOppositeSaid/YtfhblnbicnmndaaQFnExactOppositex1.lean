/- What the Go functions that the law FnExactOpposite reaches answer: each as a Lean function, with its walk. Written by a program of this session. Conditions: those that each theorem names. -/
import Derived.Test.YtfhblnbicnmndaaQFnExactOppositex0
namespace Go.Proofs.Ytfhblnbicnmndaa.QFnExactOpposite
open Go.RowKit Go.Proofs.YtfhblnbicnmndaaW.PrintWords Go.Proofs.YtfhblnbicnmndaaW.PrintLast Go.Proofs.YtfhblnbicnmndaaW.PrintMore
attribute [local go_sem] max2_int min2_int max_two min_two max_three min_three max_four min_four   -- for this text's walks alone
set_option linter.unusedVariables false
set_option linter.unusedSimpArgs false

open Go.Proofs.YtfhblnbicnmndaaW.PrintWords renaming blk_drewN → bN, blk_drew → bD, blk_alloc → bA, blk_cell → bC, blk_below → bB, below_set → bS
/-! ### laws_szPolS: function 46 -/
def laws_szPolS.l0 (F_ : Int → Int → ByteArray → ByteArray → List (S24) → Int → Option (Int)) : Nat → List (S24) → Int → Int → Option (Int)
 | 0, _, _, _ => none
 | k + 1, x0, x1, x5 => if x5 < (x0.length : Int) then (if 0 ≤ x5 then ((F_ ((rd_T24 x0 x5).f0) ((rd_T24 x0 x5).f1) ((rd_T24 x0 x5).f2) ((rd_T24 x0 x5).f3) ((rd_T24 x0 x5).f4) x1).bind fun t102 => (if t102 < 0 then (some (-1)) else (laws_szPolS.l0 F_ k x0 t102 (wrap64 (x5 + 1))))) else (none)) else (some x1)
def laws_szPolS.f (F_ : Int → Int → ByteArray → ByteArray → List (S24) → Int → Option (Int)) (k : Nat) (l0 : List (S24)) (a1 : Int) : Option (Int) := if (wrap64 (a1 - (l0.length : Int))) < 0 then (some (-1)) else (laws_szPolS.l0 F_ k l0 (wrap64 (a1 - (l0.length : Int))) 0)
set_option maxHeartbeats 8000000 in
set_option maxRecDepth 100000 in
theorem laws_szPolS.calls {F_ : Int → Int → ByteArray → ByteArray → List (S24) → Int → Option (Int)} (hF_ : ∀ (a0_0 : Int) (a0_1 : Int) (a0_2 : ByteArray) (a0_3 : ByteArray) (A0_4 : Option Addr) (c0_4 : Nat) (l0_4 : List (S24)) (a1 : Int) (r : Int) (w : World) (hr0_4 : Kd.C k24 w A0_4 l0_4.length l0_4) (hc0_4 : l0_4.length ≤ c0_4) (h : F_ a0_0 a0_1 a0_2 a0_3 l0_4 a1 = some r),
    Calls Try.prog 13 #[.agg #[.int .i64 a0_0, .int .i64 a0_1, .string a0_2, .string a0_3, .slice A0_4 l0_4.length c0_4], .int .i64 a1] w fun e w' => e = .returned (.int .i64 r) ∧ Below w.heap.size w w') (k : Nat) (A0 : Option Addr) (c0 : Nat) (l0 : List (S24)) (a1 : Int) (r : Int) (w : World) (hr0 : Kd.C k24 w A0 l0.length l0) (hc0 : l0.length ≤ c0) (h : laws_szPolS.f F_ k l0 a1 = some r) :
  Calls Try.prog 46 #[.slice A0 l0.length c0, .int .i64 a1] w fun e w' => e = .returned (.int .i64 r) ∧ Below w.heap.size w w' := by
 have hu24 := Try.underlying24
 have HR0 := Aside0.mk hr0
 have HC0 := Aside0.mk hc0
 clear hr0 hc0
 have HB := Aside0.mk (Below.refl w.heap.size w)
 unfold laws_szPolS.f at h; have H := h
 clear h
 by_cases c3 : (wrap64 (a1 - (l0.length : Int))) < 0
 ·rw [if_pos c3] at H
  have c3b0 := decide_eq_true c3
  clear c3
  obtain rfl := Option.some.inj H
  go_enter Try.func46, Try.ntmps46
  go_wp2
  go_ret
  exact ⟨zW, zL HB.out⟩
 ·rw [if_neg c3] at H
  have c3b0 := decide_eq_false c3
  clear c3
  have H' := Aside0.mk H
  clear H
  go_enter Try.func46, Try.ntmps46
  go_wp2
  go_loopg [1, 5] k (fun kq v1 v5 w' => ∃ (x1_1 : Int) (x5_1 : Int), v1 = .int .i64 x1_1 ∧ v5 = .int .i64 x5_1 ∧ Aside0 (laws_szPolS.l0 F_ kq l0 x1_1 x5_1 = some r) ∧ Aside0 (kq ≤ k) ∧ Aside0 (Below w.heap.size w w'))
  case atStart => exact ⟨(wrap64 (a1 - (l0.length : Int))), (0), zV, zV, H', ⟨Nat.le_refl _⟩, ⟨zL HB.out⟩⟩
  case round =>
   clear H'
   try clear p2
   try clear c3
   try clear c3b0
   obtain ⟨x1_1, x5_1, rfl, rfl, HA, HK1, HB⟩ := hrel
   cases gk with
   | zero => exact absurd HA.out (by simp [laws_szPolS.l0])
   | succ k1 =>
    have H := HA.out
    clear HA
    simp only [laws_szPolS.l0] at H
    by_cases c4 : x5_1 < (l0.length : Int)
    ·rw [if_pos c4] at H
     have c4b0 := decide_eq_true c4
     clear c4
     by_cases c5 : 0 ≤ x5_1
     ·rw [if_pos c5] at H
      have c5b0 := decide_eq_true c5
      clear c5
      obtain ⟨t102, A6, H⟩ := zO H; try dsimp only at H
      by_cases c7 : t102 < 0
      ·rw [if_pos c7] at H
       have c7b0 := decide_eq_true c7
       clear c7
       obtain rfl := Option.some.inj H
       have p101 : 0 ≤ (x5_1 : Int) := zD
       have q101 : x5_1 < (l0.length : Int) := zD
       obtain ⟨ad101, A101_4, c101_4, e101, hx101_0, hx101_1, hx101_2, hx101_3, hx101_4, hl101_4, hi101_4⟩ := at_T24 HR0.out x5_1 p101 q101
       cases e101
       replace hx101_0 := zh HB.out hx101_0
       replace hx101_1 := zh HB.out hx101_1
       replace hx101_2 := zh HB.out hx101_2
       replace hx101_3 := zh HB.out hx101_3
       replace hx101_4 := zh HB.out hx101_4
       have HR101_4 := Aside0.mk hi101_4
       have HC101_4 := Aside0.mk hl101_4
       clear hi101_4 hl101_4
       replace p101 := eq_true p101
       replace q101 := eq_true q101
       go_wp2_with (first | ((with_reducible refine gC 13 rfl ?_); refine gL 23 Try.func13 #[.agg #[.int .i64 ((rd_T24 l0 x5_1).f0), .int .i64 ((rd_T24 l0 x5_1).f1), .string ((rd_T24 l0 x5_1).f2), .string ((rd_T24 l0 x5_1).f3), .slice A101_4 ((rd_T24 l0 x5_1).f4).length c101_4], .int .i64 x1_1] ?_; (with_reducible refine (hF_ ((rd_T24 l0 x5_1).f0) ((rd_T24 l0 x5_1).f1) ((rd_T24 l0 x5_1).f2) ((rd_T24 l0 x5_1).f3) _ _ ((rd_T24 l0 x5_1).f4) x1_1 t102 _ ?side1 ?side2 A6.out).mono ?_); (case side1 => exact zC (Kd.C_below HR101_4.out HB.out)); (case side2 => exact HC101_4.out); rintro e w8 ⟨rfl, hb⟩; refine ⟨_, rfl, ?_⟩; replace HB := zLB (zL HB.out) hb; clear hb))
       go_ret
       exact ⟨zW, zL HB.out⟩
      ·rw [if_neg c7] at H
       have c7b0 := decide_eq_false c7
       clear c7
       have H' := Aside0.mk H
       clear H
       have p101 : 0 ≤ (x5_1 : Int) := zD
       have q101 : x5_1 < (l0.length : Int) := zD
       obtain ⟨ad101, A101_4, c101_4, e101, hx101_0, hx101_1, hx101_2, hx101_3, hx101_4, hl101_4, hi101_4⟩ := at_T24 HR0.out x5_1 p101 q101
       cases e101
       replace hx101_0 := zh HB.out hx101_0
       replace hx101_1 := zh HB.out hx101_1
       replace hx101_2 := zh HB.out hx101_2
       replace hx101_3 := zh HB.out hx101_3
       replace hx101_4 := zh HB.out hx101_4
       have HR101_4 := Aside0.mk hi101_4
       have HC101_4 := Aside0.mk hl101_4
       clear hi101_4 hl101_4
       replace p101 := eq_true p101
       replace q101 := eq_true q101
       go_wp2_with (first | ((with_reducible refine gC 13 rfl ?_); refine gL 23 Try.func13 #[.agg #[.int .i64 ((rd_T24 l0 x5_1).f0), .int .i64 ((rd_T24 l0 x5_1).f1), .string ((rd_T24 l0 x5_1).f2), .string ((rd_T24 l0 x5_1).f3), .slice A101_4 ((rd_T24 l0 x5_1).f4).length c101_4], .int .i64 x1_1] ?_; (with_reducible refine (hF_ ((rd_T24 l0 x5_1).f0) ((rd_T24 l0 x5_1).f1) ((rd_T24 l0 x5_1).f2) ((rd_T24 l0 x5_1).f3) _ _ ((rd_T24 l0 x5_1).f4) x1_1 t102 _ ?side1 ?side2 A6.out).mono ?_); (case side1 => exact zC (Kd.C_below HR101_4.out HB.out)); (case side2 => exact HC101_4.out); rintro e w9 ⟨rfl, hb⟩; refine ⟨_, rfl, ?_⟩; replace HB := zLB (zL HB.out) hb; clear hb))
       go_roundg k1
       case measure => have := HK1.out; omega
       case rel => exact ⟨(t102), (wrap64 (x5_1 + 1)), zV, zV, H', ⟨by have := HK1.out; omega⟩, ⟨zL HB.out⟩⟩
     ·rw [if_neg c5] at H
      exact absurd H (by simp)
    ·rw [if_neg c4] at H
     have c4b0 := decide_eq_false c4
     clear c4
     obtain rfl := Option.some.inj H
     go_wp2
     go_ret
     exact ⟨zW, zL HB.out⟩

open Go.Proofs.YtfhblnbicnmndaaW.PrintWords renaming blk_drewN → bN, blk_drew → bD, blk_alloc → bA, blk_cell → bC, blk_below → bB, below_set → bS
/-! ### laws_szPol: function 13 -/
def laws_szPol.f : Nat → Int → Int → ByteArray → ByteArray → List (S24) → Int → Option (Int)
  | 0, _, _, _, _, _, _ => none
  | k + 1, a0_0, a0_1, a0_2, a0_3, l0_4, a1 => if (wrap64 (a1 - (a0_2.size : Int))) < 0 then (some (-1)) else (if (wrap64 ((wrap64 (a1 - (a0_2.size : Int))) - (a0_3.size : Int))) < 0 then (some (-1)) else ((laws_szPolS.f (fun b0_ b1_ b2_ b3_ b4_ b5_ => laws_szPol.f k b0_ b1_ b2_ b3_ b4_ b5_) k l0_4 (wrap64 ((wrap64 (a1 - (a0_2.size : Int))) - (a0_3.size : Int)))).bind fun t104 => (if t104 < 0 then (some (-1)) else (some t104))))
set_option maxHeartbeats 8000000 in
set_option maxRecDepth 100000 in
theorem laws_szPol.calls (k : Nat) : ∀ (a0_0 : Int) (a0_1 : Int) (a0_2 : ByteArray) (a0_3 : ByteArray) (A0_4 : Option Addr) (c0_4 : Nat) (l0_4 : List (S24)) (a1 : Int) (r : Int) (w : World) (hr0_4 : Kd.C k24 w A0_4 l0_4.length l0_4) (hc0_4 : l0_4.length ≤ c0_4) (h : laws_szPol.f k a0_0 a0_1 a0_2 a0_3 l0_4 a1 = some r),
   Calls Try.prog 13 #[.agg #[.int .i64 a0_0, .int .i64 a0_1, .string a0_2, .string a0_3, .slice A0_4 l0_4.length c0_4], .int .i64 a1] w fun e w' => e = .returned (.int .i64 r) ∧ Below w.heap.size w w' := by
 induction k with
 | zero =>
   intro a0_0 a0_1 a0_2 a0_3 A0_4 c0_4 l0_4 a1 r w hr0_4 hc0_4 h
   exact absurd h (by simp [laws_szPol.f])
 | succ k ih =>
 intro a0_0 a0_1 a0_2 a0_3 A0_4 c0_4 l0_4 a1 r w hr0_4 hc0_4 h
 have hu24 := Try.underlying24
 have HR0_4 := Aside0.mk hr0_4
 have HC0_4 := Aside0.mk hc0_4
 clear hr0_4 hc0_4
 have HB := Aside0.mk (Below.refl w.heap.size w)
 unfold laws_szPol.f at h; have H := h
 clear h
 by_cases c3 : (wrap64 (a1 - (a0_2.size : Int))) < 0
 ·rw [if_pos c3] at H
  have c3b0 := decide_eq_true c3
  clear c3
  obtain rfl := Option.some.inj H
  go_enter Try.func13, Try.ntmps13
  go_wp2_with (first | ((with_reducible refine gD 2 rfl ?_); refine bE 2 #[.int .i64 a0_0, .int .i64 a0_1, .string a0_2, .string a0_3, .slice A0_4 l0_4.length c0_4] 24 ?_; intro gb103 hg w4 hbox hb; have BK103 := Aside0.mk hbox; have GW103 := Aside0.mk (zg (zL HB.out) hg : w.heap.size ≤ gb103); have GE103 := GW103; replace HB := zLB (zL HB.out) hb; clear hb hbox hg; have hcz5 := zc5 BK103.out; have hfz5 := zf5 BK103.out))
  go_ret
  exact ⟨zW, zL1 HB.out GE103.out⟩
 ·rw [if_neg c3] at H
  have c3b0 := decide_eq_false c3
  clear c3
  by_cases c6 : (wrap64 ((wrap64 (a1 - (a0_2.size : Int))) - (a0_3.size : Int))) < 0
  ·rw [if_pos c6] at H
   have c6b0 := decide_eq_true c6
   clear c6
   obtain rfl := Option.some.inj H
   go_enter Try.func13, Try.ntmps13
   go_wp2_with (first | ((with_reducible refine gD 2 rfl ?_); refine bE 2 #[.int .i64 a0_0, .int .i64 a0_1, .string a0_2, .string a0_3, .slice A0_4 l0_4.length c0_4] 24 ?_; intro gb103 hg w7 hbox hb; have BK103 := Aside0.mk hbox; have GW103 := Aside0.mk (zg (zL HB.out) hg : w.heap.size ≤ gb103); have GE103 := GW103; replace HB := zLB (zL HB.out) hb; clear hb hbox hg; have hcz8 := zc5 BK103.out; have hfz8 := zf5 BK103.out))
   go_ret
   exact ⟨zW, zL1 HB.out GE103.out⟩
  ·rw [if_neg c6] at H
   have c6b0 := decide_eq_false c6
   clear c6
   obtain ⟨t104, A9, H⟩ := zO H; try dsimp only at H
   by_cases c10 : t104 < 0
   ·rw [if_pos c10] at H
    have c10b0 := decide_eq_true c10
    clear c10
    obtain rfl := Option.some.inj H
    go_enter Try.func13, Try.ntmps13
    go_wp2_with (first | ((with_reducible refine gD 2 rfl ?_); refine bE 2 #[.int .i64 a0_0, .int .i64 a0_1, .string a0_2, .string a0_3, .slice A0_4 l0_4.length c0_4] 24 ?_; intro gb103 hg w11 hbox hb; have BK103 := Aside0.mk hbox; have GW103 := Aside0.mk (zg (zL HB.out) hg : w.heap.size ≤ gb103); have GE103 := GW103; replace HB := zLB (zL HB.out) hb; clear hb hbox hg; have hcz12 := zc5 BK103.out; have hfz12 := zf5 BK103.out) | ((with_reducible refine gC 46 rfl ?_); refine gL 22 Try.func46 #[.slice A0_4 l0_4.length c0_4, .int .i64 (wrap64 ((wrap64 (a1 - (a0_2.size : Int))) - (a0_3.size : Int)))] ?_; (with_reducible refine (laws_szPolS.calls ih k _ _ l0_4 (wrap64 ((wrap64 (a1 - (a0_2.size : Int))) - (a0_3.size : Int))) t104 _ ?side1 ?side2 A9.out).mono ?_); (case side1 => exact zC (Kd.C_below HR0_4.out HB.out)); (case side2 => exact HC0_4.out); rintro e w13 ⟨rfl, hb⟩; refine ⟨_, rfl, ?_⟩; replace BK103 := zBB BK103 hb; replace HB := zLB (zL1 HB.out GE103.out) hb; clear hb))
    go_ret
    exact ⟨zW, zL1 HB.out GE103.out⟩
   ·rw [if_neg c10] at H
    have c10b0 := decide_eq_false c10
    clear c10
    obtain rfl := Option.some.inj H
    go_enter Try.func13, Try.ntmps13
    go_wp2_with (first | ((with_reducible refine gD 2 rfl ?_); refine bE 2 #[.int .i64 a0_0, .int .i64 a0_1, .string a0_2, .string a0_3, .slice A0_4 l0_4.length c0_4] 24 ?_; intro gb103 hg w14 hbox hb; have BK103 := Aside0.mk hbox; have GW103 := Aside0.mk (zg (zL HB.out) hg : w.heap.size ≤ gb103); have GE103 := GW103; replace HB := zLB (zL HB.out) hb; clear hb hbox hg; have hcz15 := zc5 BK103.out; have hfz15 := zf5 BK103.out) | ((with_reducible refine gC 46 rfl ?_); refine gL 22 Try.func46 #[.slice A0_4 l0_4.length c0_4, .int .i64 (wrap64 ((wrap64 (a1 - (a0_2.size : Int))) - (a0_3.size : Int)))] ?_; (with_reducible refine (laws_szPolS.calls ih k _ _ l0_4 (wrap64 ((wrap64 (a1 - (a0_2.size : Int))) - (a0_3.size : Int))) t104 _ ?side1 ?side2 A9.out).mono ?_); (case side1 => exact zC (Kd.C_below HR0_4.out HB.out)); (case side2 => exact HC0_4.out); rintro e w16 ⟨rfl, hb⟩; refine ⟨_, rfl, ?_⟩; replace BK103 := zBB BK103 hb; replace HB := zLB (zL1 HB.out GE103.out) hb; clear hb))
    go_ret
    exact ⟨zW, zL1 HB.out GE103.out⟩

open Go.Proofs.YtfhblnbicnmndaaW.PrintWords renaming blk_drewN → bN, blk_drew → bD, blk_alloc → bA, blk_cell → bC, blk_below → bB, below_set → bS
/-! ### laws_toPolS: function 47 -/
def laws_toPolS.l0 (F_ : Int → Int → ByteArray → ByteArray → List (S24) → Option (Int × Int × ByteArray × ByteArray × (List (S29)))) : Nat → List (S24) → List (S29) → Int → Option ((List (S29)))
 | 0, _, _, _ => none
 | k + 1, x0, x3, x4 => if x4 < (x0.length : Int) then (if 0 ≤ x4 then ((F_ ((rd_T24 x0 x4).f0) ((rd_T24 x0 x4).f1) ((rd_T24 x0 x4).f2) ((rd_T24 x0 x4).f3) ((rd_T24 x0 x4).f4)).bind fun bt109 => (if x4 < (x3.length : Int) then (laws_toPolS.l0 F_ k x0 (x3.set (x4 : Int).toNat (⟨bt109.1, bt109.2.1, bt109.2.2.1, bt109.2.2.2.1, bt109.2.2.2.2⟩ : S29)) (wrap64 (x4 + 1))) else (none))) else (none)) else (some x3)
def laws_toPolS.f (F_ : Int → Int → ByteArray → ByteArray → List (S24) → Option (Int × Int × ByteArray × ByteArray × (List (S29)))) (k : Nat) (l0 : List (S24)) : Option ((List (S29))) := if 0 ≤ (l0.length : Int) then (if ((l0.length : Int) : Int).toNat ≤ 3909374676536 then (laws_toPolS.l0 F_ k l0 (List.replicate ((l0.length : Int) : Int).toNat z29) 0) else (none)) else (none)
set_option maxHeartbeats 8000000 in
set_option maxRecDepth 100000 in
theorem laws_toPolS.calls {F_ : Int → Int → ByteArray → ByteArray → List (S24) → Option (Int × Int × ByteArray × ByteArray × (List (S29)))} (hF_ : ∀ (a0_0 : Int) (a0_1 : Int) (a0_2 : ByteArray) (a0_3 : ByteArray) (A0_4 : Option Addr) (c0_4 : Nat) (l0_4 : List (S24)) (r1 : Int) (r2 : Int) (r3 : ByteArray) (r4 : ByteArray) (r5 : List (S29)) (w : World) (hr0_4 : Kd.C k24 w A0_4 l0_4.length l0_4) (hc0_4 : l0_4.length ≤ c0_4) (h : F_ a0_0 a0_1 a0_2 a0_3 l0_4 = some (r1, r2, r3, r4, r5)),
    Calls Try.prog 15 #[.agg #[.int .i64 a0_0, .int .i64 a0_1, .string a0_2, .string a0_3, .slice A0_4 l0_4.length c0_4]] w fun e w' => ∃ v4_ : Value, e = .returned (.agg #[.int .i64 r1, .int .i64 r2, .string r3, .string r4, v4_]) ∧ Kd.S k29 29 w' w.heap.size (fun _ => True) v4_ r5 ∧ Below w.heap.size w w') (k : Nat) (A0 : Option Addr) (c0 : Nat) (l0 : List (S24)) (r : List (S29)) (w : World) (hr0 : Kd.C k24 w A0 l0.length l0) (hc0 : l0.length ≤ c0) (h : laws_toPolS.f F_ k l0 = some r) :
  Calls Try.prog 47 #[.slice A0 l0.length c0] w fun e w' => ∃ v0_ : Value, e = .returned (v0_) ∧ Kd.S k29 29 w' w.heap.size (fun _ => True) v0_ r ∧ Below w.heap.size w w' := by
 have hu24 := Try.underlying24
 have hu29 := Try.underlying29
 have HR0 := Aside0.mk hr0
 have HC0 := Aside0.mk hc0
 clear hr0 hc0
 have HB := Aside0.mk (Below.refl w.heap.size w)
 unfold laws_toPolS.f at h; have H := h
 clear h
 by_cases c2 : 0 ≤ (l0.length : Int)
 ·rw [if_pos c2] at H
  have c2b0 := eq_true c2
  have c2b1 := decide_eq_true c2
  clear c2
  by_cases c3 : ((l0.length : Int) : Int).toNat ≤ 3909374676536
  ·rw [if_pos c3] at H
   have c3b0 := eq_true c3
   have c3b1 := decide_eq_true c3
   clear c3
   obtain ⟨y105, hy105⟩ : ∃ y_ : List (S29), y_ = (List.replicate ((l0.length : Int) : Int).toNat z29) := ⟨_, rfl⟩
   replace H : (laws_toPolS.l0 F_ k l0 y105 0) = some r := by first | (rw [hy105]; with_reducible exact H) | (have H2_ := (Option.bind_some _ _).symm.trans H; rw [hy105]; with_reducible exact H2_) | (have H2_ := (Option.bind_some _ _).symm.trans H; with_reducible exact H2_) | with_reducible exact H | (rw [hy105]; exact H) | exact H
   have Ny105 := Aside0.mk hy105
   clear hy105
   have H' := Aside0.mk H
   clear H
   go_enter Try.func47, Try.ntmps47
   go_wp2_with (first | ((with_reducible refine gD 7 rfl ?_); refine Kd.S_make k29 _ 29 rfl (N := 7) rfl 27 _ _ rfl (l0.length : Int) rfl rfl Try.underlying27 (.agg #[(.int .i64 0), (.int .i64 0), (.string ⟨#[]⟩), (.string ⟨#[]⟩), (.slice none 0 0)]) 72 info29 rfl (by decide) (by omega) z29 (ok := fun _ => True) (okp := fun _ => True) (k29_mkM _ _ _ z29 (Kd.S_nil _ _ _ _ _)) (fun _ hk => hk) trivial (zD) (Nat.le_trans (Nat.mul_le_mul_right _ (zD : (l0.length : Int).toNat ≤ 3909374676536)) (by omega)) (Below.refl _ _) (Nat.le_refl _) ?_; intro v106 w4 ho5 hb hg_ hnew_; clear hg_ hnew_; (first | rw [← Ny105.out] at ho5 | (simp only [Int.reduceToNat] at ho5; rw [← Ny105.out] at ho5)); have HO107 := Aside0.mk (Kd.S_lower ho5 (below_size (zL HB.out))); replace HB := zLB (zL HB.out) hb; clear hb ho5))
   go_loopg [4] k (fun kq v4 w' => ∃ (x3_1 : List (S29)) (x4_1 : Int), v4 = .int .i64 x4_1 ∧ Aside0 (laws_toPolS.l0 F_ kq l0 x3_1 x4_1 = some r) ∧ Aside0 (kq ≤ k) ∧ Aside0 (Kd.S k29 29 w' w.heap.size (fun _ => True) v106 x3_1) ∧ Aside0 (Below w.heap.size w w'))
   case atStart => exact ⟨(y105), (0), zV, H', ⟨Nat.le_refl _⟩, ⟨zS HO107.out⟩, ⟨zL HB.out⟩⟩
   case round =>
    clear H'
    try clear c2
    try clear c2b0
    try clear c2b1
    try clear p2
    try clear c3
    try clear c3b0
    try clear c3b1
    try clear c4
    obtain ⟨x3_1, x4_1, rfl, HA, HK1, HO_3, HB⟩ := hrel
    cases gk with
    | zero => exact absurd HA.out (by simp [laws_toPolS.l0])
    | succ k1 =>
     have H := HA.out
     clear HA
     simp only [laws_toPolS.l0] at H
     by_cases c6 : x4_1 < (l0.length : Int)
     ·rw [if_pos c6] at H
      have c6b0 := decide_eq_true c6
      clear c6
      by_cases c7 : 0 ≤ x4_1
      ·rw [if_pos c7] at H
       have c7b0 := decide_eq_true c7
       clear c7
       obtain ⟨⟨t109, t110, t111, t112, t113⟩, A8, H⟩ := zO H; try dsimp only at H
       by_cases c9 : x4_1 < (x3_1.length : Int)
       ·rw [if_pos c9] at H
        have c9b0 := decide_eq_true c9
        clear c9
        generalize hy116 : (x3_1.set (x4_1 : Int).toNat (⟨t109, t110, t111, t112, t113⟩ : S29)) = y116 at H; (try rw [Option.bind_some] at H); have Ny116 := Aside0.mk hy116.symm; clear hy116
        have H' := Aside0.mk H
        clear H
        have p108 : 0 ≤ (x4_1 : Int) := zD
        have q108 : x4_1 < (l0.length : Int) := zD
        obtain ⟨ad108, A108_4, c108_4, e108, hx108_0, hx108_1, hx108_2, hx108_3, hx108_4, hl108_4, hi108_4⟩ := at_T24 HR0.out x4_1 p108 q108
        cases e108
        replace hx108_0 := zh HB.out hx108_0
        replace hx108_1 := zh HB.out hx108_1
        replace hx108_2 := zh HB.out hx108_2
        replace hx108_3 := zh HB.out hx108_3
        replace hx108_4 := zh HB.out hx108_4
        have HR108_4 := Aside0.mk hi108_4
        have HC108_4 := Aside0.mk hl108_4
        clear hi108_4 hl108_4
        replace p108 := eq_true p108
        replace q108 := eq_true q108
        go_wp2_with (first | ((with_reducible refine gC 15 rfl ?_); refine gL 20 Try.func15 #[.agg #[.int .i64 ((rd_T24 l0 x4_1).f0), .int .i64 ((rd_T24 l0 x4_1).f1), .string ((rd_T24 l0 x4_1).f2), .string ((rd_T24 l0 x4_1).f3), .slice A108_4 ((rd_T24 l0 x4_1).f4).length c108_4]] ?_; (with_reducible refine (hF_ ((rd_T24 l0 x4_1).f0) ((rd_T24 l0 x4_1).f1) ((rd_T24 l0 x4_1).f2) ((rd_T24 l0 x4_1).f3) _ _ ((rd_T24 l0 x4_1).f4) t109 t110 t111 t112 t113 _ ?side1 ?side2 A8.out).mono ?_); (case side1 => exact zC (Kd.C_below HR108_4.out HB.out)); (case side2 => exact HC108_4.out); rintro e w11 ⟨v114, rfl, ho0, hb⟩; refine ⟨_, rfl, ?_⟩; have TW := Aside0.mk (Two.mk (G := fun _ => True) HO_3.out ho0 hb (fun _ _ => trivial) HB.out.size); have HO115 := Aside0.mk (Kd.S_lower (Kd.S_new' ho0 (Kd.S_lt (zS HO_3.out))) (below_size (zL HB.out))); replace HO_3 := Aside0.mk (Kd.S_elder' (zS HO_3.out) (Kd.S_base ho0) hb); replace HB := zLB (zL HB.out) hb; clear ho0 hb; have p10 : 0 ≤ (x4_1 : Int) := zD; have q10 : (x4_1 : Int) < ((x3_1.length : Int) : Int) := zD; obtain ⟨go10, co10, eo10, gb10, gl10, cl10, HG10⟩ := Kd.S_form HO_3.out (by omega); (first | cases eo10 | (injection eo10 with ea_ en_ ec_; (first | subst ea_ | (injection ea_ with ea_; subst ea_)); subst ec_; clear en_)); have GB10 := Aside0.mk gb10; have GG10 := Aside0.mk HG10; clear gb10 gl10 HG10; obtain ⟨_, ce10, hcl10, hM10, hcc10, hfr10, _, _⟩ := Kd.S_elem HO_3.out z29 (x4_1 : Int) p10 q10; obtain ⟨ve10_4, rfl, ge10_4⟩ := k29_openM hM10; have hx10_0 : w11.cell? ⟨go10, (x4_1 : Int).toNat * 5, none⟩ = some (.int .i64 ((rd_T29 x3_1 x4_1).f0)) := hcc10 0 _ rfl; have hx10_1 : w11.cell? ⟨go10, (x4_1 : Int).toNat * 5 + 1, none⟩ = some (.int .i64 ((rd_T29 x3_1 x4_1).f1)) := hcc10 1 _ rfl; have hx10_2 : w11.cell? ⟨go10, (x4_1 : Int).toNat * 5 + 2, none⟩ = some (.string ((rd_T29 x3_1 x4_1).f2)) := hcc10 2 _ rfl; have hx10_3 : w11.cell? ⟨go10, (x4_1 : Int).toNat * 5 + 3, none⟩ = some (.string ((rd_T29 x3_1 x4_1).f3)) := hcc10 3 _ rfl; have hx10_4 : w11.cell? ⟨go10, (x4_1 : Int).toNat * 5 + 4, none⟩ = some (ve10_4) := hcc10 4 _ rfl; have hf10_0 : w11.frozen? ⟨go10, (x4_1 : Int).toNat * 5, none⟩ = false := hfr10 0; have hf10_1 : w11.frozen? ⟨go10, (x4_1 : Int).toNat * 5 + 1, none⟩ = false := hfr10 1; have hf10_2 : w11.frozen? ⟨go10, (x4_1 : Int).toNat * 5 + 2, none⟩ = false := hfr10 2; have hf10_3 : w11.frozen? ⟨go10, (x4_1 : Int).toNat * 5 + 3, none⟩ = false := hfr10 3; have hf10_4 : w11.frozen? ⟨go10, (x4_1 : Int).toNat * 5 + 4, none⟩ = false := hfr10 4; clear hcl10 hcc10 hfr10; (try clear hM10); replace p10 := eq_true p10; replace q10 := eq_true q10; obtain ⟨N_, T1_, T2_⟩ := TW.out; have n_ := Aside0.mk (Kd.S_mono (ok' := (fun k_ => some k_ ≠ (v114 : Value).ownBlock)) HO_3.out (fun k_ hk => hk.2)); clear HO_3; have HO_3 := n_; clear n_; have HX12 := Aside0.mk (show Kd.S k29 29 w11 w.heap.size (fun k_ => ((fun _ => True)) k_ ∧ ¬ ((fun k_ => N_ ≤ k_)) k_) (.slice (some ⟨go10, 0, none⟩) x3_1.length co10) x3_1 from (by (with_reducible repeat (first | apply Kd.S_alloc | apply Kd.S_drewN | apply Kd.S_drew)); exact Kd.S_mono T1_ (fun k_ hk => ⟨trivial, Nat.not_le.2 hk.2⟩))); obtain ⟨oki12, ce12, hcl12, hM12, hcc12, hfr12, hoki12, hH12⟩ := Kd.S_elem HX12.out z29 (x4_1 : Int) (zD) (by have h_ : (x4_1 : Int) < ((x3_1.length : Int) : Int) := zD; first | exact h_ | (have e_ := (Kd.S_reads' HO_3.out).1; omega) | simpa using h_); obtain ⟨ve12_4, rfl, ge12_4⟩ := k29_openM hM12; have HP12 := Kd.S_seg hH12 (zD) (by have h_ : (x4_1 : Int) < ((x3_1.length : Int) : Int) := zD; first | exact h_ | (have e_ := (Kd.S_reads' HO_3.out).1; omega) | simpa using h_) (seg := [.int .i64 t109, .int .i64 t110, .string t111, .string t112, v114]) (j := 0) (show 5 ≤ 5 from by decide) (x' := (⟨t109, t110, t111, t112, t113⟩ : S29)) (k29_mkM _ _ _ (⟨t109, t110, t111, t112, t113⟩ : S29) (Kd.S_mono T2_ (fun _ h_ => Or.inr h_.2))) (fun _ hk => hk) (fun k_ hk_ => ⟨trivial, fun e_ => Nat.lt_irrefl _ (Nat.lt_of_lt_of_le ((Kd.S_R T1_).1 _ rfl).2 (e_ ▸ hk_))⟩); have hx12_0 := hcc12 0 _ rfl; (try simp only [show (k29).sz = 5 from rfl, Nat.mul_one, Nat.add_zero] at hx12_0); have hf12_0 := hfr12 0; (try simp only [show (k29).sz = 5 from rfl, Nat.mul_one, Nat.add_zero] at hf12_0); have hx12_1 := hcc12 1 _ rfl; (try simp only [show (k29).sz = 5 from rfl, Nat.mul_one, Nat.add_zero] at hx12_1); have hf12_1 := hfr12 1; (try simp only [show (k29).sz = 5 from rfl, Nat.mul_one, Nat.add_zero] at hf12_1); have hx12_2 := hcc12 2 _ rfl; (try simp only [show (k29).sz = 5 from rfl, Nat.mul_one, Nat.add_zero] at hx12_2); have hf12_2 := hfr12 2; (try simp only [show (k29).sz = 5 from rfl, Nat.mul_one, Nat.add_zero] at hf12_2); have hx12_3 := hcc12 3 _ rfl; (try simp only [show (k29).sz = 5 from rfl, Nat.mul_one, Nat.add_zero] at hx12_3); have hf12_3 := hfr12 3; (try simp only [show (k29).sz = 5 from rfl, Nat.mul_one, Nat.add_zero] at hf12_3); have hx12_4 := hcc12 4 _ rfl; (try simp only [show (k29).sz = 5 from rfl, Nat.mul_one, Nat.add_zero] at hx12_4); have hf12_4 := hfr12 4; (try simp only [show (k29).sz = 5 from rfl, Nat.mul_one, Nat.add_zero] at hf12_4); clear hcl12 hcc12 hfr12 hoki12 hH12; (try clear hM12)) | ((with_reducible refine gate_store (t := 29) (p := 21) rfl ?_); refine store_event (t := 29) (p := 21) (v := ?vo_w13) (w1 := (((((w11.setCell ⟨go10, (x4_1 : Int).toNat * 5, none⟩ (.int .i64 t109)).setCell ⟨go10, (x4_1 : Int).toNat * 5 + 1, none⟩ (.int .i64 t110)).setCell ⟨go10, (x4_1 : Int).toNat * 5 + 2, none⟩ (.string t111)).setCell ⟨go10, (x4_1 : Int).toNat * 5 + 3, none⟩ (.string t112)).setCell ⟨go10, (x4_1 : Int).toNat * 5 + 4, none⟩ (v114))) ?hg ?ho ?hn ?hr ?_; (case ho => rfl); (case hg => rfl); (case hn => rfl); (case hr => first | (go_simp; done) | (go_simp; rfl) | (obtain ⟨_, _, ev114_⟩ := Kd.S_slice HO115.out; subst ev114_; first | (go_simp; done) | (go_simp; rfl))); intro w13 hw; clear TW T1_ T2_; have hg : w11.grownBy w13 (some go10) := (by rw [hw]; exact HP12.2); have hp_ : Kd.S k29 29 w13 w.heap.size (fun _ => True) (.slice (some ⟨go10, 0, none⟩) x3_1.length co10) y116 := (by rw [hw, Ny116.out]; exact HP12.1); clear HP12; replace HO_3 := Aside0.mk (hp_); replace HB := Aside0.mk ((by rw [hw]; exact bS (bS (bS (bS (bS (HB.out) GB10.out) GB10.out) GB10.out) GB10.out) GB10.out : Below w.heap.size w w13)); clear HO115; clear hg hw hp_))
        go_roundg k1
        case measure => have := HK1.out; omega
        case rel => exact ⟨(y116), (wrap64 (x4_1 + 1)), zV, H', ⟨by have := HK1.out; omega⟩, ⟨zS HO_3.out⟩, ⟨zL HB.out⟩⟩
       ·rw [if_neg c9] at H
        exact absurd H (by simp)
      ·rw [if_neg c7] at H
       exact absurd H (by simp)
     ·rw [if_neg c6] at H
      have c6b0 := decide_eq_false c6
      clear c6
      obtain rfl := Option.some.inj H
      go_wp2
      go_ret
      exact ⟨_, zW, zS HO_3.out, zL HB.out⟩
  ·rw [if_neg c3] at H
   exact absurd H (by simp)
 ·rw [if_neg c2] at H
  exact absurd H (by simp)

open Go.Proofs.YtfhblnbicnmndaaW.PrintWords renaming blk_drewN → bN, blk_drew → bD, blk_alloc → bA, blk_cell → bC, blk_below → bB, below_set → bS
/-! ### laws_toPol: function 15 -/
def laws_toPol.f : Nat → Int → Int → ByteArray → ByteArray → List (S24) → Option (Int × Int × ByteArray × ByteArray × (List (S29)))
  | 0, _, _, _, _, _ => none
  | k + 1, a0_0, a0_1, a0_2, a0_3, l0_4 => (laws_toPolS.f (fun b0_ b1_ b2_ b3_ b4_ => laws_toPol.f k b0_ b1_ b2_ b3_ b4_) k l0_4).bind fun t120 => (some (a0_0, a0_1, a0_2, a0_3, t120))
set_option maxHeartbeats 8000000 in
set_option maxRecDepth 100000 in
theorem laws_toPol.calls (k : Nat) : ∀ (a0_0 : Int) (a0_1 : Int) (a0_2 : ByteArray) (a0_3 : ByteArray) (A0_4 : Option Addr) (c0_4 : Nat) (l0_4 : List (S24)) (r1 : Int) (r2 : Int) (r3 : ByteArray) (r4 : ByteArray) (r5 : List (S29)) (w : World) (hr0_4 : Kd.C k24 w A0_4 l0_4.length l0_4) (hc0_4 : l0_4.length ≤ c0_4) (h : laws_toPol.f k a0_0 a0_1 a0_2 a0_3 l0_4 = some (r1, r2, r3, r4, r5)),
   Calls Try.prog 15 #[.agg #[.int .i64 a0_0, .int .i64 a0_1, .string a0_2, .string a0_3, .slice A0_4 l0_4.length c0_4]] w fun e w' => ∃ v4_ : Value, e = .returned (.agg #[.int .i64 r1, .int .i64 r2, .string r3, .string r4, v4_]) ∧ Kd.S k29 29 w' w.heap.size (fun _ => True) v4_ r5 ∧ Below w.heap.size w w' := by
 induction k with
 | zero =>
   intro a0_0 a0_1 a0_2 a0_3 A0_4 c0_4 l0_4 r1 r2 r3 r4 r5 w hr0_4 hc0_4 h
   exact absurd h (by simp [laws_toPol.f])
 | succ k ih =>
 intro a0_0 a0_1 a0_2 a0_3 A0_4 c0_4 l0_4 r1 r2 r3 r4 r5 w hr0_4 hc0_4 h
 have hu24 := Try.underlying24
 have hu29 := Try.underlying29
 have HR0_4 := Aside0.mk hr0_4
 have HC0_4 := Aside0.mk hc0_4
 clear hr0_4 hc0_4
 have HB := Aside0.mk (Below.refl w.heap.size w)
 unfold laws_toPol.f at h; have H := h
 clear h
 obtain ⟨t120, A2, H⟩ := zO H; try dsimp only at H
 simp only [Option.some.injEq, Prod.mk.injEq] at H
 obtain ⟨rfl, rfl, rfl, rfl, rfl⟩ := H
 go_enter Try.func15, Try.ntmps15
 go_wp2_with (first | ((with_reducible refine gD 1 rfl ?_); refine bE 1 #[.int .i64 a0_0, .int .i64 a0_1, .string a0_2, .string a0_3, .slice A0_4 l0_4.length c0_4] 24 ?_; intro gb117 hg w3 hbox hb; have BK117 := Aside0.mk hbox; have GW117 := Aside0.mk (zg (zL HB.out) hg : w.heap.size ≤ gb117); have GE117 := GW117; replace HB := zLB (zL HB.out) hb; clear hb hbox hg) | ((with_reducible refine gD 2 rfl ?_); refine bE 2 #[.int .i64 0, .int .i64 0, .string (⟨#[]⟩ : ByteArray), .string (⟨#[]⟩ : ByteArray), .slice none 0 0] 29 ?_; intro gb118 hg w4 hbox hb; have BK118 := Aside0.mk hbox; have GW118 := Aside0.mk (zg (zL1 HB.out GE117.out) hg : w.heap.size ≤ gb118); have GE118 := GW118; replace HB := zLB (zL1 HB.out GE117.out) hb; have NB117_118 := Aside0.mk (zN BK117.out hg : gb117 ≠ gb118); have NB118_117 := Aside0.mk (zM BK117.out hg : gb118 ≠ gb117); replace BK117 := zBB BK117 hb; clear hb hbox hg) | ((with_reducible refine gD 3 rfl ?_); refine bE 3 #[.int .i64 0, .int .i64 0, .string (⟨#[]⟩ : ByteArray), .string (⟨#[]⟩ : ByteArray), .slice none 0 0] 29 ?_; intro gb119 hg w5 hbox hb; have BK119 := Aside0.mk hbox; have GW119 := Aside0.mk (zg (zL2 HB.out GE117.out GE118.out) hg : w.heap.size ≤ gb119); have GE119 := GW119; replace HB := zLB (zL2 HB.out GE117.out GE118.out) hb; have NB117_119 := Aside0.mk (zN BK117.out hg : gb117 ≠ gb119); have NB119_117 := Aside0.mk (zM BK117.out hg : gb119 ≠ gb117); replace BK117 := zBB BK117 hb; have NB118_119 := Aside0.mk (zN BK118.out hg : gb118 ≠ gb119); have NB119_118 := Aside0.mk (zM BK118.out hg : gb119 ≠ gb118); replace BK118 := zBB BK118 hb; clear hb hbox hg; have hnb6 := NB117_118.out; have hnc6 := NB118_117.out; have hnb7 := NB117_119.out; have hnc7 := NB119_117.out; have hcz8 := zc5 BK117.out; have hfz8 := zf5 BK117.out; have hnb9 := NB119_118.out; have hnc9 := NB118_119.out; have hcz10 := zc5 BK119.out; have hfz10 := zf5 BK119.out) | ((with_reducible refine gC 47 rfl ?_); refine gL 18 Try.func47 #[.slice A0_4 l0_4.length c0_4] ?_; (with_reducible refine (laws_toPolS.calls ih k _ _ l0_4 t120 _ ?side1 ?side2 A2.out).mono ?_); (case side1 => exact Kd.C_below HR0_4.out (zL3 HB.out GE117.out GE118.out GE119.out)); (case side2 => exact HC0_4.out); rintro e w11 ⟨v121, rfl, ho0, hb⟩; refine ⟨_, rfl, ?_⟩; have HO122 := Aside0.mk (Kd.S_lower (Kd.S_newB (Kd.S_newB ho0 (g := gb118) (o := .cells #[.int .i64 0, .int .i64 0, .string (⟨#[]⟩ : ByteArray), .string (⟨#[]⟩ : ByteArray), .slice none 0 0] 29 (0, 0)) (by refine zB ?_; refine zr4 ?_ NB118_119.out; exact zB BK118.out)) (g := gb119) (o := .cells #[.int .i64 a0_0, .int .i64 a0_1, .string a0_2, .string a0_3, .slice none 0 0] 29 (0, 0)) (by (with_reducible repeat (first | refine bN ?_ _ | refine bD ?_ | refine bA ?_ _)); refine blk_put (cs := #[.int .i64 a0_0, .int .i64 a0_1, .string a0_2, .string (⟨#[]⟩ : ByteArray), .slice none 0 0]) ?_ 3 _ rfl; (with_reducible repeat (first | refine bN ?_ _ | refine bD ?_ | refine bA ?_ _)); refine blk_put (cs := #[.int .i64 a0_0, .int .i64 a0_1, .string (⟨#[]⟩ : ByteArray), .string (⟨#[]⟩ : ByteArray), .slice none 0 0]) ?_ 2 _ rfl; (with_reducible repeat (first | refine bN ?_ _ | refine bD ?_ | refine bA ?_ _)); refine blk_put (cs := #[.int .i64 a0_0, .int .i64 0, .string (⟨#[]⟩ : ByteArray), .string (⟨#[]⟩ : ByteArray), .slice none 0 0]) ?_ 1 _ rfl; (with_reducible repeat (first | refine bN ?_ _ | refine bD ?_ | refine bA ?_ _)); refine blk_put (cs := #[.int .i64 0, .int .i64 0, .string (⟨#[]⟩ : ByteArray), .string (⟨#[]⟩ : ByteArray), .slice none 0 0]) ?_ 0 _ rfl; exact zB BK119.out)) (below_size (zL3 HB.out GE117.out GE118.out GE119.out))); replace BK117 := Aside0.mk (bB (g := gb117) (o := .cells #[.int .i64 a0_0, .int .i64 a0_1, .string a0_2, .string a0_3, .slice A0_4 l0_4.length c0_4] 24 (0, 0)) (by refine zB ?_; refine zr4 ?_ NB117_119.out; exact zB BK117.out) hb); replace BK118 := Aside0.mk (bB (g := gb118) (o := .cells #[.int .i64 0, .int .i64 0, .string (⟨#[]⟩ : ByteArray), .string (⟨#[]⟩ : ByteArray), .slice none 0 0] 29 (0, 0)) (by refine zB ?_; refine zr4 ?_ NB118_119.out; exact zB BK118.out) hb); replace BK119 := Aside0.mk (bB (g := gb119) (o := .cells #[.int .i64 a0_0, .int .i64 a0_1, .string a0_2, .string a0_3, .slice none 0 0] 29 (0, 0)) (by (with_reducible repeat (first | refine bN ?_ _ | refine bD ?_ | refine bA ?_ _)); refine blk_put (cs := #[.int .i64 a0_0, .int .i64 a0_1, .string a0_2, .string (⟨#[]⟩ : ByteArray), .slice none 0 0]) ?_ 3 _ rfl; (with_reducible repeat (first | refine bN ?_ _ | refine bD ?_ | refine bA ?_ _)); refine blk_put (cs := #[.int .i64 a0_0, .int .i64 a0_1, .string (⟨#[]⟩ : ByteArray), .string (⟨#[]⟩ : ByteArray), .slice none 0 0]) ?_ 2 _ rfl; (with_reducible repeat (first | refine bN ?_ _ | refine bD ?_ | refine bA ?_ _)); refine blk_put (cs := #[.int .i64 a0_0, .int .i64 0, .string (⟨#[]⟩ : ByteArray), .string (⟨#[]⟩ : ByteArray), .slice none 0 0]) ?_ 1 _ rfl; (with_reducible repeat (first | refine bN ?_ _ | refine bD ?_ | refine bA ?_ _)); refine blk_put (cs := #[.int .i64 0, .int .i64 0, .string (⟨#[]⟩ : ByteArray), .string (⟨#[]⟩ : ByteArray), .slice none 0 0]) ?_ 0 _ rfl; exact zB BK119.out) hb); replace HB := zLB (zL3 HB.out GE117.out GE118.out GE119.out) hb; clear ho0 hb; obtain ⟨Ao12, co12, eo12⟩ := Kd.S_slice HO122.out; subst eo12; have hcz13 := zc5 BK119.out; have hfz13 := zf5 BK119.out; have hcz14 := zc5 BK118.out; have hfz14 := zf5 BK118.out))
 refine bodyPost_ret (results_cell_row rfl _ _ gb118 29 #[.int .i64 a0_0, .int .i64 a0_1, .string a0_2, .string a0_3, .slice Ao12 t120.length co12] (0, 0) _ rfl (by refine zB ?_; refine zp5 (cs := #[.int .i64 0, .int .i64 0, .string (⟨#[]⟩ : ByteArray), .string (⟨#[]⟩ : ByteArray), .slice none 0 0]) ?_; (with_reducible repeat (first | refine bN ?_ _ | refine bD ?_ | refine bA ?_ _)); refine blk_far ?_ NB118_119.out _; exact zB BK118.out) Try.underlying29 rfl (by kernel_rfl)) rfl ?_
 exact ⟨_, zW, by (with_reducible repeat (first | apply Kd.S_alloc | apply Kd.S_drewN | apply Kd.S_drew)); exact Kd.S_mono (zSF5 (Kd.S_far (p := ⟨gb119, 4, none⟩) (Kd.S_mono (Kd.S_mono HO122.out (fun k_ hk => (⟨hk, hk.2⟩ : _ ∧ k_ ≠ gb119))) (fun k_ hk => (⟨hk, hk.1.1.2⟩ : _ ∧ k_ ≠ gb118))) (fun _ hk => hk.1.2) (.slice Ao12 t120.length co12)) gb118 (fun _ hk => hk.2) (.int .i64 a0_0) (.int .i64 a0_1) (.string a0_2) (.string a0_3) (.slice Ao12 t120.length co12)) (fun _ hk => trivial), zL3 HB.out GE117.out GE118.out GE119.out⟩

open Go.Proofs.YtfhblnbicnmndaaW.PrintWords renaming blk_drewN → bN, blk_drew → bD, blk_alloc → bA, blk_cell → bC, blk_below → bB, below_set → bS
/-! ### laws_eqPolS: function 48 -/
def laws_eqPolS.l0 (F_ : Int → Int → ByteArray → ByteArray → List (S29) → Int → Int → ByteArray → ByteArray → List (S29) → Option (Bool)) : Nat → List (S29) → List (S29) → Int → Option (Bool)
 | 0, _, _, _ => none
 | k + 1, x0, x1, x5 => if x5 < (x0.length : Int) then (if 0 ≤ x5 then (if x5 < (x1.length : Int) then ((F_ ((rd_T29 x0 x5).f0) ((rd_T29 x0 x5).f1) ((rd_T29 x0 x5).f2) ((rd_T29 x0 x5).f3) ((rd_T29 x0 x5).f4) ((rd_T29 x1 x5).f0) ((rd_T29 x1 x5).f1) ((rd_T29 x1 x5).f2) ((rd_T29 x1 x5).f3) ((rd_T29 x1 x5).f4)).bind fun t125 => (if t125 = true then (laws_eqPolS.l0 F_ k x0 x1 (wrap64 (x5 + 1))) else (some false))) else (none)) else (none)) else (some true)
def laws_eqPolS.f (F_ : Int → Int → ByteArray → ByteArray → List (S29) → Int → Int → ByteArray → ByteArray → List (S29) → Option (Bool)) (k : Nat) (l0 : List (S29)) (l1 : List (S29)) : Option (Bool) := if (l0.length : Int) = (l1.length : Int) then (laws_eqPolS.l0 F_ k l0 l1 0) else (some false)
def laws_eqPolS.T6 : Bool × List (List Nat × List Nat) := (true, [([], []), ([], []), ([0, 1], [0, 1]), ([2], [2]), ([], []), ([], []), ([4, 5], [4, 5]), ([6], [6]), ([3, 7], [3, 7]), ([8], [8])])
def laws_eqPolS.B6 : List Nat := [0, 0, 3, 7, 0, 0, 48, 112, 255, 511]
theorem laws_eqPolS.tab6 : rtab .any (opsOf Try.f48 6) = laws_eqPolS.T6 := by kernel_rfl
theorem laws_eqPolS.bits6 : waitsOk laws_eqPolS.T6.2 laws_eqPolS.B6 = true := by kernel_rfl
set_option maxHeartbeats 8000000 in
set_option maxRecDepth 100000 in
theorem laws_eqPolS.calls {F_ : Int → Int → ByteArray → ByteArray → List (S29) → Int → Int → ByteArray → ByteArray → List (S29) → Option (Bool)} (hF_ : ∀ (a0_0 : Int) (a0_1 : Int) (a0_2 : ByteArray) (a0_3 : ByteArray) (A0_4 : Option Addr) (c0_4 : Nat) (l0_4 : List (S29)) (a1_0 : Int) (a1_1 : Int) (a1_2 : ByteArray) (a1_3 : ByteArray) (A1_4 : Option Addr) (c1_4 : Nat) (l1_4 : List (S29)) (r : Bool) (w : World) (hr0_4 : Kd.C k29 w A0_4 l0_4.length l0_4) (hc0_4 : l0_4.length ≤ c0_4) (hr1_4 : Kd.C k29 w A1_4 l1_4.length l1_4) (hc1_4 : l1_4.length ≤ c1_4) (h : F_ a0_0 a0_1 a0_2 a0_3 l0_4 a1_0 a1_1 a1_2 a1_3 l1_4 = some r),
    Calls Try.prog 17 #[.agg #[.int .i64 a0_0, .int .i64 a0_1, .string a0_2, .string a0_3, .slice A0_4 l0_4.length c0_4], .agg #[.int .i64 a1_0, .int .i64 a1_1, .string a1_2, .string a1_3, .slice A1_4 l1_4.length c1_4]] w fun e w' => e = .returned (.bool r) ∧ Below w.heap.size w w') (k : Nat) (A0 : Option Addr) (c0 : Nat) (l0 : List (S29)) (A1 : Option Addr) (c1 : Nat) (l1 : List (S29)) (r : Bool) (w : World) (hr0 : Kd.C k29 w A0 l0.length l0) (hc0 : l0.length ≤ c0) (hr1 : Kd.C k29 w A1 l1.length l1) (hc1 : l1.length ≤ c1) (h : laws_eqPolS.f F_ k l0 l1 = some r) :
  Calls Try.prog 48 #[.slice A0 l0.length c0, .slice A1 l1.length c1] w fun e w' => e = .returned (.bool r) ∧ Below w.heap.size w w' := by
 have hu29 := Try.underlying29
 have HR0 := Aside0.mk hr0
 have HC0 := Aside0.mk hc0
 clear hr0 hc0
 have HR1 := Aside0.mk hr1
 have HC1 := Aside0.mk hc1
 clear hr1 hc1
 have HB := Aside0.mk (Below.refl w.heap.size w)
 unfold laws_eqPolS.f at h; have H := h
 clear h
 by_cases c3 : (l0.length : Int) = (l1.length : Int)
 ·rw [if_pos c3] at H
  obtain ⟨c3b0, c3b1⟩ := zt c3
  have c3b2 : (l0.length == l1.length) = true := by first | simpa using c3 | (simp at c3 ⊢; omega)
  clear c3
  have H' := Aside0.mk H
  clear H
  go_enter Try.func48, Try.ntmps48
  go_wp2
  go_loopg [5] k (fun kq v5 w' => ∃ (x5_1 : Int), v5 = .int .i64 x5_1 ∧ Aside0 (laws_eqPolS.l0 F_ kq l0 l1 x5_1 = some r) ∧ Aside0 (kq ≤ k) ∧ Aside0 (Below w.heap.size w w'))
  case atStart => exact ⟨(0), zV, H', ⟨Nat.le_refl _⟩, ⟨zL HB.out⟩⟩
  case round =>
   clear H'
   try clear c1
   try clear p2
   try clear c3
   try clear c3b0
   try clear c3b1
   try clear c3b2
   obtain ⟨x5_1, rfl, HA, HK1, HB⟩ := hrel
   cases gk with
   | zero => exact absurd HA.out (by simp [laws_eqPolS.l0])
   | succ k1 =>
    have H := HA.out
    clear HA
    simp only [laws_eqPolS.l0] at H
    by_cases c4 : x5_1 < (l0.length : Int)
    ·rw [if_pos c4] at H
     have c4b0 := decide_eq_true c4
     clear c4
     by_cases c5 : 0 ≤ x5_1
     ·rw [if_pos c5] at H
      have c5b0 := decide_eq_true c5
      clear c5
      by_cases c6 : x5_1 < (l1.length : Int)
      ·rw [if_pos c6] at H
       have c6b0 := decide_eq_true c6
       clear c6
       obtain ⟨t125, A7, H⟩ := zO H; try dsimp only at H
       by_cases c8 : t125 = true
       ·subst c8
        rw [if_pos rfl] at H
        have H' := Aside0.mk H
        clear H
        try go_wp2
        replace HB := zLD HB
        have p123 : 0 ≤ (x5_1 : Int) := zD
        have q123 : x5_1 < (l0.length : Int) := zD
        obtain ⟨ad123, A123_4, c123_4, e123, hx123_0, hx123_1, hx123_2, hx123_3, hx123_4, hl123_4, hi123_4⟩ := at_T29 HR0.out x5_1 p123 q123
        have hw123_4 := hx123_4
        have hw123_3 := hx123_3
        have hw123_2 := hx123_2
        have hw123_1 := hx123_1
        have hw123_0 := hx123_0
        cases e123
        replace hx123_0 := zh HB.out hx123_0
        replace hx123_1 := zh HB.out hx123_1
        replace hx123_2 := zh HB.out hx123_2
        replace hx123_3 := zh HB.out hx123_3
        replace hx123_4 := zh HB.out hx123_4
        have HR123_4 := Aside0.mk hi123_4
        have HC123_4 := Aside0.mk hl123_4
        clear hi123_4 hl123_4
        replace p123 := eq_true p123
        replace q123 := eq_true q123
        have p124 : 0 ≤ (x5_1 : Int) := zD
        have q124 : x5_1 < (l1.length : Int) := zD
        obtain ⟨ad124, A124_4, c124_4, e124, hx124_0, hx124_1, hx124_2, hx124_3, hx124_4, hl124_4, hi124_4⟩ := at_T29 HR1.out x5_1 p124 q124
        have hw124_4 := hx124_4
        have hw124_3 := hx124_3
        have hw124_2 := hx124_2
        have hw124_1 := hx124_1
        have hw124_0 := hx124_0
        cases e124
        replace hx124_0 := zh HB.out hx124_0
        replace hx124_1 := zh HB.out hx124_1
        replace hx124_2 := zh HB.out hx124_2
        replace hx124_3 := zh HB.out hx124_3
        replace hx124_4 := zh HB.out hx124_4
        have HR124_4 := Aside0.mk hi124_4
        have HC124_4 := Aside0.mk hl124_4
        clear hi124_4 hl124_4
        replace p124 := eq_true p124
        replace q124 := eq_true q124
        refine start_ (n := 10) (S := fun w' => w'.cell? (ad123.add ((x5_1).toNat * 5)) = some (.int .i64 ((rd_T29 l0 x5_1).f0)) ∧ w'.cell? ⟨(ad123.add ((x5_1).toNat * 5)).block, (ad123.add ((x5_1).toNat * 5)).off + 1, none⟩ = some (.int .i64 ((rd_T29 l0 x5_1).f1)) ∧ w'.cell? ⟨(ad123.add ((x5_1).toNat * 5)).block, (ad123.add ((x5_1).toNat * 5)).off + 2, none⟩ = some (.string ((rd_T29 l0 x5_1).f2)) ∧ w'.cell? ⟨(ad123.add ((x5_1).toNat * 5)).block, (ad123.add ((x5_1).toNat * 5)).off + 3, none⟩ = some (.string ((rd_T29 l0 x5_1).f3)) ∧ w'.cell? ⟨(ad123.add ((x5_1).toNat * 5)).block, (ad123.add ((x5_1).toNat * 5)).off + 4, none⟩ = some (.slice A123_4 ((rd_T29 l0 x5_1).f4).length c123_4) ∧ w'.cell? (ad124.add ((x5_1).toNat * 5)) = some (.int .i64 ((rd_T29 l1 x5_1).f0)) ∧ w'.cell? ⟨(ad124.add ((x5_1).toNat * 5)).block, (ad124.add ((x5_1).toNat * 5)).off + 1, none⟩ = some (.int .i64 ((rd_T29 l1 x5_1).f1)) ∧ w'.cell? ⟨(ad124.add ((x5_1).toNat * 5)).block, (ad124.add ((x5_1).toNat * 5)).off + 2, none⟩ = some (.string ((rd_T29 l1 x5_1).f2)) ∧ w'.cell? ⟨(ad124.add ((x5_1).toNat * 5)).block, (ad124.add ((x5_1).toNat * 5)).off + 3, none⟩ = some (.string ((rd_T29 l1 x5_1).f3)) ∧ w'.cell? ⟨(ad124.add ((x5_1).toNat * 5)).block, (ad124.add ((x5_1).toNat * 5)).off + 4, none⟩ = some (.slice A124_4 ((rd_T29 l1 x5_1).f4).length c124_4)) (ds := []) (fB 10 0) (by kernel_rfl) rfl rfl ⟨(zh HB.out hw123_0), (zh HB.out hw123_1), (zh HB.out hw123_2), (zh HB.out hw123_3), (zh HB.out hw123_4), (zh HB.out hw124_0), (zh HB.out hw124_1), (zh HB.out hw124_2), (zh HB.out hw124_3), (zh HB.out hw124_4)⟩ (fun hHeld => ?_); refine with_tabW laws_eqPolS.tab6 laws_eqPolS.bits6 (fun HT_ HW_ => ?_)
        generalize wr.drew = w9 at HB HR123_4 HR124_4 hx123_0 hx123_1 hx123_2 hx123_3 hx123_4 hx124_0 hx124_1 hx124_2 hx124_3 hx124_4 hHeld ⊢
        refine pY 0 17 (fB 10 1) HT_.out ?_
        refine pY 1 18 (fB 10 3) HT_.out ?_
        refine pY 2 19 (fB 10 7) HT_.out ?_
        refine pY 4 21 (fB 10 23) HT_.out ?_
        refine pY 5 22 (fB 10 55) HT_.out ?_
        refine pY 6 23 (fB 10 119) HT_.out ?_
        refine tY 3 20 (fB 10 127) HT_.out HW_.out hHeld ?_
        refine tY 7 24 (fB 10 255) HT_.out HW_.out hHeld ?_
        refine oN 8 25 (fB 10 511) HT_.out fun K hK => ?_
        refine gS Try.func17 #[.agg #[.int .i64 ((rd_T29 l0 x5_1).f0), .int .i64 ((rd_T29 l0 x5_1).f1), .string ((rd_T29 l0 x5_1).f2), .string ((rd_T29 l0 x5_1).f3), .slice A123_4 ((rd_T29 l0 x5_1).f4).length c123_4], .agg #[.int .i64 ((rd_T29 l1 x5_1).f0), .int .i64 ((rd_T29 l1 x5_1).f1), .string ((rd_T29 l1 x5_1).f2), .string ((rd_T29 l1 x5_1).f3), .slice A124_4 ((rd_T29 l1 x5_1).f4).length c124_4]] ?_
        with_reducible refine (hF_ ((rd_T29 l0 x5_1).f0) ((rd_T29 l0 x5_1).f1) ((rd_T29 l0 x5_1).f2) ((rd_T29 l0 x5_1).f3) _ _ ((rd_T29 l0 x5_1).f4) ((rd_T29 l1 x5_1).f0) ((rd_T29 l1 x5_1).f1) ((rd_T29 l1 x5_1).f2) ((rd_T29 l1 x5_1).f3) _ _ ((rd_T29 l1 x5_1).f4) true _ ?side1 ?side2 ?side3 ?side4 A7.out).mono ?_
        (case side1 => exact zC (Kd.C_below HR123_4.out HB.out))
        (case side2 => exact HC123_4.out)
        (case side3 => exact zC (Kd.C_below HR124_4.out HB.out))
        (case side4 => exact HC124_4.out)
        rintro e w10 ⟨rfl, hb⟩
        refine ⟨_, rfl, ?_⟩
        replace HB := zLB (zL HB.out) hb
        clear hb
        refine hK.out _ _ ⟨(zh HB.out hw123_0), (zh HB.out hw123_1), (zh HB.out hw123_2), (zh HB.out hw123_3), (zh HB.out hw123_4), (zh HB.out hw124_0), (zh HB.out hw124_1), (zh HB.out hw124_2), (zh HB.out hw124_3), (zh HB.out hw124_4)⟩ fun hHeld => ?_; clear hK K
        refine nZ 25 ?_
        refine pY 9 26 (fB 10 1023) HT_.out ?_
        refine done_ (done_of HT_.out (by kernel_rfl)) ?_
        try go_wp2
        go_roundg k1
        case measure => have := HK1.out; omega
        case rel => exact ⟨(wrap64 (x5_1 + 1)), zV, H', ⟨by have := HK1.out; omega⟩, ⟨zL HB.out⟩⟩
       ·obtain rfl := Bool.eq_false_iff.mpr c8
        rw [if_neg zn] at H
        obtain rfl := Option.some.inj H
        try go_wp2
        replace HB := zLD HB
        have p123 : 0 ≤ (x5_1 : Int) := zD
        have q123 : x5_1 < (l0.length : Int) := zD
        obtain ⟨ad123, A123_4, c123_4, e123, hx123_0, hx123_1, hx123_2, hx123_3, hx123_4, hl123_4, hi123_4⟩ := at_T29 HR0.out x5_1 p123 q123
        have hw123_4 := hx123_4
        have hw123_3 := hx123_3
        have hw123_2 := hx123_2
        have hw123_1 := hx123_1
        have hw123_0 := hx123_0
        cases e123
        replace hx123_0 := zh HB.out hx123_0
        replace hx123_1 := zh HB.out hx123_1
        replace hx123_2 := zh HB.out hx123_2
        replace hx123_3 := zh HB.out hx123_3
        replace hx123_4 := zh HB.out hx123_4
        have HR123_4 := Aside0.mk hi123_4
        have HC123_4 := Aside0.mk hl123_4
        clear hi123_4 hl123_4
        replace p123 := eq_true p123
        replace q123 := eq_true q123
        have p124 : 0 ≤ (x5_1 : Int) := zD
        have q124 : x5_1 < (l1.length : Int) := zD
        obtain ⟨ad124, A124_4, c124_4, e124, hx124_0, hx124_1, hx124_2, hx124_3, hx124_4, hl124_4, hi124_4⟩ := at_T29 HR1.out x5_1 p124 q124
        have hw124_4 := hx124_4
        have hw124_3 := hx124_3
        have hw124_2 := hx124_2
        have hw124_1 := hx124_1
        have hw124_0 := hx124_0
        cases e124
        replace hx124_0 := zh HB.out hx124_0
        replace hx124_1 := zh HB.out hx124_1
        replace hx124_2 := zh HB.out hx124_2
        replace hx124_3 := zh HB.out hx124_3
        replace hx124_4 := zh HB.out hx124_4
        have HR124_4 := Aside0.mk hi124_4
        have HC124_4 := Aside0.mk hl124_4
        clear hi124_4 hl124_4
        replace p124 := eq_true p124
        replace q124 := eq_true q124
        refine start_ (n := 10) (S := fun w' => w'.cell? (ad123.add ((x5_1).toNat * 5)) = some (.int .i64 ((rd_T29 l0 x5_1).f0)) ∧ w'.cell? ⟨(ad123.add ((x5_1).toNat * 5)).block, (ad123.add ((x5_1).toNat * 5)).off + 1, none⟩ = some (.int .i64 ((rd_T29 l0 x5_1).f1)) ∧ w'.cell? ⟨(ad123.add ((x5_1).toNat * 5)).block, (ad123.add ((x5_1).toNat * 5)).off + 2, none⟩ = some (.string ((rd_T29 l0 x5_1).f2)) ∧ w'.cell? ⟨(ad123.add ((x5_1).toNat * 5)).block, (ad123.add ((x5_1).toNat * 5)).off + 3, none⟩ = some (.string ((rd_T29 l0 x5_1).f3)) ∧ w'.cell? ⟨(ad123.add ((x5_1).toNat * 5)).block, (ad123.add ((x5_1).toNat * 5)).off + 4, none⟩ = some (.slice A123_4 ((rd_T29 l0 x5_1).f4).length c123_4) ∧ w'.cell? (ad124.add ((x5_1).toNat * 5)) = some (.int .i64 ((rd_T29 l1 x5_1).f0)) ∧ w'.cell? ⟨(ad124.add ((x5_1).toNat * 5)).block, (ad124.add ((x5_1).toNat * 5)).off + 1, none⟩ = some (.int .i64 ((rd_T29 l1 x5_1).f1)) ∧ w'.cell? ⟨(ad124.add ((x5_1).toNat * 5)).block, (ad124.add ((x5_1).toNat * 5)).off + 2, none⟩ = some (.string ((rd_T29 l1 x5_1).f2)) ∧ w'.cell? ⟨(ad124.add ((x5_1).toNat * 5)).block, (ad124.add ((x5_1).toNat * 5)).off + 3, none⟩ = some (.string ((rd_T29 l1 x5_1).f3)) ∧ w'.cell? ⟨(ad124.add ((x5_1).toNat * 5)).block, (ad124.add ((x5_1).toNat * 5)).off + 4, none⟩ = some (.slice A124_4 ((rd_T29 l1 x5_1).f4).length c124_4)) (ds := []) (fB 10 0) (by kernel_rfl) rfl rfl ⟨(zh HB.out hw123_0), (zh HB.out hw123_1), (zh HB.out hw123_2), (zh HB.out hw123_3), (zh HB.out hw123_4), (zh HB.out hw124_0), (zh HB.out hw124_1), (zh HB.out hw124_2), (zh HB.out hw124_3), (zh HB.out hw124_4)⟩ (fun hHeld => ?_); refine with_tabW laws_eqPolS.tab6 laws_eqPolS.bits6 (fun HT_ HW_ => ?_)
        generalize wr.drew = w11 at HB HR123_4 HR124_4 hx123_0 hx123_1 hx123_2 hx123_3 hx123_4 hx124_0 hx124_1 hx124_2 hx124_3 hx124_4 hHeld ⊢
        refine pY 0 17 (fB 10 1) HT_.out ?_
        refine pY 1 18 (fB 10 3) HT_.out ?_
        refine pY 2 19 (fB 10 7) HT_.out ?_
        refine pY 4 21 (fB 10 23) HT_.out ?_
        refine pY 5 22 (fB 10 55) HT_.out ?_
        refine pY 6 23 (fB 10 119) HT_.out ?_
        refine tY 3 20 (fB 10 127) HT_.out HW_.out hHeld ?_
        refine tY 7 24 (fB 10 255) HT_.out HW_.out hHeld ?_
        refine oN 8 25 (fB 10 511) HT_.out fun K hK => ?_
        refine gS Try.func17 #[.agg #[.int .i64 ((rd_T29 l0 x5_1).f0), .int .i64 ((rd_T29 l0 x5_1).f1), .string ((rd_T29 l0 x5_1).f2), .string ((rd_T29 l0 x5_1).f3), .slice A123_4 ((rd_T29 l0 x5_1).f4).length c123_4], .agg #[.int .i64 ((rd_T29 l1 x5_1).f0), .int .i64 ((rd_T29 l1 x5_1).f1), .string ((rd_T29 l1 x5_1).f2), .string ((rd_T29 l1 x5_1).f3), .slice A124_4 ((rd_T29 l1 x5_1).f4).length c124_4]] ?_
        with_reducible refine (hF_ ((rd_T29 l0 x5_1).f0) ((rd_T29 l0 x5_1).f1) ((rd_T29 l0 x5_1).f2) ((rd_T29 l0 x5_1).f3) _ _ ((rd_T29 l0 x5_1).f4) ((rd_T29 l1 x5_1).f0) ((rd_T29 l1 x5_1).f1) ((rd_T29 l1 x5_1).f2) ((rd_T29 l1 x5_1).f3) _ _ ((rd_T29 l1 x5_1).f4) false _ ?side1 ?side2 ?side3 ?side4 A7.out).mono ?_
        (case side1 => exact zC (Kd.C_below HR123_4.out HB.out))
        (case side2 => exact HC123_4.out)
        (case side3 => exact zC (Kd.C_below HR124_4.out HB.out))
        (case side4 => exact HC124_4.out)
        rintro e w12 ⟨rfl, hb⟩
        refine ⟨_, rfl, ?_⟩
        replace HB := zLB (zL HB.out) hb
        clear hb
        refine hK.out _ _ ⟨(zh HB.out hw123_0), (zh HB.out hw123_1), (zh HB.out hw123_2), (zh HB.out hw123_3), (zh HB.out hw123_4), (zh HB.out hw124_0), (zh HB.out hw124_1), (zh HB.out hw124_2), (zh HB.out hw124_3), (zh HB.out hw124_4)⟩ fun hHeld => ?_; clear hK K
        refine nZ 25 ?_
        refine pY 9 26 (fB 10 1023) HT_.out ?_
        refine done_ (done_of HT_.out (by kernel_rfl)) ?_
        try go_wp2
        go_ret
        exact ⟨zW, zL HB.out⟩
      ·rw [if_neg c6] at H
       exact absurd H (by simp)
     ·rw [if_neg c5] at H
      exact absurd H (by simp)
    ·rw [if_neg c4] at H
     have c4b0 := decide_eq_false c4
     clear c4
     obtain rfl := Option.some.inj H
     go_wp2
     go_ret
     exact ⟨zW, zL HB.out⟩
 ·rw [if_neg c3] at H
  obtain ⟨c3b0, c3b1⟩ := zf c3
  have c3b2 : (l0.length == l1.length) = false := by first | simpa using c3 | (simp at c3 ⊢; omega)
  obtain rfl := Option.some.inj H
  go_enter Try.func48, Try.ntmps48
  go_wp2
  go_ret
  exact ⟨zW, zL HB.out⟩

open Go.Proofs.YtfhblnbicnmndaaW.PrintWords renaming blk_drewN → bN, blk_drew → bD, blk_alloc → bA, blk_cell → bC, blk_below → bB, below_set → bS
/-! ### laws_eqPol: function 17 -/
def laws_eqPol.f : Nat → Int → Int → ByteArray → ByteArray → List (S29) → Int → Int → ByteArray → ByteArray → List (S29) → Option (Bool)
  | 0, _, _, _, _, _, _, _, _, _, _ => none
  | k + 1, a0_0, a0_1, a0_2, a0_3, l0_4, a1_0, a1_1, a1_2, a1_3, l1_4 => if a0_0 = a1_0 then (if a0_1 = a1_1 then (if a0_2.toList = a1_2.toList then (if a0_3.toList = a1_3.toList then ((laws_eqPolS.f (fun b0_ b1_ b2_ b3_ b4_ b5_ b6_ b7_ b8_ b9_ => laws_eqPol.f k b0_ b1_ b2_ b3_ b4_ b5_ b6_ b7_ b8_ b9_) k l0_4 l1_4).bind fun t128 => (if t128 = true then (some true) else (some false))) else (some false)) else (some false)) else (some false)) else (some false)
set_option maxHeartbeats 8000000 in
set_option maxRecDepth 100000 in
theorem laws_eqPol.calls (k : Nat) : ∀ (a0_0 : Int) (a0_1 : Int) (a0_2 : ByteArray) (a0_3 : ByteArray) (A0_4 : Option Addr) (c0_4 : Nat) (l0_4 : List (S29)) (a1_0 : Int) (a1_1 : Int) (a1_2 : ByteArray) (a1_3 : ByteArray) (A1_4 : Option Addr) (c1_4 : Nat) (l1_4 : List (S29)) (r : Bool) (w : World) (hr0_4 : Kd.C k29 w A0_4 l0_4.length l0_4) (hc0_4 : l0_4.length ≤ c0_4) (hr1_4 : Kd.C k29 w A1_4 l1_4.length l1_4) (hc1_4 : l1_4.length ≤ c1_4) (h : laws_eqPol.f k a0_0 a0_1 a0_2 a0_3 l0_4 a1_0 a1_1 a1_2 a1_3 l1_4 = some r),
   Calls Try.prog 17 #[.agg #[.int .i64 a0_0, .int .i64 a0_1, .string a0_2, .string a0_3, .slice A0_4 l0_4.length c0_4], .agg #[.int .i64 a1_0, .int .i64 a1_1, .string a1_2, .string a1_3, .slice A1_4 l1_4.length c1_4]] w fun e w' => e = .returned (.bool r) ∧ Below w.heap.size w w' := by
 induction k with
 | zero =>
   intro a0_0 a0_1 a0_2 a0_3 A0_4 c0_4 l0_4 a1_0 a1_1 a1_2 a1_3 A1_4 c1_4 l1_4 r w hr0_4 hc0_4 hr1_4 hc1_4 h
   exact absurd h (by simp [laws_eqPol.f])
 | succ k ih =>
 intro a0_0 a0_1 a0_2 a0_3 A0_4 c0_4 l0_4 a1_0 a1_1 a1_2 a1_3 A1_4 c1_4 l1_4 r w hr0_4 hc0_4 hr1_4 hc1_4 h
 have hu29 := Try.underlying29
 have HR0_4 := Aside0.mk hr0_4
 have HC0_4 := Aside0.mk hc0_4
 clear hr0_4 hc0_4
 have HR1_4 := Aside0.mk hr1_4
 have HC1_4 := Aside0.mk hc1_4
 clear hr1_4 hc1_4
 have HB := Aside0.mk (Below.refl w.heap.size w)
 unfold laws_eqPol.f at h; have H := h
 clear h
 by_cases c3 : a0_0 = a1_0
 ·rw [if_pos c3] at H
  obtain ⟨c3b0, c3b1⟩ := zt c3
  clear c3
  by_cases c4 : a0_1 = a1_1
  ·rw [if_pos c4] at H
   obtain ⟨c4b0, c4b1⟩ := zt c4
   clear c4
   by_cases c5 : a0_2.toList = a1_2.toList
   ·rw [if_pos c5] at H
    obtain ⟨c5b0, c5b1⟩ := zt c5
    clear c5
    by_cases c6 : a0_3.toList = a1_3.toList
    ·rw [if_pos c6] at H
     obtain ⟨c6b0, c6b1⟩ := zt c6
     clear c6
     obtain ⟨t128, A7, H⟩ := zO H; try dsimp only at H
     by_cases c8 : t128 = true
     ·subst c8
      rw [if_pos rfl] at H
      obtain rfl := Option.some.inj H
      go_enter Try.func17, Try.ntmps17
      go_wp2_with (first | ((with_reducible refine gD 2 rfl ?_); refine bE 2 #[.int .i64 a0_0, .int .i64 a0_1, .string a0_2, .string a0_3, .slice A0_4 l0_4.length c0_4] 29 ?_; intro gb126 hg w9 hbox hb; have BK126 := Aside0.mk hbox; have GW126 := Aside0.mk (zg (zL HB.out) hg : w.heap.size ≤ gb126); have GE126 := GW126; replace HB := zLB (zL HB.out) hb; clear hb hbox hg) | ((with_reducible refine gD 3 rfl ?_); refine bE 3 #[.int .i64 a1_0, .int .i64 a1_1, .string a1_2, .string a1_3, .slice A1_4 l1_4.length c1_4] 29 ?_; intro gb127 hg w10 hbox hb; have BK127 := Aside0.mk hbox; have GW127 := Aside0.mk (zg (zL1 HB.out GE126.out) hg : w.heap.size ≤ gb127); have GE127 := GW127; replace HB := zLB (zL1 HB.out GE126.out) hb; have NB126_127 := Aside0.mk (zN BK126.out hg : gb126 ≠ gb127); have NB127_126 := Aside0.mk (zM BK126.out hg : gb127 ≠ gb126); replace BK126 := zBB BK126 hb; clear hb hbox hg; have hnb11 := NB126_127.out; have hnc11 := NB127_126.out; have hcz12 := zc5 BK126.out; have hfz12 := zf5 BK126.out; have hcz13 := zc5 BK127.out; have hfz13 := zf5 BK127.out) | ((with_reducible refine gC 48 rfl ?_); refine gL 29 Try.func48 #[.slice A0_4 l0_4.length c0_4, .slice A1_4 l1_4.length c1_4] ?_; (with_reducible refine (laws_eqPolS.calls ih k _ _ l0_4 _ _ l1_4 true _ ?side1 ?side2 ?side3 ?side4 A7.out).mono ?_); (case side1 => exact zC (Kd.C_below HR0_4.out HB.out)); (case side2 => exact HC0_4.out); (case side3 => exact zC (Kd.C_below HR1_4.out HB.out)); (case side4 => exact HC1_4.out); rintro e w14 ⟨rfl, hb⟩; refine ⟨_, rfl, ?_⟩; replace BK126 := zBB BK126 hb; replace BK127 := zBB BK127 hb; replace HB := zLB (zL2 HB.out GE126.out GE127.out) hb; clear hb))
      go_ret
      exact ⟨zW, zL2 HB.out GE126.out GE127.out⟩
     ·obtain rfl := Bool.eq_false_iff.mpr c8
      rw [if_neg zn] at H
      obtain rfl := Option.some.inj H
      go_enter Try.func17, Try.ntmps17
      go_wp2_with (first | ((with_reducible refine gD 2 rfl ?_); refine bE 2 #[.int .i64 a0_0, .int .i64 a0_1, .string a0_2, .string a0_3, .slice A0_4 l0_4.length c0_4] 29 ?_; intro gb126 hg w15 hbox hb; have BK126 := Aside0.mk hbox; have GW126 := Aside0.mk (zg (zL HB.out) hg : w.heap.size ≤ gb126); have GE126 := GW126; replace HB := zLB (zL HB.out) hb; clear hb hbox hg) | ((with_reducible refine gD 3 rfl ?_); refine bE 3 #[.int .i64 a1_0, .int .i64 a1_1, .string a1_2, .string a1_3, .slice A1_4 l1_4.length c1_4] 29 ?_; intro gb127 hg w16 hbox hb; have BK127 := Aside0.mk hbox; have GW127 := Aside0.mk (zg (zL1 HB.out GE126.out) hg : w.heap.size ≤ gb127); have GE127 := GW127; replace HB := zLB (zL1 HB.out GE126.out) hb; have NB126_127 := Aside0.mk (zN BK126.out hg : gb126 ≠ gb127); have NB127_126 := Aside0.mk (zM BK126.out hg : gb127 ≠ gb126); replace BK126 := zBB BK126 hb; clear hb hbox hg; have hnb17 := NB126_127.out; have hnc17 := NB127_126.out; have hcz18 := zc5 BK126.out; have hfz18 := zf5 BK126.out; have hcz19 := zc5 BK127.out; have hfz19 := zf5 BK127.out) | ((with_reducible refine gC 48 rfl ?_); refine gL 29 Try.func48 #[.slice A0_4 l0_4.length c0_4, .slice A1_4 l1_4.length c1_4] ?_; (with_reducible refine (laws_eqPolS.calls ih k _ _ l0_4 _ _ l1_4 false _ ?side1 ?side2 ?side3 ?side4 A7.out).mono ?_); (case side1 => exact zC (Kd.C_below HR0_4.out HB.out)); (case side2 => exact HC0_4.out); (case side3 => exact zC (Kd.C_below HR1_4.out HB.out)); (case side4 => exact HC1_4.out); rintro e w20 ⟨rfl, hb⟩; refine ⟨_, rfl, ?_⟩; replace BK126 := zBB BK126 hb; replace BK127 := zBB BK127 hb; replace HB := zLB (zL2 HB.out GE126.out GE127.out) hb; clear hb))
      go_ret
      exact ⟨zW, zL2 HB.out GE126.out GE127.out⟩
    ·rw [if_neg c6] at H
     obtain ⟨c6b0, c6b1⟩ := zf c6
     obtain rfl := Option.some.inj H
     go_enter Try.func17, Try.ntmps17
     go_wp2_with (first | ((with_reducible refine gD 2 rfl ?_); refine bE 2 #[.int .i64 a0_0, .int .i64 a0_1, .string a0_2, .string a0_3, .slice A0_4 l0_4.length c0_4] 29 ?_; intro gb126 hg w21 hbox hb; have BK126 := Aside0.mk hbox; have GW126 := Aside0.mk (zg (zL HB.out) hg : w.heap.size ≤ gb126); have GE126 := GW126; replace HB := zLB (zL HB.out) hb; clear hb hbox hg) | ((with_reducible refine gD 3 rfl ?_); refine bE 3 #[.int .i64 a1_0, .int .i64 a1_1, .string a1_2, .string a1_3, .slice A1_4 l1_4.length c1_4] 29 ?_; intro gb127 hg w22 hbox hb; have BK127 := Aside0.mk hbox; have GW127 := Aside0.mk (zg (zL1 HB.out GE126.out) hg : w.heap.size ≤ gb127); have GE127 := GW127; replace HB := zLB (zL1 HB.out GE126.out) hb; have NB126_127 := Aside0.mk (zN BK126.out hg : gb126 ≠ gb127); have NB127_126 := Aside0.mk (zM BK126.out hg : gb127 ≠ gb126); replace BK126 := zBB BK126 hb; clear hb hbox hg; have hnb23 := NB126_127.out; have hnc23 := NB127_126.out; have hcz24 := zc5 BK126.out; have hfz24 := zf5 BK126.out; have hcz25 := zc5 BK127.out; have hfz25 := zf5 BK127.out))
     go_ret
     exact ⟨zW, zL2 HB.out GE126.out GE127.out⟩
   ·rw [if_neg c5] at H
    obtain ⟨c5b0, c5b1⟩ := zf c5
    obtain rfl := Option.some.inj H
    go_enter Try.func17, Try.ntmps17
    go_wp2_with (first | ((with_reducible refine gD 2 rfl ?_); refine bE 2 #[.int .i64 a0_0, .int .i64 a0_1, .string a0_2, .string a0_3, .slice A0_4 l0_4.length c0_4] 29 ?_; intro gb126 hg w26 hbox hb; have BK126 := Aside0.mk hbox; have GW126 := Aside0.mk (zg (zL HB.out) hg : w.heap.size ≤ gb126); have GE126 := GW126; replace HB := zLB (zL HB.out) hb; clear hb hbox hg) | ((with_reducible refine gD 3 rfl ?_); refine bE 3 #[.int .i64 a1_0, .int .i64 a1_1, .string a1_2, .string a1_3, .slice A1_4 l1_4.length c1_4] 29 ?_; intro gb127 hg w27 hbox hb; have BK127 := Aside0.mk hbox; have GW127 := Aside0.mk (zg (zL1 HB.out GE126.out) hg : w.heap.size ≤ gb127); have GE127 := GW127; replace HB := zLB (zL1 HB.out GE126.out) hb; have NB126_127 := Aside0.mk (zN BK126.out hg : gb126 ≠ gb127); have NB127_126 := Aside0.mk (zM BK126.out hg : gb127 ≠ gb126); replace BK126 := zBB BK126 hb; clear hb hbox hg; have hnb28 := NB126_127.out; have hnc28 := NB127_126.out; have hcz29 := zc5 BK126.out; have hfz29 := zf5 BK126.out; have hcz30 := zc5 BK127.out; have hfz30 := zf5 BK127.out))
    go_ret
    exact ⟨zW, zL2 HB.out GE126.out GE127.out⟩
  ·rw [if_neg c4] at H
   obtain ⟨c4b0, c4b1⟩ := zf c4
   obtain rfl := Option.some.inj H
   go_enter Try.func17, Try.ntmps17
   go_wp2_with (first | ((with_reducible refine gD 2 rfl ?_); refine bE 2 #[.int .i64 a0_0, .int .i64 a0_1, .string a0_2, .string a0_3, .slice A0_4 l0_4.length c0_4] 29 ?_; intro gb126 hg w31 hbox hb; have BK126 := Aside0.mk hbox; have GW126 := Aside0.mk (zg (zL HB.out) hg : w.heap.size ≤ gb126); have GE126 := GW126; replace HB := zLB (zL HB.out) hb; clear hb hbox hg) | ((with_reducible refine gD 3 rfl ?_); refine bE 3 #[.int .i64 a1_0, .int .i64 a1_1, .string a1_2, .string a1_3, .slice A1_4 l1_4.length c1_4] 29 ?_; intro gb127 hg w32 hbox hb; have BK127 := Aside0.mk hbox; have GW127 := Aside0.mk (zg (zL1 HB.out GE126.out) hg : w.heap.size ≤ gb127); have GE127 := GW127; replace HB := zLB (zL1 HB.out GE126.out) hb; have NB126_127 := Aside0.mk (zN BK126.out hg : gb126 ≠ gb127); have NB127_126 := Aside0.mk (zM BK126.out hg : gb127 ≠ gb126); replace BK126 := zBB BK126 hb; clear hb hbox hg; have hnb33 := NB126_127.out; have hnc33 := NB127_126.out; have hcz34 := zc5 BK126.out; have hfz34 := zf5 BK126.out; have hcz35 := zc5 BK127.out; have hfz35 := zf5 BK127.out))
   go_ret
   exact ⟨zW, zL2 HB.out GE126.out GE127.out⟩
 ·rw [if_neg c3] at H
  obtain ⟨c3b0, c3b1⟩ := zf c3
  obtain rfl := Option.some.inj H
  go_enter Try.func17, Try.ntmps17
  go_wp2_with (first | ((with_reducible refine gD 2 rfl ?_); refine bE 2 #[.int .i64 a0_0, .int .i64 a0_1, .string a0_2, .string a0_3, .slice A0_4 l0_4.length c0_4] 29 ?_; intro gb126 hg w36 hbox hb; have BK126 := Aside0.mk hbox; have GW126 := Aside0.mk (zg (zL HB.out) hg : w.heap.size ≤ gb126); have GE126 := GW126; replace HB := zLB (zL HB.out) hb; clear hb hbox hg) | ((with_reducible refine gD 3 rfl ?_); refine bE 3 #[.int .i64 a1_0, .int .i64 a1_1, .string a1_2, .string a1_3, .slice A1_4 l1_4.length c1_4] 29 ?_; intro gb127 hg w37 hbox hb; have BK127 := Aside0.mk hbox; have GW127 := Aside0.mk (zg (zL1 HB.out GE126.out) hg : w.heap.size ≤ gb127); have GE127 := GW127; replace HB := zLB (zL1 HB.out GE126.out) hb; have NB126_127 := Aside0.mk (zN BK126.out hg : gb126 ≠ gb127); have NB127_126 := Aside0.mk (zM BK126.out hg : gb127 ≠ gb126); replace BK126 := zBB BK126 hb; clear hb hbox hg; have hnb38 := NB126_127.out; have hnc38 := NB127_126.out; have hcz39 := zc5 BK126.out; have hfz39 := zf5 BK126.out; have hcz40 := zc5 BK127.out; have hfz40 := zf5 BK127.out))
  go_ret
  exact ⟨zW, zL2 HB.out GE126.out GE127.out⟩

open Go.Proofs.YtfhblnbicnmndaaW.PrintWords renaming blk_drewN → bN, blk_drew → bD, blk_alloc → bA, blk_cell → bC, blk_below → bB, below_set → bS
/-! ### spec_l5Copy: function 54 -/
mutual
def spec_l5Copy.l0 : Nat → Int → Int → Int → ByteArray → ByteArray → List (S29) → Int → Int → ByteArray → ByteArray → List (S29) → Option (Int × Int × ByteArray × ByteArray × (List (S29)))
 | 0, _, _, _, _, _, _, _, _, _, _, _ => none
 | k + 1, x4, x130000, x130001, x130002, x130003, x130004, x132000, x132001, x132002, x132003, x132004 => if x4 < (x130004.length : Int) then (if 0 ≤ x4 then ((spec_l5Copy.f k ((rd_T29 x130004 x4).f0) ((rd_T29 x130004 x4).f1) ((rd_T29 x130004 x4).f2) ((rd_T29 x130004 x4).f3) ((rd_T29 x130004 x4).f4)).bind fun bt136 => (if x132004.length < 1954687338268 then (spec_l5Copy.l0 k (wrap64 (x4 + 1)) x130000 x130001 x130002 x130003 x130004 x132000 x132001 x132002 x132003 (x132004 ++ [(⟨bt136.1, bt136.2.1, bt136.2.2.1, bt136.2.2.2.1, bt136.2.2.2.2⟩ : S29)])) else (none))) else (none)) else (some (x132000, x132001, x132002, x132003, x132004))
def spec_l5Copy.f : Nat → Int → Int → ByteArray → ByteArray → List (S29) → Option (Int × Int × ByteArray × ByteArray × (List (S29)))
 | 0, _, _, _, _, _ => none
 | k + 1, a0_0, a0_1, a0_2, a0_3, l0_4 => spec_l5Copy.l0 k 0 a0_0 a0_1 a0_2 a0_3 l0_4 a0_0 a0_1 a0_2 a0_3 (([] : List (S29)))
end
theorem spec_l5Copy.mono_l : ∀ k, (∀ y0 y1 y2 y3 y4, LeO (spec_l5Copy.f k y0 y1 y2 y3 y4) (spec_l5Copy.f (k + 1) y0 y1 y2 y3 y4)) ∧ (∀ y0 y1 y2 y3 y4 y5 y6 y7 y8 y9 y10, LeO (spec_l5Copy.l0 k y0 y1 y2 y3 y4 y5 y6 y7 y8 y9 y10) (spec_l5Copy.l0 (k + 1) y0 y1 y2 y3 y4 y5 y6 y7 y8 y9 y10))
 | 0 => ⟨fun _ _ _ _ _ r h => by simp [spec_l5Copy.f] at h, fun _ _ _ _ _ _ _ _ _ _ _ r h => by simp [spec_l5Copy.l0] at h⟩
 | k + 1 => by
  obtain ⟨ih0, ih1⟩ := spec_l5Copy.mono_l k
  refine ⟨?_, ?_⟩
  ·intro y0 y1 y2 y3 y4
   unfold spec_l5Copy.f
   repeat' first
   | (with_reducible exact ih0 _ _ _ _ _)
   | (with_reducible exact ih1 _ _ _ _ _ _ _ _ _ _ _)
   | (with_reducible exact LeO.refl _)
   | (with_reducible exact LeO.none _)
   | (with_reducible refine LeO.ite ?_ ?_)
   | (with_reducible refine LeO.bind ?_ (fun _ => ?_))
   | exact ih0 _ _ _ _ _
   | exact ih1 _ _ _ _ _ _ _ _ _ _ _
   | exact LeO.none _
   | refine LeO.ite ?_ ?_
   | refine LeO.bind ?_ (fun _ => ?_)
  ·intro y0 y1 y2 y3 y4 y5 y6 y7 y8 y9 y10
   unfold spec_l5Copy.l0
   repeat' first
   | (with_reducible exact ih0 _ _ _ _ _)
   | (with_reducible exact ih1 _ _ _ _ _ _ _ _ _ _ _)
   | (with_reducible exact LeO.refl _)
   | (with_reducible exact LeO.none _)
   | (with_reducible refine LeO.ite ?_ ?_)
   | (with_reducible refine LeO.bind ?_ (fun _ => ?_))
   | exact ih0 _ _ _ _ _
   | exact ih1 _ _ _ _ _ _ _ _ _ _ _
   | exact LeO.none _
   | refine LeO.ite ?_ ?_
   | refine LeO.bind ?_ (fun _ => ?_)
theorem spec_l5Copy.mono : ∀ a0 a1 a2 a3 a4 k, LeO (spec_l5Copy.f k a0 a1 a2 a3 a4) (spec_l5Copy.f (k + 1) a0 a1 a2 a3 a4) := by
 intro a0 a1 a2 a3 a4 k
 obtain ⟨ih0, ih1⟩ := spec_l5Copy.mono_l k
 exact ih0 a0 a1 a2 a3 a4
set_option maxHeartbeats 8000000 in
set_option maxRecDepth 100000 in
theorem spec_l5Copy.calls (k : Nat) : ∀ (a0_0 : Int) (a0_1 : Int) (a0_2 : ByteArray) (a0_3 : ByteArray) (A0_4 : Option Addr) (c0_4 : Nat) (l0_4 : List (S29)) (r1 : Int) (r2 : Int) (r3 : ByteArray) (r4 : ByteArray) (r5 : List (S29)) (w : World) (hr0_4 : Kd.C k29 w A0_4 l0_4.length l0_4) (hc0_4 : l0_4.length ≤ c0_4) (h : spec_l5Copy.f k a0_0 a0_1 a0_2 a0_3 l0_4 = some (r1, r2, r3, r4, r5)),
  Calls Try.prog 54 #[.agg #[.int .i64 a0_0, .int .i64 a0_1, .string a0_2, .string a0_3, .slice A0_4 l0_4.length c0_4]] w fun e w' => ∃ v4_ : Value, e = .returned (.agg #[.int .i64 r1, .int .i64 r2, .string r3, .string r4, v4_]) ∧ Kd.S k29 29 w' w.heap.size (fun _ => True) v4_ r5 ∧ Below w.heap.size w w' := by
 induction k using Nat.strongRecOn with
 | _ k ih =>
 intro a0_0 a0_1 a0_2 a0_3 A0_4 c0_4 l0_4 r1 r2 r3 r4 r5 w hr0_4 hc0_4 h
 cases k with
 | zero => exact absurd h (by simp [spec_l5Copy.f])
 | succ k =>
 simp only [spec_l5Copy.f] at h
 have hu29 := Try.underlying29
 have HR0_4 := Aside0.mk hr0_4
 have HC0_4 := Aside0.mk hc0_4
 clear hr0_4 hc0_4
 have HB := Aside0.mk (Below.refl w.heap.size w)
 have H : (spec_l5Copy.l0 k 0 a0_0 a0_1 a0_2 a0_3 l0_4 a0_0 a0_1 a0_2 a0_3 (([] : List (S29)))) = some (r1, r2, r3, r4, r5) := h
 clear h
 obtain ⟨y132, hy132⟩ : ∃ y_ : List (S29), y_ = (([] : List (S29))) := ⟨_, rfl⟩
 replace H : (spec_l5Copy.l0 k 0 a0_0 a0_1 a0_2 a0_3 l0_4 a0_0 a0_1 a0_2 a0_3 y132) = some (r1, r2, r3, r4, r5) := by first | (rw [hy132]; with_reducible exact H) | (have H2_ := (Option.bind_some _ _).symm.trans H; rw [hy132]; with_reducible exact H2_) | (have H2_ := (Option.bind_some _ _).symm.trans H; with_reducible exact H2_) | with_reducible exact H | (rw [hy132]; exact H) | exact H
 have Ny132 := Aside0.mk hy132
 clear hy132
 have H' := Aside0.mk H
 clear H
 go_enter Try.func54, Try.ntmps54
 go_wp2_with (first | ((with_reducible refine gD 1 rfl ?_); refine bE 1 #[.int .i64 a0_0, .int .i64 a0_1, .string a0_2, .string a0_3, .slice A0_4 l0_4.length c0_4] 29 ?_; intro gb129 hg w2 hbox hb; have BK129 := Aside0.mk hbox; have GW129 := Aside0.mk (zg (zL HB.out) hg : w.heap.size ≤ gb129); have GE129 := GW129; replace HB := zLB (zL HB.out) hb; clear hb hbox hg) | ((with_reducible refine gD 2 rfl ?_); refine bE 2 #[.int .i64 0, .int .i64 0, .string (⟨#[]⟩ : ByteArray), .string (⟨#[]⟩ : ByteArray), .slice none 0 0] 29 ?_; intro gb130 hg w3 hbox hb; have BK130 := Aside0.mk hbox; have GW130 := Aside0.mk (zg (zL1 HB.out GE129.out) hg : w.heap.size ≤ gb130); have GE130 := GW130; replace HB := zLB (zL1 HB.out GE129.out) hb; have NB129_130 := Aside0.mk (zN BK129.out hg : gb129 ≠ gb130); have NB130_129 := Aside0.mk (zM BK129.out hg : gb130 ≠ gb129); replace BK129 := zBB BK129 hb; clear hb hbox hg; have hnb4 := NB129_130.out; have hnc4 := NB130_129.out; have hcz5 := zc5 BK129.out; have hfz5 := zf5 BK129.out) | ((with_reducible refine gD 3 rfl ?_); refine bE 3 #[.int .i64 0, .int .i64 0, .string (⟨#[]⟩ : ByteArray), .string (⟨#[]⟩ : ByteArray), .slice none 0 0] 29 ?_; intro gb131 hg w6 hbox hb; have BK131 := Aside0.mk hbox; have GW131 := Aside0.mk (zg (zL2 HB.out GE129.out GE130.out) hg : w.heap.size ≤ gb131); have GE131 := GW131; replace HB := zLB (zL2 HB.out GE129.out GE130.out) hb; have NB129_131 := Aside0.mk (zN BK129.out hg : gb129 ≠ gb131); have NB131_129 := Aside0.mk (zM BK129.out hg : gb131 ≠ gb129); replace BK129 := zBB BK129 hb; have NB130_131 := Aside0.mk (zN BK130.out hg : gb130 ≠ gb131); have NB131_130 := Aside0.mk (zM BK130.out hg : gb131 ≠ gb130); replace BK130 := zBB BK130 hb; clear hb hbox hg; have hnb7 := NB131_129.out; have hnc7 := NB129_131.out; have hnb8 := NB131_130.out; have hnc8 := NB130_131.out; have hcz9 := zc5 BK131.out; have hfz9 := zf5 BK131.out) | ((with_reducible refine gD 7 rfl ?_); refine Kd.S_lit k29 _ 29 ?hg (N := 7) ?hd (xs := ([] : List (S29))) (inner := []) (ok := fun _ => True) (okp := fun _ => True) ?hr ?hp (fun _ hk => hk) trivial (Below.refl _ _) (Nat.le_refl _) (by simp) ?_; (case hd => rfl); (case hg => rfl); (case hr => first | (go_simp; done) | (go_simp; rfl)); (case hp => exact (Reps.none _ _)); intro v133 w10 ho11 hb hg_ hnew_; clear hg_ hnew_; (first | rw [← Ny132.out] at ho11 | (simp only [Int.reduceToNat] at ho11; rw [← Ny132.out] at ho11)); have HO134 := Aside0.mk (Kd.S_lower (Kd.S_newB (Kd.S_newB (Kd.S_newB ho11 (g := gb129) (o := .cells #[.int .i64 a0_0, .int .i64 a0_1, .string a0_2, .string a0_3, .slice A0_4 l0_4.length c0_4] 29 (0, 0)) (by refine zB ?_; refine zr5 ?_ NB129_131.out; exact zB BK129.out)) (g := gb130) (o := .cells #[.int .i64 0, .int .i64 0, .string (⟨#[]⟩ : ByteArray), .string (⟨#[]⟩ : ByteArray), .slice none 0 0] 29 (0, 0)) (by refine zB ?_; refine zr5 ?_ NB130_131.out; exact zB BK130.out)) (g := gb131) (o := .cells #[.int .i64 a0_0, .int .i64 a0_1, .string a0_2, .string a0_3, .slice A0_4 l0_4.length c0_4] 29 (0, 0)) (by refine zB ?_; refine zp5 (cs := #[.int .i64 0, .int .i64 0, .string (⟨#[]⟩ : ByteArray), .string (⟨#[]⟩ : ByteArray), .slice none 0 0]) ?_; exact zB BK131.out)) (below_size (zL3 HB.out GE129.out GE130.out GE131.out))); replace BK129 := Aside0.mk (bB (g := gb129) (o := .cells #[.int .i64 a0_0, .int .i64 a0_1, .string a0_2, .string a0_3, .slice A0_4 l0_4.length c0_4] 29 (0, 0)) (by refine zB ?_; refine zr5 ?_ NB129_131.out; exact zB BK129.out) hb); replace BK130 := Aside0.mk (bB (g := gb130) (o := .cells #[.int .i64 0, .int .i64 0, .string (⟨#[]⟩ : ByteArray), .string (⟨#[]⟩ : ByteArray), .slice none 0 0] 29 (0, 0)) (by refine zB ?_; refine zr5 ?_ NB130_131.out; exact zB BK130.out) hb); replace BK131 := Aside0.mk (bB (g := gb131) (o := .cells #[.int .i64 a0_0, .int .i64 a0_1, .string a0_2, .string a0_3, .slice A0_4 l0_4.length c0_4] 29 (0, 0)) (by refine zB ?_; refine zp5 (cs := #[.int .i64 0, .int .i64 0, .string (⟨#[]⟩ : ByteArray), .string (⟨#[]⟩ : ByteArray), .slice none 0 0]) ?_; exact zB BK131.out) hb); replace HB := zLB (zL3 HB.out GE129.out GE130.out GE131.out) hb; clear hb ho11; obtain ⟨Ao12, co12, eo12⟩ := Kd.S_slice HO134.out; subst eo12; have hcz13 := zc5 BK131.out; have hfz13 := zf5 BK131.out))
 go_loopg [4] k (fun kq v4 w' => ∃ (x4_1 : Int) (x132004_1 : List (S29)) (u132004 : Value), v4 = .int .i64 x4_1 ∧ Aside0 (spec_l5Copy.l0 kq x4_1 a0_0 a0_1 a0_2 a0_3 l0_4 a0_0 a0_1 a0_2 a0_3 x132004_1 = some (r1, r2, r3, r4, r5)) ∧ Aside0 (kq ≤ k) ∧ Aside0 (Kd.S k29 29 w' w.heap.size (fun k_ => k_ ≠ gb129 ∧ k_ ≠ gb130 ∧ k_ ≠ gb131) u132004 x132004_1) ∧ Aside0 (w'.heap[gb129]? = some (.cells #[.int .i64 a0_0, .int .i64 a0_1, .string a0_2, .string a0_3, (.slice A0_4 l0_4.length c0_4)] 29 (0, 0))) ∧ Aside0 (w'.heap[gb130]? = some (.cells #[.int .i64 0, .int .i64 0, .string (⟨#[]⟩ : ByteArray), .string (⟨#[]⟩ : ByteArray), (.slice none 0 0)] 29 (0, 0))) ∧ Aside0 (w'.heap[gb131]? = some (.cells #[.int .i64 a0_0, .int .i64 a0_1, .string a0_2, .string a0_3, u132004] 29 (0, 0))) ∧ Aside0 (Below w.heap.size w w'))
 case atStart => exact ⟨(0), (y132), (.slice Ao12 y132.length co12), zV, H', ⟨Nat.le_refl _⟩, ⟨by (with_reducible repeat (first | apply Kd.S_alloc | apply Kd.S_drewN | apply Kd.S_drew)); exact Kd.S_mono (Kd.S_far (p := ⟨gb131, 4, none⟩) (Kd.S_mono HO134.out (fun k_ hk => (⟨hk, hk.2⟩ : _ ∧ k_ ≠ gb131))) (fun _ hk => hk.2) (.slice Ao12 y132.length co12)) (fun _ hk => ⟨hk.1.1.1.2, ⟨hk.1.1.2, hk.1.2⟩⟩)⟩, ⟨by (with_reducible repeat (first | refine bN ?_ _ | refine bD ?_ | refine bA ?_ _)); refine blk_far ?_ NB129_131.out _; exact zB BK129.out⟩, ⟨by (with_reducible repeat (first | refine bN ?_ _ | refine bD ?_ | refine bA ?_ _)); refine blk_far ?_ NB130_131.out _; exact zB BK130.out⟩, ⟨by (with_reducible repeat (first | refine bN ?_ _ | refine bD ?_ | refine bA ?_ _)); refine blk_put (cs := #[.int .i64 a0_0, .int .i64 a0_1, .string a0_2, .string a0_3, .slice A0_4 l0_4.length c0_4]) ?_ 4 _ rfl; exact zB BK131.out⟩, ⟨zL3 HB.out GE129.out GE130.out GE131.out⟩⟩
 case round =>
  clear H'
  try clear p2
  try clear c4
  try clear c5
  try clear c7
  try clear c8
  try clear hcz13; try clear hcz5; try clear hcz9; try clear hfz13; try clear hfz5; try clear hfz9
  try clear BK129; try clear BK130; try clear BK131
  obtain ⟨x4_1, x132004_1, u132004, rfl, HA, HK1, HO_132004, BK129, BK130, BK131, HB⟩ := hrel
  cases gk with
  | zero => exact absurd HA.out (by simp [spec_l5Copy.l0])
  | succ k1 =>
   have H := HA.out
   clear HA
   simp only [spec_l5Copy.l0] at H
   by_cases c14 : x4_1 < (l0_4.length : Int)
   ·rw [if_pos c14] at H
    have c14b0 := decide_eq_true c14
    clear c14
    by_cases c15 : 0 ≤ x4_1
    ·rw [if_pos c15] at H
     have c15b0 := decide_eq_true c15
     clear c15
     obtain ⟨⟨t136, t137, t138, t139, t140⟩, A16, H⟩ := zO H; try dsimp only at H
     by_cases c17 : x132004_1.length < 1954687338268
     ·rw [if_pos c17] at H
      have LMc17 := Aside0.mk c17
      clear c17
      generalize hy144 : (x132004_1 ++ [(⟨t136, t137, t138, t139, t140⟩ : S29)]) = y144 at H; (try rw [Option.bind_some] at H); have Ny144 := Aside0.mk hy144.symm; clear hy144
      have H' := Aside0.mk H
      clear H
      have hnb18 := NB129_130.out
      have hnc18 := NB130_129.out
      have hnb19 := NB129_131.out
      have hnc19 := NB131_129.out
      have hcz20 := zc5 BK129.out
      have hfz20 := zf5 BK129.out
      have p135 : 0 ≤ (x4_1 : Int) := zD
      have q135 : x4_1 < (l0_4.length : Int) := zD
      obtain ⟨ad135, A135_4, c135_4, e135, hx135_0, hx135_1, hx135_2, hx135_3, hx135_4, hl135_4, hi135_4⟩ := at_T29 HR0_4.out x4_1 p135 q135
      cases e135
      replace hx135_0 := zh HB.out hx135_0
      replace hx135_1 := zh HB.out hx135_1
      replace hx135_2 := zh HB.out hx135_2
      replace hx135_3 := zh HB.out hx135_3
      replace hx135_4 := zh HB.out hx135_4
      have HR135_4 := Aside0.mk hi135_4
      have HC135_4 := Aside0.mk hl135_4
      clear hi135_4 hl135_4
      replace p135 := eq_true p135
      replace q135 := eq_true q135
      go_wp2_with (first | ((with_reducible refine gC 54 rfl ?_); refine gL 21 Try.func54 #[.agg #[.int .i64 ((rd_T29 l0_4 x4_1).f0), .int .i64 ((rd_T29 l0_4 x4_1).f1), .string ((rd_T29 l0_4 x4_1).f2), .string ((rd_T29 l0_4 x4_1).f3), .slice A135_4 ((rd_T29 l0_4 x4_1).f4).length c135_4]] ?_; (with_reducible refine (ih k1 (by have := HK1.out; omega) ((rd_T29 l0_4 x4_1).f0) ((rd_T29 l0_4 x4_1).f1) ((rd_T29 l0_4 x4_1).f2) ((rd_T29 l0_4 x4_1).f3) _ _ ((rd_T29 l0_4 x4_1).f4) t136 t137 t138 t139 t140 _ ?side1 ?side2 A16.out).mono ?_); (case side1 => exact zC (Kd.C_below HR135_4.out HB.out)); (case side2 => exact HC135_4.out); rintro e w21 ⟨v141, rfl, ho0, hb⟩; refine ⟨_, rfl, ?_⟩; have TW := Aside0.mk (Two.mk (G := fun k_ => k_ ≠ gb129 ∧ k_ ≠ gb130 ∧ k_ ≠ gb131) (Kd.S_mono HO_132004.out (fun k_ hk => by simp [hk])) ho0 hb (fun k_ hk => ⟨by have a_ := blk_lt BK129.out; omega, by have a_ := blk_lt BK130.out; omega, by have a_ := blk_lt BK131.out; omega⟩) HB.out.size); have HO142 := Aside0.mk (Kd.S_lower (Kd.S_newB (Kd.S_newB (Kd.S_newB (Kd.S_new' ho0 (Kd.S_lt (zS HO_132004.out))) (g := gb129) (o := .cells #[.int .i64 a0_0, .int .i64 a0_1, .string a0_2, .string a0_3, .slice (some ad135) l0_4.length c0_4] 29 (0, 0)) (zB BK129.out)) (g := gb130) (o := .cells #[.int .i64 0, .int .i64 0, .string (⟨#[]⟩ : ByteArray), .string (⟨#[]⟩ : ByteArray), .slice none 0 0] 29 (0, 0)) (zB BK130.out)) (g := gb131) (o := .cells #[.int .i64 a0_0, .int .i64 a0_1, .string a0_2, .string a0_3, u132004] 29 (0, 0)) (zB BK131.out)) (below_size (zL3 HB.out GE129.out GE130.out GE131.out))); replace HO_132004 := Aside0.mk (Kd.S_elder' (zS HO_132004.out) (Kd.S_base ho0) hb); replace BK129 := zBB BK129 hb; replace BK130 := zBB BK130 hb; replace BK131 := zBB BK131 hb; replace HB := zLB (zL3 HB.out GE129.out GE130.out GE131.out) hb; clear ho0 hb) | ((with_reducible refine gD 5 rfl ?_); refine bE 5 #[.int .i64 0, .int .i64 0, .string (⟨#[]⟩ : ByteArray), .string (⟨#[]⟩ : ByteArray), .slice none 0 0] 29 ?_; intro gb143 hg w22 hbox hb; replace TW := Aside0.mk (TW.out.box hg hb); replace HO_132004 := Aside0.mk (Kd.S_below (Kd.S_elderB (zS HO_132004.out) gb143 (Nat.le_of_eq hg.symm)) hb); replace HO142 := Aside0.mk (Kd.S_below (Kd.S_elderB (zS HO142.out) gb143 (Nat.le_of_eq hg.symm)) hb); have BK143 := Aside0.mk hbox; have GW143 := Aside0.mk (zg (zL3 HB.out GE129.out GE130.out GE131.out) hg : w.heap.size ≤ gb143); have GE143 := GW143; replace HB := zLB (zL3 HB.out GE129.out GE130.out GE131.out) hb; have NB129_143 := Aside0.mk (zN BK129.out hg : gb129 ≠ gb143); have NB143_129 := Aside0.mk (zM BK129.out hg : gb143 ≠ gb129); replace BK129 := zBB BK129 hb; have NB130_143 := Aside0.mk (zN BK130.out hg : gb130 ≠ gb143); have NB143_130 := Aside0.mk (zM BK130.out hg : gb143 ≠ gb130); replace BK130 := zBB BK130 hb; have NB131_143 := Aside0.mk (zN BK131.out hg : gb131 ≠ gb143); have NB143_131 := Aside0.mk (zM BK131.out hg : gb143 ≠ gb131); replace BK131 := zBB BK131 hb; clear hb hbox hg; have hnb23 := NB143_129.out; have hnc23 := NB129_143.out; have hnb24 := NB143_130.out; have hnc24 := NB130_143.out; have hnb25 := NB143_131.out; have hnc25 := NB131_143.out; have hcz26 := zc5 BK143.out; have hfz26 := zf5 BK143.out; obtain ⟨Ao27, co27, eo27⟩ := Kd.S_slice HO142.out; subst eo27) | ((with_reducible refine gate_store (t := 29) (p := 5) rfl ?_); refine store_event (t := 29) (p := 5) (v := ?vo_w28) (w1 := (((((w22.setCell ⟨gb143, 0, none⟩ (.int .i64 t136)).setCell ⟨gb143, 1, none⟩ (.int .i64 t137)).setCell ⟨gb143, 2, none⟩ (.string t138)).setCell ⟨gb143, 3, none⟩ (.string t139)).setCell ⟨gb143, 4, none⟩ (.slice Ao27 t140.length co27))) ?hg ?ho ?hn ?hr ?_; (case ho => rfl); (case hg => rfl); (case hn => rfl); (case hr => first | (go_simp; done) | (go_simp; rfl)); intro w28 hw; replace TW := Aside0.mk (TW.out.set5 (fun _ h_ => h_.2) hw); have n0_ : Aside0 (Kd.S k29 29 w28 w.heap.size (fun k_ => some k_ ≠ (.slice Ao27 t140.length co27 : Value).ownBlock ∧ k_ ≠ gb129 ∧ k_ ≠ gb130 ∧ k_ ≠ gb131 ∧ k_ ≠ gb143) u132004 x132004_1) := ⟨(by rw [hw]; exact (by (with_reducible repeat (first | apply Kd.S_alloc | apply Kd.S_drewN | apply Kd.S_drew)); exact Kd.S_mono (zSF5 (Kd.S_mono HO_132004.out (fun k_ hk => (⟨hk, hk.2⟩ : _ ∧ k_ ≠ gb143))) gb143 (fun _ hk => hk.2) (.int .i64 t136) (.int .i64 t137) (.string t138) (.string t139) (.slice Ao27 t140.length co27)) (fun _ hk => ⟨hk.1.1.2, ⟨hk.1.1.1.1, ⟨hk.1.1.1.2.1, ⟨hk.1.1.1.2.2, hk.1.2⟩⟩⟩⟩)))⟩; have n1_ : Aside0 (Kd.S k29 29 w28 w.heap.size (fun k_ => some k_ ≠ (u132004 : Value).ownBlock ∧ k_ ≠ gb129 ∧ k_ ≠ gb130 ∧ k_ ≠ gb131 ∧ k_ ≠ gb143) (.slice Ao27 t140.length co27) t140) := ⟨(by rw [hw]; exact (by (with_reducible repeat (first | apply Kd.S_alloc | apply Kd.S_drewN | apply Kd.S_drew)); exact Kd.S_mono (zSF5 (Kd.S_mono HO142.out (fun k_ hk => (⟨hk, hk.2⟩ : _ ∧ k_ ≠ gb143))) gb143 (fun _ hk => hk.2) (.int .i64 t136) (.int .i64 t137) (.string t138) (.string t139) (.slice Ao27 t140.length co27)) (fun _ hk => ⟨hk.1.1.1.1.1.2, ⟨hk.1.1.1.1.2, ⟨hk.1.1.1.2, ⟨hk.1.1.2, hk.1.2⟩⟩⟩⟩)))⟩; have n2_ : Aside0 (w28.heap[gb129]? = some (.cells #[.int .i64 a0_0, .int .i64 a0_1, .string a0_2, .string a0_3, .slice (some ad135) l0_4.length c0_4] 29 (0, 0))) := ⟨(by rw [hw]; exact (by refine zB ?_; refine zr5 ?_ NB129_143.out; exact zB BK129.out))⟩; have n3_ : Aside0 (w28.heap[gb130]? = some (.cells #[.int .i64 0, .int .i64 0, .string (⟨#[]⟩ : ByteArray), .string (⟨#[]⟩ : ByteArray), .slice none 0 0] 29 (0, 0))) := ⟨(by rw [hw]; exact (by refine zB ?_; refine zr5 ?_ NB130_143.out; exact zB BK130.out))⟩; have n4_ : Aside0 (w28.heap[gb131]? = some (.cells #[.int .i64 a0_0, .int .i64 a0_1, .string a0_2, .string a0_3, u132004] 29 (0, 0))) := ⟨(by rw [hw]; exact (by refine zB ?_; refine zr5 ?_ NB131_143.out; exact zB BK131.out))⟩; have n5_ : Aside0 (w28.heap[gb143]? = some (.cells #[.int .i64 t136, .int .i64 t137, .string t138, .string t139, .slice Ao27 t140.length co27] 29 (0, 0))) := ⟨(by rw [hw]; exact (by refine zB ?_; refine zp5 (cs := #[.int .i64 0, .int .i64 0, .string (⟨#[]⟩ : ByteArray), .string (⟨#[]⟩ : ByteArray), .slice none 0 0]) ?_; exact zB BK143.out))⟩; have n6_ : Aside0 (Below w.heap.size w w28) := ⟨(by rw [hw]; exact (zL4 HB.out GE129.out GE130.out GE131.out GE143.out))⟩; clear hw; clear HO_132004; clear HO142; clear BK129; clear BK130; clear BK131; clear BK143; clear HB; have HO_132004 := n0_; have HO142 := n1_; have BK129 := n2_; have BK130 := n3_; have BK131 := n4_; have BK143 := n5_; have HB := n6_; clear n0_ n1_ n2_ n3_ n4_ n5_ n6_; have hnb29 := NB131_130.out; have hnc29 := NB130_131.out; have hcz30 := zc5 BK131.out; have hfz30 := zf5 BK131.out; have hcz31 := zc5 BK143.out; have hfz31 := zf5 BK143.out) | ((with_reducible refine gate_builtin (b := .append) (xs := #[.tmp 23, .tmp 25]) rfl ?_); at_builtin; obtain ⟨N_, T1_, T2_⟩ := TW.out; refine Kd.S_append k29 (w0 := w) w.heap.size rfl (.tmp 23) (.tmp 25) 27 29 (.agg #[(.int .i64 0), (.int .i64 0), (.string ⟨#[]⟩), (.string ⟨#[]⟩), (.slice none 0 0)]) 72 rfl Try.underlying27 info29 rfl (by decide) (by omega) u132004 x132004_1 (⟨t136, t137, t138, t139, t140⟩ : S29) [.int .i64 t136, .int .i64 t137, .string t138, .string t139, .slice Ao27 t140.length co27] (fun k_ => k_ ≠ gb129 ∧ k_ ≠ gb130 ∧ k_ ≠ gb131 ∧ k_ ≠ gb143) (fun k_ => (k_ ≠ gb129 ∧ k_ ≠ gb130 ∧ k_ ≠ gb131 ∧ k_ ≠ gb143) ∧ N_ ≤ k_) rfl rfl ?aP (fun k_ hk_ => ⟨hk_.1, fun e_ => Nat.lt_irrefl _ (Nat.lt_of_lt_of_le ((Kd.S_R T1_).1 k_ e_.symm).2 hk_.2)⟩) ?aF ?aO ?aB ?aS ?aL ?_; (case aP => exact k29_mkM _ _ _ (⟨t136, t137, t138, t139, t140⟩ : S29) (Kd.S_mono T2_ (fun k_ hk => ⟨by simp [hk], hk.2⟩))); (case aB => exact (zL4 HB.out GE129.out GE130.out GE131.out GE143.out)); (case aF => exact (fun k_ hk => ⟨Kd.freshB (g := gb129) (o := .cells #[.int .i64 a0_0, .int .i64 a0_1, .string a0_2, .string a0_3, .slice (some ad135) l0_4.length c0_4] 29 (0, 0)) (zB BK129.out) k_ hk, Kd.freshB (g := gb130) (o := .cells #[.int .i64 0, .int .i64 0, .string (⟨#[]⟩ : ByteArray), .string (⟨#[]⟩ : ByteArray), .slice none 0 0] 29 (0, 0)) (zB BK130.out) k_ hk, Kd.freshB (g := gb131) (o := .cells #[.int .i64 a0_0, .int .i64 a0_1, .string a0_2, .string a0_3, u132004] 29 (0, 0)) (zB BK131.out) k_ hk, Kd.freshB (g := gb143) (o := .cells #[.int .i64 t136, .int .i64 t137, .string t138, .string t139, .slice Ao27 t140.length co27] 29 (0, 0)) (zB BK143.out) k_ hk⟩)); (case aO => exact (by (with_reducible repeat (first | apply Kd.S_alloc | apply Kd.S_drewN | apply Kd.S_drew)); exact Kd.S_mono T1_ (fun k_ hk => ⟨by simp [hk], fun e_ => Nat.not_le.2 hk.2 e_.2⟩))); (case aS => exact (below_size (zL4 HB.out GE129.out GE130.out GE131.out GE143.out))); (case aL => have := LMc17.out; omega); intro v145 w32 ho hb hg hat; clear TW T1_ T2_; rw [← Ny144.out] at ho; replace BK129 := Aside0.mk (blk_grown (g := gb129) (o := .cells #[.int .i64 a0_0, .int .i64 a0_1, .string a0_2, .string a0_3, .slice (some ad135) l0_4.length c0_4] 29 (0, 0)) (zB BK129.out) hg (Kd.S_away HO_132004.out (fun _ hk => hk.2.1))); replace BK130 := Aside0.mk (blk_grown (g := gb130) (o := .cells #[.int .i64 0, .int .i64 0, .string (⟨#[]⟩ : ByteArray), .string (⟨#[]⟩ : ByteArray), .slice none 0 0] 29 (0, 0)) (zB BK130.out) hg (Kd.S_away HO_132004.out (fun _ hk => hk.2.2.1))); replace BK131 := Aside0.mk (blk_grown (g := gb131) (o := .cells #[.int .i64 a0_0, .int .i64 a0_1, .string a0_2, .string a0_3, u132004] 29 (0, 0)) (zB BK131.out) hg (Kd.S_away HO_132004.out (fun _ hk => hk.2.2.2.1))); replace BK143 := Aside0.mk (blk_grown (g := gb143) (o := .cells #[.int .i64 t136, .int .i64 t137, .string t138, .string t139, .slice Ao27 t140.length co27] 29 (0, 0)) (zB BK143.out) hg (Kd.S_away HO_132004.out (fun _ hk => hk.2.2.2.2))); replace HB := Aside0.mk hb; have HO146 := Aside0.mk (ho); clear HO_132004 HO142; clear ho hb hg hat; obtain ⟨Ao33, co33, eo33⟩ := Kd.S_slice HO146.out; subst eo33; have hcz34 := zc5 BK131.out; have hfz34 := zf5 BK131.out))
      go_roundg k1
      case measure => have := HK1.out; omega
      case rel => exact ⟨(wrap64 (x4_1 + 1)), (y144), (.slice Ao33 y144.length co33), zV, H', ⟨by have := HK1.out; omega⟩, ⟨by (with_reducible repeat (first | apply Kd.S_alloc | apply Kd.S_drewN | apply Kd.S_drew)); exact Kd.S_mono (Kd.S_far (p := ⟨gb131, 4, none⟩) (Kd.S_mono HO146.out (fun k_ hk => (⟨hk, hk.2.2.1⟩ : _ ∧ k_ ≠ gb131))) (fun _ hk => hk.2) (.slice Ao33 y144.length co33)) (fun _ hk => ⟨hk.1.1, ⟨hk.1.2.1, hk.1.2.2.1⟩⟩)⟩, ⟨by (with_reducible repeat (first | refine bN ?_ _ | refine bD ?_ | refine bA ?_ _)); refine blk_far ?_ NB129_131.out _; exact zB BK129.out⟩, ⟨by (with_reducible repeat (first | refine bN ?_ _ | refine bD ?_ | refine bA ?_ _)); refine blk_far ?_ NB130_131.out _; exact zB BK130.out⟩, ⟨by (with_reducible repeat (first | refine bN ?_ _ | refine bD ?_ | refine bA ?_ _)); refine blk_put (cs := #[.int .i64 a0_0, .int .i64 a0_1, .string a0_2, .string a0_3, u132004]) ?_ 4 _ rfl; exact zB BK131.out⟩, ⟨zL4 HB.out GE129.out GE130.out GE131.out GE143.out⟩⟩
     ·rw [if_neg c17] at H
      exact absurd H (by simp)
    ·rw [if_neg c15] at H
     exact absurd H (by simp)
   ·rw [if_neg c14] at H
    have c14b0 := decide_eq_false c14
    clear c14
    simp only [Option.some.injEq, Prod.mk.injEq] at H
    obtain ⟨rfl, rfl, rfl, rfl, rfl⟩ := H
    have hnb35 := NB129_130.out
    have hnc35 := NB130_129.out
    have hnb36 := NB129_131.out
    have hnc36 := NB131_129.out
    have hcz37 := zc5 BK129.out
    have hfz37 := zf5 BK129.out
    have hnb38 := NB131_130.out
    have hnc38 := NB130_131.out
    have hcz39 := zc5 BK131.out
    have hfz39 := zf5 BK131.out
    have hcz40 := zc5 BK130.out
    have hfz40 := zf5 BK130.out
    obtain ⟨Ao41, co41, eo41⟩ := Kd.S_slice HO_132004.out
    subst eo41
    go_wp2
    refine bodyPost_ret (results_cell_row rfl _ _ gb130 29 #[.int .i64 a0_0, .int .i64 a0_1, .string a0_2, .string a0_3, .slice Ao41 x132004_1.length co41] (0, 0) _ rfl (by refine zB ?_; refine zp5 (cs := #[.int .i64 0, .int .i64 0, .string (⟨#[]⟩ : ByteArray), .string (⟨#[]⟩ : ByteArray), .slice none 0 0]) ?_; exact zB BK130.out) Try.underlying29 rfl (by kernel_rfl)) rfl ?_
    exact ⟨_, zW, by (with_reducible repeat (first | apply Kd.S_alloc | apply Kd.S_drewN | apply Kd.S_drew)); exact Kd.S_mono (zSF5 (Kd.S_mono HO_132004.out (fun k_ hk => (⟨hk, hk.2.1⟩ : _ ∧ k_ ≠ gb130))) gb130 (fun _ hk => hk.2) (.int .i64 a0_0) (.int .i64 a0_1) (.string a0_2) (.string a0_3) (.slice Ao41 x132004_1.length co41)) (fun _ hk => trivial), zL3 HB.out GE129.out GE130.out GE131.out⟩

end Go.Proofs.Ytfhblnbicnmndaa.QFnExactOpposite
