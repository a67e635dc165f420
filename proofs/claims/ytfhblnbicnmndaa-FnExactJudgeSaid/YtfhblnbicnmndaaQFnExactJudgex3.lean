/- What the Go functions that the law FnExactJudge reaches answer: each as a Lean function, with its walk. Written by a program of this session. Conditions: those that each theorem names. -/
import Derived.Test.YtfhblnbicnmndaaQFnExactJudgex0
import Derived.Test.YtfhblnbicnmndaaQFnExactJudgex2
namespace Go.Proofs.Ytfhblnbicnmndaa.QFnExactJudge
open Go.RowKit Go.Proofs.YtfhblnbicnmndaaW.PrintWords Go.Proofs.YtfhblnbicnmndaaW.PrintLast Go.Proofs.YtfhblnbicnmndaaW.PrintMore
attribute [local go_sem] max2_int min2_int max_two min_two max_three min_three max_four min_four   -- for this text's walks alone
set_option linter.unusedVariables false
set_option linter.unusedSimpArgs false

open Go.Proofs.YtfhblnbicnmndaaW.PrintWords renaming blk_drewN → bN, blk_drew → bD, blk_alloc → bA, blk_cell → bC, blk_below → bB, below_set → bS
/-! ### laws_eqSpanS: function 26 -/
def laws_eqSpanS.l0 : Nat → List (S73) → List (S73) → Int → Option (Bool)
 | 0, _, _, _ => none
 | k + 1, x0, x1, x5 => if x5 < (x0.length : Int) then (if 0 ≤ x5 then (if x5 < (x1.length : Int) then ((laws_eqSpan.f k ((rd_T73 x0 x5).f0) ((rd_T73 x0 x5).f1) ((rd_T73 x0 x5).f2) ((rd_T73 x0 x5).f3) ((rd_T73 x0 x5).f4) ((rd_T73 x0 x5).f5) ((rd_T73 x1 x5).f0) ((rd_T73 x1 x5).f1) ((rd_T73 x1 x5).f2) ((rd_T73 x1 x5).f3) ((rd_T73 x1 x5).f4) ((rd_T73 x1 x5).f5)).bind fun t177 => (if t177 = true then (laws_eqSpanS.l0 k x0 x1 (wrap64 (x5 + 1))) else (some false))) else (none)) else (none)) else (some true)
def laws_eqSpanS.f (k : Nat) (l0 : List (S73)) (l1 : List (S73)) : Option (Bool) := if (l0.length : Int) = (l1.length : Int) then (laws_eqSpanS.l0 k l0 l1 0) else (some false)
theorem laws_eqSpanS.mono_l : ∀ k, (∀ y0 y1 y2, LeO (laws_eqSpanS.l0 k y0 y1 y2) (laws_eqSpanS.l0 (k + 1) y0 y1 y2))
 | 0 => fun _ _ _ r h => by simp [laws_eqSpanS.l0] at h
 | k + 1 => by
  have ih0 := laws_eqSpanS.mono_l k
  ·intro y0 y1 y2
   unfold laws_eqSpanS.l0
   repeat' first
   | (with_reducible exact ih0 _ _ _)
   | (with_reducible apply laws_eqSpan.mono)
   | (with_reducible exact LeO.refl _)
   | (with_reducible exact LeO.none _)
   | (with_reducible refine LeO.ite ?_ ?_)
   | (with_reducible refine LeO.bind ?_ (fun _ => ?_))
   | exact ih0 _ _ _
   | apply laws_eqSpan.mono
   | exact LeO.none _
   | refine LeO.ite ?_ ?_
   | refine LeO.bind ?_ (fun _ => ?_)
theorem laws_eqSpanS.mono : ∀ a0 a1 k, LeO (laws_eqSpanS.f k a0 a1) (laws_eqSpanS.f (k + 1) a0 a1) := by
 intro a0 a1 k
 have ih0 := laws_eqSpanS.mono_l k
 unfold laws_eqSpanS.f
 repeat' first
   | (with_reducible exact ih0 _ _ _)
   | (with_reducible apply laws_eqSpan.mono)
   | (with_reducible exact LeO.refl _)
   | (with_reducible exact LeO.none _)
   | (with_reducible refine LeO.ite ?_ ?_)
   | (with_reducible refine LeO.bind ?_ (fun _ => ?_))
   | exact ih0 _ _ _
   | apply laws_eqSpan.mono
   | exact LeO.none _
   | refine LeO.ite ?_ ?_
   | refine LeO.bind ?_ (fun _ => ?_)
def laws_eqSpanS.T6 : Bool × List (List Nat × List Nat) := (true, [([], []), ([], []), ([0, 1], [0, 1]), ([2], [2]), ([], []), ([], []), ([4, 5], [4, 5]), ([6], [6]), ([3, 7], [3, 7]), ([8], [8])])
def laws_eqSpanS.B6 : List Nat := [0, 0, 3, 7, 0, 0, 48, 112, 255, 511]
theorem laws_eqSpanS.tab6 : rtab .any (opsOf Try.f26 6) = laws_eqSpanS.T6 := by kernel_rfl
theorem laws_eqSpanS.bits6 : waitsOk laws_eqSpanS.T6.2 laws_eqSpanS.B6 = true := by kernel_rfl
set_option maxHeartbeats 8000000 in
set_option maxRecDepth 100000 in
theorem laws_eqSpanS.calls (k : Nat) (A0 : Option Addr) (c0 : Nat) (l0 : List (S73)) (A1 : Option Addr) (c1 : Nat) (l1 : List (S73)) (r : Bool) (w : World) (hr0 : Kd.C k73 w A0 l0.length l0) (hc0 : l0.length ≤ c0) (hr1 : Kd.C k73 w A1 l1.length l1) (hc1 : l1.length ≤ c1) (h : laws_eqSpanS.f k l0 l1 = some r) :
  Calls Try.prog 26 #[.slice A0 l0.length c0, .slice A1 l1.length c1] w fun e w' => e = .returned (.bool r) ∧ Below w.heap.size w w' := by
 have hu73 := Try.underlying73
 have HR0 := Aside0.mk hr0
 have HC0 := Aside0.mk hc0
 clear hr0 hc0
 have HR1 := Aside0.mk hr1
 have HC1 := Aside0.mk hc1
 clear hr1 hc1
 have HB := Aside0.mk (Below.refl w.heap.size w)
 unfold laws_eqSpanS.f at h; have H := h
 clear h
 by_cases c3 : (l0.length : Int) = (l1.length : Int)
 ·rw [if_pos c3] at H
  obtain ⟨c3b0, c3b1⟩ := zt c3
  have c3b2 : (l0.length == l1.length) = true := by first | simpa using c3 | (simp at c3 ⊢; omega)
  clear c3
  have H' := Aside0.mk H
  clear H
  go_enter Try.func26, Try.ntmps26
  go_wp2
  go_loopg [5] k (fun kq v5 w' => ∃ (x5_1 : Int), v5 = .int .i64 x5_1 ∧ Aside0 (laws_eqSpanS.l0 kq l0 l1 x5_1 = some r) ∧ Aside0 (kq ≤ k) ∧ Aside0 (Below w.heap.size w w'))
  case atStart => exact ⟨(0), zV, H', ⟨Nat.le_refl _⟩, ⟨zL HB.out⟩⟩
  case round =>
   clear H'
   try clear c1
   try clear c2
   try clear p2
   try clear c3
   try clear c3b0
   try clear c3b1
   try clear c3b2
   obtain ⟨x5_1, rfl, HA, HK1, HB⟩ := hrel
   cases gk with
   | zero => exact absurd HA.out (by simp [laws_eqSpanS.l0])
   | succ k1 =>
    have H := HA.out
    clear HA
    simp only [laws_eqSpanS.l0] at H
    by_cases c4 : x5_1 < (l0.length : Int)
    ·rw [if_pos c4] at H
     have c4b0 := decide_eq_true c4
     clear c4
     by_cases c5 : 0 ≤ x5_1
     ·rw [if_pos c5] at H
      have c5b0 := decide_eq_true c5
      clear c5
      by_cases c6 : x5_1 < (l1.length : Int)
      ·rw [if_pos c6] at H
       have c6b0 := decide_eq_true c6
       clear c6
       obtain ⟨t177, A7, H⟩ := zO H; try dsimp only at H
       by_cases c8 : t177 = true
       ·subst c8
        rw [if_pos rfl] at H
        have H' := Aside0.mk H
        clear H
        try go_wp2
        replace HB := zLD HB
        have p175 : 0 ≤ (x5_1 : Int) := zD
        have q175 : x5_1 < (l0.length : Int) := zD
        obtain ⟨ad175, A175_5, c175_5, e175, hx175_0, hx175_1, hx175_2, hx175_3, hx175_4, hx175_5, hl175_5, hi175_5⟩ := at_T73 HR0.out x5_1 p175 q175
        have hw175_5 := hx175_5
        have hw175_4 := hx175_4
        have hw175_3 := hx175_3
        have hw175_2 := hx175_2
        have hw175_1 := hx175_1
        have hw175_0 := hx175_0
        cases e175
        replace hx175_0 := zh HB.out hx175_0
        replace hx175_1 := zh HB.out hx175_1
        replace hx175_2 := zh HB.out hx175_2
        replace hx175_3 := zh HB.out hx175_3
        replace hx175_4 := zh HB.out hx175_4
        replace hx175_5 := zh HB.out hx175_5
        have HR175_5 := Aside0.mk hi175_5
        have HC175_5 := Aside0.mk hl175_5
        clear hi175_5 hl175_5
        replace p175 := eq_true p175
        replace q175 := eq_true q175
        have p176 : 0 ≤ (x5_1 : Int) := zD
        have q176 : x5_1 < (l1.length : Int) := zD
        obtain ⟨ad176, A176_5, c176_5, e176, hx176_0, hx176_1, hx176_2, hx176_3, hx176_4, hx176_5, hl176_5, hi176_5⟩ := at_T73 HR1.out x5_1 p176 q176
        have hw176_5 := hx176_5
        have hw176_4 := hx176_4
        have hw176_3 := hx176_3
        have hw176_2 := hx176_2
        have hw176_1 := hx176_1
        have hw176_0 := hx176_0
        cases e176
        replace hx176_0 := zh HB.out hx176_0
        replace hx176_1 := zh HB.out hx176_1
        replace hx176_2 := zh HB.out hx176_2
        replace hx176_3 := zh HB.out hx176_3
        replace hx176_4 := zh HB.out hx176_4
        replace hx176_5 := zh HB.out hx176_5
        have HR176_5 := Aside0.mk hi176_5
        have HC176_5 := Aside0.mk hl176_5
        clear hi176_5 hl176_5
        replace p176 := eq_true p176
        replace q176 := eq_true q176
        refine start_ (n := 10) (S := fun w' => w'.cell? (ad175.add ((x5_1).toNat * 6)) = some (.int .i64 ((rd_T73 l0 x5_1).f0)) ∧ w'.cell? ⟨(ad175.add ((x5_1).toNat * 6)).block, (ad175.add ((x5_1).toNat * 6)).off + 1, none⟩ = some (.int .i64 ((rd_T73 l0 x5_1).f1)) ∧ w'.cell? ⟨(ad175.add ((x5_1).toNat * 6)).block, (ad175.add ((x5_1).toNat * 6)).off + 2, none⟩ = some (.int .i64 ((rd_T73 l0 x5_1).f2)) ∧ w'.cell? ⟨(ad175.add ((x5_1).toNat * 6)).block, (ad175.add ((x5_1).toNat * 6)).off + 3, none⟩ = some (.int .i64 ((rd_T73 l0 x5_1).f3)) ∧ w'.cell? ⟨(ad175.add ((x5_1).toNat * 6)).block, (ad175.add ((x5_1).toNat * 6)).off + 4, none⟩ = some (.bool ((rd_T73 l0 x5_1).f4)) ∧ w'.cell? ⟨(ad175.add ((x5_1).toNat * 6)).block, (ad175.add ((x5_1).toNat * 6)).off + 5, none⟩ = some (.slice A175_5 ((rd_T73 l0 x5_1).f5).length c175_5) ∧ w'.cell? (ad176.add ((x5_1).toNat * 6)) = some (.int .i64 ((rd_T73 l1 x5_1).f0)) ∧ w'.cell? ⟨(ad176.add ((x5_1).toNat * 6)).block, (ad176.add ((x5_1).toNat * 6)).off + 1, none⟩ = some (.int .i64 ((rd_T73 l1 x5_1).f1)) ∧ w'.cell? ⟨(ad176.add ((x5_1).toNat * 6)).block, (ad176.add ((x5_1).toNat * 6)).off + 2, none⟩ = some (.int .i64 ((rd_T73 l1 x5_1).f2)) ∧ w'.cell? ⟨(ad176.add ((x5_1).toNat * 6)).block, (ad176.add ((x5_1).toNat * 6)).off + 3, none⟩ = some (.int .i64 ((rd_T73 l1 x5_1).f3)) ∧ w'.cell? ⟨(ad176.add ((x5_1).toNat * 6)).block, (ad176.add ((x5_1).toNat * 6)).off + 4, none⟩ = some (.bool ((rd_T73 l1 x5_1).f4)) ∧ w'.cell? ⟨(ad176.add ((x5_1).toNat * 6)).block, (ad176.add ((x5_1).toNat * 6)).off + 5, none⟩ = some (.slice A176_5 ((rd_T73 l1 x5_1).f5).length c176_5)) (ds := []) (fB 10 0) (by kernel_rfl) rfl rfl ⟨(zh HB.out hw175_0), (zh HB.out hw175_1), (zh HB.out hw175_2), (zh HB.out hw175_3), (zh HB.out hw175_4), (zh HB.out hw175_5), (zh HB.out hw176_0), (zh HB.out hw176_1), (zh HB.out hw176_2), (zh HB.out hw176_3), (zh HB.out hw176_4), (zh HB.out hw176_5)⟩ (fun hHeld => ?_); refine with_tabW laws_eqSpanS.tab6 laws_eqSpanS.bits6 (fun HT_ HW_ => ?_)
        generalize wr.drew = w9 at HB HR175_5 HR176_5 hx175_0 hx175_1 hx175_2 hx175_3 hx175_4 hx175_5 hx176_0 hx176_1 hx176_2 hx176_3 hx176_4 hx176_5 hHeld ⊢
        refine pY 0 17 (fB 10 1) HT_.out ?_
        refine pY 1 18 (fB 10 3) HT_.out ?_
        refine pY 2 19 (fB 10 7) HT_.out ?_
        refine pY 4 21 (fB 10 23) HT_.out ?_
        refine pY 5 22 (fB 10 55) HT_.out ?_
        refine pY 6 23 (fB 10 119) HT_.out ?_
        refine tY 3 20 (fB 10 127) HT_.out HW_.out hHeld ?_
        refine tY 7 24 (fB 10 255) HT_.out HW_.out hHeld ?_
        refine oN 8 25 (fB 10 511) HT_.out fun K hK => ?_
        refine gS Try.func53 #[.agg #[.int .i64 ((rd_T73 l0 x5_1).f0), .int .i64 ((rd_T73 l0 x5_1).f1), .int .i64 ((rd_T73 l0 x5_1).f2), .int .i64 ((rd_T73 l0 x5_1).f3), .bool ((rd_T73 l0 x5_1).f4), .slice A175_5 ((rd_T73 l0 x5_1).f5).length c175_5], .agg #[.int .i64 ((rd_T73 l1 x5_1).f0), .int .i64 ((rd_T73 l1 x5_1).f1), .int .i64 ((rd_T73 l1 x5_1).f2), .int .i64 ((rd_T73 l1 x5_1).f3), .bool ((rd_T73 l1 x5_1).f4), .slice A176_5 ((rd_T73 l1 x5_1).f5).length c176_5]] ?_
        with_reducible refine (laws_eqSpan.calls k1 ((rd_T73 l0 x5_1).f0) ((rd_T73 l0 x5_1).f1) ((rd_T73 l0 x5_1).f2) ((rd_T73 l0 x5_1).f3) ((rd_T73 l0 x5_1).f4) _ _ ((rd_T73 l0 x5_1).f5) ((rd_T73 l1 x5_1).f0) ((rd_T73 l1 x5_1).f1) ((rd_T73 l1 x5_1).f2) ((rd_T73 l1 x5_1).f3) ((rd_T73 l1 x5_1).f4) _ _ ((rd_T73 l1 x5_1).f5) true _ ?side1 ?side2 ?side3 ?side4 A7.out).mono ?_
        (case side1 => exact zC (Kd.C_below HR175_5.out HB.out))
        (case side2 => exact HC175_5.out)
        (case side3 => exact zC (Kd.C_below HR176_5.out HB.out))
        (case side4 => exact HC176_5.out)
        rintro e w10 ⟨rfl, hb⟩
        refine ⟨_, rfl, ?_⟩
        replace HB := zLB (zL HB.out) hb
        clear hb
        refine hK.out _ _ ⟨(zh HB.out hw175_0), (zh HB.out hw175_1), (zh HB.out hw175_2), (zh HB.out hw175_3), (zh HB.out hw175_4), (zh HB.out hw175_5), (zh HB.out hw176_0), (zh HB.out hw176_1), (zh HB.out hw176_2), (zh HB.out hw176_3), (zh HB.out hw176_4), (zh HB.out hw176_5)⟩ fun hHeld => ?_; clear hK K
        refine nZ 25 ?_
        refine pY 9 26 (fB 10 1023) HT_.out ?_
        refine done_ (done_of HT_.out (by kernel_rfl)) ?_
        try go_wp2
        go_roundg k1
        case measure => have := HK1.out; omega
        case rel => exact ⟨(wrap64 (x5_1 + 1)), zV, H', ⟨by have := HK1.out; omega⟩, ⟨zL HB.out⟩⟩
       ·obtain rfl := Bool.eq_false_iff.mpr c8
        rw [if_neg zn] at H
        obtain rfl := Option.some.inj H
        try go_wp2
        replace HB := zLD HB
        have p175 : 0 ≤ (x5_1 : Int) := zD
        have q175 : x5_1 < (l0.length : Int) := zD
        obtain ⟨ad175, A175_5, c175_5, e175, hx175_0, hx175_1, hx175_2, hx175_3, hx175_4, hx175_5, hl175_5, hi175_5⟩ := at_T73 HR0.out x5_1 p175 q175
        have hw175_5 := hx175_5
        have hw175_4 := hx175_4
        have hw175_3 := hx175_3
        have hw175_2 := hx175_2
        have hw175_1 := hx175_1
        have hw175_0 := hx175_0
        cases e175
        replace hx175_0 := zh HB.out hx175_0
        replace hx175_1 := zh HB.out hx175_1
        replace hx175_2 := zh HB.out hx175_2
        replace hx175_3 := zh HB.out hx175_3
        replace hx175_4 := zh HB.out hx175_4
        replace hx175_5 := zh HB.out hx175_5
        have HR175_5 := Aside0.mk hi175_5
        have HC175_5 := Aside0.mk hl175_5
        clear hi175_5 hl175_5
        replace p175 := eq_true p175
        replace q175 := eq_true q175
        have p176 : 0 ≤ (x5_1 : Int) := zD
        have q176 : x5_1 < (l1.length : Int) := zD
        obtain ⟨ad176, A176_5, c176_5, e176, hx176_0, hx176_1, hx176_2, hx176_3, hx176_4, hx176_5, hl176_5, hi176_5⟩ := at_T73 HR1.out x5_1 p176 q176
        have hw176_5 := hx176_5
        have hw176_4 := hx176_4
        have hw176_3 := hx176_3
        have hw176_2 := hx176_2
        have hw176_1 := hx176_1
        have hw176_0 := hx176_0
        cases e176
        replace hx176_0 := zh HB.out hx176_0
        replace hx176_1 := zh HB.out hx176_1
        replace hx176_2 := zh HB.out hx176_2
        replace hx176_3 := zh HB.out hx176_3
        replace hx176_4 := zh HB.out hx176_4
        replace hx176_5 := zh HB.out hx176_5
        have HR176_5 := Aside0.mk hi176_5
        have HC176_5 := Aside0.mk hl176_5
        clear hi176_5 hl176_5
        replace p176 := eq_true p176
        replace q176 := eq_true q176
        refine start_ (n := 10) (S := fun w' => w'.cell? (ad175.add ((x5_1).toNat * 6)) = some (.int .i64 ((rd_T73 l0 x5_1).f0)) ∧ w'.cell? ⟨(ad175.add ((x5_1).toNat * 6)).block, (ad175.add ((x5_1).toNat * 6)).off + 1, none⟩ = some (.int .i64 ((rd_T73 l0 x5_1).f1)) ∧ w'.cell? ⟨(ad175.add ((x5_1).toNat * 6)).block, (ad175.add ((x5_1).toNat * 6)).off + 2, none⟩ = some (.int .i64 ((rd_T73 l0 x5_1).f2)) ∧ w'.cell? ⟨(ad175.add ((x5_1).toNat * 6)).block, (ad175.add ((x5_1).toNat * 6)).off + 3, none⟩ = some (.int .i64 ((rd_T73 l0 x5_1).f3)) ∧ w'.cell? ⟨(ad175.add ((x5_1).toNat * 6)).block, (ad175.add ((x5_1).toNat * 6)).off + 4, none⟩ = some (.bool ((rd_T73 l0 x5_1).f4)) ∧ w'.cell? ⟨(ad175.add ((x5_1).toNat * 6)).block, (ad175.add ((x5_1).toNat * 6)).off + 5, none⟩ = some (.slice A175_5 ((rd_T73 l0 x5_1).f5).length c175_5) ∧ w'.cell? (ad176.add ((x5_1).toNat * 6)) = some (.int .i64 ((rd_T73 l1 x5_1).f0)) ∧ w'.cell? ⟨(ad176.add ((x5_1).toNat * 6)).block, (ad176.add ((x5_1).toNat * 6)).off + 1, none⟩ = some (.int .i64 ((rd_T73 l1 x5_1).f1)) ∧ w'.cell? ⟨(ad176.add ((x5_1).toNat * 6)).block, (ad176.add ((x5_1).toNat * 6)).off + 2, none⟩ = some (.int .i64 ((rd_T73 l1 x5_1).f2)) ∧ w'.cell? ⟨(ad176.add ((x5_1).toNat * 6)).block, (ad176.add ((x5_1).toNat * 6)).off + 3, none⟩ = some (.int .i64 ((rd_T73 l1 x5_1).f3)) ∧ w'.cell? ⟨(ad176.add ((x5_1).toNat * 6)).block, (ad176.add ((x5_1).toNat * 6)).off + 4, none⟩ = some (.bool ((rd_T73 l1 x5_1).f4)) ∧ w'.cell? ⟨(ad176.add ((x5_1).toNat * 6)).block, (ad176.add ((x5_1).toNat * 6)).off + 5, none⟩ = some (.slice A176_5 ((rd_T73 l1 x5_1).f5).length c176_5)) (ds := []) (fB 10 0) (by kernel_rfl) rfl rfl ⟨(zh HB.out hw175_0), (zh HB.out hw175_1), (zh HB.out hw175_2), (zh HB.out hw175_3), (zh HB.out hw175_4), (zh HB.out hw175_5), (zh HB.out hw176_0), (zh HB.out hw176_1), (zh HB.out hw176_2), (zh HB.out hw176_3), (zh HB.out hw176_4), (zh HB.out hw176_5)⟩ (fun hHeld => ?_); refine with_tabW laws_eqSpanS.tab6 laws_eqSpanS.bits6 (fun HT_ HW_ => ?_)
        generalize wr.drew = w11 at HB HR175_5 HR176_5 hx175_0 hx175_1 hx175_2 hx175_3 hx175_4 hx175_5 hx176_0 hx176_1 hx176_2 hx176_3 hx176_4 hx176_5 hHeld ⊢
        refine pY 0 17 (fB 10 1) HT_.out ?_
        refine pY 1 18 (fB 10 3) HT_.out ?_
        refine pY 2 19 (fB 10 7) HT_.out ?_
        refine pY 4 21 (fB 10 23) HT_.out ?_
        refine pY 5 22 (fB 10 55) HT_.out ?_
        refine pY 6 23 (fB 10 119) HT_.out ?_
        refine tY 3 20 (fB 10 127) HT_.out HW_.out hHeld ?_
        refine tY 7 24 (fB 10 255) HT_.out HW_.out hHeld ?_
        refine oN 8 25 (fB 10 511) HT_.out fun K hK => ?_
        refine gS Try.func53 #[.agg #[.int .i64 ((rd_T73 l0 x5_1).f0), .int .i64 ((rd_T73 l0 x5_1).f1), .int .i64 ((rd_T73 l0 x5_1).f2), .int .i64 ((rd_T73 l0 x5_1).f3), .bool ((rd_T73 l0 x5_1).f4), .slice A175_5 ((rd_T73 l0 x5_1).f5).length c175_5], .agg #[.int .i64 ((rd_T73 l1 x5_1).f0), .int .i64 ((rd_T73 l1 x5_1).f1), .int .i64 ((rd_T73 l1 x5_1).f2), .int .i64 ((rd_T73 l1 x5_1).f3), .bool ((rd_T73 l1 x5_1).f4), .slice A176_5 ((rd_T73 l1 x5_1).f5).length c176_5]] ?_
        with_reducible refine (laws_eqSpan.calls k1 ((rd_T73 l0 x5_1).f0) ((rd_T73 l0 x5_1).f1) ((rd_T73 l0 x5_1).f2) ((rd_T73 l0 x5_1).f3) ((rd_T73 l0 x5_1).f4) _ _ ((rd_T73 l0 x5_1).f5) ((rd_T73 l1 x5_1).f0) ((rd_T73 l1 x5_1).f1) ((rd_T73 l1 x5_1).f2) ((rd_T73 l1 x5_1).f3) ((rd_T73 l1 x5_1).f4) _ _ ((rd_T73 l1 x5_1).f5) false _ ?side1 ?side2 ?side3 ?side4 A7.out).mono ?_
        (case side1 => exact zC (Kd.C_below HR175_5.out HB.out))
        (case side2 => exact HC175_5.out)
        (case side3 => exact zC (Kd.C_below HR176_5.out HB.out))
        (case side4 => exact HC176_5.out)
        rintro e w12 ⟨rfl, hb⟩
        refine ⟨_, rfl, ?_⟩
        replace HB := zLB (zL HB.out) hb
        clear hb
        refine hK.out _ _ ⟨(zh HB.out hw175_0), (zh HB.out hw175_1), (zh HB.out hw175_2), (zh HB.out hw175_3), (zh HB.out hw175_4), (zh HB.out hw175_5), (zh HB.out hw176_0), (zh HB.out hw176_1), (zh HB.out hw176_2), (zh HB.out hw176_3), (zh HB.out hw176_4), (zh HB.out hw176_5)⟩ fun hHeld => ?_; clear hK K
        refine nZ 25 ?_
        refine pY 9 26 (fB 10 1023) HT_.out ?_
        refine done_ (done_of HT_.out (by kernel_rfl)) ?_
        try go_wp2
        go_ret
        exact ⟨zW, zL HB.out⟩
      ·rw [if_neg c6] at H
       exact absurd H (by simp)
     ·rw [if_neg c5] at H
      exact absurd H (by simp)
    ·rw [if_neg c4] at H
     have c4b0 := decide_eq_false c4
     clear c4
     obtain rfl := Option.some.inj H
     go_wp2
     go_ret
     exact ⟨zW, zL HB.out⟩
 ·rw [if_neg c3] at H
  obtain ⟨c3b0, c3b1⟩ := zf c3
  have c3b2 : (l0.length == l1.length) = false := by first | simpa using c3 | (simp at c3 ⊢; omega)
  obtain rfl := Option.some.inj H
  go_enter Try.func26, Try.ntmps26
  go_wp2
  go_ret
  exact ⟨zW, zL HB.out⟩

open Go.Proofs.YtfhblnbicnmndaaW.PrintWords renaming blk_drewN → bN, blk_drew → bD, blk_alloc → bA, blk_cell → bC, blk_below → bB, below_set → bS
/-! ### spec_HasRate: function 18 -/
mutual
def spec_HasRate.l0 : Nat → Int → Int → Int → ByteArray → ByteArray → List (S29) → Option (Bool)
 | 0, _, _, _, _, _, _ => none
 | k + 1, x3, x179000, x179001, x179002, x179003, x179004 => if x3 < (x179004.length : Int) then (if 0 ≤ x3 then ((spec_HasRate.f k ((rd_T29 x179004 x3).f0) ((rd_T29 x179004 x3).f1) ((rd_T29 x179004 x3).f2) ((rd_T29 x179004 x3).f3) ((rd_T29 x179004 x3).f4)).bind fun t180 => (if t180 = true then (some true) else (spec_HasRate.l0 k (wrap64 (x3 + 1)) x179000 x179001 x179002 x179003 x179004))) else (none)) else (some false)
def spec_HasRate.f : Nat → Int → Int → ByteArray → ByteArray → List (S29) → Option (Bool)
 | 0, _, _, _, _, _ => none
 | k + 1, a0_0, a0_1, a0_2, a0_3, l0_4 => if a0_0 = 6 then (some true) else (spec_HasRate.l0 k 0 a0_0 a0_1 a0_2 a0_3 l0_4)
end
theorem spec_HasRate.mono_l : ∀ k, (∀ y0 y1 y2 y3 y4, LeO (spec_HasRate.f k y0 y1 y2 y3 y4) (spec_HasRate.f (k + 1) y0 y1 y2 y3 y4)) ∧ (∀ y0 y1 y2 y3 y4 y5, LeO (spec_HasRate.l0 k y0 y1 y2 y3 y4 y5) (spec_HasRate.l0 (k + 1) y0 y1 y2 y3 y4 y5))
 | 0 => ⟨fun _ _ _ _ _ r h => by simp [spec_HasRate.f] at h, fun _ _ _ _ _ _ r h => by simp [spec_HasRate.l0] at h⟩
 | k + 1 => by
  obtain ⟨ih0, ih1⟩ := spec_HasRate.mono_l k
  refine ⟨?_, ?_⟩
  ·intro y0 y1 y2 y3 y4
   unfold spec_HasRate.f
   repeat' first
   | (with_reducible exact ih0 _ _ _ _ _)
   | (with_reducible exact ih1 _ _ _ _ _ _)
   | (with_reducible exact LeO.refl _)
   | (with_reducible exact LeO.none _)
   | (with_reducible refine LeO.ite ?_ ?_)
   | (with_reducible refine LeO.bind ?_ (fun _ => ?_))
   | exact ih0 _ _ _ _ _
   | exact ih1 _ _ _ _ _ _
   | exact LeO.none _
   | refine LeO.ite ?_ ?_
   | refine LeO.bind ?_ (fun _ => ?_)
  ·intro y0 y1 y2 y3 y4 y5
   unfold spec_HasRate.l0
   repeat' first
   | (with_reducible exact ih0 _ _ _ _ _)
   | (with_reducible exact ih1 _ _ _ _ _ _)
   | (with_reducible exact LeO.refl _)
   | (with_reducible exact LeO.none _)
   | (with_reducible refine LeO.ite ?_ ?_)
   | (with_reducible refine LeO.bind ?_ (fun _ => ?_))
   | exact ih0 _ _ _ _ _
   | exact ih1 _ _ _ _ _ _
   | exact LeO.none _
   | refine LeO.ite ?_ ?_
   | refine LeO.bind ?_ (fun _ => ?_)
theorem spec_HasRate.mono : ∀ a0 a1 a2 a3 a4 k, LeO (spec_HasRate.f k a0 a1 a2 a3 a4) (spec_HasRate.f (k + 1) a0 a1 a2 a3 a4) := by
 intro a0 a1 a2 a3 a4 k
 obtain ⟨ih0, ih1⟩ := spec_HasRate.mono_l k
 exact ih0 a0 a1 a2 a3 a4
set_option maxHeartbeats 8000000 in
set_option maxRecDepth 100000 in
theorem spec_HasRate.calls (k : Nat) : ∀ (a0_0 : Int) (a0_1 : Int) (a0_2 : ByteArray) (a0_3 : ByteArray) (A0_4 : Option Addr) (c0_4 : Nat) (l0_4 : List (S29)) (r : Bool) (w : World) (hr0_4 : Kd.C k29 w A0_4 l0_4.length l0_4) (hc0_4 : l0_4.length ≤ c0_4) (h : spec_HasRate.f k a0_0 a0_1 a0_2 a0_3 l0_4 = some r),
  Calls Try.prog 18 #[.agg #[.int .i64 a0_0, .int .i64 a0_1, .string a0_2, .string a0_3, .slice A0_4 l0_4.length c0_4]] w fun e w' => e = .returned (.bool r) ∧ Below w.heap.size w w' := by
 induction k using Nat.strongRecOn with
 | _ k ih =>
 intro a0_0 a0_1 a0_2 a0_3 A0_4 c0_4 l0_4 r w hr0_4 hc0_4 h
 cases k with
 | zero => exact absurd h (by simp [spec_HasRate.f])
 | succ k =>
 simp only [spec_HasRate.f] at h
 have hu29 := Try.underlying29
 have HR0_4 := Aside0.mk hr0_4
 have HC0_4 := Aside0.mk hc0_4
 clear hr0_4 hc0_4
 have HB := Aside0.mk (Below.refl w.heap.size w)
 have H : (if a0_0 = 6 then (some true) else (spec_HasRate.l0 k 0 a0_0 a0_1 a0_2 a0_3 l0_4)) = some r := h
 clear h
 by_cases c2 : a0_0 = 6
 ·rw [if_pos c2] at H
  obtain ⟨c2b0, c2b1⟩ := zt c2
  clear c2
  obtain rfl := Option.some.inj H
  go_enter Try.func18, Try.ntmps18
  go_wp2_with (first | ((with_reducible refine gD 1 rfl ?_); refine bE 1 #[.int .i64 a0_0, .int .i64 a0_1, .string a0_2, .string a0_3, .slice A0_4 l0_4.length c0_4] 29 ?_; intro gb178 hg w3 hbox hb; have BK178 := Aside0.mk hbox; have GW178 := Aside0.mk (zg (zL HB.out) hg : w.heap.size ≤ gb178); have GE178 := GW178; replace HB := zLB (zL HB.out) hb; clear hb hbox hg; have hcz4 := zc5 BK178.out; have hfz4 := zf5 BK178.out))
  go_ret
  exact ⟨zW, zL1 HB.out GE178.out⟩
 ·rw [if_neg c2] at H
  obtain ⟨c2b0, c2b1⟩ := zf c2
  have H' := Aside0.mk H
  clear H
  go_enter Try.func18, Try.ntmps18
  go_wp2_with (first | ((with_reducible refine gD 1 rfl ?_); refine bE 1 #[.int .i64 a0_0, .int .i64 a0_1, .string a0_2, .string a0_3, .slice A0_4 l0_4.length c0_4] 29 ?_; intro gb178 hg w5 hbox hb; have BK178 := Aside0.mk hbox; have GW178 := Aside0.mk (zg (zL HB.out) hg : w.heap.size ≤ gb178); have GE178 := GW178; replace HB := zLB (zL HB.out) hb; clear hb hbox hg; have hcz6 := zc5 BK178.out; have hfz6 := zf5 BK178.out))
  go_loopg [3] k (fun kq v3 w' => ∃ (x3_1 : Int), v3 = .int .i64 x3_1 ∧ Aside0 (spec_HasRate.l0 kq x3_1 a0_0 a0_1 a0_2 a0_3 l0_4 = some r) ∧ Aside0 (kq ≤ k) ∧ Aside0 (w'.heap[gb178]? = some (.cells #[.int .i64 a0_0, .int .i64 a0_1, .string a0_2, .string a0_3, (.slice A0_4 l0_4.length c0_4)] 29 (0, 0))) ∧ Aside0 (Below w.heap.size w w'))
  case atStart => exact ⟨(0), zV, H', ⟨Nat.le_refl _⟩, ⟨zB BK178.out⟩, ⟨zL1 HB.out GE178.out⟩⟩
  case round =>
   clear H'
   try clear c1
   try clear c2
   try clear c2b0
   try clear c2b1
   try clear p2
   try clear hcz4; try clear hcz6; try clear hfz4; try clear hfz6
   try clear BK178
   obtain ⟨x3_1, rfl, HA, HK1, BK178, HB⟩ := hrel
   cases gk with
   | zero => exact absurd HA.out (by simp [spec_HasRate.l0])
   | succ k1 =>
    have H := HA.out
    clear HA
    simp only [spec_HasRate.l0] at H
    by_cases c7 : x3_1 < (l0_4.length : Int)
    ·rw [if_pos c7] at H
     have c7b0 := decide_eq_true c7
     clear c7
     by_cases c8 : 0 ≤ x3_1
     ·rw [if_pos c8] at H
      have c8b0 := decide_eq_true c8
      clear c8
      obtain ⟨t180, A9, H⟩ := zO H; try dsimp only at H
      by_cases c10 : t180 = true
      ·subst c10
       rw [if_pos rfl] at H
       obtain rfl := Option.some.inj H
       have hcz11 := zc5 BK178.out
       have hfz11 := zf5 BK178.out
       have p179 : 0 ≤ (x3_1 : Int) := zD
       have q179 : x3_1 < (l0_4.length : Int) := zD
       obtain ⟨ad179, A179_4, c179_4, e179, hx179_0, hx179_1, hx179_2, hx179_3, hx179_4, hl179_4, hi179_4⟩ := at_T29 HR0_4.out x3_1 p179 q179
       cases e179
       replace hx179_0 := zh HB.out hx179_0
       replace hx179_1 := zh HB.out hx179_1
       replace hx179_2 := zh HB.out hx179_2
       replace hx179_3 := zh HB.out hx179_3
       replace hx179_4 := zh HB.out hx179_4
       have HR179_4 := Aside0.mk hi179_4
       have HC179_4 := Aside0.mk hl179_4
       clear hi179_4 hl179_4
       replace p179 := eq_true p179
       replace q179 := eq_true q179
       go_wp2_with (first | ((with_reducible refine gC 18 rfl ?_); refine gL 19 Try.func18 #[.agg #[.int .i64 ((rd_T29 l0_4 x3_1).f0), .int .i64 ((rd_T29 l0_4 x3_1).f1), .string ((rd_T29 l0_4 x3_1).f2), .string ((rd_T29 l0_4 x3_1).f3), .slice A179_4 ((rd_T29 l0_4 x3_1).f4).length c179_4]] ?_; (with_reducible refine (ih k1 (by have := HK1.out; omega) ((rd_T29 l0_4 x3_1).f0) ((rd_T29 l0_4 x3_1).f1) ((rd_T29 l0_4 x3_1).f2) ((rd_T29 l0_4 x3_1).f3) _ _ ((rd_T29 l0_4 x3_1).f4) true _ ?side1 ?side2 A9.out).mono ?_); (case side1 => exact zC (Kd.C_below HR179_4.out HB.out)); (case side2 => exact HC179_4.out); rintro e w12 ⟨rfl, hb⟩; refine ⟨_, rfl, ?_⟩; replace BK178 := zBB BK178 hb; replace HB := zLB (zL1 HB.out GE178.out) hb; clear hb))
       go_ret
       exact ⟨zW, zL1 HB.out GE178.out⟩
      ·obtain rfl := Bool.eq_false_iff.mpr c10
       rw [if_neg zn] at H
       have H' := Aside0.mk H
       clear H
       have hcz13 := zc5 BK178.out
       have hfz13 := zf5 BK178.out
       have p179 : 0 ≤ (x3_1 : Int) := zD
       have q179 : x3_1 < (l0_4.length : Int) := zD
       obtain ⟨ad179, A179_4, c179_4, e179, hx179_0, hx179_1, hx179_2, hx179_3, hx179_4, hl179_4, hi179_4⟩ := at_T29 HR0_4.out x3_1 p179 q179
       cases e179
       replace hx179_0 := zh HB.out hx179_0
       replace hx179_1 := zh HB.out hx179_1
       replace hx179_2 := zh HB.out hx179_2
       replace hx179_3 := zh HB.out hx179_3
       replace hx179_4 := zh HB.out hx179_4
       have HR179_4 := Aside0.mk hi179_4
       have HC179_4 := Aside0.mk hl179_4
       clear hi179_4 hl179_4
       replace p179 := eq_true p179
       replace q179 := eq_true q179
       go_wp2_with (first | ((with_reducible refine gC 18 rfl ?_); refine gL 19 Try.func18 #[.agg #[.int .i64 ((rd_T29 l0_4 x3_1).f0), .int .i64 ((rd_T29 l0_4 x3_1).f1), .string ((rd_T29 l0_4 x3_1).f2), .string ((rd_T29 l0_4 x3_1).f3), .slice A179_4 ((rd_T29 l0_4 x3_1).f4).length c179_4]] ?_; (with_reducible refine (ih k1 (by have := HK1.out; omega) ((rd_T29 l0_4 x3_1).f0) ((rd_T29 l0_4 x3_1).f1) ((rd_T29 l0_4 x3_1).f2) ((rd_T29 l0_4 x3_1).f3) _ _ ((rd_T29 l0_4 x3_1).f4) false _ ?side1 ?side2 A9.out).mono ?_); (case side1 => exact zC (Kd.C_below HR179_4.out HB.out)); (case side2 => exact HC179_4.out); rintro e w14 ⟨rfl, hb⟩; refine ⟨_, rfl, ?_⟩; replace BK178 := zBB BK178 hb; replace HB := zLB (zL1 HB.out GE178.out) hb; clear hb))
       go_roundg k1
       case measure => have := HK1.out; omega
       case rel => exact ⟨(wrap64 (x3_1 + 1)), zV, H', ⟨by have := HK1.out; omega⟩, ⟨zB BK178.out⟩, ⟨zL1 HB.out GE178.out⟩⟩
     ·rw [if_neg c8] at H
      exact absurd H (by simp)
    ·rw [if_neg c7] at H
     have c7b0 := decide_eq_false c7
     clear c7
     obtain rfl := Option.some.inj H
     have hcz15 := zc5 BK178.out
     have hfz15 := zf5 BK178.out
     go_wp2
     go_ret
     exact ⟨zW, zL1 HB.out GE178.out⟩

open Go.Proofs.YtfhblnbicnmndaaW.PrintWords renaming blk_drewN → bN, blk_drew → bD, blk_alloc → bA, blk_cell → bC, blk_below → bB, below_set → bS
/-! ### spec_Errors: function 23 -/
def spec_Errors.l0 : Nat → List (S73) → Int → Int → Option (Int)
 | 0, _, _, _ => none
 | k + 1, x0, x3, x4 => if x4 < (x0.length : Int) then (if 0 ≤ x4 then (if (rd_T73 x0 x4).f4 = true then (spec_Errors.l0 k x0 (wrap64 (x3 + 1)) (wrap64 (x4 + 1))) else (spec_Errors.l0 k x0 x3 (wrap64 (x4 + 1)))) else (none)) else (some x3)
def spec_Errors.f (k : Nat) (l0 : List (S73)) : Option (Int) := spec_Errors.l0 k l0 0 0
theorem spec_Errors.mono_l : ∀ k, (∀ y0 y1 y2, LeO (spec_Errors.l0 k y0 y1 y2) (spec_Errors.l0 (k + 1) y0 y1 y2))
 | 0 => fun _ _ _ r h => by simp [spec_Errors.l0] at h
 | k + 1 => by
  have ih0 := spec_Errors.mono_l k
  ·intro y0 y1 y2
   unfold spec_Errors.l0
   repeat' first
   | (with_reducible exact ih0 _ _ _)
   | (with_reducible exact LeO.refl _)
   | (with_reducible exact LeO.none _)
   | (with_reducible refine LeO.ite ?_ ?_)
   | (with_reducible refine LeO.bind ?_ (fun _ => ?_))
   | exact ih0 _ _ _
   | exact LeO.none _
   | refine LeO.ite ?_ ?_
   | refine LeO.bind ?_ (fun _ => ?_)
theorem spec_Errors.mono : ∀ a0 k, LeO (spec_Errors.f k a0) (spec_Errors.f (k + 1) a0) := by
 intro a0 k
 have ih0 := spec_Errors.mono_l k
 unfold spec_Errors.f
 repeat' first
   | (with_reducible exact ih0 _ _ _)
   | (with_reducible exact LeO.refl _)
   | (with_reducible exact LeO.none _)
   | (with_reducible refine LeO.ite ?_ ?_)
   | (with_reducible refine LeO.bind ?_ (fun _ => ?_))
   | exact ih0 _ _ _
   | exact LeO.none _
   | refine LeO.ite ?_ ?_
   | refine LeO.bind ?_ (fun _ => ?_)
set_option maxHeartbeats 8000000 in
set_option maxRecDepth 100000 in
theorem spec_Errors.calls (k : Nat) (A0 : Option Addr) (c0 : Nat) (l0 : List (S73)) (r : Int) (w : World) (hr0 : Kd.C k73 w A0 l0.length l0) (hc0 : l0.length ≤ c0) (h : spec_Errors.f k l0 = some r) :
  Calls Try.prog 23 #[.slice A0 l0.length c0] w fun e w' => e = .returned (.int .i64 r) ∧ Drawn0 w w' := by
 have HR0 := Aside0.mk hr0
 have HC0 := Aside0.mk hc0
 clear hr0 hc0
 unfold spec_Errors.f at h; have H := h
 clear h
 have H' := Aside0.mk H
 clear H
 go_enter Try.func23, Try.ntmps23
 go_wp2
 go_loopg [3, 4] k (fun kq v3 v4 w' => ∃ (x3_1 : Int) (x4_1 : Int), v3 = .int .i64 x3_1 ∧ v4 = .int .i64 x4_1 ∧ Aside0 (spec_Errors.l0 kq l0 x3_1 x4_1 = some r) ∧ Aside0 (kq ≤ k) ∧ Drawn0 w w')
 case atStart => exact ⟨(0), (0), zV, zV, H', ⟨Nat.le_refl _⟩, zU⟩
 case round =>
  clear H'
  obtain ⟨x3_1, x4_1, rfl, rfl, HA, HK1, ⟨m1, rfl⟩⟩ := hrel
  cases gk with
  | zero => exact absurd HA.out (by simp [spec_Errors.l0])
  | succ k1 =>
   have H := HA.out
   clear HA
   simp only [spec_Errors.l0] at H
   by_cases c2 : x4_1 < (l0.length : Int)
   ·rw [if_pos c2] at H
    have c2b0 := decide_eq_true c2
    clear c2
    by_cases c3 : 0 ≤ x4_1
    ·rw [if_pos c3] at H
     have c3b0 := decide_eq_true c3
     clear c3
     obtain ⟨bq4, hbq4⟩ : ∃ b_ : Bool, b_ = ((rd_T73 l0 x4_1).f4) := ⟨_, rfl⟩
     replace H : (if bq4 = true then (spec_Errors.l0 k1 l0 (wrap64 (x3_1 + 1)) (wrap64 (x4_1 + 1))) else (spec_Errors.l0 k1 l0 x3_1 (wrap64 (x4_1 + 1)))) = some r := by rw [← hbq4] at H; exact H
     have Nbq4 := Aside0.mk hbq4
     clear hbq4
     by_cases c5 : bq4 = true
     ·subst c5
      rw [if_pos rfl] at H
      have H' := Aside0.mk H
      clear H
      have p181 : 0 ≤ (x4_1 : Int) := zD
      have q181 : x4_1 < (l0.length : Int) := zD
      obtain ⟨ad181, A181_5, c181_5, e181, hx181_0, hx181_1, hx181_2, hx181_3, hx181_4, hx181_5, hl181_5, hi181_5⟩ := at_T73 HR0.out x4_1 p181 q181
      (try rw [← Nbq4.out] at hx181_4)
      cases e181
      have HR181_5 := Aside0.mk hi181_5
      have HC181_5 := Aside0.mk hl181_5
      clear hi181_5 hl181_5
      replace p181 := eq_true p181
      replace q181 := eq_true q181
      go_wp2
      go_roundg k1
      case measure => have := HK1.out; omega
      case rel => exact ⟨(wrap64 (x3_1 + 1)), (wrap64 (x4_1 + 1)), zV, zV, H', ⟨by have := HK1.out; omega⟩, zU⟩
     ·obtain rfl := Bool.eq_false_iff.mpr c5
      rw [if_neg zn] at H
      have H' := Aside0.mk H
      clear H
      have p181 : 0 ≤ (x4_1 : Int) := zD
      have q181 : x4_1 < (l0.length : Int) := zD
      obtain ⟨ad181, A181_5, c181_5, e181, hx181_0, hx181_1, hx181_2, hx181_3, hx181_4, hx181_5, hl181_5, hi181_5⟩ := at_T73 HR0.out x4_1 p181 q181
      (try rw [← Nbq4.out] at hx181_4)
      cases e181
      have HR181_5 := Aside0.mk hi181_5
      have HC181_5 := Aside0.mk hl181_5
      clear hi181_5 hl181_5
      replace p181 := eq_true p181
      replace q181 := eq_true q181
      go_wp2
      go_roundg k1
      case measure => have := HK1.out; omega
      case rel => exact ⟨(x3_1), (wrap64 (x4_1 + 1)), zV, zV, H', ⟨by have := HK1.out; omega⟩, zU⟩
    ·rw [if_neg c3] at H
     exact absurd H (by simp)
   ·rw [if_neg c2] at H
    have c2b0 := decide_eq_false c2
    clear c2
    obtain rfl := Option.some.inj H
    go_wp2
    go_ret
    exact ⟨zV, zU⟩

open Go.Proofs.YtfhblnbicnmndaaW.PrintWords renaming blk_drewN → bN, blk_drew → bD, blk_alloc → bA, blk_cell → bC, blk_below → bB, below_set → bS
/-! ### spec_Cap: function 70 -/
def spec_Cap.f (a0 : Int) : Option (Int) := if a0 < 0 then (some 0) else (if a0 > 2147483647 then (some 2147483647) else (some a0))
set_option maxHeartbeats 8000000 in
set_option maxRecDepth 100000 in
theorem spec_Cap.calls (a0 : Int) (r : Int) (w : World) (h : spec_Cap.f a0 = some r) :
  Calls Try.prog 70 #[.int .i64 a0] w fun e w' => e = .returned (.int .i64 r) ∧ Drawn0 w w' := by
 unfold spec_Cap.f at h; have H := h
 clear h
 by_cases c2 : a0 < 0
 ·rw [if_pos c2] at H
  have c2b0 := decide_eq_true c2
  clear c2
  obtain rfl := Option.some.inj H
  go_enter Try.func70, Try.ntmps70
  go_wp2
  go_ret
  exact ⟨zV, zU⟩
 ·rw [if_neg c2] at H
  have c2b0 := decide_eq_false c2
  clear c2
  by_cases c3 : a0 > 2147483647
  ·rw [if_pos c3] at H
   have c3b0 := decide_eq_true c3
   clear c3
   obtain rfl := Option.some.inj H
   go_enter Try.func70, Try.ntmps70
   go_wp2
   go_ret
   exact ⟨zV, zU⟩
  ·rw [if_neg c3] at H
   have c3b0 := decide_eq_false c3
   clear c3
   obtain rfl := Option.some.inj H
   go_enter Try.func70, Try.ntmps70
   go_wp2
   go_ret
   exact ⟨zV, zU⟩

open Go.Proofs.YtfhblnbicnmndaaW.PrintWords renaming blk_drewN → bN, blk_drew → bD, blk_alloc → bA, blk_cell → bC, blk_below → bB, below_set → bS
/-! ### spec_Sub: function 106 -/
def spec_Sub.f (a0 : Int) (a1 : Int) : Option (Int) := (spec_Cap.f a0).bind fun t182 => ((spec_Cap.f a1).bind fun t183 => ((spec_Cap.f (wrap64 (t182 - t183))).bind fun t184 => (some t184)))
set_option maxHeartbeats 8000000 in
set_option maxRecDepth 100000 in
theorem spec_Sub.calls (a0 : Int) (a1 : Int) (r : Int) (w : World) (h : spec_Sub.f a0 a1 = some r) :
  Calls Try.prog 106 #[.int .i64 a0, .int .i64 a1] w fun e w' => e = .returned (.int .i64 r) ∧ Drawn0 w w' := by
 unfold spec_Sub.f at h; have H := h
 clear h
 obtain ⟨t182, A3, H⟩ := zO H; try dsimp only at H
 obtain ⟨t183, A4, H⟩ := zO H; try dsimp only at H
 obtain ⟨t184, A5, H⟩ := zO H; try dsimp only at H
 obtain rfl := Option.some.inj H
 go_enter Try.func106, Try.ntmps106
 go_wp2_with (first | ((with_reducible refine gC 70 rfl ?_); refine gL 6 Try.func70 #[.int .i64 a0] ?_; (with_reducible refine (spec_Cap.calls a0 t182 _ A3.out).mono ?_); rintro e w' ⟨rfl, ⟨nd, rfl⟩⟩; refine ⟨_, rfl, ?_⟩) | ((with_reducible refine gC 70 rfl ?_); refine gL 8 Try.func70 #[.int .i64 a1] ?_; (with_reducible refine (spec_Cap.calls a1 t183 _ A4.out).mono ?_); rintro e w' ⟨rfl, ⟨nd, rfl⟩⟩; refine ⟨_, rfl, ?_⟩) | ((with_reducible refine gC 70 rfl ?_); refine gL 10 Try.func70 #[.int .i64 (wrap64 (t182 - t183))] ?_; (with_reducible refine (spec_Cap.calls (wrap64 (t182 - t183)) t184 _ A5.out).mono ?_); rintro e w' ⟨rfl, ⟨nd, rfl⟩⟩; refine ⟨_, rfl, ?_⟩))
 go_ret
 exact ⟨zV, zU⟩

open Go.Proofs.YtfhblnbicnmndaaW.PrintWords renaming blk_drewN → bN, blk_drew → bD, blk_alloc → bA, blk_cell → bC, blk_below → bB, below_set → bS
/-! ### spec_LengthOf: function 85 -/
def spec_LengthOf.f (a0_0 : Int) (a0_1 : Int) (a0_2 : Int) (a0_3 : Int) (a0_4 : Bool) (l0_5 : List (S83)) : Option (Int) := (spec_Sub.f a0_3 a0_2).bind fun t186 => (some t186)
set_option maxHeartbeats 8000000 in
set_option maxRecDepth 100000 in
theorem spec_LengthOf.calls (a0_0 : Int) (a0_1 : Int) (a0_2 : Int) (a0_3 : Int) (a0_4 : Bool) (A0_5 : Option Addr) (c0_5 : Nat) (l0_5 : List (S83)) (r : Int) (w : World) (hr0_5 : Kd.C k83 w A0_5 l0_5.length l0_5) (hc0_5 : l0_5.length ≤ c0_5) (h : spec_LengthOf.f a0_0 a0_1 a0_2 a0_3 a0_4 l0_5 = some r) :
  Calls Try.prog 85 #[.agg #[.int .i64 a0_0, .int .i64 a0_1, .int .i64 a0_2, .int .i64 a0_3, .bool a0_4, .slice A0_5 l0_5.length c0_5]] w fun e w' => e = .returned (.int .i64 r) ∧ Below w.heap.size w w' := by
 have hu73 := Try.underlying73
 have HR0_5 := Aside0.mk hr0_5
 have HC0_5 := Aside0.mk hc0_5
 clear hr0_5 hc0_5
 have HB := Aside0.mk (Below.refl w.heap.size w)
 unfold spec_LengthOf.f at h; have H := h
 clear h
 obtain ⟨t186, A2, H⟩ := zO H; try dsimp only at H
 obtain rfl := Option.some.inj H
 go_enter Try.func85, Try.ntmps85
 go_wp2_with (first | ((with_reducible refine gD 1 rfl ?_); refine bE 1 #[.int .i64 a0_0, .int .i64 a0_1, .int .i64 a0_2, .int .i64 a0_3, .bool a0_4, .slice A0_5 l0_5.length c0_5] 73 ?_; intro gb185 hg w3 hbox hb; have BK185 := Aside0.mk hbox; have GW185 := Aside0.mk (zg (zL HB.out) hg : w.heap.size ≤ gb185); have GE185 := GW185; replace HB := zLB (zL HB.out) hb; clear hb hbox hg; have hcz4 := zc6 BK185.out; have hfz4 := zf6 BK185.out) | ((with_reducible refine gC 106 rfl ?_); refine gL 7 Try.func106 #[.int .i64 a0_3, .int .i64 a0_2] ?_; (with_reducible refine (spec_Sub.calls a0_3 a0_2 t186 _ A2.out).mono ?_); rintro e w' ⟨rfl, ⟨nd, rfl⟩⟩; refine ⟨_, rfl, ?_⟩))
 go_ret
 exact ⟨zW, zL1 HB.out GE185.out⟩

open Go.Proofs.YtfhblnbicnmndaaW.PrintWords renaming blk_drewN → bN, blk_drew → bD, blk_alloc → bA, blk_cell → bC, blk_below → bB, below_set → bS
/-! ### spec_Longest: function 60 -/
def spec_Longest.l0 : Nat → List (S73) → Int → Int → Option (Int)
 | 0, _, _, _ => none
 | k + 1, x0, x3, x4 => if x4 < (x0.length : Int) then (if 0 ≤ x4 then ((spec_LengthOf.f ((rd_T73 x0 x4).f0) ((rd_T73 x0 x4).f1) ((rd_T73 x0 x4).f2) ((rd_T73 x0 x4).f3) ((rd_T73 x0 x4).f4) ((rd_T73 x0 x4).f5)).bind fun t188 => (if t188 > x3 then ((spec_LengthOf.f ((rd_T73 x0 x4).f0) ((rd_T73 x0 x4).f1) ((rd_T73 x0 x4).f2) ((rd_T73 x0 x4).f3) ((rd_T73 x0 x4).f4) ((rd_T73 x0 x4).f5)).bind fun t190 => (spec_Longest.l0 k x0 t190 (wrap64 (x4 + 1)))) else (spec_Longest.l0 k x0 x3 (wrap64 (x4 + 1))))) else (none)) else (some x3)
def spec_Longest.f (k : Nat) (l0 : List (S73)) : Option (Int) := spec_Longest.l0 k l0 0 0
theorem spec_Longest.mono_l : ∀ k, (∀ y0 y1 y2, LeO (spec_Longest.l0 k y0 y1 y2) (spec_Longest.l0 (k + 1) y0 y1 y2))
 | 0 => fun _ _ _ r h => by simp [spec_Longest.l0] at h
 | k + 1 => by
  have ih0 := spec_Longest.mono_l k
  ·intro y0 y1 y2
   unfold spec_Longest.l0
   repeat' first
   | (with_reducible exact ih0 _ _ _)
   | (with_reducible exact LeO.refl _)
   | (with_reducible exact LeO.none _)
   | (with_reducible refine LeO.ite ?_ ?_)
   | (with_reducible refine LeO.bind ?_ (fun _ => ?_))
   | exact ih0 _ _ _
   | exact LeO.none _
   | refine LeO.ite ?_ ?_
   | refine LeO.bind ?_ (fun _ => ?_)
theorem spec_Longest.mono : ∀ a0 k, LeO (spec_Longest.f k a0) (spec_Longest.f (k + 1) a0) := by
 intro a0 k
 have ih0 := spec_Longest.mono_l k
 unfold spec_Longest.f
 repeat' first
   | (with_reducible exact ih0 _ _ _)
   | (with_reducible exact LeO.refl _)
   | (with_reducible exact LeO.none _)
   | (with_reducible refine LeO.ite ?_ ?_)
   | (with_reducible refine LeO.bind ?_ (fun _ => ?_))
   | exact ih0 _ _ _
   | exact LeO.none _
   | refine LeO.ite ?_ ?_
   | refine LeO.bind ?_ (fun _ => ?_)
set_option maxHeartbeats 8000000 in
set_option maxRecDepth 100000 in
theorem spec_Longest.calls (k : Nat) (A0 : Option Addr) (c0 : Nat) (l0 : List (S73)) (r : Int) (w : World) (hr0 : Kd.C k73 w A0 l0.length l0) (hc0 : l0.length ≤ c0) (h : spec_Longest.f k l0 = some r) :
  Calls Try.prog 60 #[.slice A0 l0.length c0] w fun e w' => e = .returned (.int .i64 r) ∧ Below w.heap.size w w' := by
 have hu73 := Try.underlying73
 have HR0 := Aside0.mk hr0
 have HC0 := Aside0.mk hc0
 clear hr0 hc0
 have HB := Aside0.mk (Below.refl w.heap.size w)
 unfold spec_Longest.f at h; have H := h
 clear h
 have H' := Aside0.mk H
 clear H
 go_enter Try.func60, Try.ntmps60
 go_wp2
 go_loopg [3, 4] k (fun kq v3 v4 w' => ∃ (x3_1 : Int) (x4_1 : Int), v3 = .int .i64 x3_1 ∧ v4 = .int .i64 x4_1 ∧ Aside0 (spec_Longest.l0 kq l0 x3_1 x4_1 = some r) ∧ Aside0 (kq ≤ k) ∧ Aside0 (Below w.heap.size w w'))
 case atStart => exact ⟨(0), (0), zV, zV, H', ⟨Nat.le_refl _⟩, ⟨zL HB.out⟩⟩
 case round =>
  clear H'
  obtain ⟨x3_1, x4_1, rfl, rfl, HA, HK1, HB⟩ := hrel
  cases gk with
  | zero => exact absurd HA.out (by simp [spec_Longest.l0])
  | succ k1 =>
   have H := HA.out
   clear HA
   simp only [spec_Longest.l0] at H
   by_cases c2 : x4_1 < (l0.length : Int)
   ·rw [if_pos c2] at H
    have c2b0 := decide_eq_true c2
    clear c2
    by_cases c3 : 0 ≤ x4_1
    ·rw [if_pos c3] at H
     have c3b0 := decide_eq_true c3
     clear c3
     obtain ⟨t188, A4, H⟩ := zO H; try dsimp only at H
     by_cases c5 : t188 > x3_1
     ·rw [if_pos c5] at H
      have c5b0 := decide_eq_true c5
      clear c5
      obtain ⟨t190, A6, H⟩ := zO H; try dsimp only at H
      have H' := Aside0.mk H
      clear H
      have p187 : 0 ≤ (x4_1 : Int) := zD
      have q187 : x4_1 < (l0.length : Int) := zD
      obtain ⟨ad187, A187_5, c187_5, e187, hx187_0, hx187_1, hx187_2, hx187_3, hx187_4, hx187_5, hl187_5, hi187_5⟩ := at_T73 HR0.out x4_1 p187 q187
      cases e187
      replace hx187_0 := zh HB.out hx187_0
      replace hx187_1 := zh HB.out hx187_1
      replace hx187_2 := zh HB.out hx187_2
      replace hx187_3 := zh HB.out hx187_3
      replace hx187_4 := zh HB.out hx187_4
      replace hx187_5 := zh HB.out hx187_5
      have HR187_5 := Aside0.mk hi187_5
      have HC187_5 := Aside0.mk hl187_5
      clear hi187_5 hl187_5
      replace p187 := eq_true p187
      replace q187 := eq_true q187
      go_wp2_with (first | ((with_reducible refine gC 85 rfl ?_); refine gL 15 Try.func85 #[.agg #[.int .i64 ((rd_T73 l0 x4_1).f0), .int .i64 ((rd_T73 l0 x4_1).f1), .int .i64 ((rd_T73 l0 x4_1).f2), .int .i64 ((rd_T73 l0 x4_1).f3), .bool ((rd_T73 l0 x4_1).f4), .slice A187_5 ((rd_T73 l0 x4_1).f5).length c187_5]] ?_; (with_reducible refine (spec_LengthOf.calls ((rd_T73 l0 x4_1).f0) ((rd_T73 l0 x4_1).f1) ((rd_T73 l0 x4_1).f2) ((rd_T73 l0 x4_1).f3) ((rd_T73 l0 x4_1).f4) _ _ ((rd_T73 l0 x4_1).f5) t188 _ ?side1 ?side2 A4.out).mono ?_); (case side1 => exact zC (Kd.C_below HR187_5.out HB.out)); (case side2 => exact HC187_5.out); rintro e w7 ⟨rfl, hb⟩; refine ⟨_, rfl, ?_⟩; replace HB := zLB (zL HB.out) hb; clear hb; have p189 : 0 ≤ (x4_1 : Int) := zD; have q189 : x4_1 < (l0.length : Int) := zD; obtain ⟨ad189, A189_5, c189_5, e189, hx189_0, hx189_1, hx189_2, hx189_3, hx189_4, hx189_5, hl189_5, hi189_5⟩ := at_T73 HR0.out x4_1 p189 q189; obtain rfl : ad187 = ad189 := (by injection e189); replace hx189_0 := zh HB.out hx189_0; replace hx189_1 := zh HB.out hx189_1; replace hx189_2 := zh HB.out hx189_2; replace hx189_3 := zh HB.out hx189_3; replace hx189_4 := zh HB.out hx189_4; replace hx189_5 := zh HB.out hx189_5; have HR189_5 := Aside0.mk hi189_5; have HC189_5 := Aside0.mk hl189_5; clear hi189_5 hl189_5; replace p189 := eq_true p189; replace q189 := eq_true q189) | ((with_reducible refine gC 85 rfl ?_); refine gL 22 Try.func85 #[.agg #[.int .i64 ((rd_T73 l0 x4_1).f0), .int .i64 ((rd_T73 l0 x4_1).f1), .int .i64 ((rd_T73 l0 x4_1).f2), .int .i64 ((rd_T73 l0 x4_1).f3), .bool ((rd_T73 l0 x4_1).f4), .slice A189_5 ((rd_T73 l0 x4_1).f5).length c189_5]] ?_; (with_reducible refine (spec_LengthOf.calls ((rd_T73 l0 x4_1).f0) ((rd_T73 l0 x4_1).f1) ((rd_T73 l0 x4_1).f2) ((rd_T73 l0 x4_1).f3) ((rd_T73 l0 x4_1).f4) _ _ ((rd_T73 l0 x4_1).f5) t190 _ ?side1 ?side2 A6.out).mono ?_); (case side1 => exact zC (Kd.C_below HR189_5.out HB.out)); (case side2 => exact HC189_5.out); rintro e w8 ⟨rfl, hb⟩; refine ⟨_, rfl, ?_⟩; replace HB := zLB (zL HB.out) hb; clear hb))
      go_roundg k1
      case measure => have := HK1.out; omega
      case rel => exact ⟨(t190), (wrap64 (x4_1 + 1)), zV, zV, H', ⟨by have := HK1.out; omega⟩, ⟨zL HB.out⟩⟩
     ·rw [if_neg c5] at H
      have c5b0 := decide_eq_false c5
      clear c5
      have H' := Aside0.mk H
      clear H
      have p187 : 0 ≤ (x4_1 : Int) := zD
      have q187 : x4_1 < (l0.length : Int) := zD
      obtain ⟨ad187, A187_5, c187_5, e187, hx187_0, hx187_1, hx187_2, hx187_3, hx187_4, hx187_5, hl187_5, hi187_5⟩ := at_T73 HR0.out x4_1 p187 q187
      cases e187
      replace hx187_0 := zh HB.out hx187_0
      replace hx187_1 := zh HB.out hx187_1
      replace hx187_2 := zh HB.out hx187_2
      replace hx187_3 := zh HB.out hx187_3
      replace hx187_4 := zh HB.out hx187_4
      replace hx187_5 := zh HB.out hx187_5
      have HR187_5 := Aside0.mk hi187_5
      have HC187_5 := Aside0.mk hl187_5
      clear hi187_5 hl187_5
      replace p187 := eq_true p187
      replace q187 := eq_true q187
      go_wp2_with (first | ((with_reducible refine gC 85 rfl ?_); refine gL 15 Try.func85 #[.agg #[.int .i64 ((rd_T73 l0 x4_1).f0), .int .i64 ((rd_T73 l0 x4_1).f1), .int .i64 ((rd_T73 l0 x4_1).f2), .int .i64 ((rd_T73 l0 x4_1).f3), .bool ((rd_T73 l0 x4_1).f4), .slice A187_5 ((rd_T73 l0 x4_1).f5).length c187_5]] ?_; (with_reducible refine (spec_LengthOf.calls ((rd_T73 l0 x4_1).f0) ((rd_T73 l0 x4_1).f1) ((rd_T73 l0 x4_1).f2) ((rd_T73 l0 x4_1).f3) ((rd_T73 l0 x4_1).f4) _ _ ((rd_T73 l0 x4_1).f5) t188 _ ?side1 ?side2 A4.out).mono ?_); (case side1 => exact zC (Kd.C_below HR187_5.out HB.out)); (case side2 => exact HC187_5.out); rintro e w9 ⟨rfl, hb⟩; refine ⟨_, rfl, ?_⟩; replace HB := zLB (zL HB.out) hb; clear hb))
      go_roundg k1
      case measure => have := HK1.out; omega
      case rel => exact ⟨(x3_1), (wrap64 (x4_1 + 1)), zV, zV, H', ⟨by have := HK1.out; omega⟩, ⟨zL HB.out⟩⟩
    ·rw [if_neg c3] at H
     exact absurd H (by simp)
   ·rw [if_neg c2] at H
    have c2b0 := decide_eq_false c2
    clear c2
    obtain rfl := Option.some.inj H
    go_wp2
    go_ret
    exact ⟨zW, zL HB.out⟩

open Go.Proofs.YtfhblnbicnmndaaW.PrintWords renaming blk_drewN → bN, blk_drew → bD, blk_alloc → bA, blk_cell → bC, blk_below → bB, below_set → bS
/-! ### spec_FindAttr: function 86 -/
def spec_FindAttr.l0 : Nat → List (S83) → ByteArray → Int → Option (ByteArray × Bool × Int × ByteArray × Bool)
 | 0, _, _, _ => none
 | k + 1, x0, x1, x6 => if x6 < (x0.length : Int) then (if 0 ≤ x6 then (if ((rd_T83 x0 x6).f0).toList = x1.toList then (some ((rd_T83 x0 x6).f0, (rd_T83 x0 x6).f1, (rd_T83 x0 x6).f2, (rd_T83 x0 x6).f3, true)) else (spec_FindAttr.l0 k x0 x1 (wrap64 (x6 + 1)))) else (none)) else (some ((⟨#[]⟩ : ByteArray), false, 0, (⟨#[]⟩ : ByteArray), false))
def spec_FindAttr.f (k : Nat) (l0 : List (S83)) (a1 : ByteArray) : Option (ByteArray × Bool × Int × ByteArray × Bool) := spec_FindAttr.l0 k l0 a1 0
theorem spec_FindAttr.mono_l : ∀ k, (∀ y0 y1 y2, LeO (spec_FindAttr.l0 k y0 y1 y2) (spec_FindAttr.l0 (k + 1) y0 y1 y2))
 | 0 => fun _ _ _ r h => by simp [spec_FindAttr.l0] at h
 | k + 1 => by
  have ih0 := spec_FindAttr.mono_l k
  ·intro y0 y1 y2
   unfold spec_FindAttr.l0
   repeat' first
   | (with_reducible exact ih0 _ _ _)
   | (with_reducible exact LeO.refl _)
   | (with_reducible exact LeO.none _)
   | (with_reducible refine LeO.ite ?_ ?_)
   | (with_reducible refine LeO.bind ?_ (fun _ => ?_))
   | exact ih0 _ _ _
   | exact LeO.none _
   | refine LeO.ite ?_ ?_
   | refine LeO.bind ?_ (fun _ => ?_)
theorem spec_FindAttr.mono : ∀ a0 a1 k, LeO (spec_FindAttr.f k a0 a1) (spec_FindAttr.f (k + 1) a0 a1) := by
 intro a0 a1 k
 have ih0 := spec_FindAttr.mono_l k
 unfold spec_FindAttr.f
 repeat' first
   | (with_reducible exact ih0 _ _ _)
   | (with_reducible exact LeO.refl _)
   | (with_reducible exact LeO.none _)
   | (with_reducible refine LeO.ite ?_ ?_)
   | (with_reducible refine LeO.bind ?_ (fun _ => ?_))
   | exact ih0 _ _ _
   | exact LeO.none _
   | refine LeO.ite ?_ ?_
   | refine LeO.bind ?_ (fun _ => ?_)
set_option maxHeartbeats 8000000 in
set_option maxRecDepth 100000 in
theorem spec_FindAttr.calls (k : Nat) (A0 : Option Addr) (c0 : Nat) (l0 : List (S83)) (a1 : ByteArray) (r1 : ByteArray) (r2 : Bool) (r3 : Int) (r4 : ByteArray) (r5 : Bool) (w : World) (hr0 : Kd.C k83 w A0 l0.length l0) (hc0 : l0.length ≤ c0) (h : spec_FindAttr.f k l0 a1 = some (r1, r2, r3, r4, r5)) :
  Calls Try.prog 86 #[.slice A0 l0.length c0, .string a1] w fun e w' => e = .returned (.tuple #[.agg #[.string r1, .bool r2, .int .i64 r3, .string r4], .bool r5]) ∧ Below w.heap.size w w' := by
 have hu83 := Try.underlying83
 have HR0 := Aside0.mk hr0
 have HC0 := Aside0.mk hc0
 clear hr0 hc0
 have HB := Aside0.mk (Below.refl w.heap.size w)
 unfold spec_FindAttr.f at h; have H := h
 clear h
 have H' := Aside0.mk H
 clear H
 go_enter Try.func86, Try.ntmps86
 go_wp2_with (first | ((with_reducible refine gD 4 rfl ?_); refine bE 4 #[.string (⟨#[]⟩ : ByteArray), .bool false, .int .i64 0, .string (⟨#[]⟩ : ByteArray)] 83 ?_; intro gb191 hg w3 hbox hb; have BK191 := Aside0.mk hbox; have GW191 := Aside0.mk (zg (zL HB.out) hg : w.heap.size ≤ gb191); have GE191 := GW191; replace HB := zLB (zL HB.out) hb; clear hb hbox hg))
 go_loopg [6] k (fun kq v6 w' => ∃ (x6_1 : Int) (x192000_1 : ByteArray) (x192001_1 : Bool) (x192002_1 : Int) (x192003_1 : ByteArray), v6 = .int .i64 x6_1 ∧ Aside0 (spec_FindAttr.l0 kq l0 a1 x6_1 = some (r1, r2, r3, r4, r5)) ∧ Aside0 (kq ≤ k) ∧ Aside0 (w'.heap[gb191]? = some (.cells #[.string x192000_1, .bool x192001_1, .int .i64 x192002_1, .string x192003_1] 83 (0, 0))) ∧ Aside0 (Below w.heap.size w w'))
 case atStart => exact ⟨(0), ((⟨#[]⟩ : ByteArray)), (false), (0), ((⟨#[]⟩ : ByteArray)), zV, H', ⟨Nat.le_refl _⟩, ⟨zB BK191.out⟩, ⟨zL1 HB.out GE191.out⟩⟩
 case round =>
  clear H'
  try clear p2
  try clear BK191
  obtain ⟨x6_1, x192000_1, x192001_1, x192002_1, x192003_1, rfl, HA, HK1, BK191, HB⟩ := hrel
  cases gk with
  | zero => exact absurd HA.out (by simp [spec_FindAttr.l0])
  | succ k1 =>
   have H := HA.out
   clear HA
   simp only [spec_FindAttr.l0] at H
   by_cases c4 : x6_1 < (l0.length : Int)
   ·rw [if_pos c4] at H
    have c4b0 := decide_eq_true c4
    clear c4
    by_cases c5 : 0 ≤ x6_1
    ·rw [if_pos c5] at H
     have c5b0 := decide_eq_true c5
     clear c5
     by_cases c6 : ((rd_T83 l0 x6_1).f0).toList = a1.toList
     ·rw [if_pos c6] at H
      obtain ⟨c6b0, c6b1⟩ := zt c6
      clear c6
      simp only [Option.some.injEq, Prod.mk.injEq] at H
      obtain ⟨rfl, rfl, rfl, rfl, rfl⟩ := H
      have p192 : 0 ≤ (x6_1 : Int) := zD
      have q192 : x6_1 < (l0.length : Int) := zD
      obtain ⟨ad192, e192, hx192_0, hx192_1, hx192_2, hx192_3⟩ := at_T83 HR0.out x6_1 p192 q192
      cases e192
      replace hx192_0 := zh HB.out hx192_0
      replace hx192_1 := zh HB.out hx192_1
      replace hx192_2 := zh HB.out hx192_2
      replace hx192_3 := zh HB.out hx192_3
      replace p192 := eq_true p192
      replace q192 := eq_true q192
      have p193 : 0 ≤ (x6_1 : Int) := zD
      have q193 : x6_1 < (l0.length : Int) := zD
      obtain ⟨ad193, e193, hx193_0, hx193_1, hx193_2, hx193_3⟩ := at_T83 HR0.out x6_1 p193 q193
      obtain rfl : ad192 = ad193 := (by injection e193)
      replace hx193_0 := zh HB.out hx193_0
      replace hx193_1 := zh HB.out hx193_1
      replace hx193_2 := zh HB.out hx193_2
      replace hx193_3 := zh HB.out hx193_3
      replace p193 := eq_true p193
      replace q193 := eq_true q193
      have hcz7 := zc4 BK191.out
      have hfz7 := zf4 BK191.out
      go_wp2
      refine bodyPost_ret (results_ct rfl _ _ gb191 83 #[.string ((rd_T83 l0 x6_1).f0), .bool ((rd_T83 l0 x6_1).f1), .int .i64 ((rd_T83 l0 x6_1).f2), .string ((rd_T83 l0 x6_1).f3)] (0, 0) _ rfl (by refine zB ?_; refine zp4 (cs := #[.string x192000_1, .bool x192001_1, .int .i64 x192002_1, .string x192003_1]) ?_; exact zB BK191.out) Try.underlying83 rfl (by kernel_rfl)) rfl ?_
      exact ⟨zW, zL1 HB.out GE191.out⟩
     ·rw [if_neg c6] at H
      obtain ⟨c6b0, c6b1⟩ := zf c6
      have H' := Aside0.mk H
      clear H
      have p192 : 0 ≤ (x6_1 : Int) := zD
      have q192 : x6_1 < (l0.length : Int) := zD
      obtain ⟨ad192, e192, hx192_0, hx192_1, hx192_2, hx192_3⟩ := at_T83 HR0.out x6_1 p192 q192
      cases e192
      replace hx192_0 := zh HB.out hx192_0
      replace hx192_1 := zh HB.out hx192_1
      replace hx192_2 := zh HB.out hx192_2
      replace hx192_3 := zh HB.out hx192_3
      replace p192 := eq_true p192
      replace q192 := eq_true q192
      go_wp2
      go_roundg k1
      case measure => have := HK1.out; omega
      case rel => exact ⟨(wrap64 (x6_1 + 1)), (x192000_1), (x192001_1), (x192002_1), (x192003_1), zV, H', ⟨by have := HK1.out; omega⟩, ⟨zB BK191.out⟩, ⟨zL1 HB.out GE191.out⟩⟩
    ·rw [if_neg c5] at H
     exact absurd H (by simp)
   ·rw [if_neg c4] at H
    have c4b0 := decide_eq_false c4
    clear c4
    simp only [Option.some.injEq, Prod.mk.injEq] at H
    obtain ⟨rfl, rfl, rfl, rfl, rfl⟩ := H
    have hcz8 := zc4 BK191.out
    have hfz8 := zf4 BK191.out
    go_wp2
    refine bodyPost_ret (results_ct rfl _ _ gb191 83 #[.string (⟨#[]⟩ : ByteArray), .bool false, .int .i64 0, .string (⟨#[]⟩ : ByteArray)] (0, 0) _ rfl (by refine zB ?_; refine zp4 (cs := #[.string x192000_1, .bool x192001_1, .int .i64 x192002_1, .string x192003_1]) ?_; exact zB BK191.out) Try.underlying83 rfl (by kernel_rfl)) rfl ?_
    exact ⟨zW, zL1 HB.out GE191.out⟩

end Go.Proofs.Ytfhblnbicnmndaa.QFnExactJudge
