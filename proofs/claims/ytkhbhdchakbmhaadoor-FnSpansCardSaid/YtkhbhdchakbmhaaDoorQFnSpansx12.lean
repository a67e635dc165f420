/- What the Go functions that the law FnSpans reaches answer: each as a Lean function, with its walk. Written by a program of this session. Conditions: those that each theorem names. -/
import Derived.Test.YtkhbhdchakbmhaaDoorQFnSpansx0
import Derived.Test.YtkhbhdchakbmhaaDoorQFnSpansx1
import Derived.Test.YtkhbhdchakbmhaaDoorQFnSpansx6
namespace Go.Proofs.YtkhbhdchakbmhaaDoor.QFnSpans
open Go.RowKit Go.Proofs.YtkhbhdchakbmhaaDoorW.PrintWords Go.Proofs.YtkhbhdchakbmhaaDoorW.PrintLast Go.Proofs.YtkhbhdchakbmhaaDoorW.PrintMore
attribute [local go_sem] max2_int min2_int max_two min_two max_three min_three max_four min_four   -- for this text's walks alone
set_option linter.unusedVariables false
set_option linter.unusedSimpArgs false

attribute [local go_sem high] eqA28
open Go.Proofs.YtkhbhdchakbmhaaDoorW.PrintWords renaming blk_drewN → bN, blk_drew → bD, blk_alloc → bA, blk_cell → bC, blk_below → bB, below_set → bS
/-! ### spec_SameSpan: function 46 -/
mutual
def spec_SameSpan.j0 : Nat → Bool → Int → Int → Int → Int → Bool → List (S28) → Int → Int → Int → Int → Bool → List (S28) → Option (Bool)
 | 0, _, _, _, _, _, _, _, _, _, _, _, _, _ => none
 | k + 1, x47, x550000, x550001, x550002, x550003, x550004, x550005, x551000, x551001, x551002, x551003, x551004, x551005 => if x47 = true then (some false) else (spec_SameSpan.l0 k 0 x550000 x550001 x550002 x550003 x550004 x550005 x551000 x551001 x551002 x551003 x551004 x551005)
def spec_SameSpan.l0 : Nat → Int → Int → Int → Int → Int → Bool → List (S28) → Int → Int → Int → Int → Bool → List (S28) → Option (Bool)
 | 0, _, _, _, _, _, _, _, _, _, _, _, _, _ => none
 | k + 1, x5, x550000, x550001, x550002, x550003, x550004, x550005, x551000, x551001, x551002, x551003, x551004, x551005 => if x5 < (x550005.length : Int) then (if 0 ≤ x5 then (if x5 < (x551005.length : Int) then (if (!((((rd_T28 x550005 x5).f0).toList) == (((rd_T28 x551005 x5).f0).toList)) || (!(((rd_T28 x550005 x5).f1) == ((rd_T28 x551005 x5).f1)) || (!(((rd_T28 x550005 x5).f2) == ((rd_T28 x551005 x5).f2)) || (!((((rd_T28 x550005 x5).f3).toList) == (((rd_T28 x551005 x5).f3).toList)))))) = true then (some false) else (spec_SameSpan.l0 k (wrap64 (x5 + 1)) x550000 x550001 x550002 x550003 x550004 x550005 x551000 x551001 x551002 x551003 x551004 x551005)) else (none)) else (none)) else (some true)
end
def spec_SameSpan.f (k : Nat) (a0_0 : Int) (a0_1 : Int) (a0_2 : Int) (a0_3 : Int) (a0_4 : Bool) (l0_5 : List (S28)) (a1_0 : Int) (a1_1 : Int) (a1_2 : Int) (a1_3 : Int) (a1_4 : Bool) (l1_5 : List (S28)) : Option (Bool) := if a0_0 = a1_0 then (if a0_1 = a1_1 then (if a0_2 = a1_2 then (if a0_3 = a1_3 then (if (a0_4 != a1_4) = true then (spec_SameSpan.j0 k true a0_0 a0_1 a0_2 a0_3 a0_4 l0_5 a1_0 a1_1 a1_2 a1_3 a1_4 l1_5) else (spec_SameSpan.j0 k ((l0_5.length : Int) != (l1_5.length : Int)) a0_0 a0_1 a0_2 a0_3 a0_4 l0_5 a1_0 a1_1 a1_2 a1_3 a1_4 l1_5)) else (spec_SameSpan.j0 k true a0_0 a0_1 a0_2 a0_3 a0_4 l0_5 a1_0 a1_1 a1_2 a1_3 a1_4 l1_5)) else (spec_SameSpan.j0 k true a0_0 a0_1 a0_2 a0_3 a0_4 l0_5 a1_0 a1_1 a1_2 a1_3 a1_4 l1_5)) else (spec_SameSpan.j0 k true a0_0 a0_1 a0_2 a0_3 a0_4 l0_5 a1_0 a1_1 a1_2 a1_3 a1_4 l1_5)) else (spec_SameSpan.j0 k true a0_0 a0_1 a0_2 a0_3 a0_4 l0_5 a1_0 a1_1 a1_2 a1_3 a1_4 l1_5)
theorem spec_SameSpan.mono_l : ∀ k, (∀ y0 y1 y2 y3 y4 y5 y6 y7 y8 y9 y10 y11 y12, LeO (spec_SameSpan.j0 k y0 y1 y2 y3 y4 y5 y6 y7 y8 y9 y10 y11 y12) (spec_SameSpan.j0 (k + 1) y0 y1 y2 y3 y4 y5 y6 y7 y8 y9 y10 y11 y12)) ∧ (∀ y0 y1 y2 y3 y4 y5 y6 y7 y8 y9 y10 y11 y12, LeO (spec_SameSpan.l0 k y0 y1 y2 y3 y4 y5 y6 y7 y8 y9 y10 y11 y12) (spec_SameSpan.l0 (k + 1) y0 y1 y2 y3 y4 y5 y6 y7 y8 y9 y10 y11 y12))
 | 0 => ⟨fun _ _ _ _ _ _ _ _ _ _ _ _ _ r h => by simp [spec_SameSpan.j0] at h, fun _ _ _ _ _ _ _ _ _ _ _ _ _ r h => by simp [spec_SameSpan.l0] at h⟩
 | k + 1 => by
  obtain ⟨ih0, ih1⟩ := spec_SameSpan.mono_l k
  refine ⟨?_, ?_⟩
  ·intro y0 y1 y2 y3 y4 y5 y6 y7 y8 y9 y10 y11 y12
   unfold spec_SameSpan.j0
   repeat' first
   | (with_reducible exact ih0 _ _ _ _ _ _ _ _ _ _ _ _ _)
   | (with_reducible exact ih1 _ _ _ _ _ _ _ _ _ _ _ _ _)
   | (with_reducible exact LeO.refl _)
   | (with_reducible exact LeO.none _)
   | (with_reducible refine LeO.ite ?_ ?_)
   | (with_reducible refine LeO.bind ?_ (fun _ => ?_))
   | exact ih0 _ _ _ _ _ _ _ _ _ _ _ _ _
   | exact ih1 _ _ _ _ _ _ _ _ _ _ _ _ _
   | exact LeO.none _
   | refine LeO.ite ?_ ?_
   | refine LeO.bind ?_ (fun _ => ?_)
  ·intro y0 y1 y2 y3 y4 y5 y6 y7 y8 y9 y10 y11 y12
   unfold spec_SameSpan.l0
   repeat' first
   | (with_reducible exact ih0 _ _ _ _ _ _ _ _ _ _ _ _ _)
   | (with_reducible exact ih1 _ _ _ _ _ _ _ _ _ _ _ _ _)
   | (with_reducible exact LeO.refl _)
   | (with_reducible exact LeO.none _)
   | (with_reducible refine LeO.ite ?_ ?_)
   | (with_reducible refine LeO.bind ?_ (fun _ => ?_))
   | exact ih0 _ _ _ _ _ _ _ _ _ _ _ _ _
   | exact ih1 _ _ _ _ _ _ _ _ _ _ _ _ _
   | exact LeO.none _
   | refine LeO.ite ?_ ?_
   | refine LeO.bind ?_ (fun _ => ?_)
theorem spec_SameSpan.mono : ∀ a0 a1 a2 a3 a4 a5 a6 a7 a8 a9 a10 a11 k, LeO (spec_SameSpan.f k a0 a1 a2 a3 a4 a5 a6 a7 a8 a9 a10 a11) (spec_SameSpan.f (k + 1) a0 a1 a2 a3 a4 a5 a6 a7 a8 a9 a10 a11) := by
 intro a0 a1 a2 a3 a4 a5 a6 a7 a8 a9 a10 a11 k
 obtain ⟨ih0, ih1⟩ := spec_SameSpan.mono_l k
 unfold spec_SameSpan.f
 repeat' first
   | (with_reducible exact ih0 _ _ _ _ _ _ _ _ _ _ _ _ _)
   | (with_reducible exact ih1 _ _ _ _ _ _ _ _ _ _ _ _ _)
   | (with_reducible exact LeO.refl _)
   | (with_reducible exact LeO.none _)
   | (with_reducible refine LeO.ite ?_ ?_)
   | (with_reducible refine LeO.bind ?_ (fun _ => ?_))
   | exact ih0 _ _ _ _ _ _ _ _ _ _ _ _ _
   | exact ih1 _ _ _ _ _ _ _ _ _ _ _ _ _
   | exact LeO.none _
   | refine LeO.ite ?_ ?_
   | refine LeO.bind ?_ (fun _ => ?_)
set_option maxHeartbeats 8000000 in
set_option maxRecDepth 100000 in
theorem spec_SameSpan.calls (k : Nat) (a0_0 : Int) (a0_1 : Int) (a0_2 : Int) (a0_3 : Int) (a0_4 : Bool) (A0_5 : Option Addr) (c0_5 : Nat) (l0_5 : List (S28)) (a1_0 : Int) (a1_1 : Int) (a1_2 : Int) (a1_3 : Int) (a1_4 : Bool) (A1_5 : Option Addr) (c1_5 : Nat) (l1_5 : List (S28)) (r : Bool) (w : World) (hr0_5 : Kd.C k28 w A0_5 l0_5.length l0_5) (hc0_5 : l0_5.length ≤ c0_5) (hr1_5 : Kd.C k28 w A1_5 l1_5.length l1_5) (hc1_5 : l1_5.length ≤ c1_5) (h : spec_SameSpan.f k a0_0 a0_1 a0_2 a0_3 a0_4 l0_5 a1_0 a1_1 a1_2 a1_3 a1_4 l1_5 = some r) :
  Calls Tryd.prog 46 #[.agg #[.int .i64 a0_0, .int .i64 a0_1, .int .i64 a0_2, .int .i64 a0_3, .bool a0_4, .slice A0_5 l0_5.length c0_5], .agg #[.int .i64 a1_0, .int .i64 a1_1, .int .i64 a1_2, .int .i64 a1_3, .bool a1_4, .slice A1_5 l1_5.length c1_5]] w fun e w' => e = .returned (.bool r) ∧ Below w.heap.size w w' := by
 have hu38 := Tryd.underlying38
 have hu28 := Tryd.underlying28
 have HR0_5 := Aside0.mk hr0_5
 have HC0_5 := Aside0.mk hc0_5
 clear hr0_5 hc0_5
 have HR1_5 := Aside0.mk hr1_5
 have HC1_5 := Aside0.mk hc1_5
 clear hr1_5 hc1_5
 have HB := Aside0.mk (Below.refl w.heap.size w)
 unfold spec_SameSpan.f at h; have H := h
 clear h
 have HC3 := Aside0.mk H
 clear H
 go_enter Tryd.func46, Tryd.ntmps46
 go_upto_region 1 with (first | ((with_reducible refine gD 2 rfl ?_); (try (refine gate_guard (by rfl) ?_; dsimp only)); refine box_event ?hg (N := 2) ?hd (cs := #[.int .i64 a0_0, .int .i64 a0_1, .int .i64 a0_2, .int .i64 a0_3, .bool a0_4, .slice A0_5 l0_5.length c0_5]) (t := 38) ?hr ?_; (case hd => rfl); (case hg => rfl); (case hr => first | (go_simp; done) | (go_simp; rfl)); intro gb549 hg w4 hbox hb; have BK549 := Aside0.mk hbox; have GW549 := Aside0.mk (zg (zL HB.out) hg : w.heap.size ≤ gb549); have GE549 := GW549; replace HB := zLB (zL HB.out) hb; clear hb hbox hg) | ((with_reducible refine gD 3 rfl ?_); (try (refine gate_guard (by rfl) ?_; dsimp only)); refine box_event ?hg (N := 3) ?hd (cs := #[.int .i64 a1_0, .int .i64 a1_1, .int .i64 a1_2, .int .i64 a1_3, .bool a1_4, .slice A1_5 l1_5.length c1_5]) (t := 38) ?hr ?_; (case hd => rfl); (case hg => rfl); (case hr => first | (go_simp; done) | (go_simp; rfl)); intro gb550 hg w5 hbox hb; have BK550 := Aside0.mk hbox; have GW550 := Aside0.mk (zg (zL1 HB.out GE549.out) hg : w.heap.size ≤ gb550); have GE550 := GW550; replace HB := zLB (zL1 HB.out GE549.out) hb; have NB549_550 := Aside0.mk (zN BK549.out hg : gb549 ≠ gb550); have NB550_549 := Aside0.mk (zM BK549.out hg : gb550 ≠ gb549); replace BK549 := zBB BK549 hb; clear hb hbox hg))
 repeat (go_quiet (first | ((with_reducible refine gD 2 rfl ?_); (try (refine gate_guard (by rfl) ?_; dsimp only)); refine box_event ?hg (N := 2) ?hd (cs := #[.int .i64 a0_0, .int .i64 a0_1, .int .i64 a0_2, .int .i64 a0_3, .bool a0_4, .slice A0_5 l0_5.length c0_5]) (t := 38) ?hr ?_; (case hd => rfl); (case hg => rfl); (case hr => first | (go_simp; done) | (go_simp; rfl)); intro gb549 hg w4 hbox hb; have BK549 := Aside0.mk hbox; have GW549 := Aside0.mk (zg (zL HB.out) hg : w.heap.size ≤ gb549); have GE549 := GW549; replace HB := zLB (zL HB.out) hb; clear hb hbox hg) | ((with_reducible refine gD 3 rfl ?_); (try (refine gate_guard (by rfl) ?_; dsimp only)); refine box_event ?hg (N := 3) ?hd (cs := #[.int .i64 a1_0, .int .i64 a1_1, .int .i64 a1_2, .int .i64 a1_3, .bool a1_4, .slice A1_5 l1_5.length c1_5]) (t := 38) ?hr ?_; (case hd => rfl); (case hg => rfl); (case hr => first | (go_simp; done) | (go_simp; rfl)); intro gb550 hg w5 hbox hb; have BK550 := Aside0.mk hbox; have GW550 := Aside0.mk (zg (zL1 HB.out GE549.out) hg : w.heap.size ≤ gb550); have GE550 := GW550; replace HB := zLB (zL1 HB.out GE549.out) hb; have NB549_550 := Aside0.mk (zN BK549.out hg : gb549 ≠ gb550); have NB550_549 := Aside0.mk (zM BK549.out hg : gb550 ≠ gb549); replace BK549 := zBB BK549 hb; clear hb hbox hg)); go_upto_region 1 with (first | ((with_reducible refine gD 2 rfl ?_); (try (refine gate_guard (by rfl) ?_; dsimp only)); refine box_event ?hg (N := 2) ?hd (cs := #[.int .i64 a0_0, .int .i64 a0_1, .int .i64 a0_2, .int .i64 a0_3, .bool a0_4, .slice A0_5 l0_5.length c0_5]) (t := 38) ?hr ?_; (case hd => rfl); (case hg => rfl); (case hr => first | (go_simp; done) | (go_simp; rfl)); intro gb549 hg w4 hbox hb; have BK549 := Aside0.mk hbox; have GW549 := Aside0.mk (zg (zL HB.out) hg : w.heap.size ≤ gb549); have GE549 := GW549; replace HB := zLB (zL HB.out) hb; clear hb hbox hg) | ((with_reducible refine gD 3 rfl ?_); (try (refine gate_guard (by rfl) ?_; dsimp only)); refine box_event ?hg (N := 3) ?hd (cs := #[.int .i64 a1_0, .int .i64 a1_1, .int .i64 a1_2, .int .i64 a1_3, .bool a1_4, .slice A1_5 l1_5.length c1_5]) (t := 38) ?hr ?_; (case hd => rfl); (case hg => rfl); (case hr => first | (go_simp; done) | (go_simp; rfl)); intro gb550 hg w5 hbox hb; have BK550 := Aside0.mk hbox; have GW550 := Aside0.mk (zg (zL1 HB.out GE549.out) hg : w.heap.size ≤ gb550); have GE550 := GW550; replace HB := zLB (zL1 HB.out GE549.out) hb; have NB549_550 := Aside0.mk (zN BK549.out hg : gb549 ≠ gb550); have NB550_549 := Aside0.mk (zM BK549.out hg : gb550 ≠ gb549); replace BK549 := zBB BK549 hb; clear hb hbox hg)))
 (try simp only [Act.put, List.setIfInBounds_toArray, List.set_cons_zero, List.set_cons_succ])
 go_cut [47] (fun v47 wc => ∃ (kq : Nat) (x47_2 : Bool), v47 = .bool x47_2 ∧ Aside0 (spec_SameSpan.j0 kq x47_2 a0_0 a0_1 a0_2 a0_3 a0_4 l0_5 a1_0 a1_1 a1_2 a1_3 a1_4 l1_5 = some r) ∧ Aside0 (kq ≤ k) ∧ Aside0 (wc.heap[gb549]? = some (.cells #[.int .i64 a0_0, .int .i64 a0_1, .int .i64 a0_2, .int .i64 a0_3, .bool a0_4, (.slice A0_5 l0_5.length c0_5)] 38 (0, 0))) ∧ Aside0 (wc.heap[gb550]? = some (.cells #[.int .i64 a1_0, .int .i64 a1_1, .int .i64 a1_2, .int .i64 a1_3, .bool a1_4, (.slice A1_5 l1_5.length c1_5)] 38 (0, 0))) ∧ Aside0 (Below w.heap.size w wc))
 case first =>
  have H := HC3.out
  clear HC3
  by_cases c6 : a0_0 = a1_0
  ·rw [if_pos c6] at H
   obtain ⟨c6b0, c6b1⟩ := zt c6
   clear c6
   (first | rw [c6b0] | (simp only [i64_w, i32_w]; rw [c6b0]) | skip)
   by_cases c7 : a0_1 = a1_1
   ·rw [if_pos c7] at H
    obtain ⟨c7b0, c7b1⟩ := zt c7
    clear c7
    by_cases c8 : a0_2 = a1_2
    ·rw [if_pos c8] at H
     obtain ⟨c8b0, c8b1⟩ := zt c8
     clear c8
     by_cases c9 : a0_3 = a1_3
     ·rw [if_pos c9] at H
      obtain ⟨c9b0, c9b1⟩ := zt c9
      clear c9
      by_cases c10 : (a0_4 != a1_4) = true
      ·rw [if_pos c10] at H
       have c10b0 := c10
       (try (have c10b1 : decide (a0_4 = a1_4) = false := by simpa using c10))
       (try (have c10b2 : (a0_4 == a1_4) = false := by simpa using c10))
       (try (have c10b3 : ¬ (a0_4 = a1_4) := by simpa using c10))
       clear c10
       have H' := Aside0.mk H
       clear H
       have hnb11 := NB549_550.out
       have hnc11 := NB550_549.out
       have hcz12 := zc6 BK549.out
       have hfz12 := zf6 BK549.out
       have hcz13 := zc6 BK550.out
       have hfz13 := zf6 BK550.out
       go_wp2
       repeat (go_quiet (fail); try go_wp2)
       go_meet
       case rel => exact ⟨_, (true), zV, H', ⟨by first | omega | exact Nat.le_refl _⟩, ⟨zB BK549.out⟩, ⟨zB BK550.out⟩, ⟨zL2 HB.out GE549.out GE550.out⟩⟩
      ·rw [if_neg c10] at H
       have c10b0 : (a0_4 != a1_4) = false := by simpa using c10
       (try (have c10b1 : decide (a0_4 = a1_4) = true := by simpa using c10))
       (try (have c10b2 : (a0_4 == a1_4) = true := by simpa using c10))
       clear c10
       have H' := Aside0.mk H
       clear H
       have hnb14 := NB549_550.out
       have hnc14 := NB550_549.out
       have hcz15 := zc6 BK549.out
       have hfz15 := zf6 BK549.out
       have hcz16 := zc6 BK550.out
       have hfz16 := zf6 BK550.out
       go_wp2
       repeat (go_quiet (fail); try go_wp2)
       go_meet
       case rel => exact ⟨_, (((l0_5.length : Int) != (l1_5.length : Int))), zV, H', ⟨by first | omega | exact Nat.le_refl _⟩, ⟨zB BK549.out⟩, ⟨zB BK550.out⟩, ⟨zL2 HB.out GE549.out GE550.out⟩⟩
     ·rw [if_neg c9] at H
      obtain ⟨c9b0, c9b1⟩ := zf c9
      have H' := Aside0.mk H
      clear H
      have hnb17 := NB549_550.out
      have hnc17 := NB550_549.out
      have hcz18 := zc6 BK549.out
      have hfz18 := zf6 BK549.out
      have hcz19 := zc6 BK550.out
      have hfz19 := zf6 BK550.out
      go_wp2
      repeat (go_quiet (fail); try go_wp2)
      go_meet
      case rel => exact ⟨_, (true), zV, H', ⟨by first | omega | exact Nat.le_refl _⟩, ⟨zB BK549.out⟩, ⟨zB BK550.out⟩, ⟨zL2 HB.out GE549.out GE550.out⟩⟩
    ·rw [if_neg c8] at H
     obtain ⟨c8b0, c8b1⟩ := zf c8
     have H' := Aside0.mk H
     clear H
     have hnb20 := NB549_550.out
     have hnc20 := NB550_549.out
     have hcz21 := zc6 BK549.out
     have hfz21 := zf6 BK549.out
     have hcz22 := zc6 BK550.out
     have hfz22 := zf6 BK550.out
     go_wp2
     repeat (go_quiet (fail); try go_wp2)
     go_meet
     case rel => exact ⟨_, (true), zV, H', ⟨by first | omega | exact Nat.le_refl _⟩, ⟨zB BK549.out⟩, ⟨zB BK550.out⟩, ⟨zL2 HB.out GE549.out GE550.out⟩⟩
   ·rw [if_neg c7] at H
    obtain ⟨c7b0, c7b1⟩ := zf c7
    have H' := Aside0.mk H
    clear H
    have hnb23 := NB549_550.out
    have hnc23 := NB550_549.out
    have hcz24 := zc6 BK549.out
    have hfz24 := zf6 BK549.out
    have hcz25 := zc6 BK550.out
    have hfz25 := zf6 BK550.out
    go_wp2
    repeat (go_quiet (fail); try go_wp2)
    go_meet
    case rel => exact ⟨_, (true), zV, H', ⟨by first | omega | exact Nat.le_refl _⟩, ⟨zB BK549.out⟩, ⟨zB BK550.out⟩, ⟨zL2 HB.out GE549.out GE550.out⟩⟩
  ·rw [if_neg c6] at H
   obtain ⟨c6b0, c6b1⟩ := zf c6
   (first | rw [c6b0] | (simp only [i64_w, i32_w]; rw [c6b0]) | skip)
   have H' := Aside0.mk H
   clear H
   have hnb26 := NB549_550.out
   have hnc26 := NB550_549.out
   have hcz27 := zc6 BK549.out
   have hfz27 := zf6 BK549.out
   have hcz28 := zc6 BK550.out
   have hfz28 := zf6 BK550.out
   go_wp2
   repeat (go_quiet (fail); try go_wp2)
   go_meet
   case rel => exact ⟨_, (true), zV, H', ⟨by first | omega | exact Nat.le_refl _⟩, ⟨zB BK549.out⟩, ⟨zB BK550.out⟩, ⟨zL2 HB.out GE549.out GE550.out⟩⟩
 case rest =>
  clear HC3
  try clear c1
  try clear c2
  try clear p2
  try clear c4
  try clear c6
  try clear c6b0
  try clear c6b1
  try clear c7
  try clear c7b0
  try clear c7b1
  try clear c8
  try clear c8b0
  try clear c8b1
  try clear c9
  try clear c9b0
  try clear c9b1
  try clear c10
  try clear c10b0
  try clear c10b1
  try clear c10b2
  try clear c11
  try clear c14
  try clear c17
  try clear c20
  try clear c23
  try clear c26
  try clear hcz12; try clear hcz13; try clear hcz15; try clear hcz16; try clear hcz18; try clear hcz19; try clear hcz21; try clear hcz22; try clear hcz24; try clear hcz25; try clear hcz27; try clear hcz28; try clear hfz12; try clear hfz13; try clear hfz15; try clear hfz16; try clear hfz18; try clear hfz19; try clear hfz21; try clear hfz22; try clear hfz24; try clear hfz25; try clear hfz27; try clear hfz28
  obtain ⟨kq, x47_2, rfl, HA, HJ2, BK549, BK550, HB⟩ := hcut
  cases kq with
  | zero => exact absurd HA.out (by simp [spec_SameSpan.j0])
  | succ kj2 =>
   have H := HA.out
   clear HA
   simp only [spec_SameSpan.j0] at H
   by_cases c29 : x47_2 = true
   ·subst c29
    rw [if_pos rfl] at H
    obtain rfl := Option.some.inj H
    go_wp2
    repeat (go_quiet (fail); try go_wp2)
    go_ret
    exact ⟨zW, zL2 HB.out GE549.out GE550.out⟩
   ·obtain rfl := Bool.eq_false_iff.mpr c29
    rw [if_neg zn] at H
    have H' := Aside0.mk H
    clear H
    go_wp2
    repeat (go_quiet (fail); try go_wp2)
    go_loopg [5] kj2 (fun kq v5 w' => ∃ (x5_2 : Int), v5 = .int .i64 x5_2 ∧ Aside0 (spec_SameSpan.l0 kq x5_2 a0_0 a0_1 a0_2 a0_3 a0_4 l0_5 a1_0 a1_1 a1_2 a1_3 a1_4 l1_5 = some r) ∧ Aside0 (kq ≤ kj2) ∧ Aside0 (w'.heap[gb549]? = some (.cells #[.int .i64 a0_0, .int .i64 a0_1, .int .i64 a0_2, .int .i64 a0_3, .bool a0_4, (.slice A0_5 l0_5.length c0_5)] 38 (0, 0))) ∧ Aside0 (w'.heap[gb550]? = some (.cells #[.int .i64 a1_0, .int .i64 a1_1, .int .i64 a1_2, .int .i64 a1_3, .bool a1_4, (.slice A1_5 l1_5.length c1_5)] 38 (0, 0))) ∧ Aside0 (Below w.heap.size w w'))
    case atStart => exact ⟨(0), zV, H', ⟨Nat.le_refl _⟩, ⟨zB BK549.out⟩, ⟨zB BK550.out⟩, ⟨zL2 HB.out GE549.out GE550.out⟩⟩
    case round =>
     clear H'
     try clear c1
     try clear c2
     try clear p2
     try clear c4
     try clear c6
     try clear c6b0
     try clear c6b1
     try clear c7
     try clear c7b0
     try clear c7b1
     try clear c8
     try clear c8b0
     try clear c8b1
     try clear c9
     try clear c9b0
     try clear c9b1
     try clear c10
     try clear c10b0
     try clear c10b1
     try clear c10b2
     try clear c11
     try clear c14
     try clear c17
     try clear c20
     try clear c23
     try clear c26
     try clear c29
     try clear hcz12; try clear hcz13; try clear hcz15; try clear hcz16; try clear hcz18; try clear hcz19; try clear hcz21; try clear hcz22; try clear hcz24; try clear hcz25; try clear hcz27; try clear hcz28; try clear hfz12; try clear hfz13; try clear hfz15; try clear hfz16; try clear hfz18; try clear hfz19; try clear hfz21; try clear hfz22; try clear hfz24; try clear hfz25; try clear hfz27; try clear hfz28
     try clear p2
     obtain ⟨x5_2, rfl, HA, HK2, BK549, BK550, HB⟩ := hrel
     cases gk with
     | zero => exact absurd HA.out (by simp [spec_SameSpan.l0])
     | succ k2 =>
      have H := HA.out
      clear HA
      simp only [spec_SameSpan.l0] at H
      by_cases c30 : x5_2 < (l0_5.length : Int)
      ·rw [if_pos c30] at H
       have c30b0 := decide_eq_true c30
       clear c30
       by_cases c31 : 0 ≤ x5_2
       ·rw [if_pos c31] at H
        have c31b0 := decide_eq_true c31
        clear c31
        by_cases c32 : x5_2 < (l1_5.length : Int)
        ·rw [if_pos c32] at H
         have c32b0 := decide_eq_true c32
         clear c32
         by_cases c33 : (!((((rd_T28 l0_5 x5_2).f0).toList) == (((rd_T28 l1_5 x5_2).f0).toList)) || (!(((rd_T28 l0_5 x5_2).f1) == ((rd_T28 l1_5 x5_2).f1)) || (!(((rd_T28 l0_5 x5_2).f2) == ((rd_T28 l1_5 x5_2).f2)) || (!((((rd_T28 l0_5 x5_2).f3).toList) == (((rd_T28 l1_5 x5_2).f3).toList)))))) = true
         ·rw [if_pos c33] at H
          have c33b0 := c33
          clear c33
          obtain rfl := Option.some.inj H
          have hnb34 := NB549_550.out
          have hnc34 := NB550_549.out
          have hcz35 := zc6 BK549.out
          have hfz35 := zf6 BK549.out
          have p551 : 0 ≤ (x5_2 : Int) := zD
          have q551 : x5_2 < (l0_5.length : Int) := zD
          obtain ⟨ad551, e551, hx551_0, hx551_1, hx551_2, hx551_3⟩ := at_T28 HR0_5.out x5_2 p551 q551
          cases e551
          replace hx551_0 := zh HB.out hx551_0
          replace hx551_1 := zh HB.out hx551_1
          replace hx551_2 := zh HB.out hx551_2
          replace hx551_3 := zh HB.out hx551_3
          replace p551 := eq_true p551
          replace q551 := eq_true q551
          have hcz36 := zc6 BK550.out
          have hfz36 := zf6 BK550.out
          have p552 : 0 ≤ (x5_2 : Int) := zD
          have q552 : x5_2 < (l1_5.length : Int) := zD
          obtain ⟨ad552, e552, hx552_0, hx552_1, hx552_2, hx552_3⟩ := at_T28 HR1_5.out x5_2 p552 q552
          cases e552
          replace hx552_0 := zh HB.out hx552_0
          replace hx552_1 := zh HB.out hx552_1
          replace hx552_2 := zh HB.out hx552_2
          replace hx552_3 := zh HB.out hx552_3
          replace p552 := eq_true p552
          replace q552 := eq_true q552
          go_wp2
          repeat (go_quiet (fail); try go_wp2)
          go_ret
          exact ⟨zW, zL2 HB.out GE549.out GE550.out⟩
         ·rw [if_neg c33] at H
          have c33b0 : (!((((rd_T28 l0_5 x5_2).f0).toList) == (((rd_T28 l1_5 x5_2).f0).toList)) || (!(((rd_T28 l0_5 x5_2).f1) == ((rd_T28 l1_5 x5_2).f1)) || (!(((rd_T28 l0_5 x5_2).f2) == ((rd_T28 l1_5 x5_2).f2)) || (!((((rd_T28 l0_5 x5_2).f3).toList) == (((rd_T28 l1_5 x5_2).f3).toList)))))) = false := by simpa using c33
          clear c33
          have H' := Aside0.mk H
          clear H
          have hnb37 := NB549_550.out
          have hnc37 := NB550_549.out
          have hcz38 := zc6 BK549.out
          have hfz38 := zf6 BK549.out
          have p551 : 0 ≤ (x5_2 : Int) := zD
          have q551 : x5_2 < (l0_5.length : Int) := zD
          obtain ⟨ad551, e551, hx551_0, hx551_1, hx551_2, hx551_3⟩ := at_T28 HR0_5.out x5_2 p551 q551
          cases e551
          replace hx551_0 := zh HB.out hx551_0
          replace hx551_1 := zh HB.out hx551_1
          replace hx551_2 := zh HB.out hx551_2
          replace hx551_3 := zh HB.out hx551_3
          replace p551 := eq_true p551
          replace q551 := eq_true q551
          have hcz39 := zc6 BK550.out
          have hfz39 := zf6 BK550.out
          have p552 : 0 ≤ (x5_2 : Int) := zD
          have q552 : x5_2 < (l1_5.length : Int) := zD
          obtain ⟨ad552, e552, hx552_0, hx552_1, hx552_2, hx552_3⟩ := at_T28 HR1_5.out x5_2 p552 q552
          cases e552
          replace hx552_0 := zh HB.out hx552_0
          replace hx552_1 := zh HB.out hx552_1
          replace hx552_2 := zh HB.out hx552_2
          replace hx552_3 := zh HB.out hx552_3
          replace p552 := eq_true p552
          replace q552 := eq_true q552
          go_wp2
          repeat (go_quiet (fail); try go_wp2)
          go_roundg k2
          case measure => have := HJ2.out; have := HK2.out; omega
          case rel => exact ⟨(wrap64 (x5_2 + 1)), zV, H', ⟨by have := HJ2.out; have := HK2.out; omega⟩, ⟨zB BK549.out⟩, ⟨zB BK550.out⟩, ⟨zL2 HB.out GE549.out GE550.out⟩⟩
        ·rw [if_neg c32] at H
         exact absurd H (by simp)
       ·rw [if_neg c31] at H
        exact absurd H (by simp)
      ·rw [if_neg c30] at H
       have c30b0 := decide_eq_false c30
       clear c30
       obtain rfl := Option.some.inj H
       have hnb40 := NB549_550.out
       have hnc40 := NB550_549.out
       have hcz41 := zc6 BK549.out
       have hfz41 := zf6 BK549.out
       go_wp2
       repeat (go_quiet (fail); try go_wp2)
       go_ret
       exact ⟨zW, zL2 HB.out GE549.out GE550.out⟩

open Go.Proofs.YtkhbhdchakbmhaaDoorW.PrintWords renaming blk_drewN → bN, blk_drew → bD, blk_alloc → bA, blk_cell → bC, blk_below → bB, below_set → bS
/-! ### impl_TotalOf: function 47 -/
def impl_TotalOf.l0 : Nat → Int → List (S38) → Int → Int → Option (Int)
 | 0, _, _, _, _ => none
 | k + 1, x3, x6, x7, x8 => if x8 < x7 then (if 0 ≤ x8 then (if x8 < (x6.length : Int) then ((impl_SizeOf.f k ((rd_T38 x6 x8).f0) ((rd_T38 x6 x8).f1) ((rd_T38 x6 x8).f2) ((rd_T38 x6 x8).f3) ((rd_T38 x6 x8).f4) ((rd_T38 x6 x8).f5)).bind fun t555 => (impl_TotalOf.l0 k (wrap64 (x3 + t555)) x6 x7 (wrap64 (x8 + 1)))) else (none)) else (none)) else (some x3)
def impl_TotalOf.f (k : Nat) (l0 : List (S38)) : Option (Int) := impl_TotalOf.l0 k 0 l0 (l0.length : Int) 0
theorem impl_TotalOf.mono_l : ∀ k, (∀ y0 y1 y2 y3, LeO (impl_TotalOf.l0 k y0 y1 y2 y3) (impl_TotalOf.l0 (k + 1) y0 y1 y2 y3))
 | 0 => fun _ _ _ _ r h => by simp [impl_TotalOf.l0] at h
 | k + 1 => by
  have ih0 := impl_TotalOf.mono_l k
  ·intro y0 y1 y2 y3
   unfold impl_TotalOf.l0
   repeat' first
   | (with_reducible exact ih0 _ _ _ _)
   | (with_reducible apply impl_SizeOf.mono)
   | (with_reducible exact LeO.refl _)
   | (with_reducible exact LeO.none _)
   | (with_reducible refine LeO.ite ?_ ?_)
   | (with_reducible refine LeO.bind ?_ (fun _ => ?_))
   | exact ih0 _ _ _ _
   | apply impl_SizeOf.mono
   | exact LeO.none _
   | refine LeO.ite ?_ ?_
   | refine LeO.bind ?_ (fun _ => ?_)
theorem impl_TotalOf.mono : ∀ a0 k, LeO (impl_TotalOf.f k a0) (impl_TotalOf.f (k + 1) a0) := by
 intro a0 k
 have ih0 := impl_TotalOf.mono_l k
 unfold impl_TotalOf.f
 repeat' first
   | (with_reducible exact ih0 _ _ _ _)
   | (with_reducible apply impl_SizeOf.mono)
   | (with_reducible exact LeO.refl _)
   | (with_reducible exact LeO.none _)
   | (with_reducible refine LeO.ite ?_ ?_)
   | (with_reducible refine LeO.bind ?_ (fun _ => ?_))
   | exact ih0 _ _ _ _
   | apply impl_SizeOf.mono
   | exact LeO.none _
   | refine LeO.ite ?_ ?_
   | refine LeO.bind ?_ (fun _ => ?_)
set_option maxHeartbeats 8000000 in
set_option maxRecDepth 100000 in
theorem impl_TotalOf.calls (k : Nat) (A0 : Option Addr) (c0 : Nat) (l0 : List (S38)) (r : Int) (w : World) (hr0 : Kd.C k38 w A0 l0.length l0) (hc0 : l0.length ≤ c0) (h : impl_TotalOf.f k l0 = some r) :
  Calls Tryd.prog 47 #[.slice A0 l0.length c0] w fun e w' => e = .returned (.int .i64 r) ∧ Below w.heap.size w w' := by
 have hu38 := Tryd.underlying38
 have HR0 := Aside0.mk hr0
 have HC0 := Aside0.mk hc0
 clear hr0 hc0
 have HB := Aside0.mk (Below.refl w.heap.size w)
 unfold impl_TotalOf.f at h; have H := h
 clear h
 have H' := Aside0.mk H
 clear H
 go_enter Tryd.func47, Tryd.ntmps47
 go_wp2
 go_loopg [3, 8] k (fun kq v3 v8 w' => ∃ (x3_1 : Int) (x8_1 : Int), v3 = .int .i64 x3_1 ∧ v8 = .int .i64 x8_1 ∧ Aside0 (impl_TotalOf.l0 kq x3_1 l0 (l0.length : Int) x8_1 = some r) ∧ Aside0 (kq ≤ k) ∧ Aside0 (Below w.heap.size w w'))
 case atStart => exact ⟨(0), (0), zV, zV, H', ⟨Nat.le_refl _⟩, ⟨zL HB.out⟩⟩
 case round =>
  clear H'
  obtain ⟨x3_1, x8_1, rfl, rfl, HA, HK1, HB⟩ := hrel
  cases gk with
  | zero => exact absurd HA.out (by simp [impl_TotalOf.l0])
  | succ k1 =>
   have H := HA.out
   clear HA
   simp only [impl_TotalOf.l0] at H
   by_cases c2 : x8_1 < (l0.length : Int)
   ·rw [if_pos c2] at H
    have c2b0 := decide_eq_true c2
    clear c2
    by_cases c3 : 0 ≤ x8_1
    ·rw [if_pos c3] at H
     have c3b0 := decide_eq_true c3
     clear c3
     by_cases c4 : x8_1 < (l0.length : Int)
     ·rw [if_pos c4] at H
      have c4b0 := decide_eq_true c4
      clear c4
      obtain ⟨t555, A5, H⟩ := zO H; try dsimp only at H
      have H' := Aside0.mk H
      clear H
      have p553 : 0 ≤ (x8_1 : Int) := zD
      have q553 : x8_1 < (l0.length : Int) := zD
      obtain ⟨ad553, A553_5, c553_5, e553, hx553_0, hx553_1, hx553_2, hx553_3, hx553_4, hx553_5, hl553_5, hi553_5⟩ := at_T38 HR0.out x8_1 p553 q553
      cases e553
      replace hx553_0 := zh HB.out hx553_0
      replace hx553_1 := zh HB.out hx553_1
      replace hx553_2 := zh HB.out hx553_2
      replace hx553_3 := zh HB.out hx553_3
      replace hx553_4 := zh HB.out hx553_4
      replace hx553_5 := zh HB.out hx553_5
      have HR553_5 := Aside0.mk hi553_5
      have HC553_5 := Aside0.mk hl553_5
      clear hi553_5 hl553_5
      replace p553 := eq_true p553
      replace q553 := eq_true q553
      go_wp2_with (first | ((with_reducible refine gD 5 rfl ?_); refine bE 5 #[.int .i64 0, .int .i64 0, .int .i64 0, .int .i64 0, .bool false, .slice none 0 0] 38 ?_; intro gb554 hg w6 hbox hb; have BK554 := Aside0.mk hbox; have GW554 := Aside0.mk (zg (zL HB.out) hg : w.heap.size ≤ gb554); have GE554 := GW554; replace HB := zLB (zL HB.out) hb; clear hb hbox hg; have hcz7 := zc6 BK554.out; have hfz7 := zf6 BK554.out) | ((with_reducible refine gC 41 rfl ?_); refine gL 14 Tryd.func41 #[.agg #[.int .i64 ((rd_T38 l0 x8_1).f0), .int .i64 ((rd_T38 l0 x8_1).f1), .int .i64 ((rd_T38 l0 x8_1).f2), .int .i64 ((rd_T38 l0 x8_1).f3), .bool ((rd_T38 l0 x8_1).f4), .slice A553_5 ((rd_T38 l0 x8_1).f5).length c553_5]] ?_; (with_reducible refine (impl_SizeOf.calls k1 ((rd_T38 l0 x8_1).f0) ((rd_T38 l0 x8_1).f1) ((rd_T38 l0 x8_1).f2) ((rd_T38 l0 x8_1).f3) ((rd_T38 l0 x8_1).f4) _ _ ((rd_T38 l0 x8_1).f5) t555 _ ?side1 ?side2 A5.out).mono ?_); (case side1 => exact Kd.C_below HR553_5.out (zL1 HB.out GE554.out)); (case side2 => exact HC553_5.out); rintro e w8 ⟨rfl, hb⟩; refine ⟨_, rfl, ?_⟩; replace BK554 := Aside0.mk (bB (g := gb554) (o := .cells #[.int .i64 ((rd_T38 l0 x8_1).f0), .int .i64 ((rd_T38 l0 x8_1).f1), .int .i64 ((rd_T38 l0 x8_1).f2), .int .i64 ((rd_T38 l0 x8_1).f3), .bool ((rd_T38 l0 x8_1).f4), .slice A553_5 ((rd_T38 l0 x8_1).f5).length c553_5] 38 (0, 0)) (by refine zB ?_; refine zp6 (cs := #[.int .i64 0, .int .i64 0, .int .i64 0, .int .i64 0, .bool false, .slice none 0 0]) ?_; exact zB BK554.out) hb); replace HB := zLB (zL1 HB.out GE554.out) hb; clear hb))
      go_roundg k1
      case measure => have := HK1.out; omega
      case rel => exact ⟨(wrap64 (x3_1 + t555)), (wrap64 (x8_1 + 1)), zV, zV, H', ⟨by have := HK1.out; omega⟩, ⟨zL1 HB.out GE554.out⟩⟩
     ·rw [if_neg c4] at H
      exact absurd H (by simp)
    ·rw [if_neg c3] at H
     exact absurd H (by simp)
   ·rw [if_neg c2] at H
    have c2b0 := decide_eq_false c2
    clear c2
    obtain rfl := Option.some.inj H
    go_wp2
    go_ret
    exact ⟨zW, zL HB.out⟩

end Go.Proofs.YtkhbhdchakbmhaaDoor.QFnSpans
