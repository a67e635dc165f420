/- What functions that the law reaches answer, with their walks. Conditions: those that each theorem names. -/
import Derived.Test.YtggenhomnbnodaaQFnWheelsx0
namespace Go.Proofs.Ytggenhomnbnodaa.QFnWheels
open Go.RowKit Go.Proofs.YtggenhomnbnodaaW.PrintWords Go.Proofs.YtggenhomnbnodaaW.PrintLast Go.Proofs.YtggenhomnbnodaaW.PrintMore
attribute [local go_sem] max2_int min2_int max_two min_two max_three min_three max_four min_four
set_option linter.unusedVariables false
set_option linter.unusedSimpArgs false

open Go.Proofs.YtggenhomnbnodaaW.PrintWords renaming blk_drewN → bN, blk_drew → bD, blk_alloc → bA, blk_cell → bC, blk_below → bB, below_set → bS
def impl_WheelNew.f  : Option (Int × (List (List (S46))) × (List (List (S46))) × (List (S46))) := if 8 ≤ 11728124029610 then (some (0, (List.replicate 8 []), (List.replicate 8 []), ([] : List (S46)))) else (none)
set_option maxHeartbeats 8000000 in
set_option maxRecDepth 100000 in
theorem impl_WheelNew.calls  (r1 : Int) (r2 : List (List (S46))) (r3 : List (List (S46))) (r4 : List (S46)) (w : World) (h : impl_WheelNew.f  = some (r1, r2, r3, r4)) :
  Calls Try.prog 16 #[] w fun e w' => ∃ v1_ v2_ v3_ : Value, e = .returned (.agg #[.int .i64 r1, v1_, v2_, v3_]) ∧ Kd.S (Kd.slice 46 k46) 23 w' w.heap.size (fun k_ => some k_ ≠ (v2_ : Value).ownBlock ∧ some k_ ≠ (v3_ : Value).ownBlock) v1_ r2 ∧ Kd.S (Kd.slice 46 k46) 23 w' w.heap.size (fun k_ => some k_ ≠ (v1_ : Value).ownBlock ∧ some k_ ≠ (v3_ : Value).ownBlock) v2_ r3 ∧ Kd.R k46 46 w' w.heap.size (fun _ => True) v3_ r4 ∧ Below w.heap.size w w' := by
 have hu25 := Try.underlying25
 have HB := aM (Below.refl w.heap.size w)
 unfold impl_WheelNew.f at h; have H := h
 clear h
 by_cases c1 : 8 ≤ 11728124029610
 ·rw [if_pos c1] at H
  have c1b0 := eq_true c1
  have c1b1 := dT c1
  clear c1
  obtain ⟨yH, hyH⟩ : ∃ y_ : List (List (S46)), y_ = (List.replicate 8 []) := ⟨_, rfl⟩
  replace H : (some (0, yH, (List.replicate 8 []), ([] : List (S46)))) = some (r1, r2, r3, r4) := by first | (rw [hyH]; with_reducible exact H) | (have H2_ := (Option.bind_some _ _).symm.trans H; rw [hyH]; with_reducible exact H2_) | (have H2_ := (Option.bind_some _ _).symm.trans H; with_reducible exact H2_) | with_reducible exact H | (rw [hyH]; exact H) | exact H
  have NyH := aM hyH
  clear hyH
  obtain ⟨yI, hyI⟩ : ∃ y_ : List (List (S46)), y_ = (List.replicate 8 []) := ⟨_, rfl⟩
  replace H : (some (0, yH, yI, ([] : List (S46)))) = some (r1, r2, r3, r4) := by first | (rw [hyI]; with_reducible exact H) | (have H2_ := (Option.bind_some _ _).symm.trans H; rw [hyI]; with_reducible exact H2_) | (have H2_ := (Option.bind_some _ _).symm.trans H; with_reducible exact H2_) | with_reducible exact H | (rw [hyI]; exact H) | exact H
  have NyI := aM hyI
  clear hyI
  simp only [Option.some.injEq, Prod.mk.injEq] at H
  obtain ⟨rfl, rfl, rfl, rfl⟩ := H
  go_enter Try.func16, Try.ntmps16
  try go_wp2_with (first | ((with_reducible refine gD 0 rfl ?_); refine bE 0 #[.int .i64 0, .slice none 0 0, .slice none 0 0, .slice none 0 0] 25 ?_; intro gbA hg w2 hbox hb; have BKA := aM hbox; have GWA := aM (zg (zL HB.o) hg : w.heap.size ≤ gbA); have GEA := GWA; replace HB := zLB (zL HB.o) hb; clear hb hbox hg))
  replace BKA := zBD BKA; replace HB := zLD HB
  refine start_ (n := 4) (S := fun w' => True) (ds := []) #[false, false, false, false] (by kernel_rfl) rfl rfl trivial (fun hHeld => ?_)
  generalize w2.drew = w3 at BKA HB hHeld ⊢
  refine join_ (σ := Value × Value) 2 #[true, true, false, false] (fun s_ => [(1, s_.1), (2, s_.2)]) (fun s_ w' => (Kd.S (Kd.slice 46 k46) 23 w' w.heap.size (fun k_ => some k_ ≠ (s_.2 : Value).ownBlock) s_.1 yH) ∧ (Kd.S (Kd.slice 46 k46) 23 w' w.heap.size (fun k_ => some k_ ≠ (s_.1 : Value).ownBlock) s_.2 yI) ∧ (w'.heap[gbA]? = some (.cells #[.int .i64 0, .slice none 0 0, .slice none 0 0, .slice none 0 0] 25 (0, 0))) ∧ (Below w.heap.size w w')) ?_ ?_
  rotate_left
  ·intro hCont
   refine two_ (i := 0) (j := 1) (Ni := some 1) (Nj := some 2) #[true, false, false, false] #[false, true, false, false] rfl rfl rfl rfl (by kernel_rfl) (by decide) (by decide) (fun K hK => ?_) (fun K hK => ?_)
   ·skip
    refine Kd.S_make_step (Kd.slice 46 k46) _ 23 (by rfl) (N := 1) rfl 22 _ _ rfl 8 rfl rfl Try.underlying22 (.slice none 0 0) 24 info23 rfl (by decide) (by omega) [] (ok := fun _ => True) (okp := fun _ => True) ⟨_, rfl, Kd.R_nil _ _ _ _ _⟩ (fun _ hk => hk) trivial (by omega) (by omega) (Below.refl _ _) (Nat.le_refl _) ?_
    intro vX w4 ho5 hb hg_ hnew_
    clear hg_ hnew_
    (first | rw [← NyH.o] at ho5 | (simp only [Int.reduceToNat] at ho5; rw [← NyH.o] at ho5))
    have HOJ := aM (Kd.S_lower ho5 (below_size (zL1 HB.o GEA.o))); replace BKA := zBB BKA hb; replace HB := zLB (zL1 HB.o GEA.o) hb
    clear hb ho5
    refine hK.out _ _ trivial fun hHeld => ?_; clear hK K
    refine nZ 1 ?_
    refine one_ (i := 1) (N := some 2) (fB 4 3) rfl rfl (by kernel_rfl) (by decide) (fun K hK => ?_)
    refine Kd.S_make_step (Kd.slice 46 k46) _ 23 (by rfl) (N := 2) rfl 22 _ _ rfl 8 rfl rfl Try.underlying22 (.slice none 0 0) 24 info23 rfl (by decide) (by omega) [] (ok := fun _ => True) (okp := fun _ => True) ⟨_, rfl, Kd.R_nil _ _ _ _ _⟩ (fun _ hk => hk) trivial (by omega) (by omega) (Below.refl _ _) (Nat.le_refl _) ?_
    intro vY w6 ho7 hb hg_ hnew_
    clear hg_ hnew_
    (first | rw [← NyI.o] at ho7 | (simp only [Int.reduceToNat] at ho7; rw [← NyI.o] at ho7))
    have HOK := aM (Kd.S_lower (Kd.S_new' ho7 (Kd.S_lt (zS HOJ.o))) (below_size (zL1 HB.o GEA.o))); replace HOJ := aM (Kd.S_elder' (zS HOJ.o) (Kd.S_base ho7) hb); replace BKA := zBB BKA hb; replace HB := zLB (zL1 HB.o GEA.o) hb
    clear hb ho7
    obtain ⟨Ao8, co8, eo8⟩ := Kd.S_slice HOK.o
    (first | subst eo8 | (injection eo8 with f1_ f2_ f3_; have f4_ := f1_.symm; have f5_ := f3_.symm; clear f1_ f2_ f3_; subst f4_; subst f5_))
    obtain ⟨Ao9, co9, eo9⟩ := Kd.S_slice HOJ.o
    (first | subst eo9 | (injection eo9 with f1_ f2_ f3_; have f4_ := f1_.symm; have f5_ := f3_.symm; clear f1_ f2_ f3_; subst f4_; subst f5_))
    refine hK.out _ _ trivial fun hHeld => ?_; clear hK K
    refine nZ 2 ?_
    exact norm_ (by simp only [putAll, Act.put, List.setIfInBounds_toArray, List.set_cons_zero, List.set_cons_succ]) (hCont (.slice Ao9 yH.length co9, .slice Ao8 yI.length co8) _ ⟨(zSm HOJ.o (fun _ hk => hk.2)), (zSm HOK.o (fun _ hk => hk.2)), (zB BKA.o), (zL1 HB.o GEA.o)⟩)
   ·skip
    refine Kd.S_make_step (Kd.slice 46 k46) _ 23 (by rfl) (N := 2) rfl 22 _ _ rfl 8 rfl rfl Try.underlying22 (.slice none 0 0) 24 info23 rfl (by decide) (by omega) [] (ok := fun _ => True) (okp := fun _ => True) ⟨_, rfl, Kd.R_nil _ _ _ _ _⟩ (fun _ hk => hk) trivial (by omega) (by omega) (Below.refl _ _) (Nat.le_refl _) ?_
    intro vY w4 ho5 hb hg_ hnew_
    clear hg_ hnew_
    (first | rw [← NyI.o] at ho5 | (simp only [Int.reduceToNat] at ho5; rw [← NyI.o] at ho5))
    have HOK := aM (Kd.S_lower ho5 (below_size (zL1 HB.o GEA.o))); replace BKA := zBB BKA hb; replace HB := zLB (zL1 HB.o GEA.o) hb
    clear hb ho5
    refine hK.out _ _ trivial fun hHeld => ?_; clear hK K
    refine nZ 2 ?_
    refine one_ (i := 0) (N := some 1) (fB 4 3) rfl rfl (by kernel_rfl) (by decide) (fun K hK => ?_)
    refine Kd.S_make_step (Kd.slice 46 k46) _ 23 (by rfl) (N := 1) rfl 22 _ _ rfl 8 rfl rfl Try.underlying22 (.slice none 0 0) 24 info23 rfl (by decide) (by omega) [] (ok := fun _ => True) (okp := fun _ => True) ⟨_, rfl, Kd.R_nil _ _ _ _ _⟩ (fun _ hk => hk) trivial (by omega) (by omega) (Below.refl _ _) (Nat.le_refl _) ?_
    intro vX w6 ho7 hb hg_ hnew_
    clear hg_ hnew_
    (first | rw [← NyH.o] at ho7 | (simp only [Int.reduceToNat] at ho7; rw [← NyH.o] at ho7))
    have HOJ := aM (Kd.S_lower (Kd.S_new' ho7 (Kd.S_lt (zS HOK.o))) (below_size (zL1 HB.o GEA.o))); replace HOK := aM (Kd.S_elder' (zS HOK.o) (Kd.S_base ho7) hb); replace BKA := zBB BKA hb; replace HB := zLB (zL1 HB.o GEA.o) hb
    clear hb ho7
    obtain ⟨Ao8, co8, eo8⟩ := Kd.S_slice HOK.o
    (first | subst eo8 | (injection eo8 with f1_ f2_ f3_; have f4_ := f1_.symm; have f5_ := f3_.symm; clear f1_ f2_ f3_; subst f4_; subst f5_))
    obtain ⟨Ao9, co9, eo9⟩ := Kd.S_slice HOJ.o
    (first | subst eo9 | (injection eo9 with f1_ f2_ f3_; have f4_ := f1_.symm; have f5_ := f3_.symm; clear f1_ f2_ f3_; subst f4_; subst f5_))
    refine hK.out _ _ trivial fun hHeld => ?_; clear hK K
    refine nZ 1 ?_
    exact norm_ (by simp only [putAll, Act.put, List.setIfInBounds_toArray, List.set_cons_zero, List.set_cons_succ]) (hCont (.slice Ao9 yH.length co9, .slice Ao8 yI.length co8) _ ⟨(zSm HOJ.o (fun _ hk => hk.2)), (zSm HOK.o (fun _ hk => hk.2)), (zB BKA.o), (zL1 HB.o GEA.o)⟩)
  rintro ⟨vX, vY⟩ w10 ⟨h0_, h1_, h2_, h3_⟩
  have n0_ : Aside0 (Kd.S (Kd.slice 46 k46) 23 w10 w.heap.size (fun k_ => some k_ ≠ (vY : Value).ownBlock) vX yH) := ⟨h0_⟩
  have n1_ : Aside0 (Kd.S (Kd.slice 46 k46) 23 w10 w.heap.size (fun k_ => some k_ ≠ (vX : Value).ownBlock) vY yI) := ⟨h1_⟩
  have n2_ : Aside0 (w10.heap[gbA]? = some (.cells #[.int .i64 0, .slice none 0 0, .slice none 0 0, .slice none 0 0] 25 (0, 0))) := ⟨h2_⟩
  have n3_ : Aside0 (Below w.heap.size w w10) := ⟨h3_⟩
  clear BKA
  clear HB
  clear h0_ h1_ h2_ h3_
  have HOJ := n0_
  have HOK := n1_
  have BKA := n2_
  have HB := n3_
  clear n0_ n1_ n2_ n3_
  have hHeld := trivial
  obtain ⟨Ao11, co11, eo11⟩ := Kd.S_slice HOK.o
  (first | subst eo11 | (injection eo11 with f1_ f2_ f3_; have f4_ := f1_.symm; have f5_ := f3_.symm; clear f1_ f2_ f3_; subst f4_; subst f5_))
  obtain ⟨Ao12, co12, eo12⟩ := Kd.S_slice HOJ.o
  (first | subst eo12 | (injection eo12 with f1_ f2_ f3_; have f4_ := f1_.symm; have f5_ := f3_.symm; clear f1_ f2_ f3_; subst f4_; subst f5_))
  refine norm_ (a' := ?_) ?_ ?_
  rotate_left
  ·simp only [putAll, Act.put, List.setIfInBounds_toArray, List.set_cons_zero, List.set_cons_succ]
   rfl
  refine pure_ (i := 2) (N := some 3) (v := ?_) (a' := ?_) (fB 4 7) rfl rfl (by kernel_rfl) (fun _ _ _ h => h) (Or.inl ⟨by rfl, ?_⟩) ?_ ?_
  rotate_left
  ·intro w'; go_simp; with_reducible rfl
  rotate_left
  ·exact zP
  refine one_ (i := 3) (N := none) (fB 4 15) rfl rfl (by kernel_rfl) (by decide) (fun K hK => ?_)
  have hs13 : w10.cell? ⟨gbA, 0, none⟩ = some (.int .i64 0) := (bC BKA.o 0).trans rfl
  have hfs13 := blk_frozen BKA.o 0
  have hs14 : w10.cell? ⟨gbA, 1, none⟩ = some (.slice none 0 0) := (bC BKA.o 1).trans rfl
  have hfs14 := blk_frozen BKA.o 1
  have hs15 : w10.cell? ⟨gbA, 2, none⟩ = some (.slice none 0 0) := (bC BKA.o 2).trans rfl
  have hfs15 := blk_frozen BKA.o 2
  have hs16 : w10.cell? ⟨gbA, 3, none⟩ = some (.slice none 0 0) := (bC BKA.o 3).trans rfl
  have hfs16 := blk_frozen BKA.o 3
  refine skip_ (w1 := ?_) (by rfl) rfl ?_ ?_
  rotate_left
  ·go_simp
   rfl
  refine hK.out _ _ trivial fun hHeld => ?_; clear hK K
  refine done_ (by kernel_rfl) ?_
  try go_wp2
  refine bodyPost_ret (results_cell_row rfl _ _ gbA 25 #[.int .i64 0, .slice Ao12 yH.length co12, .slice Ao11 yI.length co11, .slice none 0 0] (0, 0) _ rfl (by refine zB ?_; refine zp4 (cs := #[.int .i64 0, .slice none 0 0, .slice none 0 0, .slice none 0 0]) ?_; exact zB BKA.o) Try.underlying25 rfl (by kernel_rfl)) rfl ?_
  exact ⟨_, _, _, zW, by refine zS ?_; exact Kd.S_mono (zSF4 (Kd.S_types HOJ.o BKA.o (by decide)) gbA (fun _ hk => hk.2) (.int .i64 0) (.slice Ao12 yH.length co12) (.slice Ao11 yI.length co11) (.slice none 0 0)) (fun _ hk => ⟨hk.1, (by simp [Value.ownBlock])⟩), by refine zS ?_; exact Kd.S_mono (zSF4 (Kd.S_types HOK.o BKA.o (by decide)) gbA (fun _ hk => hk.2) (.int .i64 0) (.slice Ao12 yH.length co12) (.slice Ao11 yI.length co11) (.slice none 0 0)) (fun _ hk => ⟨hk.1, (by simp [Value.ownBlock])⟩), by first | exact Kd.R_nil _ _ _ _ _ | exact Kd.N_nil _ _ _ _ _ | exact Kd.V_nil _ _ _ _ _ | exact Kd.Q_nil _ _ _ _ _ | exact Kd.S_nil _ _ _ _ _, zL1 HB.o GEA.o⟩
 ·rw [if_neg c1] at H
  exact absurd H (by simp)

open Go.Proofs.YtggenhomnbnodaaW.PrintWords renaming blk_drewN → bN, blk_drew → bD, blk_alloc → bA, blk_cell → bC, blk_below → bB, below_set → bS
mutual
def spec_Timers.l0 : Nat → List (S46) → Int → Int → List (List (S46)) → List (List (S46)) → List (S46) → Option ((List (S46)))
 | 0, _, _, _, _, _, _ => none
 | k + 1, x3, x4, xZ, xM, xN, xO => if x4 < (xM.length : Int) then (if 0 ≤ x4 then (if x3.length + (rd_L2 xM x4).length < 5864062014805 then (spec_Timers.l0 k (x3 ++ (rd_L2 xM x4)) (wrap64 (x4 + 1)) xZ xM xN xO) else (none)) else (none)) else (spec_Timers.l1 k x3 0 xZ xM xN xO)
def spec_Timers.l1 : Nat → List (S46) → Int → Int → List (List (S46)) → List (List (S46)) → List (S46) → Option ((List (S46)))
 | 0, _, _, _, _, _, _ => none
 | k + 1, x3, x5, xZ, xM, xN, xO => if x5 < (xN.length : Int) then (if 0 ≤ x5 then (if x3.length + (rd_L2 xN x5).length < 5864062014805 then (spec_Timers.l1 k (x3 ++ (rd_L2 xN x5)) (wrap64 (x5 + 1)) xZ xM xN xO) else (none)) else (none)) else (if x3.length + xO.length < 5864062014805 then (some (x3 ++ xO)) else (none))
end
def spec_Timers.f (k : Nat) (a0_0 : Int) (l0_1 : List (List (S46))) (l0_2 : List (List (S46))) (l0_3 : List (S46)) : Option ((List (S46))) := spec_Timers.l0 k (([] : List (S46))) 0 a0_0 l0_1 l0_2 l0_3
set_option maxHeartbeats 8000000 in
set_option maxRecDepth 100000 in
theorem spec_Timers.calls (k : Nat) (a0_0 : Int) (A0_1 : Option Addr) (c0_1 : Nat) (l0_1 : List (List (S46))) (A0_2 : Option Addr) (c0_2 : Nat) (l0_2 : List (List (S46))) (A0_3 : Option Addr) (c0_3 : Nat) (l0_3 : List (S46)) (r : List (S46)) (w : World) (hr0_1 : Kd.C (Kd.slice 46 k46) w A0_1 l0_1.length l0_1) (hc0_1 : l0_1.length ≤ c0_1) (hr0_2 : Kd.C (Kd.slice 46 k46) w A0_2 l0_2.length l0_2) (hc0_2 : l0_2.length ≤ c0_2) (hr0_3 : Kd.C k46 w A0_3 l0_3.length l0_3) (hc0_3 : l0_3.length ≤ c0_3) (h : spec_Timers.f k a0_0 l0_1 l0_2 l0_3 = some r) :
  Calls Try.prog 24 #[.agg #[.int .i64 a0_0, .slice A0_1 l0_1.length c0_1, .slice A0_2 l0_2.length c0_2, .slice A0_3 l0_3.length c0_3]] w fun e w' => ∃ v0_ : Value, e = .returned (v0_) ∧ Kd.R k46 46 w' w.heap.size (fun _ => True) v0_ r ∧ Below w.heap.size w w' := by
 have hu25 := Try.underlying25
 have HR0_1 := aM hr0_1
 have HC0_1 := aM hc0_1
 clear hr0_1 hc0_1
 have HR0_2 := aM hr0_2
 have HC0_2 := aM hc0_2
 clear hr0_2 hc0_2
 have HR0_3 := aM hr0_3
 have HC0_3 := aM hc0_3
 clear hr0_3 hc0_3
 have HB := aM (Below.refl w.heap.size w)
 unfold spec_Timers.f at h; have H := h
 clear h
 obtain ⟨yL, hyL⟩ : ∃ y_ : List (S46), y_ = (([] : List (S46))) := ⟨_, rfl⟩
 replace H : (spec_Timers.l0 k yL 0 a0_0 l0_1 l0_2 l0_3) = some r := by first | (rw [hyL]; with_reducible exact H) | (have H2_ := (Option.bind_some _ _).symm.trans H; rw [hyL]; with_reducible exact H2_) | (have H2_ := (Option.bind_some _ _).symm.trans H; with_reducible exact H2_) | with_reducible exact H | (rw [hyL]; exact H) | exact H
 have NyL := aM hyL
 clear hyL
 have H' := aM H
 clear H
 go_enter Try.func24, Try.ntmps24
 go_wp2_with (first | ((with_reducible refine gD 1 rfl ?_); refine bE 1 #[.int .i64 a0_0, .slice A0_1 l0_1.length c0_1, .slice A0_2 l0_2.length c0_2, .slice A0_3 l0_3.length c0_3] 25 ?_; intro gbB hg w2 hbox hb; have BKB := aM hbox; have GWB := aM (zg (zL HB.o) hg : w.heap.size ≤ gbB); have GEB := GWB; replace HB := zLB (zL HB.o) hb; clear hb hbox hg) | ((with_reducible refine gD 6 rfl ?_); refine Kd.R_lit k46 _ 46 ?hg (N := 6) ?hd (xs := ([] : List (S46))) (inner := []) (ok := fun _ => True) (okp := fun _ => True) ?hr ?hp (fun _ hk => hk) trivial (Below.refl _ _) (Nat.le_refl _) (by simp) ?_; (case hd => rfl); (case hg => rfl); (case hr => first | (go_simp; done) | (go_simp; rfl)); (case hp => exact (Reps.none _ _)); intro vA9 w3 ho4 hb hg_ hnew_; clear hg_ hnew_; (first | rw [← NyL.o] at ho4 | (simp only [Int.reduceToNat] at ho4; rw [← NyL.o] at ho4)); have HOA2 := aM (Kd.R_lower ho4 (below_size (zL1 HB.o GEB.o))); replace BKB := zBB BKB hb; replace HB := zLB (zL1 HB.o GEB.o) hb; clear hb ho4))
 go_loopg [3, 4] k (fun kq v3 v4 w' => ∃ (x3_1 : List (S46)) (x4_1 : Int), v4 = .int .i64 x4_1 ∧ Aside0 (spec_Timers.l0 kq x3_1 x4_1 a0_0 l0_1 l0_2 l0_3 = some r) ∧ Aside0 (kq ≤ k) ∧ Aside0 (Kd.R k46 46 w' w.heap.size (fun _ => True) v3 x3_1) ∧ Aside0 (w'.heap[gbB]? = some (.cells #[.int .i64 a0_0, (.slice A0_1 l0_1.length c0_1), (.slice A0_2 l0_2.length c0_2), (.slice A0_3 l0_3.length c0_3)] 25 (0, 0))) ∧ Aside0 (Below w.heap.size w w'))
 case atStart => exact ⟨(yL), (0), zV, H', ⟨Nat.le_refl _⟩, ⟨zR HOA2.o⟩, ⟨zB BKB.o⟩, ⟨zL1 HB.o GEB.o⟩⟩
 case round =>
  clear H'
  try clear c2
  try clear p2
  try clear BKB
  obtain ⟨x3_1, x4_1, rfl, HA, HK1, HO_3, BKB, HB⟩ := hrel
  cases gk with
  | zero => exact absurd HA.o (by simp [spec_Timers.l0])
  | succ k1 =>
   have H := HA.o
   clear HA
   simp only [spec_Timers.l0] at H
   by_cases c5 : x4_1 < (l0_1.length : Int)
   ·rw [if_pos c5] at H
    have c5b0 := dT c5
    clear c5
    by_cases c6 : 0 ≤ x4_1
    ·rw [if_pos c6] at H
     have c6b0 := dT c6
     clear c6
     by_cases c7 : x3_1.length + (rd_L2 l0_1 x4_1).length < 5864062014805
     ·rw [if_pos c7] at H
      have LMc7 := aM c7
      clear c7
      generalize hyP : (x3_1 ++ (rd_L2 l0_1 x4_1)) = yP at H; (try rw [Option.bind_some] at H); have NyP := aM hyP.symm; clear hyP
      have H' := aM H
      clear H
      have hcz8 := zc4 BKB.o
      have hfz8 := zf4 BKB.o
      have pD : 0 ≤ (x4_1 : Int) := zD
      have qD : x4_1 < (l0_1.length : Int) := zD
      obtain ⟨adD, AD_0, cD_0, eD, hxD_0, hlD_0, hiD_0⟩ := at_L2 HR0_1.o x4_1 pD qD
      cases eD
      replace hxD_0 := zh HB.o hxD_0
      have HRD_0 := aM hiD_0
      have HCD_0 := aM hlD_0
      clear hiD_0 hlD_0
      replace pD := eq_true pD
      replace qD := eq_true qD
      go_wp2_with (first | ((with_reducible refine gate_builtin (b := .append) (xs := #[.tmp 14, .tmp 19]) rfl ?_); at_builtin; refine Kd.R_append_rows k46 (w0 := w) w.heap.size rfl (.tmp 14) (.tmp 19) 23 46 (.agg #[(.int .i64 0), (.int .i64 0), (.int .i64 0)]) 24 rfl Try.underlying23 info46 rfl (by decide) (by omega) u3 x3_1 (rd_L2 l0_1 x4_1) _ _ _ (fun _ => True) (fun _ => False) rfl rfl ?aO ?aR (fun _ _ h => h) (fun _ h => h.elim) ?aF ?aB ?aS ?aL ?_; (case aR => repeat (first | exact (Kd.C_below HRD_0.o HB.o) | (with_reducible refine Kd.C_alloc ?_ _) | (with_reducible refine Kd.C_drewN ?_ _) | (with_reducible refine Kd.C_drew ?_))); (case aB => exact (zL1 HB.o GEB.o)); (case aF => exact (fun _ _ => trivial)); (case aO => exact (zR HO_3.o)); (case aS => exact (below_size (zL1 HB.o GEB.o))); (case aL => have := LMc7.o; omega); intro vB0 w9 ho hb hg hat; rw [← NyP.o] at ho; replace BKB := aM (blk_grown (g := gbB) (o := .cells #[.int .i64 a0_0, .slice (some adD) l0_1.length c0_1, .slice A0_2 l0_2.length c0_2, .slice A0_3 l0_3.length c0_3] 25 (0, 0)) (zB BKB.o) hg (Kd.R_ne HO_3.o BKB.o (by decide))); replace HB := aM hb; have HOA3 := aM (ho); clear HO_3; clear ho hb hg hat))
      go_roundg k1
      case measure => have := HK1.o; omega
      case rel => exact ⟨(yP), (wrap64 (x4_1 + 1)), zV, H', ⟨by have := HK1.o; omega⟩, ⟨zR HOA3.o⟩, ⟨zB BKB.o⟩, ⟨zL1 HB.o GEB.o⟩⟩
     ·rw [if_neg c7] at H
      exact absurd H (by simp)
    ·rw [if_neg c6] at H
     exact absurd H (by simp)
   ·rw [if_neg c5] at H
    have c5b0 := dF c5
    clear c5
    have H' := aM H
    clear H
    have hcz10 := zc4 BKB.o
    have hfz10 := zf4 BKB.o
    go_wp2
    go_loopg [3, 5] k1 (fun kq v3 v5 w' => ∃ (x3_2 : List (S46)) (x5_2 : Int), v5 = .int .i64 x5_2 ∧ Aside0 (spec_Timers.l1 kq x3_2 x5_2 a0_0 l0_1 l0_2 l0_3 = some r) ∧ Aside0 (kq ≤ k1) ∧ Aside0 (Kd.R k46 46 w' w.heap.size (fun _ => True) v3 x3_2) ∧ Aside0 (w'.heap[gbB]? = some (.cells #[.int .i64 a0_0, (.slice A0_1 l0_1.length c0_1), (.slice A0_2 l0_2.length c0_2), (.slice A0_3 l0_3.length c0_3)] 25 (0, 0))) ∧ Aside0 (Below w.heap.size w w'))
    case atStart => exact ⟨(x3_1), (0), zV, H', ⟨Nat.le_refl _⟩, ⟨zR HO_3.o⟩, ⟨zB BKB.o⟩, ⟨zL1 HB.o GEB.o⟩⟩
    case round =>
     clear H'
     try clear c1
     try clear p1
     try clear q1
     try clear hx1
     try clear c2
     try clear p2
     try clear c5
     try clear c5b0
     try clear c6
     try clear c6b0
     try clear p6
     try clear c7
     try clear hcz10; try clear hcz8; try clear hfz10; try clear hfz8
     try clear hxD_0
     try clear pD
     try clear p2
     try clear qD
     try clear BKB
     obtain ⟨x3_2, x5_2, rfl, HA, HK2, HO_3, BKB, HB⟩ := hrel
     cases gk with
     | zero => exact absurd HA.o (by simp [spec_Timers.l1])
     | succ k2 =>
      have H := HA.o
      clear HA
      simp only [spec_Timers.l1] at H
      by_cases c11 : x5_2 < (l0_2.length : Int)
      ·rw [if_pos c11] at H
       have c11b0 := dT c11
       clear c11
       by_cases c12 : 0 ≤ x5_2
       ·rw [if_pos c12] at H
        have c12b0 := dT c12
        clear c12
        by_cases c13 : x3_2.length + (rd_L2 l0_2 x5_2).length < 5864062014805
        ·rw [if_pos c13] at H
         have LMc13 := aM c13
         clear c13
         generalize hyQ : (x3_2 ++ (rd_L2 l0_2 x5_2)) = yQ at H; (try rw [Option.bind_some] at H); have NyQ := aM hyQ.symm; clear hyQ
         have H' := aM H
         clear H
         have hcz14 := zc4 BKB.o
         have hfz14 := zf4 BKB.o
         have pF : 0 ≤ (x5_2 : Int) := zD
         have qF : x5_2 < (l0_2.length : Int) := zD
         obtain ⟨adF, AF_0, cF_0, eF, hxF_0, hlF_0, hiF_0⟩ := at_L2 HR0_2.o x5_2 pF qF
         cases eF
         replace hxF_0 := zh HB.o hxF_0
         have HRF_0 := aM hiF_0
         have HCF_0 := aM hlF_0
         clear hiF_0 hlF_0
         replace pF := eq_true pF
         replace qF := eq_true qF
         go_wp2_with (first | ((with_reducible refine gate_builtin (b := .append) (xs := #[.tmp 28, .tmp 33]) rfl ?_); at_builtin; refine Kd.R_append_rows k46 (w0 := w) w.heap.size rfl (.tmp 28) (.tmp 33) 23 46 (.agg #[(.int .i64 0), (.int .i64 0), (.int .i64 0)]) 24 rfl Try.underlying23 info46 rfl (by decide) (by omega) u3 x3_2 (rd_L2 l0_2 x5_2) _ _ _ (fun _ => True) (fun _ => False) rfl rfl ?aO ?aR (fun _ _ h => h) (fun _ h => h.elim) ?aF ?aB ?aS ?aL ?_; (case aR => repeat (first | exact (Kd.C_below HRF_0.o HB.o) | (with_reducible refine Kd.C_alloc ?_ _) | (with_reducible refine Kd.C_drewN ?_ _) | (with_reducible refine Kd.C_drew ?_))); (case aB => exact (zL1 HB.o GEB.o)); (case aF => exact (fun _ _ => trivial)); (case aO => exact (zR HO_3.o)); (case aS => exact (below_size (zL1 HB.o GEB.o))); (case aL => have := LMc13.o; omega); intro vB1 w15 ho hb hg hat; rw [← NyQ.o] at ho; replace BKB := aM (blk_grown (g := gbB) (o := .cells #[.int .i64 a0_0, .slice A0_1 l0_1.length c0_1, .slice (some adF) l0_2.length c0_2, .slice A0_3 l0_3.length c0_3] 25 (0, 0)) (zB BKB.o) hg (Kd.R_ne HO_3.o BKB.o (by decide))); replace HB := aM hb; have HOA4 := aM (ho); clear HO_3; clear ho hb hg hat))
         go_roundg k2
         case measure => have := HK1.o; have := HK2.o; omega
         case rel => exact ⟨(yQ), (wrap64 (x5_2 + 1)), zV, H', ⟨by have := HK1.o; have := HK2.o; omega⟩, ⟨zR HOA4.o⟩, ⟨zB BKB.o⟩, ⟨zL1 HB.o GEB.o⟩⟩
        ·rw [if_neg c13] at H
         exact absurd H (by simp)
       ·rw [if_neg c12] at H
        exact absurd H (by simp)
      ·rw [if_neg c11] at H
       have c11b0 := dF c11
       clear c11
       by_cases c16 : x3_2.length + l0_3.length < 5864062014805
       ·rw [if_pos c16] at H
        have LMc16 := aM c16
        clear c16
        generalize hyV : (x3_2 ++ l0_3) = yV at H; (try rw [Option.bind_some] at H); have NyV := aM hyV.symm; clear hyV
        obtain rfl := Option.some.inj H
        have hcz17 := zc4 BKB.o
        have hfz17 := zf4 BKB.o
        go_wp2_with (first | ((with_reducible refine gate_builtin (b := .append) (xs := #[.tmp 35, .tmp 37]) rfl ?_); at_builtin; refine Kd.R_append_rows k46 (w0 := w) w.heap.size rfl (.tmp 35) (.tmp 37) 23 46 (.agg #[(.int .i64 0), (.int .i64 0), (.int .i64 0)]) 24 rfl Try.underlying23 info46 rfl (by decide) (by omega) u3 x3_2 l0_3 _ _ _ (fun _ => True) (fun _ => False) rfl rfl ?aO ?aR (fun _ _ h => h) (fun _ h => h.elim) ?aF ?aB ?aS ?aL ?_; (case aR => repeat (first | exact (Kd.C_below HR0_3.o HB.o) | (with_reducible refine Kd.C_alloc ?_ _) | (with_reducible refine Kd.C_drewN ?_ _) | (with_reducible refine Kd.C_drew ?_))); (case aB => exact (zL1 HB.o GEB.o)); (case aF => exact (fun _ _ => trivial)); (case aO => exact (zR HO_3.o)); (case aS => exact (below_size (zL1 HB.o GEB.o))); (case aL => have := LMc16.o; omega); intro vB2 w18 ho hb hg hat; rw [← NyV.o] at ho; replace BKB := aM (blk_grown (g := gbB) (o := .cells #[.int .i64 a0_0, .slice A0_1 l0_1.length c0_1, .slice A0_2 l0_2.length c0_2, .slice A0_3 l0_3.length c0_3] 25 (0, 0)) (zB BKB.o) hg (Kd.R_ne HO_3.o BKB.o (by decide))); replace HB := aM hb; have HOA5 := aM (ho); clear HO_3; clear ho hb hg hat))
        go_ret
        exact ⟨_, zW, zR HOA5.o, zL1 HB.o GEB.o⟩
       ·rw [if_neg c16] at H
        exact absurd H (by simp)

open Go.Proofs.YtggenhomnbnodaaW.PrintWords renaming blk_drewN → bN, blk_drew → bD, blk_alloc → bA, blk_cell → bC, blk_below → bB, below_set → bS
mutual
def impl_Timers.l0 : Nat → List (S46) → List (List (S46)) → Int → Int → Int → List (List (S46)) → List (List (S46)) → List (S46) → Option ((List (S46)))
 | 0, _, _, _, _, _, _, _, _ => none
 | k + 1, x3, x9, x10, x11, xA0, xA1, xR, xS => if x11 < x10 then (if 0 ≤ x11 then (if x11 < (x9.length : Int) then (if x3.length + (rd_L2 x9 x11).length < 5864062014805 then (impl_Timers.l0 k (x3 ++ (rd_L2 x9 x11)) x9 x10 (wrap64 (x11 + 1)) xA0 xA1 xR xS) else (none)) else (none)) else (none)) else (impl_Timers.l1 k x3 xR (xR.length : Int) 0 xA0 xA1 xR xS)
def impl_Timers.l1 : Nat → List (S46) → List (List (S46)) → Int → Int → Int → List (List (S46)) → List (List (S46)) → List (S46) → Option ((List (S46)))
 | 0, _, _, _, _, _, _, _, _ => none
 | k + 1, x3, x20, x21, x22, xA0, xA1, xR, xS => if x22 < x21 then (if 0 ≤ x22 then (if x22 < (x20.length : Int) then (if x3.length + (rd_L2 x20 x22).length < 5864062014805 then (impl_Timers.l1 k (x3 ++ (rd_L2 x20 x22)) x20 x21 (wrap64 (x22 + 1)) xA0 xA1 xR xS) else (none)) else (none)) else (none)) else (if x3.length + xS.length < 5864062014805 then (some (x3 ++ xS)) else (none))
end
def impl_Timers.f (k : Nat) (a0_0 : Int) (l0_1 : List (List (S46))) (l0_2 : List (List (S46))) (l0_3 : List (S46)) : Option ((List (S46))) := impl_Timers.l0 k ([] : List (S46)) l0_1 (l0_1.length : Int) 0 a0_0 l0_1 l0_2 l0_3
set_option maxHeartbeats 8000000 in
set_option maxRecDepth 100000 in
theorem impl_Timers.calls (k : Nat) (a0_0 : Int) (A0_1 : Option Addr) (c0_1 : Nat) (l0_1 : List (List (S46))) (A0_2 : Option Addr) (c0_2 : Nat) (l0_2 : List (List (S46))) (A0_3 : Option Addr) (c0_3 : Nat) (l0_3 : List (S46)) (r : List (S46)) (w : World) (hr0_1 : Kd.C (Kd.slice 46 k46) w A0_1 l0_1.length l0_1) (hc0_1 : l0_1.length ≤ c0_1) (hr0_2 : Kd.C (Kd.slice 46 k46) w A0_2 l0_2.length l0_2) (hc0_2 : l0_2.length ≤ c0_2) (hr0_3 : Kd.C k46 w A0_3 l0_3.length l0_3) (hc0_3 : l0_3.length ≤ c0_3) (h : impl_Timers.f k a0_0 l0_1 l0_2 l0_3 = some r) :
  Calls Try.prog 25 #[.agg #[.int .i64 a0_0, .slice A0_1 l0_1.length c0_1, .slice A0_2 l0_2.length c0_2, .slice A0_3 l0_3.length c0_3]] w fun e w' => ∃ v0_ : Value, e = .returned (v0_) ∧ Kd.R k46 46 w' w.heap.size (fun _ => True) v0_ r ∧ Below w.heap.size w w' := by
 have hu25 := Try.underlying25
 have HR0_1 := aM hr0_1
 have HC0_1 := aM hc0_1
 clear hr0_1 hc0_1
 have HR0_2 := aM hr0_2
 have HC0_2 := aM hc0_2
 clear hr0_2 hc0_2
 have HR0_3 := aM hr0_3
 have HC0_3 := aM hc0_3
 clear hr0_3 hc0_3
 have HB := aM (Below.refl w.heap.size w)
 unfold impl_Timers.f at h; have H := h
 clear h
 have H' := aM H
 clear H
 go_enter Try.func25, Try.ntmps25
 go_wp2_with (first | ((with_reducible refine gD 1 rfl ?_); refine bE 1 #[.int .i64 a0_0, .slice A0_1 l0_1.length c0_1, .slice A0_2 l0_2.length c0_2, .slice A0_3 l0_3.length c0_3] 25 ?_; intro gbC hg w2 hbox hb; have BKC := aM hbox; have GWC := aM (zg (zL HB.o) hg : w.heap.size ≤ gbC); have GEC := GWC; replace HB := zLB (zL HB.o) hb; clear hb hbox hg; have hcz3 := zc4 BKC.o; have hfz3 := zf4 BKC.o))
 go_loopg [3, 11] k (fun kq v3 v11 w' => ∃ (x3_1 : List (S46)) (x11_1 : Int), v11 = .int .i64 x11_1 ∧ Aside0 (impl_Timers.l0 kq x3_1 l0_1 (l0_1.length : Int) x11_1 a0_0 l0_1 l0_2 l0_3 = some r) ∧ Aside0 (kq ≤ k) ∧ Aside0 (Kd.R k46 46 w' w.heap.size (fun _ => True) v3 x3_1) ∧ Aside0 (w'.heap[gbC]? = some (.cells #[.int .i64 a0_0, (.slice A0_1 l0_1.length c0_1), (.slice A0_2 l0_2.length c0_2), (.slice A0_3 l0_3.length c0_3)] 25 (0, 0))) ∧ Aside0 (Below w.heap.size w w'))
 case atStart => exact ⟨(([] : List (S46))), (0), zV, H', ⟨Nat.le_refl _⟩, ⟨by first | exact Kd.R_nil _ _ _ _ _ | exact Kd.N_nil _ _ _ _ _ | exact Kd.V_nil _ _ _ _ _ | exact Kd.Q_nil _ _ _ _ _ | exact Kd.S_nil _ _ _ _ _⟩, ⟨zB BKC.o⟩, ⟨zL1 HB.o GEC.o⟩⟩
 case round =>
  clear H'
  try clear c2
  try clear p2
  try clear hcz3; try clear hfz3
  try clear BKC
  obtain ⟨x3_1, x11_1, rfl, HA, HK1, HO_3, BKC, HB⟩ := hrel
  cases gk with
  | zero => exact absurd HA.o (by simp [impl_Timers.l0])
  | succ k1 =>
   have H := HA.o
   clear HA
   simp only [impl_Timers.l0] at H
   by_cases c4 : x11_1 < (l0_1.length : Int)
   ·rw [if_pos c4] at H
    have c4b0 := dT c4
    clear c4
    by_cases c5 : 0 ≤ x11_1
    ·rw [if_pos c5] at H
     have c5b0 := dT c5
     clear c5
     by_cases c6 : x11_1 < (l0_1.length : Int)
     ·rw [if_pos c6] at H
      have c6b0 := dT c6
      clear c6
      by_cases c7 : x3_1.length + (rd_L2 l0_1 x11_1).length < 5864062014805
      ·rw [if_pos c7] at H
       have LMc7 := aM c7
       clear c7
       generalize hyT : (x3_1 ++ (rd_L2 l0_1 x11_1)) = yT at H; (try rw [Option.bind_some] at H); have NyT := aM hyT.symm; clear hyT
       have H' := aM H
       clear H
       have pE : 0 ≤ (x11_1 : Int) := zD
       have qE : x11_1 < (l0_1.length : Int) := zD
       obtain ⟨adE, AE_0, cE_0, eE, hxE_0, hlE_0, hiE_0⟩ := at_L2 HR0_1.o x11_1 pE qE
       cases eE
       replace hxE_0 := zh HB.o hxE_0
       have HRE_0 := aM hiE_0
       have HCE_0 := aM hlE_0
       clear hiE_0 hlE_0
       replace pE := eq_true pE
       replace qE := eq_true qE
       go_wp2_with (first | ((with_reducible refine gate_builtin (b := .append) (xs := #[.tmp 15, .tmp 16]) rfl ?_); at_builtin; refine Kd.R_append_rows k46 (w0 := w) w.heap.size rfl (.tmp 15) (.tmp 16) 23 46 (.agg #[(.int .i64 0), (.int .i64 0), (.int .i64 0)]) 24 rfl Try.underlying23 info46 rfl (by decide) (by omega) u3 x3_1 (rd_L2 l0_1 x11_1) _ _ _ (fun _ => True) (fun _ => False) rfl rfl ?aO ?aR (fun _ _ h => h) (fun _ h => h.elim) ?aF ?aB ?aS ?aL ?_; (case aR => repeat (first | exact (Kd.C_below HRE_0.o HB.o) | (with_reducible refine Kd.C_alloc ?_ _) | (with_reducible refine Kd.C_drewN ?_ _) | (with_reducible refine Kd.C_drew ?_))); (case aB => exact (zL1 HB.o GEC.o)); (case aF => exact (fun _ _ => trivial)); (case aO => exact (zR HO_3.o)); (case aS => exact (below_size (zL1 HB.o GEC.o))); (case aL => have := LMc7.o; omega); intro vB3 w8 ho hb hg hat; rw [← NyT.o] at ho; replace BKC := aM (blk_grown (g := gbC) (o := .cells #[.int .i64 a0_0, .slice (some adE) l0_1.length c0_1, .slice A0_2 l0_2.length c0_2, .slice A0_3 l0_3.length c0_3] 25 (0, 0)) (zB BKC.o) hg (Kd.R_ne HO_3.o BKC.o (by decide))); replace HB := aM hb; have HOA6 := aM (ho); clear HO_3; clear ho hb hg hat))
       go_roundg k1
       case measure => have := HK1.o; omega
       case rel => exact ⟨(yT), (wrap64 (x11_1 + 1)), zV, H', ⟨by have := HK1.o; omega⟩, ⟨zR HOA6.o⟩, ⟨zB BKC.o⟩, ⟨zL1 HB.o GEC.o⟩⟩
      ·rw [if_neg c7] at H
       exact absurd H (by simp)
     ·rw [if_neg c6] at H
      exact absurd H (by simp)
    ·rw [if_neg c5] at H
     exact absurd H (by simp)
   ·rw [if_neg c4] at H
    have c4b0 := dF c4
    clear c4
    have H' := aM H
    clear H
    have hcz9 := zc4 BKC.o
    have hfz9 := zf4 BKC.o
    go_wp2
    go_loopg [3, 22] k1 (fun kq v3 v22 w' => ∃ (x3_2 : List (S46)) (x22_2 : Int), v22 = .int .i64 x22_2 ∧ Aside0 (impl_Timers.l1 kq x3_2 l0_2 (l0_2.length : Int) x22_2 a0_0 l0_1 l0_2 l0_3 = some r) ∧ Aside0 (kq ≤ k1) ∧ Aside0 (Kd.R k46 46 w' w.heap.size (fun _ => True) v3 x3_2) ∧ Aside0 (w'.heap[gbC]? = some (.cells #[.int .i64 a0_0, (.slice A0_1 l0_1.length c0_1), (.slice A0_2 l0_2.length c0_2), (.slice A0_3 l0_3.length c0_3)] 25 (0, 0))) ∧ Aside0 (Below w.heap.size w w'))
    case atStart => exact ⟨(x3_1), (0), zV, H', ⟨Nat.le_refl _⟩, ⟨zR HO_3.o⟩, ⟨zB BKC.o⟩, ⟨zL1 HB.o GEC.o⟩⟩
    case round =>
     clear H'
     try clear c1
     try clear p1
     try clear q1
     try clear hx1
     try clear c2
     try clear p2
     try clear c4
     try clear c4b0
     try clear c5
     try clear c5b0
     try clear c6
     try clear c6b0
     try clear p6
     try clear c7
     try clear hcz3; try clear hcz9; try clear hfz3; try clear hfz9
     try clear hxE_0
     try clear pE
     try clear p2
     try clear qE
     try clear BKC
     obtain ⟨x3_2, x22_2, rfl, HA, HK2, HO_3, BKC, HB⟩ := hrel
     cases gk with
     | zero => exact absurd HA.o (by simp [impl_Timers.l1])
     | succ k2 =>
      have H := HA.o
      clear HA
      simp only [impl_Timers.l1] at H
      by_cases c10 : x22_2 < (l0_2.length : Int)
      ·rw [if_pos c10] at H
       have c10b0 := dT c10
       clear c10
       by_cases c11 : 0 ≤ x22_2
       ·rw [if_pos c11] at H
        have c11b0 := dT c11
        clear c11
        by_cases c12 : x22_2 < (l0_2.length : Int)
        ·rw [if_pos c12] at H
         have c12b0 := dT c12
         clear c12
         by_cases c13 : x3_2.length + (rd_L2 l0_2 x22_2).length < 5864062014805
         ·rw [if_pos c13] at H
          have LMc13 := aM c13
          clear c13
          generalize hyU : (x3_2 ++ (rd_L2 l0_2 x22_2)) = yU at H; (try rw [Option.bind_some] at H); have NyU := aM hyU.symm; clear hyU
          have H' := aM H
          clear H
          have pG : 0 ≤ (x22_2 : Int) := zD
          have qG : x22_2 < (l0_2.length : Int) := zD
          obtain ⟨adG, AG_0, cG_0, eG, hxG_0, hlG_0, hiG_0⟩ := at_L2 HR0_2.o x22_2 pG qG
          cases eG
          replace hxG_0 := zh HB.o hxG_0
          have HRG_0 := aM hiG_0
          have HCG_0 := aM hlG_0
          clear hiG_0 hlG_0
          replace pG := eq_true pG
          replace qG := eq_true qG
          go_wp2_with (first | ((with_reducible refine gate_builtin (b := .append) (xs := #[.tmp 26, .tmp 27]) rfl ?_); at_builtin; refine Kd.R_append_rows k46 (w0 := w) w.heap.size rfl (.tmp 26) (.tmp 27) 23 46 (.agg #[(.int .i64 0), (.int .i64 0), (.int .i64 0)]) 24 rfl Try.underlying23 info46 rfl (by decide) (by omega) u3 x3_2 (rd_L2 l0_2 x22_2) _ _ _ (fun _ => True) (fun _ => False) rfl rfl ?aO ?aR (fun _ _ h => h) (fun _ h => h.elim) ?aF ?aB ?aS ?aL ?_; (case aR => repeat (first | exact (Kd.C_below HRG_0.o HB.o) | (with_reducible refine Kd.C_alloc ?_ _) | (with_reducible refine Kd.C_drewN ?_ _) | (with_reducible refine Kd.C_drew ?_))); (case aB => exact (zL1 HB.o GEC.o)); (case aF => exact (fun _ _ => trivial)); (case aO => exact (zR HO_3.o)); (case aS => exact (below_size (zL1 HB.o GEC.o))); (case aL => have := LMc13.o; omega); intro vB4 w14 ho hb hg hat; rw [← NyU.o] at ho; replace BKC := aM (blk_grown (g := gbC) (o := .cells #[.int .i64 a0_0, .slice A0_1 l0_1.length c0_1, .slice (some adG) l0_2.length c0_2, .slice A0_3 l0_3.length c0_3] 25 (0, 0)) (zB BKC.o) hg (Kd.R_ne HO_3.o BKC.o (by decide))); replace HB := aM hb; have HOA7 := aM (ho); clear HO_3; clear ho hb hg hat))
          go_roundg k2
          case measure => have := HK1.o; have := HK2.o; omega
          case rel => exact ⟨(yU), (wrap64 (x22_2 + 1)), zV, H', ⟨by have := HK1.o; have := HK2.o; omega⟩, ⟨zR HOA7.o⟩, ⟨zB BKC.o⟩, ⟨zL1 HB.o GEC.o⟩⟩
         ·rw [if_neg c13] at H
          exact absurd H (by simp)
        ·rw [if_neg c12] at H
         exact absurd H (by simp)
       ·rw [if_neg c11] at H
        exact absurd H (by simp)
      ·rw [if_neg c10] at H
       have c10b0 := dF c10
       clear c10
       by_cases c15 : x3_2.length + l0_3.length < 5864062014805
       ·rw [if_pos c15] at H
        have LMc15 := aM c15
        clear c15
        generalize hyW : (x3_2 ++ l0_3) = yW at H; (try rw [Option.bind_some] at H); have NyW := aM hyW.symm; clear hyW
        obtain rfl := Option.some.inj H
        have hcz16 := zc4 BKC.o
        have hfz16 := zf4 BKC.o
        go_wp2_with (first | ((with_reducible refine gate_builtin (b := .append) (xs := #[.tmp 30, .tmp 32]) rfl ?_); at_builtin; refine Kd.R_append_rows k46 (w0 := w) w.heap.size rfl (.tmp 30) (.tmp 32) 23 46 (.agg #[(.int .i64 0), (.int .i64 0), (.int .i64 0)]) 24 rfl Try.underlying23 info46 rfl (by decide) (by omega) u3 x3_2 l0_3 _ _ _ (fun _ => True) (fun _ => False) rfl rfl ?aO ?aR (fun _ _ h => h) (fun _ h => h.elim) ?aF ?aB ?aS ?aL ?_; (case aR => repeat (first | exact (Kd.C_below HR0_3.o HB.o) | (with_reducible refine Kd.C_alloc ?_ _) | (with_reducible refine Kd.C_drewN ?_ _) | (with_reducible refine Kd.C_drew ?_))); (case aB => exact (zL1 HB.o GEC.o)); (case aF => exact (fun _ _ => trivial)); (case aO => exact (zR HO_3.o)); (case aS => exact (below_size (zL1 HB.o GEC.o))); (case aL => have := LMc15.o; omega); intro vB5 w17 ho hb hg hat; rw [← NyW.o] at ho; replace BKC := aM (blk_grown (g := gbC) (o := .cells #[.int .i64 a0_0, .slice A0_1 l0_1.length c0_1, .slice A0_2 l0_2.length c0_2, .slice A0_3 l0_3.length c0_3] 25 (0, 0)) (zB BKC.o) hg (Kd.R_ne HO_3.o BKC.o (by decide))); replace HB := aM hb; have HOA8 := aM (ho); clear HO_3; clear ho hb hg hat))
        go_ret
        exact ⟨_, zW, zR HOA8.o, zL1 HB.o GEC.o⟩
       ·rw [if_neg c15] at H
        exact absurd H (by simp)

open Go.Proofs.YtggenhomnbnodaaW.PrintWords renaming blk_drewN → bN, blk_drew → bD, blk_alloc → bA, blk_cell → bC, blk_below → bB, below_set → bS
def spec_l1In.f (a0 : Int) (a1 : Int) (a2 : Int) : Option (Bool) := if a0 ≥ a1 then (some (decide (a0 ≤ a2))) else (some false)
set_option maxHeartbeats 8000000 in
set_option maxRecDepth 100000 in
theorem spec_l1In.calls (a0 : Int) (a1 : Int) (a2 : Int) (r : Bool) (w : World) (h : spec_l1In.f a0 a1 a2 = some r) :
  Calls Try.prog 67 #[.int .i64 a0, .int .i64 a1, .int .i64 a2] w fun e w' => e = .returned (.bool r) ∧ Drawn0 w w' := by
 unfold spec_l1In.f at h; have H := h
 clear h
 by_cases c4 : a0 ≥ a1
 ·rw [if_pos c4] at H
  have c4b0 := dT c4
  clear c4
  obtain rfl := Option.some.inj H
  go_enter Try.func67, Try.ntmps67
  go_wp2
  go_ret
  exact ⟨zV, zU⟩
 ·rw [if_neg c4] at H
  have c4b0 := dF c4
  clear c4
  obtain rfl := Option.some.inj H
  go_enter Try.func67, Try.ntmps67
  go_wp2
  go_ret
  exact ⟨zV, zU⟩

open Go.Proofs.YtggenhomnbnodaaW.PrintWords renaming blk_drewN → bN, blk_drew → bD, blk_alloc → bA, blk_cell → bC, blk_below → bB, below_set → bS
def spec_l8Place.f (a0 : Int) (a1 : Int) : Option (Int × Int) := if (wrap64 (Int.tdiv a1 8)) = (wrap64 (Int.tdiv a0 8)) then (some (1, Int.tmod a1 8)) else (if (wrap64 ((wrap64 (Int.tdiv a1 8)) - (wrap64 (Int.tdiv a0 8)))) < 8 then (some (2, Int.tmod (wrap64 (Int.tdiv a1 8)) 8)) else (some (3, 0)))
set_option maxHeartbeats 8000000 in
set_option maxRecDepth 100000 in
theorem spec_l8Place.calls (a0 : Int) (a1 : Int) (r1 : Int) (r2 : Int) (w : World) (h : spec_l8Place.f a0 a1 = some (r1, r2)) :
  Calls Try.prog 88 #[.int .i64 a0, .int .i64 a1] w fun e w' => e = .returned (.tuple #[.int .i64 r1, .int .i64 r2]) ∧ Drawn0 w w' := by
 unfold spec_l8Place.f at h; have H := h
 clear h
 by_cases c3 : (wrap64 (Int.tdiv a1 8)) = (wrap64 (Int.tdiv a0 8))
 ·rw [if_pos c3] at H
  obtain ⟨c3b0, c3b1⟩ := zt c3
  clear c3
  simp only [Option.some.injEq, Prod.mk.injEq] at H
  obtain ⟨rfl, rfl⟩ := H
  go_enter Try.func88, Try.ntmps88
  go_wp2
  go_ret2
  exact ⟨zV, zU⟩
 ·rw [if_neg c3] at H
  obtain ⟨c3b0, c3b1⟩ := zf c3
  by_cases c4 : (wrap64 ((wrap64 (Int.tdiv a1 8)) - (wrap64 (Int.tdiv a0 8)))) < 8
  ·rw [if_pos c4] at H
   have c4b0 := dT c4
   clear c4
   simp only [Option.some.injEq, Prod.mk.injEq] at H
   obtain ⟨rfl, rfl⟩ := H
   go_enter Try.func88, Try.ntmps88
   go_wp2
   go_ret2
   exact ⟨zV, zU⟩
  ·rw [if_neg c4] at H
   have c4b0 := dF c4
   clear c4
   simp only [Option.some.injEq, Prod.mk.injEq] at H
   obtain ⟨rfl, rfl⟩ := H
   go_enter Try.func88, Try.ntmps88
   go_wp2
   go_ret2
   exact ⟨zV, zU⟩

end Go.Proofs.Ytggenhomnbnodaa.QFnWheels
