/- What the Go functions that the law FnExactOpposite reaches answer: each as a Lean function, with its walk. Written by a program of this session. Conditions: those that each theorem names. -/
import Derived.Test.YtfhblnbicnmndaaQFnExactOppositex0
import Derived.Test.YtfhblnbicnmndaaQFnExactOppositex1
namespace Go.Proofs.Ytfhblnbicnmndaa.QFnExactOpposite
open Go.RowKit Go.Proofs.YtfhblnbicnmndaaW.PrintWords Go.Proofs.YtfhblnbicnmndaaW.PrintLast Go.Proofs.YtfhblnbicnmndaaW.PrintMore
attribute [local go_sem] max2_int min2_int max_two min_two max_three min_three max_four min_four   -- for this text's walks alone
set_option linter.unusedVariables false
set_option linter.unusedSimpArgs false

open Go.Proofs.YtfhblnbicnmndaaW.PrintWords renaming blk_drewN → bN, blk_drew → bD, blk_alloc → bA, blk_cell → bC, blk_below → bB, below_set → bS
/-! ### spec_Opposite: function 27 -/
def spec_Opposite.j0 : Nat → Bool → Int → Int → ByteArray → ByteArray → List (S29) → Option (Int × Int × ByteArray × ByteArray × (List (S29)))
 | 0, _, _, _, _, _, _ => none
 | k + 1, x11, x148000, x148001, x148002, x148003, x148004 => if x11 = true then (if 0 < (x148004.length : Int) then ((spec_l5Copy.f k ((rd_T29 x148004 0).f0) ((rd_T29 x148004 0).f1) ((rd_T29 x148004 0).f2) ((rd_T29 x148004 0).f3) ((rd_T29 x148004 0).f4)).bind fun bt150 => (some (bt150.1, bt150.2.1, bt150.2.2.1, bt150.2.2.2.1, bt150.2.2.2.2))) else (none)) else ((spec_l5Copy.f k x148000 x148001 x148002 x148003 x148004).bind fun bt157 => (some (9, 0, (⟨#[]⟩ : ByteArray), (⟨#[]⟩ : ByteArray), (([(⟨bt157.1, bt157.2.1, bt157.2.2.1, bt157.2.2.2.1, bt157.2.2.2.2⟩ : S29)] : List (S29))))))
def spec_Opposite.f (k : Nat) (a0_0 : Int) (a0_1 : Int) (a0_2 : ByteArray) (a0_3 : ByteArray) (l0_4 : List (S29)) : Option (Int × Int × ByteArray × ByteArray × (List (S29))) := if a0_0 = 9 then (spec_Opposite.j0 k ((l0_4.length : Int) == 1) a0_0 a0_1 a0_2 a0_3 l0_4) else (spec_Opposite.j0 k false a0_0 a0_1 a0_2 a0_3 l0_4)
theorem spec_Opposite.mono_l : ∀ k, (∀ y0 y1 y2 y3 y4 y5, LeO (spec_Opposite.j0 k y0 y1 y2 y3 y4 y5) (spec_Opposite.j0 (k + 1) y0 y1 y2 y3 y4 y5))
 | 0 => fun _ _ _ _ _ _ r h => by simp [spec_Opposite.j0] at h
 | k + 1 => by
  have ih0 := spec_Opposite.mono_l k
  ·intro y0 y1 y2 y3 y4 y5
   unfold spec_Opposite.j0
   repeat' first
   | (with_reducible exact ih0 _ _ _ _ _ _)
   | (with_reducible apply spec_l5Copy.mono)
   | (with_reducible exact LeO.refl _)
   | (with_reducible exact LeO.none _)
   | (with_reducible refine LeO.ite ?_ ?_)
   | (with_reducible refine LeO.bind ?_ (fun _ => ?_))
   | exact ih0 _ _ _ _ _ _
   | apply spec_l5Copy.mono
   | exact LeO.none _
   | refine LeO.ite ?_ ?_
   | refine LeO.bind ?_ (fun _ => ?_)
theorem spec_Opposite.mono : ∀ a0 a1 a2 a3 a4 k, LeO (spec_Opposite.f k a0 a1 a2 a3 a4) (spec_Opposite.f (k + 1) a0 a1 a2 a3 a4) := by
 intro a0 a1 a2 a3 a4 k
 have ih0 := spec_Opposite.mono_l k
 unfold spec_Opposite.f
 repeat' first
   | (with_reducible exact ih0 _ _ _ _ _ _)
   | (with_reducible apply spec_l5Copy.mono)
   | (with_reducible exact LeO.refl _)
   | (with_reducible exact LeO.none _)
   | (with_reducible refine LeO.ite ?_ ?_)
   | (with_reducible refine LeO.bind ?_ (fun _ => ?_))
   | exact ih0 _ _ _ _ _ _
   | apply spec_l5Copy.mono
   | exact LeO.none _
   | refine LeO.ite ?_ ?_
   | refine LeO.bind ?_ (fun _ => ?_)
set_option maxHeartbeats 8000000 in
set_option maxRecDepth 100000 in
theorem spec_Opposite.calls (k : Nat) (a0_0 : Int) (a0_1 : Int) (a0_2 : ByteArray) (a0_3 : ByteArray) (A0_4 : Option Addr) (c0_4 : Nat) (l0_4 : List (S29)) (r1 : Int) (r2 : Int) (r3 : ByteArray) (r4 : ByteArray) (r5 : List (S29)) (w : World) (hr0_4 : Kd.C k29 w A0_4 l0_4.length l0_4) (hc0_4 : l0_4.length ≤ c0_4) (h : spec_Opposite.f k a0_0 a0_1 a0_2 a0_3 l0_4 = some (r1, r2, r3, r4, r5)) :
  Calls Try.prog 27 #[.agg #[.int .i64 a0_0, .int .i64 a0_1, .string a0_2, .string a0_3, .slice A0_4 l0_4.length c0_4]] w fun e w' => ∃ v4_ : Value, e = .returned (.agg #[.int .i64 r1, .int .i64 r2, .string r3, .string r4, v4_]) ∧ Kd.N k29 29 w' w.heap.size (fun k_ => (w.heap.size ≤ k_)) v4_ r5 ∧ Below w.heap.size w w' := by
 have hu29 := Try.underlying29
 have HR0_4 := Aside0.mk hr0_4
 have HC0_4 := Aside0.mk hc0_4
 clear hr0_4 hc0_4
 have HB := Aside0.mk (Below.refl w.heap.size w)
 unfold spec_Opposite.f at h; have H := h
 clear h
 have HC2 := Aside0.mk H
 clear H
 go_enter Try.func27, Try.ntmps27
 go_upto_region 1 with (first | ((with_reducible refine gD 1 rfl ?_); (try (refine gate_guard (by rfl) ?_; dsimp only)); refine box_event ?hg (N := 1) ?hd (cs := #[.int .i64 a0_0, .int .i64 a0_1, .string a0_2, .string a0_3, .slice A0_4 l0_4.length c0_4]) (t := 29) ?hr ?_; (case hd => rfl); (case hg => rfl); (case hr => first | (go_simp; done) | (go_simp; rfl)); intro gb147 hg w3 hbox hb; have BK147 := Aside0.mk hbox; have GW147 := Aside0.mk (zg (zL HB.out) hg : w.heap.size ≤ gb147); have GE147 := GW147; replace HB := zLB (zL HB.out) hb; clear hb hbox hg) | ((with_reducible refine gD 2 rfl ?_); (try (refine gate_guard (by rfl) ?_; dsimp only)); refine box_event ?hg (N := 2) ?hd (cs := #[.int .i64 0, .int .i64 0, .string (⟨#[]⟩ : ByteArray), .string (⟨#[]⟩ : ByteArray), .slice none 0 0]) (t := 29) ?hr ?_; (case hd => rfl); (case hg => rfl); (case hr => first | (go_simp; done) | (go_simp; rfl)); intro gb148 hg w4 hbox hb; have BK148 := Aside0.mk hbox; have GW148 := Aside0.mk (zg (zL1 HB.out GE147.out) hg : w.heap.size ≤ gb148); have GE148 := GW148; replace HB := zLB (zL1 HB.out GE147.out) hb; have NB147_148 := Aside0.mk (zN BK147.out hg : gb147 ≠ gb148); have NB148_147 := Aside0.mk (zM BK147.out hg : gb148 ≠ gb147); replace BK147 := zBB BK147 hb; clear hb hbox hg))
 (try simp only [Act.put, List.setIfInBounds_toArray, List.set_cons_zero, List.set_cons_succ])
 go_cut [11] (fun v11 wc => ∃ (kq : Nat) (x11_1 : Bool), v11 = .bool x11_1 ∧ Aside0 (spec_Opposite.j0 kq x11_1 a0_0 a0_1 a0_2 a0_3 l0_4 = some (r1, r2, r3, r4, r5)) ∧ Aside0 (kq ≤ k) ∧ Aside0 (wc.heap[gb147]? = some (.cells #[.int .i64 a0_0, .int .i64 a0_1, .string a0_2, .string a0_3, (.slice A0_4 l0_4.length c0_4)] 29 (0, 0))) ∧ Aside0 (wc.heap[gb148]? = some (.cells #[.int .i64 0, .int .i64 0, .string (⟨#[]⟩ : ByteArray), .string (⟨#[]⟩ : ByteArray), (.slice none 0 0)] 29 (0, 0))) ∧ Aside0 (Below w.heap.size w wc))
 case first =>
  have H := HC2.out
  clear HC2
  by_cases c5 : a0_0 = 9
  ·rw [if_pos c5] at H
   obtain ⟨c5b0, c5b1⟩ := zt c5
   clear c5
   (first | rw [c5b0] | (simp only [i64_w, i32_w]; rw [c5b0]) | skip)
   have H' := Aside0.mk H
   clear H
   have hnb6 := NB147_148.out
   have hnc6 := NB148_147.out
   have hcz7 := zc5 BK147.out
   have hfz7 := zf5 BK147.out
   go_wp2
   go_meet
   case rel => exact ⟨_, (((l0_4.length : Int) == 1)), zV, H', ⟨by first | omega | exact Nat.le_refl _⟩, ⟨zB BK147.out⟩, ⟨zB BK148.out⟩, ⟨zL2 HB.out GE147.out GE148.out⟩⟩
  ·rw [if_neg c5] at H
   obtain ⟨c5b0, c5b1⟩ := zf c5
   (first | rw [c5b0] | (simp only [i64_w, i32_w]; rw [c5b0]) | skip)
   have H' := Aside0.mk H
   clear H
   have hnb8 := NB147_148.out
   have hnc8 := NB148_147.out
   have hcz9 := zc5 BK147.out
   have hfz9 := zf5 BK147.out
   go_wp2
   go_meet
   case rel => exact ⟨_, (false), zV, H', ⟨by first | omega | exact Nat.le_refl _⟩, ⟨zB BK147.out⟩, ⟨zB BK148.out⟩, ⟨zL2 HB.out GE147.out GE148.out⟩⟩
 case rest =>
  clear HC2
  try clear c2
  try clear p2
  try clear c5
  try clear c5b0
  try clear c5b1
  try clear c6
  try clear c8
  try clear hcz7; try clear hcz9; try clear hfz7; try clear hfz9
  obtain ⟨kq, x11_1, rfl, HA, HJ1, BK147, BK148, HB⟩ := hcut
  cases kq with
  | zero => exact absurd HA.out (by simp [spec_Opposite.j0])
  | succ kj1 =>
   have H := HA.out
   clear HA
   simp only [spec_Opposite.j0] at H
   by_cases c10 : x11_1 = true
   ·subst c10
    rw [if_pos rfl] at H
    by_cases c11 : 0 < (l0_4.length : Int)
    ·rw [if_pos c11] at H
     have c11b0 := decide_eq_true c11
     have c11b1 : decide (0 < l0_4.length) = true := decide_eq_true (by omega)
     clear c11
     obtain ⟨⟨t150, t151, t152, t153, t154⟩, A12, H⟩ := zO H; try dsimp only at H
     simp only [Option.some.injEq, Prod.mk.injEq] at H
     obtain ⟨rfl, rfl, rfl, rfl, rfl⟩ := H
     have hnb13 := NB147_148.out
     have hnc13 := NB148_147.out
     have hcz14 := zc5 BK147.out
     have hfz14 := zf5 BK147.out
     have p149 : 0 ≤ (0 : Int) := (by omega)
     have q149 : 0 < (l0_4.length : Int) := zD
     obtain ⟨ad149, A149_4, c149_4, e149, hx149_0, hx149_1, hx149_2, hx149_3, hx149_4, hl149_4, hi149_4⟩ := at_T29 HR0_4.out 0 p149 q149
     cases e149
     have qi149 : (0 < l0_4.length) = True := eq_true (by omega)
     (try rw [show ((0 : Int)).toNat = 0 from rfl] at hx149_0)
     (try rw [show 0 * 5 = 0 from rfl] at hx149_0)
     (try rw [Addr.add_zero'] at hx149_0)
     (try rw [show ((0 : Int)).toNat = 0 from rfl] at hx149_1)
     (try rw [show 0 * 5 = 0 from rfl] at hx149_1)
     (try rw [Addr.add_zero'] at hx149_1)
     (try rw [show ((0 : Int)).toNat = 0 from rfl] at hx149_2)
     (try rw [show 0 * 5 = 0 from rfl] at hx149_2)
     (try rw [Addr.add_zero'] at hx149_2)
     (try rw [show ((0 : Int)).toNat = 0 from rfl] at hx149_3)
     (try rw [show 0 * 5 = 0 from rfl] at hx149_3)
     (try rw [Addr.add_zero'] at hx149_3)
     (try rw [show ((0 : Int)).toNat = 0 from rfl] at hx149_4)
     (try rw [show 0 * 5 = 0 from rfl] at hx149_4)
     (try rw [Addr.add_zero'] at hx149_4)
     replace hx149_0 := zh HB.out hx149_0
     replace hx149_1 := zh HB.out hx149_1
     replace hx149_2 := zh HB.out hx149_2
     replace hx149_3 := zh HB.out hx149_3
     replace hx149_4 := zh HB.out hx149_4
     have HR149_4 := Aside0.mk hi149_4
     have HC149_4 := Aside0.mk hl149_4
     clear hi149_4 hl149_4
     replace p149 := eq_true p149
     replace q149 := eq_true q149
     go_wp2_with (first | ((with_reducible refine gC 54 rfl ?_); refine gL 16 Try.func54 #[.agg #[.int .i64 ((rd_T29 l0_4 0).f0), .int .i64 ((rd_T29 l0_4 0).f1), .string ((rd_T29 l0_4 0).f2), .string ((rd_T29 l0_4 0).f3), .slice A149_4 ((rd_T29 l0_4 0).f4).length c149_4]] ?_; (with_reducible refine (spec_l5Copy.calls kj1 ((rd_T29 l0_4 0).f0) ((rd_T29 l0_4 0).f1) ((rd_T29 l0_4 0).f2) ((rd_T29 l0_4 0).f3) _ _ ((rd_T29 l0_4 0).f4) t150 t151 t152 t153 t154 _ ?side1 ?side2 A12.out).mono ?_); (case side1 => exact zC (Kd.C_below HR149_4.out HB.out)); (case side2 => exact HC149_4.out); rintro e w15 ⟨v155, rfl, ho0, hb⟩; refine ⟨_, rfl, ?_⟩; have HO156 := Aside0.mk (Kd.N_lower (Kd.N_mono (ok' := fun k_ => (w.heap.size ≤ k_) ∧ k_ ≠ gb147 ∧ k_ ≠ gb148) (Kd.S_N (Kd.S_bound ho0)) (fun k_ hk_ => ⟨(Nat.le_trans (below_size (zL2 HB.out GE147.out GE148.out)) hk_.2.1), (Kd.freshB (g := gb147) (o := .cells #[.int .i64 a0_0, .int .i64 a0_1, .string a0_2, .string a0_3, .slice (some ad149) l0_4.length c0_4] 29 (0, 0)) (zB BK147.out) k_ hk_.2.1), (Kd.freshB (g := gb148) (o := .cells #[.int .i64 0, .int .i64 0, .string (⟨#[]⟩ : ByteArray), .string (⟨#[]⟩ : ByteArray), .slice none 0 0] 29 (0, 0)) (zB BK148.out) k_ hk_.2.1)⟩)) (below_size (zL2 HB.out GE147.out GE148.out))); replace BK147 := zBB BK147 hb; replace BK148 := zBB BK148 hb; replace HB := zLB (zL2 HB.out GE147.out GE148.out) hb; clear ho0 hb; have hcz16 := zc5 BK148.out; have hfz16 := zf5 BK148.out; obtain ⟨Ao17, co17, eo17⟩ := Kd.N_slice HO156.out; subst eo17))
     refine bodyPost_ret (results_cell_row rfl _ _ gb148 29 #[.int .i64 t150, .int .i64 t151, .string t152, .string t153, .slice Ao17 t154.length co17] (0, 0) _ rfl (by refine zB ?_; refine zp5 (cs := #[.int .i64 0, .int .i64 0, .string (⟨#[]⟩ : ByteArray), .string (⟨#[]⟩ : ByteArray), .slice none 0 0]) ?_; exact zB BK148.out) Try.underlying29 rfl (by kernel_rfl)) rfl ?_
     exact ⟨_, zW, by (with_reducible repeat (first | apply Kd.N_alloc | apply Kd.N_drewN | apply Kd.N_drew)); exact Kd.N_mono (zNF5 (Kd.N_mono HO156.out (fun k_ hk => (⟨hk, hk.2.2⟩ : _ ∧ k_ ≠ gb148))) gb148 (fun _ hk => hk.2) (.int .i64 t150) (.int .i64 t151) (.string t152) (.string t153) (.slice Ao17 t154.length co17)) (fun _ hk => hk.1.1), zL2 HB.out GE147.out GE148.out⟩
    ·rw [if_neg c11] at H
     exact absurd H (by simp)
   ·obtain rfl := Bool.eq_false_iff.mpr c10
    rw [if_neg zn] at H
    obtain ⟨⟨t157, t158, t159, t160, t161⟩, A18, H⟩ := zO H; try dsimp only at H
    generalize hy164 : (([(⟨t157, t158, t159, t160, t161⟩ : S29)] : List (S29))) = y164 at H; (try rw [Option.bind_some] at H); have Ny164 := Aside0.mk hy164.symm; clear hy164
    simp only [Option.some.injEq, Prod.mk.injEq] at H
    obtain ⟨rfl, rfl, rfl, rfl, rfl⟩ := H
    have hnb19 := NB147_148.out
    have hnc19 := NB148_147.out
    have hcz20 := zc5 BK147.out
    have hfz20 := zf5 BK147.out
    go_wp2_with (first | ((with_reducible refine gC 54 rfl ?_); refine gL 18 Try.func54 #[.agg #[.int .i64 a0_0, .int .i64 a0_1, .string a0_2, .string a0_3, .slice A0_4 l0_4.length c0_4]] ?_; (with_reducible refine (spec_l5Copy.calls kj1 a0_0 a0_1 a0_2 a0_3 _ _ l0_4 t157 t158 t159 t160 t161 _ ?side1 ?side2 A18.out).mono ?_); (case side1 => exact zC (Kd.C_below HR0_4.out HB.out)); (case side2 => exact HC0_4.out); rintro e w21 ⟨v162, rfl, ho0, hb⟩; refine ⟨_, rfl, ?_⟩; have HO163 := Aside0.mk (Kd.N_lower (Kd.N_mono (ok' := fun k_ => (w.heap.size ≤ k_) ∧ k_ ≠ gb147 ∧ k_ ≠ gb148) (Kd.S_N (Kd.S_bound ho0)) (fun k_ hk_ => ⟨(Nat.le_trans (below_size (zL2 HB.out GE147.out GE148.out)) hk_.2.1), (Kd.freshB (g := gb147) (o := .cells #[.int .i64 a0_0, .int .i64 a0_1, .string a0_2, .string a0_3, .slice A0_4 l0_4.length c0_4] 29 (0, 0)) (zB BK147.out) k_ hk_.2.1), (Kd.freshB (g := gb148) (o := .cells #[.int .i64 0, .int .i64 0, .string (⟨#[]⟩ : ByteArray), .string (⟨#[]⟩ : ByteArray), .slice none 0 0] 29 (0, 0)) (zB BK148.out) k_ hk_.2.1)⟩)) (below_size (zL2 HB.out GE147.out GE148.out))); replace BK147 := zBB BK147 hb; replace BK148 := zBB BK148 hb; replace HB := zLB (zL2 HB.out GE147.out GE148.out) hb; clear ho0 hb; obtain ⟨Ao22, co22, eo22⟩ := Kd.N_slice HO163.out; subst eo22) | ((with_reducible refine gD 19 rfl ?_); (try (refine gate_guard (by rfl) ?_; dsimp only)); refine Kd.N_lit k29 _ 29 ?hg (N' := 19) ?hd (xs := ([(⟨t157, t158, t159, t160, t161⟩ : S29)] : List (S29))) (inner := [.int .i64 t157, .int .i64 t158, .string t159, .string t160, .slice Ao22 t161.length co22]) (ok := (fun k_ => (w.heap.size ≤ k_) ∧ k_ ≠ gb147 ∧ k_ ≠ gb148)) (okp := (fun k_ => (w.heap.size ≤ k_) ∧ k_ ≠ gb147 ∧ k_ ≠ gb148)) ?hr ?hp (fun _ hk => hk) ((show ∀ k_, w21.heap.size ≤ k_ → (fun k_ => (w.heap.size ≤ k_) ∧ k_ ≠ gb147 ∧ k_ ≠ gb148) k_ from fun k_ hk => ⟨(Nat.le_trans (below_size (zL2 HB.out GE147.out GE148.out)) hk), Kd.freshB (g := gb147) (o := .cells #[.int .i64 a0_0, .int .i64 a0_1, .string a0_2, .string a0_3, .slice A0_4 l0_4.length c0_4] 29 (0, 0)) (zB BK147.out) k_ hk, Kd.freshB (g := gb148) (o := .cells #[.int .i64 0, .int .i64 0, .string (⟨#[]⟩ : ByteArray), .string (⟨#[]⟩ : ByteArray), .slice none 0 0] 29 (0, 0)) (zB BK148.out) k_ hk⟩) _ (Nat.le_refl _)) (Below.refl _ _) (Nat.le_refl _) (by simp) ?_; (case hd => rfl); (case hg => rfl); (case hr => first | (go_simp; done) | (go_simp; rfl)); (case hp => exact (Reps.c5 (show Kd.FK k29 _ _ (⟨t157, t158, t159, t160, t161⟩ : S29) [.int .i64 t157, .int .i64 t158, .string t159, .string t160, .slice Ao22 t161.length co22] from (k29_mkF _ _ (⟨t157, t158, t159, t160, t161⟩ : S29) (Kd.N_reads' (Kd.N_mono (ok' := (fun k_ => (w.heap.size ≤ k_) ∧ k_ ≠ gb147 ∧ k_ ≠ gb148)) (HO163.out) (fun k_ hk => ⟨hk.1, ⟨hk.2.1, hk.2.2⟩⟩))).2.1 (Kd.N_F (Kd.N_mono (ok' := (fun k_ => (w.heap.size ≤ k_) ∧ k_ ≠ gb147 ∧ k_ ≠ gb148)) (HO163.out) (fun k_ hk => ⟨hk.1, ⟨hk.2.1, hk.2.2⟩⟩))))) (Reps.none _ _))); intro v165 w23 ho24 hb hg_ hnew_; clear hg_ hnew_; (first | rw [← Ny164.out] at ho24 | (simp only [Int.reduceToNat] at ho24; rw [← Ny164.out] at ho24)); have HO166 := Aside0.mk (Kd.N_lower ho24 (below_size (zL2 HB.out GE147.out GE148.out))); replace BK147 := zBB BK147 hb; replace BK148 := zBB BK148 hb; replace HB := zLB (zL2 HB.out GE147.out GE148.out) hb; clear HO163; clear hb ho24; obtain ⟨Ao25, co25, eo25⟩ := Kd.N_slice HO166.out; subst eo25; have hcz26 := zc5 BK148.out; have hfz26 := zf5 BK148.out))
    refine bodyPost_ret (results_cell_row rfl _ _ gb148 29 #[.int .i64 9, .int .i64 0, .string (⟨#[]⟩ : ByteArray), .string (⟨#[]⟩ : ByteArray), .slice Ao25 y164.length co25] (0, 0) _ rfl (by refine zB ?_; refine zp5 (cs := #[.int .i64 0, .int .i64 0, .string (⟨#[]⟩ : ByteArray), .string (⟨#[]⟩ : ByteArray), .slice none 0 0]) ?_; exact zB BK148.out) Try.underlying29 rfl (by kernel_rfl)) rfl ?_
    exact ⟨_, zW, by (with_reducible repeat (first | apply Kd.N_alloc | apply Kd.N_drewN | apply Kd.N_drew)); exact Kd.N_mono (zNF5 (Kd.N_mono HO166.out (fun k_ hk => (⟨hk, hk.2.2⟩ : _ ∧ k_ ≠ gb148))) gb148 (fun _ hk => hk.2) (.int .i64 9) (.int .i64 0) (.string (⟨#[]⟩ : ByteArray)) (.string (⟨#[]⟩ : ByteArray)) (.slice Ao25 y164.length co25)) (fun _ hk => hk.1.1), zL2 HB.out GE147.out GE148.out⟩

open Go.Proofs.YtfhblnbicnmndaaW.PrintWords renaming blk_drewN → bN, blk_drew → bD, blk_alloc → bA, blk_cell → bC, blk_below → bB, below_set → bS
/-! ### impl_copyPol: function 55 -/
mutual
def impl_copyPol.l0 : Nat → List (S29) → Int → Int → Int → Int → ByteArray → ByteArray → List (S29) → Option (Int × Int × ByteArray × ByteArray × (List (S29)))
 | 0, _, _, _, _, _, _, _, _ => none
 | k + 1, x9, x10, x11, x170000, x170001, x170002, x170003, x170004 => if x11 < x10 then (if 0 ≤ x11 then (if x11 < (x9.length : Int) then ((impl_copyPol.f k ((rd_T29 x9 x11).f0) ((rd_T29 x9 x11).f1) ((rd_T29 x9 x11).f2) ((rd_T29 x9 x11).f3) ((rd_T29 x9 x11).f4)).bind fun bt172 => (if x170004.length < 1954687338268 then (impl_copyPol.l0 k x9 x10 (wrap64 (x11 + 1)) x170000 x170001 x170002 x170003 (x170004 ++ [(⟨bt172.1, bt172.2.1, bt172.2.2.1, bt172.2.2.2.1, bt172.2.2.2.2⟩ : S29)])) else (none))) else (none)) else (none)) else (some (x170000, x170001, x170002, x170003, x170004))
def impl_copyPol.f : Nat → Int → Int → ByteArray → ByteArray → List (S29) → Option (Int × Int × ByteArray × ByteArray × (List (S29)))
 | 0, _, _, _, _, _ => none
 | k + 1, a0_0, a0_1, a0_2, a0_3, l0_4 => impl_copyPol.l0 k l0_4 (l0_4.length : Int) 0 a0_0 a0_1 a0_2 a0_3 ([] : List (S29))
end
theorem impl_copyPol.mono_l : ∀ k, (∀ y0 y1 y2 y3 y4, LeO (impl_copyPol.f k y0 y1 y2 y3 y4) (impl_copyPol.f (k + 1) y0 y1 y2 y3 y4)) ∧ (∀ y0 y1 y2 y3 y4 y5 y6 y7, LeO (impl_copyPol.l0 k y0 y1 y2 y3 y4 y5 y6 y7) (impl_copyPol.l0 (k + 1) y0 y1 y2 y3 y4 y5 y6 y7))
 | 0 => ⟨fun _ _ _ _ _ r h => by simp [impl_copyPol.f] at h, fun _ _ _ _ _ _ _ _ r h => by simp [impl_copyPol.l0] at h⟩
 | k + 1 => by
  obtain ⟨ih0, ih1⟩ := impl_copyPol.mono_l k
  refine ⟨?_, ?_⟩
  ·intro y0 y1 y2 y3 y4
   unfold impl_copyPol.f
   repeat' first
   | (with_reducible exact ih0 _ _ _ _ _)
   | (with_reducible exact ih1 _ _ _ _ _ _ _ _)
   | (with_reducible exact LeO.refl _)
   | (with_reducible exact LeO.none _)
   | (with_reducible refine LeO.ite ?_ ?_)
   | (with_reducible refine LeO.bind ?_ (fun _ => ?_))
   | exact ih0 _ _ _ _ _
   | exact ih1 _ _ _ _ _ _ _ _
   | exact LeO.none _
   | refine LeO.ite ?_ ?_
   | refine LeO.bind ?_ (fun _ => ?_)
  ·intro y0 y1 y2 y3 y4 y5 y6 y7
   unfold impl_copyPol.l0
   repeat' first
   | (with_reducible exact ih0 _ _ _ _ _)
   | (with_reducible exact ih1 _ _ _ _ _ _ _ _)
   | (with_reducible exact LeO.refl _)
   | (with_reducible exact LeO.none _)
   | (with_reducible refine LeO.ite ?_ ?_)
   | (with_reducible refine LeO.bind ?_ (fun _ => ?_))
   | exact ih0 _ _ _ _ _
   | exact ih1 _ _ _ _ _ _ _ _
   | exact LeO.none _
   | refine LeO.ite ?_ ?_
   | refine LeO.bind ?_ (fun _ => ?_)
theorem impl_copyPol.mono : ∀ a0 a1 a2 a3 a4 k, LeO (impl_copyPol.f k a0 a1 a2 a3 a4) (impl_copyPol.f (k + 1) a0 a1 a2 a3 a4) := by
 intro a0 a1 a2 a3 a4 k
 obtain ⟨ih0, ih1⟩ := impl_copyPol.mono_l k
 exact ih0 a0 a1 a2 a3 a4
def impl_copyPol.T6 : Bool × List (List Nat × List Nat) := (true, [([], []), ([0], [0]), ([], []), ([2], [2]), ([3], [3]), ([1, 4, 3], [1, 4]), ([0, 1, 2, 3, 4, 5], []), ([6, 5, 5, 0, 1, 2, 3, 4, 5], [5, 6])])
def impl_copyPol.B6 : List Nat := [0, 1, 0, 4, 12, 31, 63, 127]
theorem impl_copyPol.tab6 : rtab .any (opsOf Try.f55 6) = impl_copyPol.T6 := by kernel_rfl
theorem impl_copyPol.bits6 : waitsOk impl_copyPol.T6.2 impl_copyPol.B6 = true := by kernel_rfl
set_option maxHeartbeats 8000000 in
set_option maxRecDepth 100000 in
theorem impl_copyPol.calls (k : Nat) : ∀ (a0_0 : Int) (a0_1 : Int) (a0_2 : ByteArray) (a0_3 : ByteArray) (A0_4 : Option Addr) (c0_4 : Nat) (l0_4 : List (S29)) (r1 : Int) (r2 : Int) (r3 : ByteArray) (r4 : ByteArray) (r5 : List (S29)) (w : World) (hr0_4 : Kd.C k29 w A0_4 l0_4.length l0_4) (hc0_4 : l0_4.length ≤ c0_4) (h : impl_copyPol.f k a0_0 a0_1 a0_2 a0_3 l0_4 = some (r1, r2, r3, r4, r5)),
  Calls Try.prog 55 #[.agg #[.int .i64 a0_0, .int .i64 a0_1, .string a0_2, .string a0_3, .slice A0_4 l0_4.length c0_4]] w fun e w' => ∃ v4_ : Value, e = .returned (.agg #[.int .i64 r1, .int .i64 r2, .string r3, .string r4, v4_]) ∧ Kd.S k29 29 w' w.heap.size (fun _ => True) v4_ r5 ∧ Below w.heap.size w w' := by
 induction k using Nat.strongRecOn with
 | _ k ih =>
 intro a0_0 a0_1 a0_2 a0_3 A0_4 c0_4 l0_4 r1 r2 r3 r4 r5 w hr0_4 hc0_4 h
 cases k with
 | zero => exact absurd h (by simp [impl_copyPol.f])
 | succ k =>
 simp only [impl_copyPol.f] at h
 have hu29 := Try.underlying29
 have HR0_4 := Aside0.mk hr0_4
 have HC0_4 := Aside0.mk hc0_4
 clear hr0_4 hc0_4
 have HB := Aside0.mk (Below.refl w.heap.size w)
 have H : (impl_copyPol.l0 k l0_4 (l0_4.length : Int) 0 a0_0 a0_1 a0_2 a0_3 ([] : List (S29))) = some (r1, r2, r3, r4, r5) := h
 clear h
 have H' := Aside0.mk H
 clear H
 go_enter Try.func55, Try.ntmps55
 go_wp2_with (first | ((with_reducible refine gD 1 rfl ?_); refine bE 1 #[.int .i64 a0_0, .int .i64 a0_1, .string a0_2, .string a0_3, .slice A0_4 l0_4.length c0_4] 29 ?_; intro gb167 hg w2 hbox hb; have BK167 := Aside0.mk hbox; have GW167 := Aside0.mk (zg (zL HB.out) hg : w.heap.size ≤ gb167); have GE167 := GW167; replace HB := zLB (zL HB.out) hb; clear hb hbox hg) | ((with_reducible refine gD 2 rfl ?_); refine bE 2 #[.int .i64 0, .int .i64 0, .string (⟨#[]⟩ : ByteArray), .string (⟨#[]⟩ : ByteArray), .slice none 0 0] 29 ?_; intro gb168 hg w3 hbox hb; have BK168 := Aside0.mk hbox; have GW168 := Aside0.mk (zg (zL1 HB.out GE167.out) hg : w.heap.size ≤ gb168); have GE168 := GW168; replace HB := zLB (zL1 HB.out GE167.out) hb; have NB167_168 := Aside0.mk (zN BK167.out hg : gb167 ≠ gb168); have NB168_167 := Aside0.mk (zM BK167.out hg : gb168 ≠ gb167); replace BK167 := zBB BK167 hb; clear hb hbox hg; have hnb4 := NB167_168.out; have hnc4 := NB168_167.out; have hcz5 := zc5 BK167.out; have hfz5 := zf5 BK167.out) | ((with_reducible refine gD 3 rfl ?_); refine bE 3 #[.int .i64 0, .int .i64 0, .string (⟨#[]⟩ : ByteArray), .string (⟨#[]⟩ : ByteArray), .slice none 0 0] 29 ?_; intro gb169 hg w6 hbox hb; have BK169 := Aside0.mk hbox; have GW169 := Aside0.mk (zg (zL2 HB.out GE167.out GE168.out) hg : w.heap.size ≤ gb169); have GE169 := GW169; replace HB := zLB (zL2 HB.out GE167.out GE168.out) hb; have NB167_169 := Aside0.mk (zN BK167.out hg : gb167 ≠ gb169); have NB169_167 := Aside0.mk (zM BK167.out hg : gb169 ≠ gb167); replace BK167 := zBB BK167 hb; have NB168_169 := Aside0.mk (zN BK168.out hg : gb168 ≠ gb169); have NB169_168 := Aside0.mk (zM BK168.out hg : gb169 ≠ gb168); replace BK168 := zBB BK168 hb; clear hb hbox hg; have hnb7 := NB169_167.out; have hnc7 := NB167_169.out; have hnb8 := NB169_168.out; have hnc8 := NB168_169.out; have hcz9 := zc5 BK169.out; have hfz9 := zf5 BK169.out; have hcz10 := zc5 BK167.out; have hfz10 := zf5 BK167.out))
 go_loopg [11] k (fun kq v11 w' => ∃ (x11_1 : Int) (x170004_1 : List (S29)) (u170004 : Value), v11 = .int .i64 x11_1 ∧ Aside0 (impl_copyPol.l0 kq l0_4 (l0_4.length : Int) x11_1 a0_0 a0_1 a0_2 a0_3 x170004_1 = some (r1, r2, r3, r4, r5)) ∧ Aside0 (kq ≤ k) ∧ Aside0 (Kd.S k29 29 w' w.heap.size (fun k_ => k_ ≠ gb167 ∧ k_ ≠ gb168 ∧ k_ ≠ gb169) u170004 x170004_1) ∧ Aside0 (w'.heap[gb167]? = some (.cells #[.int .i64 a0_0, .int .i64 a0_1, .string a0_2, .string a0_3, (.slice A0_4 l0_4.length c0_4)] 29 (0, 0))) ∧ Aside0 (w'.heap[gb168]? = some (.cells #[.int .i64 0, .int .i64 0, .string (⟨#[]⟩ : ByteArray), .string (⟨#[]⟩ : ByteArray), (.slice none 0 0)] 29 (0, 0))) ∧ Aside0 (w'.heap[gb169]? = some (.cells #[.int .i64 a0_0, .int .i64 a0_1, .string a0_2, .string a0_3, u170004] 29 (0, 0))) ∧ Aside0 (Below w.heap.size w w'))
 case atStart => exact ⟨(0), (([] : List (S29))), (.slice none 0 0), zV, H', ⟨Nat.le_refl _⟩, ⟨by first | exact Kd.S_nil _ _ _ _ _ | exact Kd.N_nil _ _ _ _ _ | exact Kd.V_nil _ _ _ _ _ | exact Kd.Q_nil _ _ _ _ _ | exact Kd.R_nil _ _ _ _ _⟩, ⟨by (with_reducible repeat (first | refine bN ?_ _ | refine bD ?_ | refine bA ?_ _)); refine blk_far ?_ NB167_169.out _; refine zB ?_; refine zr5 ?_ NB167_169.out; exact zB BK167.out⟩, ⟨by (with_reducible repeat (first | refine bN ?_ _ | refine bD ?_ | refine bA ?_ _)); refine blk_far ?_ NB168_169.out _; refine zB ?_; refine zr5 ?_ NB168_169.out; exact zB BK168.out⟩, ⟨by (with_reducible repeat (first | refine bN ?_ _ | refine bD ?_ | refine bA ?_ _)); refine blk_put (cs := #[.int .i64 a0_0, .int .i64 a0_1, .string a0_2, .string a0_3, .slice A0_4 l0_4.length c0_4]) ?_ 4 _ rfl; refine zB ?_; refine zp5 (cs := #[.int .i64 0, .int .i64 0, .string (⟨#[]⟩ : ByteArray), .string (⟨#[]⟩ : ByteArray), .slice none 0 0]) ?_; exact zB BK169.out⟩, ⟨zL3 HB.out GE167.out GE168.out GE169.out⟩⟩
 case round =>
  clear H'
  try clear p2
  try clear c4
  try clear c5
  try clear c7
  try clear c8
  try clear hcz10; try clear hcz5; try clear hcz9; try clear hfz10; try clear hfz5; try clear hfz9
  try clear BK167; try clear BK168; try clear BK169
  obtain ⟨x11_1, x170004_1, u170004, rfl, HA, HK1, HO_170004, BK167, BK168, BK169, HB⟩ := hrel
  cases gk with
  | zero => exact absurd HA.out (by simp [impl_copyPol.l0])
  | succ k1 =>
   have H := HA.out
   clear HA
   simp only [impl_copyPol.l0] at H
   by_cases c11 : x11_1 < (l0_4.length : Int)
   ·rw [if_pos c11] at H
    have c11b0 := decide_eq_true c11
    clear c11
    by_cases c12 : 0 ≤ x11_1
    ·rw [if_pos c12] at H
     have c12b0 := decide_eq_true c12
     clear c12
     by_cases c13 : x11_1 < (l0_4.length : Int)
     ·rw [if_pos c13] at H
      have c13b0 := decide_eq_true c13
      clear c13
      obtain ⟨⟨t172, t173, t174, t175, t176⟩, A14, H⟩ := zO H; try dsimp only at H
      by_cases c15 : x170004_1.length < 1954687338268
      ·rw [if_pos c15] at H
       have LMc15 := Aside0.mk c15
       clear c15
       generalize hy179 : (x170004_1 ++ [(⟨t172, t173, t174, t175, t176⟩ : S29)]) = y179 at H; (try rw [Option.bind_some] at H); have Ny179 := Aside0.mk hy179.symm; clear hy179
       have H' := Aside0.mk H
       clear H
       have p170 : 0 ≤ (x11_1 : Int) := zD
       have q170 : x11_1 < (l0_4.length : Int) := zD
       obtain ⟨ad170, A170_4, c170_4, e170, hx170_0, hx170_1, hx170_2, hx170_3, hx170_4, hl170_4, hi170_4⟩ := at_T29 HR0_4.out x11_1 p170 q170
       cases e170
       replace hx170_0 := zh HB.out hx170_0
       replace hx170_1 := zh HB.out hx170_1
       replace hx170_2 := zh HB.out hx170_2
       replace hx170_3 := zh HB.out hx170_3
       replace hx170_4 := zh HB.out hx170_4
       have HR170_4 := Aside0.mk hi170_4
       have HC170_4 := Aside0.mk hl170_4
       clear hi170_4 hl170_4
       replace p170 := eq_true p170
       replace q170 := eq_true q170
       try go_wp2_with (first | ((with_reducible refine gD 5 rfl ?_); refine bE 5 #[.int .i64 0, .int .i64 0, .string (⟨#[]⟩ : ByteArray), .string (⟨#[]⟩ : ByteArray), .slice none 0 0] 29 ?_; intro gb171 hg w16 hbox hb; replace HO_170004 := Aside0.mk (Kd.S_below (Kd.S_elderB (zS HO_170004.out) gb171 (Nat.le_of_eq hg.symm)) hb); have BK171 := Aside0.mk hbox; have GW171 := Aside0.mk (zg (zL3 HB.out GE167.out GE168.out GE169.out) hg : w.heap.size ≤ gb171); have GE171 := GW171; replace HB := zLB (zL3 HB.out GE167.out GE168.out GE169.out) hb; have NB167_171 := Aside0.mk (zN BK167.out hg : gb167 ≠ gb171); have NB171_167 := Aside0.mk (zM BK167.out hg : gb171 ≠ gb167); replace BK167 := zBB BK167 hb; have NB168_171 := Aside0.mk (zN BK168.out hg : gb168 ≠ gb171); have NB171_168 := Aside0.mk (zM BK168.out hg : gb171 ≠ gb168); replace BK168 := zBB BK168 hb; have NB169_171 := Aside0.mk (zN BK169.out hg : gb169 ≠ gb171); have NB171_169 := Aside0.mk (zM BK169.out hg : gb171 ≠ gb169); replace BK169 := zBB BK169 hb; clear hb hbox hg; have hnb17 := NB171_167.out; have hnc17 := NB167_171.out; have hnb18 := NB171_168.out; have hnc18 := NB168_171.out; have hnb19 := NB171_169.out; have hnc19 := NB169_171.out; have hcz20 := zc5 BK171.out; have hfz20 := zf5 BK171.out))
       have n0_ : Aside0 (Kd.S k29 29 (((((w16.setCell ⟨gb171, 0, none⟩ (.int .i64 ((rd_T29 l0_4 x11_1).f0))).setCell ⟨gb171, 1, none⟩ (.int .i64 ((rd_T29 l0_4 x11_1).f1))).setCell ⟨gb171, 2, none⟩ (.string ((rd_T29 l0_4 x11_1).f2))).setCell ⟨gb171, 3, none⟩ (.string ((rd_T29 l0_4 x11_1).f3))).setCell ⟨gb171, 4, none⟩ (.slice A170_4 ((rd_T29 l0_4 x11_1).f4).length c170_4)) w.heap.size (fun k_ => k_ ≠ gb167 ∧ k_ ≠ gb168 ∧ k_ ≠ gb169 ∧ k_ ≠ gb171) u170004 x170004_1) := ⟨by (with_reducible repeat (first | apply Kd.S_alloc | apply Kd.S_drewN | apply Kd.S_drew)); exact Kd.S_mono (zSF5 (Kd.S_mono HO_170004.out (fun k_ hk => (⟨hk, hk.2⟩ : _ ∧ k_ ≠ gb171))) gb171 (fun _ hk => hk.2) (.int .i64 ((rd_T29 l0_4 x11_1).f0)) (.int .i64 ((rd_T29 l0_4 x11_1).f1)) (.string ((rd_T29 l0_4 x11_1).f2)) (.string ((rd_T29 l0_4 x11_1).f3)) (.slice A170_4 ((rd_T29 l0_4 x11_1).f4).length c170_4)) (fun _ hk => ⟨hk.1.1.1, ⟨hk.1.1.2.1, ⟨hk.1.1.2.2, hk.1.2⟩⟩⟩)⟩
       have n1_ : Aside0 ((((((w16.setCell ⟨gb171, 0, none⟩ (.int .i64 ((rd_T29 l0_4 x11_1).f0))).setCell ⟨gb171, 1, none⟩ (.int .i64 ((rd_T29 l0_4 x11_1).f1))).setCell ⟨gb171, 2, none⟩ (.string ((rd_T29 l0_4 x11_1).f2))).setCell ⟨gb171, 3, none⟩ (.string ((rd_T29 l0_4 x11_1).f3))).setCell ⟨gb171, 4, none⟩ (.slice A170_4 ((rd_T29 l0_4 x11_1).f4).length c170_4)).heap[gb167]? = some (.cells #[.int .i64 a0_0, .int .i64 a0_1, .string a0_2, .string a0_3, .slice (some ad170) l0_4.length c0_4] 29 (0, 0))) := ⟨by refine zB ?_; refine zr5 ?_ NB167_171.out; exact zB BK167.out⟩
       have n2_ : Aside0 ((((((w16.setCell ⟨gb171, 0, none⟩ (.int .i64 ((rd_T29 l0_4 x11_1).f0))).setCell ⟨gb171, 1, none⟩ (.int .i64 ((rd_T29 l0_4 x11_1).f1))).setCell ⟨gb171, 2, none⟩ (.string ((rd_T29 l0_4 x11_1).f2))).setCell ⟨gb171, 3, none⟩ (.string ((rd_T29 l0_4 x11_1).f3))).setCell ⟨gb171, 4, none⟩ (.slice A170_4 ((rd_T29 l0_4 x11_1).f4).length c170_4)).heap[gb168]? = some (.cells #[.int .i64 0, .int .i64 0, .string (⟨#[]⟩ : ByteArray), .string (⟨#[]⟩ : ByteArray), .slice none 0 0] 29 (0, 0))) := ⟨by refine zB ?_; refine zr5 ?_ NB168_171.out; exact zB BK168.out⟩
       have n3_ : Aside0 ((((((w16.setCell ⟨gb171, 0, none⟩ (.int .i64 ((rd_T29 l0_4 x11_1).f0))).setCell ⟨gb171, 1, none⟩ (.int .i64 ((rd_T29 l0_4 x11_1).f1))).setCell ⟨gb171, 2, none⟩ (.string ((rd_T29 l0_4 x11_1).f2))).setCell ⟨gb171, 3, none⟩ (.string ((rd_T29 l0_4 x11_1).f3))).setCell ⟨gb171, 4, none⟩ (.slice A170_4 ((rd_T29 l0_4 x11_1).f4).length c170_4)).heap[gb169]? = some (.cells #[.int .i64 a0_0, .int .i64 a0_1, .string a0_2, .string a0_3, u170004] 29 (0, 0))) := ⟨by refine zB ?_; refine zr5 ?_ NB169_171.out; exact zB BK169.out⟩
       have n4_ : Aside0 ((((((w16.setCell ⟨gb171, 0, none⟩ (.int .i64 ((rd_T29 l0_4 x11_1).f0))).setCell ⟨gb171, 1, none⟩ (.int .i64 ((rd_T29 l0_4 x11_1).f1))).setCell ⟨gb171, 2, none⟩ (.string ((rd_T29 l0_4 x11_1).f2))).setCell ⟨gb171, 3, none⟩ (.string ((rd_T29 l0_4 x11_1).f3))).setCell ⟨gb171, 4, none⟩ (.slice A170_4 ((rd_T29 l0_4 x11_1).f4).length c170_4)).heap[gb171]? = some (.cells #[.int .i64 ((rd_T29 l0_4 x11_1).f0), .int .i64 ((rd_T29 l0_4 x11_1).f1), .string ((rd_T29 l0_4 x11_1).f2), .string ((rd_T29 l0_4 x11_1).f3), .slice A170_4 ((rd_T29 l0_4 x11_1).f4).length c170_4] 29 (0, 0))) := ⟨by refine zB ?_; refine zp5 (cs := #[.int .i64 0, .int .i64 0, .string (⟨#[]⟩ : ByteArray), .string (⟨#[]⟩ : ByteArray), .slice none 0 0]) ?_; exact zB BK171.out⟩
       have n5_ : Aside0 (Below w.heap.size w (((((w16.setCell ⟨gb171, 0, none⟩ (.int .i64 ((rd_T29 l0_4 x11_1).f0))).setCell ⟨gb171, 1, none⟩ (.int .i64 ((rd_T29 l0_4 x11_1).f1))).setCell ⟨gb171, 2, none⟩ (.string ((rd_T29 l0_4 x11_1).f2))).setCell ⟨gb171, 3, none⟩ (.string ((rd_T29 l0_4 x11_1).f3))).setCell ⟨gb171, 4, none⟩ (.slice A170_4 ((rd_T29 l0_4 x11_1).f4).length c170_4))) := ⟨zL4 HB.out GE167.out GE168.out GE169.out GE171.out⟩
       (try clear HO_170004)
       (try clear BK167)
       (try clear BK168)
       (try clear BK169)
       (try clear BK171)
       (try clear HB)
       generalize (((((w16.setCell ⟨gb171, 0, none⟩ (.int .i64 ((rd_T29 l0_4 x11_1).f0))).setCell ⟨gb171, 1, none⟩ (.int .i64 ((rd_T29 l0_4 x11_1).f1))).setCell ⟨gb171, 2, none⟩ (.string ((rd_T29 l0_4 x11_1).f2))).setCell ⟨gb171, 3, none⟩ (.string ((rd_T29 l0_4 x11_1).f3))).setCell ⟨gb171, 4, none⟩ (.slice A170_4 ((rd_T29 l0_4 x11_1).f4).length c170_4)) = w21 at n0_ n1_ n2_ n3_ n4_ n5_ ⊢
       have HO_170004 := n0_
       have BK167 := n1_
       have BK168 := n2_
       have BK169 := n3_
       have BK171 := n4_
       have HB := n5_
       clear n0_ n1_ n2_ n3_ n4_ n5_
       replace HO_170004 := zSD HO_170004; replace BK167 := zBD BK167; replace BK168 := zBD BK168; replace BK169 := zBD BK169; replace BK171 := zBD BK171; replace HB := zLD HB
       refine start_ (n := 8) (S := fun w' => zt5 w' gb169 (.int .i64 a0_0) (.int .i64 a0_1) (.string a0_2) (.string a0_3) (u170004) (zs5 w' gb171 (.int .i64 ((rd_T29 l0_4 x11_1).f0)) (.int .i64 ((rd_T29 l0_4 x11_1).f1)) (.string ((rd_T29 l0_4 x11_1).f2)) (.string ((rd_T29 l0_4 x11_1).f3)) (.slice A170_4 ((rd_T29 l0_4 x11_1).f4).length c170_4))) (ds := [7]) (fB 8 0) (by kernel_rfl) rfl rfl (zk5 BK169.out (zc5 BK171.out)) (fun hHeld => ?_); refine with_tabW impl_copyPol.tab6 impl_copyPol.bits6 (fun HT_ HW_ => ?_)
       generalize w21.drew = w22 at HO_170004 BK167 BK168 BK169 BK171 HB hHeld ⊢
       refine pY 0 15 (fB 8 1) HT_.out ?_
       refine tY 1 16 (fB 8 3) HT_.out HW_.out hHeld ?_
       refine tY 2 17 (fB 8 7) HT_.out HW_.out hHeld ?_
       refine oN 3 18 (fB 8 15) HT_.out fun K hK => ?_
       refine gS Try.func55 #[.agg #[.int .i64 ((rd_T29 l0_4 x11_1).f0), .int .i64 ((rd_T29 l0_4 x11_1).f1), .string ((rd_T29 l0_4 x11_1).f2), .string ((rd_T29 l0_4 x11_1).f3), .slice A170_4 ((rd_T29 l0_4 x11_1).f4).length c170_4]] ?_
       with_reducible refine (ih k1 (by have := HK1.out; omega) ((rd_T29 l0_4 x11_1).f0) ((rd_T29 l0_4 x11_1).f1) ((rd_T29 l0_4 x11_1).f2) ((rd_T29 l0_4 x11_1).f3) _ _ ((rd_T29 l0_4 x11_1).f4) t172 t173 t174 t175 t176 _ ?side1 ?side2 A14.out).mono ?_
       (case side1 => exact zC (Kd.C_below HR170_4.out HB.out))
       (case side2 => exact HC170_4.out)
       rintro e w23 ⟨v177, rfl, ho0, hb⟩
       refine ⟨_, rfl, ?_⟩
       have TW := Aside0.mk (Two.mk (G := fun k_ => k_ ≠ gb167 ∧ k_ ≠ gb168 ∧ k_ ≠ gb169 ∧ k_ ≠ gb171) (Kd.S_mono HO_170004.out (fun k_ hk => by simp [hk])) ho0 hb (fun k_ hk => ⟨by have a_ := blk_lt BK167.out; omega, by have a_ := blk_lt BK168.out; omega, by have a_ := blk_lt BK169.out; omega, by have a_ := blk_lt BK171.out; omega⟩) HB.out.size)
       have HO178 := Aside0.mk (Kd.S_lower (Kd.S_newB (Kd.S_newB (Kd.S_newB (Kd.S_newB (Kd.S_new' ho0 (Kd.S_lt (zS HO_170004.out))) (g := gb167) (o := .cells #[.int .i64 a0_0, .int .i64 a0_1, .string a0_2, .string a0_3, .slice (some ad170) l0_4.length c0_4] 29 (0, 0)) (zB BK167.out)) (g := gb168) (o := .cells #[.int .i64 0, .int .i64 0, .string (⟨#[]⟩ : ByteArray), .string (⟨#[]⟩ : ByteArray), .slice none 0 0] 29 (0, 0)) (zB BK168.out)) (g := gb169) (o := .cells #[.int .i64 a0_0, .int .i64 a0_1, .string a0_2, .string a0_3, u170004] 29 (0, 0)) (zB BK169.out)) (g := gb171) (o := .cells #[.int .i64 ((rd_T29 l0_4 x11_1).f0), .int .i64 ((rd_T29 l0_4 x11_1).f1), .string ((rd_T29 l0_4 x11_1).f2), .string ((rd_T29 l0_4 x11_1).f3), .slice A170_4 ((rd_T29 l0_4 x11_1).f4).length c170_4] 29 (0, 0)) (zB BK171.out)) (below_size (zL4 HB.out GE167.out GE168.out GE169.out GE171.out))); replace HO_170004 := Aside0.mk (Kd.S_elder' (zS HO_170004.out) (Kd.S_base ho0) hb); replace BK167 := zBB BK167 hb; replace BK168 := zBB BK168 hb; replace BK169 := zBB BK169 hb; replace BK171 := zBB BK171 hb; replace HB := zLB (zL4 HB.out GE167.out GE168.out GE169.out GE171.out) hb
       clear ho0 hb
       (try clear ho0)
       obtain ⟨Ao25, co25, eo25⟩ := Kd.S_slice HO178.out
       (first | subst eo25 | (injection eo25 with f1_ f2_ f3_; have f4_ := f1_.symm; have f5_ := f3_.symm; clear f1_ f2_ f3_; subst f4_; subst f5_))
       refine hK.out _ _ (zk5 BK169.out (zc5 BK171.out)) fun hHeld => ?_; clear hK K
       refine nZ 18 ?_
       refine oN 4 19 (fB 8 31) HT_.out fun K hK => ?_
       refine value_ (w1 := ?_) (v := ?_) (by rfl) rfl ?_ ?_
       rotate_left 2
       ·go_simp
        constructor
        ·rfl
        ·rfl
       refine hK.out _ _ ⟨(bC (bA BK169.out _) 0).trans rfl, (bC (bA BK169.out _) 1).trans rfl, (bC (bA BK169.out _) 2).trans rfl, (bC (bA BK169.out _) 3).trans rfl, (bC (bA BK169.out _) 4).trans rfl, (bC (bA BK171.out _) 0).trans rfl, (bC (bA BK171.out _) 1).trans rfl, (bC (bA BK171.out _) 2).trans rfl, (bC (bA BK171.out _) 3).trans rfl, (bC (bA BK171.out _) 4).trans rfl⟩ fun hHeld => ?_; clear hK K
       refine nZ 19 ?_
       refine oN 5 20 (fB 8 63) HT_.out fun K hK => ?_
       obtain ⟨N_, T1_, T2_⟩ := TW.out
       refine Kd.S_append_step k29 (w0 := w) w.heap.size (by rfl) (.tmp 16) (.tmp 19) 27 29 (.agg #[(.int .i64 0), (.int .i64 0), (.string ⟨#[]⟩), (.string ⟨#[]⟩), (.slice none 0 0)]) 72 rfl Try.underlying27 info29 rfl (by decide) (by omega) u170004 x170004_1 (⟨t172, t173, t174, t175, t176⟩ : S29) [.int .i64 t172, .int .i64 t173, .string t174, .string t175, .slice Ao25 t176.length co25] (fun k_ => k_ ≠ gb167 ∧ k_ ≠ gb168 ∧ k_ ≠ gb169 ∧ k_ ≠ gb171) (fun k_ => (k_ ≠ gb167 ∧ k_ ≠ gb168 ∧ k_ ≠ gb169 ∧ k_ ≠ gb171) ∧ N_ ≤ k_) rfl rfl ?aP (fun k_ hk_ => ⟨hk_.1, fun e_ => Nat.lt_irrefl _ (Nat.lt_of_lt_of_le ((Kd.S_R T1_).1 k_ e_.symm).2 hk_.2)⟩) ?aF ?aO ?aB ?aS ?aL ?_
       (case aP => exact k29_mkM _ _ _ (⟨t172, t173, t174, t175, t176⟩ : S29) (Kd.S_mono T2_ (fun k_ hk => ⟨by simp [hk], hk.2⟩)))
       (case aB => exact (zL4 HB.out GE167.out GE168.out GE169.out GE171.out))
       (case aF => exact (fun k_ hk => ⟨Kd.freshB (g := gb167) (o := .cells #[.int .i64 a0_0, .int .i64 a0_1, .string a0_2, .string a0_3, .slice (some ad170) l0_4.length c0_4] 29 (0, 0)) (zB BK167.out) k_ hk, Kd.freshB (g := gb168) (o := .cells #[.int .i64 0, .int .i64 0, .string (⟨#[]⟩ : ByteArray), .string (⟨#[]⟩ : ByteArray), .slice none 0 0] 29 (0, 0)) (zB BK168.out) k_ hk, Kd.freshB (g := gb169) (o := .cells #[.int .i64 a0_0, .int .i64 a0_1, .string a0_2, .string a0_3, u170004] 29 (0, 0)) (zB BK169.out) k_ hk, Kd.freshB (g := gb171) (o := .cells #[.int .i64 ((rd_T29 l0_4 x11_1).f0), .int .i64 ((rd_T29 l0_4 x11_1).f1), .string ((rd_T29 l0_4 x11_1).f2), .string ((rd_T29 l0_4 x11_1).f3), .slice A170_4 ((rd_T29 l0_4 x11_1).f4).length c170_4] 29 (0, 0)) (zB BK171.out) k_ hk⟩))
       (case aO => exact (by (with_reducible repeat (first | apply Kd.S_alloc | apply Kd.S_drewN | apply Kd.S_drew)); exact Kd.S_mono T1_ (fun k_ hk => ⟨by simp [hk], fun e_ => Nat.not_le.2 hk.2 e_.2⟩)))
       (case aS => exact (below_size (zL4 HB.out GE167.out GE168.out GE169.out GE171.out)))
       (case aL => have := LMc15.out; omega)
       intro v180 w24 ho hb hg hat
       clear TW T1_ T2_
       rw [← Ny179.out] at ho
       replace BK167 := Aside0.mk (blk_grown (g := gb167) (o := .cells #[.int .i64 a0_0, .int .i64 a0_1, .string a0_2, .string a0_3, .slice (some ad170) l0_4.length c0_4] 29 (0, 0)) (zB BK167.out) hg (Kd.S_away HO_170004.out (fun _ hk => hk.1.1))); replace BK168 := Aside0.mk (blk_grown (g := gb168) (o := .cells #[.int .i64 0, .int .i64 0, .string (⟨#[]⟩ : ByteArray), .string (⟨#[]⟩ : ByteArray), .slice none 0 0] 29 (0, 0)) (zB BK168.out) hg (Kd.S_away HO_170004.out (fun _ hk => hk.1.2.1))); replace BK169 := Aside0.mk (blk_grown (g := gb169) (o := .cells #[.int .i64 a0_0, .int .i64 a0_1, .string a0_2, .string a0_3, u170004] 29 (0, 0)) (zB BK169.out) hg (Kd.S_away HO_170004.out (fun _ hk => hk.1.2.2.1))); replace BK171 := Aside0.mk (blk_grown (g := gb171) (o := .cells #[.int .i64 ((rd_T29 l0_4 x11_1).f0), .int .i64 ((rd_T29 l0_4 x11_1).f1), .string ((rd_T29 l0_4 x11_1).f2), .string ((rd_T29 l0_4 x11_1).f3), .slice A170_4 ((rd_T29 l0_4 x11_1).f4).length c170_4] 29 (0, 0)) (zB BK171.out) hg (Kd.S_away HO_170004.out (fun _ hk => hk.1.2.2.2))); replace HB := Aside0.mk hb; have HO181 := Aside0.mk (ho); clear HO_170004 HO178
       clear ho hb hg hat
       obtain ⟨Ao26, co26, eo26⟩ := Kd.S_slice HO181.out
       (first | subst eo26 | (injection eo26 with f1_ f2_ f3_; have f4_ := f1_.symm; have f5_ := f3_.symm; clear f1_ f2_ f3_; subst f4_; subst f5_))
       refine hK.out _ _ (zk5 BK169.out (zc5 BK171.out)) fun hHeld => ?_; clear hK K
       refine nZ 20 ?_
       refine pY 6 21 (fB 8 127) HT_.out ?_
       refine last_ (i := 7) (N := none) #[true, true, true, true, true, true, true, true] rfl rfl (one_of HT_.out (by kernel_rfl)) (by decide) (fun K hK => ?_)
       have hs27 : w24.cell? ⟨gb169, 4, none⟩ = some (u170004) := (bC BK169.out 4).trans rfl
       have hfs27 := blk_frozen BK169.out 4
       have hns27_0 := NB167_169.out
       have hns27_1 := NB168_169.out
       have hns27_3 := NB171_169.out
       have hms27_0 := NB169_167.out
       have hms27_1 := NB169_168.out
       have hms27_3 := NB169_171.out
       refine skip_ (w1 := ?_) (by rfl) rfl ?_ ?_
       rotate_left
       ·go_simp
        rfl
       refine hK.out _ _ ?_
       clear hK K
       refine done_ (done_of HT_.out (by kernel_rfl)) ?_
       try go_wp2
       go_roundg k1
       case measure => have := HK1.out; omega
       case rel => exact ⟨(wrap64 (x11_1 + 1)), (y179), (.slice Ao26 y179.length co26), zV, H', ⟨by have := HK1.out; omega⟩, ⟨by (with_reducible repeat (first | apply Kd.S_alloc | apply Kd.S_drewN | apply Kd.S_drew)); exact Kd.S_mono (Kd.S_far (p := ⟨gb169, 4, none⟩) (Kd.S_mono HO181.out (fun k_ hk => (⟨hk, hk.2.2.1⟩ : _ ∧ k_ ≠ gb169))) (fun _ hk => hk.2) (.slice Ao26 y179.length co26)) (fun _ hk => ⟨hk.1.1, ⟨hk.1.2.1, hk.1.2.2.1⟩⟩)⟩, ⟨by (with_reducible repeat (first | refine bN ?_ _ | refine bD ?_ | refine bA ?_ _)); refine blk_far ?_ NB167_169.out _; exact zB BK167.out⟩, ⟨by (with_reducible repeat (first | refine bN ?_ _ | refine bD ?_ | refine bA ?_ _)); refine blk_far ?_ NB168_169.out _; exact zB BK168.out⟩, ⟨by (with_reducible repeat (first | refine bN ?_ _ | refine bD ?_ | refine bA ?_ _)); refine blk_put (cs := #[.int .i64 a0_0, .int .i64 a0_1, .string a0_2, .string a0_3, u170004]) ?_ 4 _ rfl; exact zB BK169.out⟩, ⟨zL4 HB.out GE167.out GE168.out GE169.out GE171.out⟩⟩
      ·rw [if_neg c15] at H
       exact absurd H (by simp)
     ·rw [if_neg c13] at H
      exact absurd H (by simp)
    ·rw [if_neg c12] at H
     exact absurd H (by simp)
   ·rw [if_neg c11] at H
    have c11b0 := decide_eq_false c11
    clear c11
    simp only [Option.some.injEq, Prod.mk.injEq] at H
    obtain ⟨rfl, rfl, rfl, rfl, rfl⟩ := H
    have hnb28 := NB169_167.out
    have hnc28 := NB167_169.out
    have hnb29 := NB169_168.out
    have hnc29 := NB168_169.out
    have hcz30 := zc5 BK169.out
    have hfz30 := zf5 BK169.out
    have hnb31 := NB168_167.out
    have hnc31 := NB167_168.out
    have hcz32 := zc5 BK168.out
    have hfz32 := zf5 BK168.out
    obtain ⟨Ao33, co33, eo33⟩ := Kd.S_slice HO_170004.out
    subst eo33
    go_wp2
    refine bodyPost_ret (results_cell_row rfl _ _ gb168 29 #[.int .i64 a0_0, .int .i64 a0_1, .string a0_2, .string a0_3, .slice Ao33 x170004_1.length co33] (0, 0) _ rfl (by refine zB ?_; refine zp5 (cs := #[.int .i64 0, .int .i64 0, .string (⟨#[]⟩ : ByteArray), .string (⟨#[]⟩ : ByteArray), .slice none 0 0]) ?_; exact zB BK168.out) Try.underlying29 rfl (by kernel_rfl)) rfl ?_
    exact ⟨_, zW, by (with_reducible repeat (first | apply Kd.S_alloc | apply Kd.S_drewN | apply Kd.S_drew)); exact Kd.S_mono (zSF5 (Kd.S_mono HO_170004.out (fun k_ hk => (⟨hk, hk.2.1⟩ : _ ∧ k_ ≠ gb168))) gb168 (fun _ hk => hk.2) (.int .i64 a0_0) (.int .i64 a0_1) (.string a0_2) (.string a0_3) (.slice Ao33 x170004_1.length co33)) (fun _ hk => trivial), zL3 HB.out GE167.out GE168.out GE169.out⟩

open Go.Proofs.YtfhblnbicnmndaaW.PrintWords renaming blk_drewN → bN, blk_drew → bD, blk_alloc → bA, blk_cell → bC, blk_below → bB, below_set → bS
/-! ### impl_Opposite: function 28 -/
def impl_Opposite.j0 : Nat → Bool → Int → Int → ByteArray → ByteArray → List (S29) → Option (Int × Int × ByteArray × ByteArray × (List (S29)))
 | 0, _, _, _, _, _, _ => none
 | k + 1, x11, x183000, x183001, x183002, x183003, x183004 => if x11 = true then (if 0 < (x183004.length : Int) then ((impl_copyPol.f k ((rd_T29 x183004 0).f0) ((rd_T29 x183004 0).f1) ((rd_T29 x183004 0).f2) ((rd_T29 x183004 0).f3) ((rd_T29 x183004 0).f4)).bind fun bt185 => (some (bt185.1, bt185.2.1, bt185.2.2.1, bt185.2.2.2.1, bt185.2.2.2.2))) else (none)) else ((impl_copyPol.f k x183000 x183001 x183002 x183003 x183004).bind fun bt192 => (some (9, 0, (⟨#[]⟩ : ByteArray), (⟨#[]⟩ : ByteArray), (([(⟨bt192.1, bt192.2.1, bt192.2.2.1, bt192.2.2.2.1, bt192.2.2.2.2⟩ : S29)] : List (S29))))))
def impl_Opposite.f (k : Nat) (a0_0 : Int) (a0_1 : Int) (a0_2 : ByteArray) (a0_3 : ByteArray) (l0_4 : List (S29)) : Option (Int × Int × ByteArray × ByteArray × (List (S29))) := if a0_0 = 9 then (impl_Opposite.j0 k ((l0_4.length : Int) == 1) a0_0 a0_1 a0_2 a0_3 l0_4) else (impl_Opposite.j0 k false a0_0 a0_1 a0_2 a0_3 l0_4)
theorem impl_Opposite.mono_l : ∀ k, (∀ y0 y1 y2 y3 y4 y5, LeO (impl_Opposite.j0 k y0 y1 y2 y3 y4 y5) (impl_Opposite.j0 (k + 1) y0 y1 y2 y3 y4 y5))
 | 0 => fun _ _ _ _ _ _ r h => by simp [impl_Opposite.j0] at h
 | k + 1 => by
  have ih0 := impl_Opposite.mono_l k
  ·intro y0 y1 y2 y3 y4 y5
   unfold impl_Opposite.j0
   repeat' first
   | (with_reducible exact ih0 _ _ _ _ _ _)
   | (with_reducible apply impl_copyPol.mono)
   | (with_reducible exact LeO.refl _)
   | (with_reducible exact LeO.none _)
   | (with_reducible refine LeO.ite ?_ ?_)
   | (with_reducible refine LeO.bind ?_ (fun _ => ?_))
   | exact ih0 _ _ _ _ _ _
   | apply impl_copyPol.mono
   | exact LeO.none _
   | refine LeO.ite ?_ ?_
   | refine LeO.bind ?_ (fun _ => ?_)
theorem impl_Opposite.mono : ∀ a0 a1 a2 a3 a4 k, LeO (impl_Opposite.f k a0 a1 a2 a3 a4) (impl_Opposite.f (k + 1) a0 a1 a2 a3 a4) := by
 intro a0 a1 a2 a3 a4 k
 have ih0 := impl_Opposite.mono_l k
 unfold impl_Opposite.f
 repeat' first
   | (with_reducible exact ih0 _ _ _ _ _ _)
   | (with_reducible apply impl_copyPol.mono)
   | (with_reducible exact LeO.refl _)
   | (with_reducible exact LeO.none _)
   | (with_reducible refine LeO.ite ?_ ?_)
   | (with_reducible refine LeO.bind ?_ (fun _ => ?_))
   | exact ih0 _ _ _ _ _ _
   | apply impl_copyPol.mono
   | exact LeO.none _
   | refine LeO.ite ?_ ?_
   | refine LeO.bind ?_ (fun _ => ?_)
set_option maxHeartbeats 8000000 in
set_option maxRecDepth 100000 in
theorem impl_Opposite.calls (k : Nat) (a0_0 : Int) (a0_1 : Int) (a0_2 : ByteArray) (a0_3 : ByteArray) (A0_4 : Option Addr) (c0_4 : Nat) (l0_4 : List (S29)) (r1 : Int) (r2 : Int) (r3 : ByteArray) (r4 : ByteArray) (r5 : List (S29)) (w : World) (hr0_4 : Kd.C k29 w A0_4 l0_4.length l0_4) (hc0_4 : l0_4.length ≤ c0_4) (h : impl_Opposite.f k a0_0 a0_1 a0_2 a0_3 l0_4 = some (r1, r2, r3, r4, r5)) :
  Calls Try.prog 28 #[.agg #[.int .i64 a0_0, .int .i64 a0_1, .string a0_2, .string a0_3, .slice A0_4 l0_4.length c0_4]] w fun e w' => ∃ v4_ : Value, e = .returned (.agg #[.int .i64 r1, .int .i64 r2, .string r3, .string r4, v4_]) ∧ Kd.S k29 29 w' w.heap.size (fun k_ => (w.heap.size ≤ k_)) v4_ r5 ∧ Below w.heap.size w w' := by
 have hu29 := Try.underlying29
 have HR0_4 := Aside0.mk hr0_4
 have HC0_4 := Aside0.mk hc0_4
 clear hr0_4 hc0_4
 have HB := Aside0.mk (Below.refl w.heap.size w)
 unfold impl_Opposite.f at h; have H := h
 clear h
 have HC2 := Aside0.mk H
 clear H
 go_enter Try.func28, Try.ntmps28
 go_upto_region 1 with (first | ((with_reducible refine gD 1 rfl ?_); (try (refine gate_guard (by rfl) ?_; dsimp only)); refine box_event ?hg (N := 1) ?hd (cs := #[.int .i64 a0_0, .int .i64 a0_1, .string a0_2, .string a0_3, .slice A0_4 l0_4.length c0_4]) (t := 29) ?hr ?_; (case hd => rfl); (case hg => rfl); (case hr => first | (go_simp; done) | (go_simp; rfl)); intro gb182 hg w3 hbox hb; have BK182 := Aside0.mk hbox; have GW182 := Aside0.mk (zg (zL HB.out) hg : w.heap.size ≤ gb182); have GE182 := GW182; replace HB := zLB (zL HB.out) hb; clear hb hbox hg) | ((with_reducible refine gD 2 rfl ?_); (try (refine gate_guard (by rfl) ?_; dsimp only)); refine box_event ?hg (N := 2) ?hd (cs := #[.int .i64 0, .int .i64 0, .string (⟨#[]⟩ : ByteArray), .string (⟨#[]⟩ : ByteArray), .slice none 0 0]) (t := 29) ?hr ?_; (case hd => rfl); (case hg => rfl); (case hr => first | (go_simp; done) | (go_simp; rfl)); intro gb183 hg w4 hbox hb; have BK183 := Aside0.mk hbox; have GW183 := Aside0.mk (zg (zL1 HB.out GE182.out) hg : w.heap.size ≤ gb183); have GE183 := GW183; replace HB := zLB (zL1 HB.out GE182.out) hb; have NB182_183 := Aside0.mk (zN BK182.out hg : gb182 ≠ gb183); have NB183_182 := Aside0.mk (zM BK182.out hg : gb183 ≠ gb182); replace BK182 := zBB BK182 hb; clear hb hbox hg))
 (try simp only [Act.put, List.setIfInBounds_toArray, List.set_cons_zero, List.set_cons_succ])
 go_cut [11] (fun v11 wc => ∃ (kq : Nat) (x11_1 : Bool), v11 = .bool x11_1 ∧ Aside0 (impl_Opposite.j0 kq x11_1 a0_0 a0_1 a0_2 a0_3 l0_4 = some (r1, r2, r3, r4, r5)) ∧ Aside0 (kq ≤ k) ∧ Aside0 (wc.heap[gb182]? = some (.cells #[.int .i64 a0_0, .int .i64 a0_1, .string a0_2, .string a0_3, (.slice A0_4 l0_4.length c0_4)] 29 (0, 0))) ∧ Aside0 (wc.heap[gb183]? = some (.cells #[.int .i64 0, .int .i64 0, .string (⟨#[]⟩ : ByteArray), .string (⟨#[]⟩ : ByteArray), (.slice none 0 0)] 29 (0, 0))) ∧ Aside0 (Below w.heap.size w wc))
 case first =>
  have H := HC2.out
  clear HC2
  by_cases c5 : a0_0 = 9
  ·rw [if_pos c5] at H
   obtain ⟨c5b0, c5b1⟩ := zt c5
   clear c5
   (first | rw [c5b0] | (simp only [i64_w, i32_w]; rw [c5b0]) | skip)
   have H' := Aside0.mk H
   clear H
   have hnb6 := NB182_183.out
   have hnc6 := NB183_182.out
   have hcz7 := zc5 BK182.out
   have hfz7 := zf5 BK182.out
   go_wp2
   go_meet
   case rel => exact ⟨_, (((l0_4.length : Int) == 1)), zV, H', ⟨by first | omega | exact Nat.le_refl _⟩, ⟨zB BK182.out⟩, ⟨zB BK183.out⟩, ⟨zL2 HB.out GE182.out GE183.out⟩⟩
  ·rw [if_neg c5] at H
   obtain ⟨c5b0, c5b1⟩ := zf c5
   (first | rw [c5b0] | (simp only [i64_w, i32_w]; rw [c5b0]) | skip)
   have H' := Aside0.mk H
   clear H
   have hnb8 := NB182_183.out
   have hnc8 := NB183_182.out
   have hcz9 := zc5 BK182.out
   have hfz9 := zf5 BK182.out
   go_wp2
   go_meet
   case rel => exact ⟨_, (false), zV, H', ⟨by first | omega | exact Nat.le_refl _⟩, ⟨zB BK182.out⟩, ⟨zB BK183.out⟩, ⟨zL2 HB.out GE182.out GE183.out⟩⟩
 case rest =>
  clear HC2
  try clear c2
  try clear p2
  try clear c5
  try clear c5b0
  try clear c5b1
  try clear c6
  try clear c8
  try clear hcz7; try clear hcz9; try clear hfz7; try clear hfz9
  obtain ⟨kq, x11_1, rfl, HA, HJ1, BK182, BK183, HB⟩ := hcut
  cases kq with
  | zero => exact absurd HA.out (by simp [impl_Opposite.j0])
  | succ kj1 =>
   have H := HA.out
   clear HA
   simp only [impl_Opposite.j0] at H
   by_cases c10 : x11_1 = true
   ·subst c10
    rw [if_pos rfl] at H
    by_cases c11 : 0 < (l0_4.length : Int)
    ·rw [if_pos c11] at H
     have c11b0 := decide_eq_true c11
     have c11b1 : decide (0 < l0_4.length) = true := decide_eq_true (by omega)
     clear c11
     obtain ⟨⟨t185, t186, t187, t188, t189⟩, A12, H⟩ := zO H; try dsimp only at H
     simp only [Option.some.injEq, Prod.mk.injEq] at H
     obtain ⟨rfl, rfl, rfl, rfl, rfl⟩ := H
     have hnb13 := NB182_183.out
     have hnc13 := NB183_182.out
     have hcz14 := zc5 BK182.out
     have hfz14 := zf5 BK182.out
     have p184 : 0 ≤ (0 : Int) := (by omega)
     have q184 : 0 < (l0_4.length : Int) := zD
     obtain ⟨ad184, A184_4, c184_4, e184, hx184_0, hx184_1, hx184_2, hx184_3, hx184_4, hl184_4, hi184_4⟩ := at_T29 HR0_4.out 0 p184 q184
     cases e184
     have qi184 : (0 < l0_4.length) = True := eq_true (by omega)
     (try rw [show ((0 : Int)).toNat = 0 from rfl] at hx184_0)
     (try rw [show 0 * 5 = 0 from rfl] at hx184_0)
     (try rw [Addr.add_zero'] at hx184_0)
     (try rw [show ((0 : Int)).toNat = 0 from rfl] at hx184_1)
     (try rw [show 0 * 5 = 0 from rfl] at hx184_1)
     (try rw [Addr.add_zero'] at hx184_1)
     (try rw [show ((0 : Int)).toNat = 0 from rfl] at hx184_2)
     (try rw [show 0 * 5 = 0 from rfl] at hx184_2)
     (try rw [Addr.add_zero'] at hx184_2)
     (try rw [show ((0 : Int)).toNat = 0 from rfl] at hx184_3)
     (try rw [show 0 * 5 = 0 from rfl] at hx184_3)
     (try rw [Addr.add_zero'] at hx184_3)
     (try rw [show ((0 : Int)).toNat = 0 from rfl] at hx184_4)
     (try rw [show 0 * 5 = 0 from rfl] at hx184_4)
     (try rw [Addr.add_zero'] at hx184_4)
     replace hx184_0 := zh HB.out hx184_0
     replace hx184_1 := zh HB.out hx184_1
     replace hx184_2 := zh HB.out hx184_2
     replace hx184_3 := zh HB.out hx184_3
     replace hx184_4 := zh HB.out hx184_4
     have HR184_4 := Aside0.mk hi184_4
     have HC184_4 := Aside0.mk hl184_4
     clear hi184_4 hl184_4
     replace p184 := eq_true p184
     replace q184 := eq_true q184
     go_wp2_with (first | ((with_reducible refine gC 55 rfl ?_); refine gL 16 Try.func55 #[.agg #[.int .i64 ((rd_T29 l0_4 0).f0), .int .i64 ((rd_T29 l0_4 0).f1), .string ((rd_T29 l0_4 0).f2), .string ((rd_T29 l0_4 0).f3), .slice A184_4 ((rd_T29 l0_4 0).f4).length c184_4]] ?_; (with_reducible refine (impl_copyPol.calls kj1 ((rd_T29 l0_4 0).f0) ((rd_T29 l0_4 0).f1) ((rd_T29 l0_4 0).f2) ((rd_T29 l0_4 0).f3) _ _ ((rd_T29 l0_4 0).f4) t185 t186 t187 t188 t189 _ ?side1 ?side2 A12.out).mono ?_); (case side1 => exact zC (Kd.C_below HR184_4.out HB.out)); (case side2 => exact HC184_4.out); rintro e w15 ⟨v190, rfl, ho0, hb⟩; refine ⟨_, rfl, ?_⟩; have HO191 := Aside0.mk (Kd.S_lower (Kd.S_mono (ok' := fun k_ => (w.heap.size ≤ k_) ∧ k_ ≠ gb182 ∧ k_ ≠ gb183) (Kd.S_bound ho0) (fun k_ hk_ => ⟨(Nat.le_trans (below_size (zL2 HB.out GE182.out GE183.out)) hk_.2.1), (Kd.freshB (g := gb182) (o := .cells #[.int .i64 a0_0, .int .i64 a0_1, .string a0_2, .string a0_3, .slice (some ad184) l0_4.length c0_4] 29 (0, 0)) (zB BK182.out) k_ hk_.2.1), (Kd.freshB (g := gb183) (o := .cells #[.int .i64 0, .int .i64 0, .string (⟨#[]⟩ : ByteArray), .string (⟨#[]⟩ : ByteArray), .slice none 0 0] 29 (0, 0)) (zB BK183.out) k_ hk_.2.1)⟩)) (below_size (zL2 HB.out GE182.out GE183.out))); replace BK182 := zBB BK182 hb; replace BK183 := zBB BK183 hb; replace HB := zLB (zL2 HB.out GE182.out GE183.out) hb; clear ho0 hb; have hcz16 := zc5 BK183.out; have hfz16 := zf5 BK183.out; obtain ⟨Ao17, co17, eo17⟩ := Kd.S_slice HO191.out; subst eo17))
     refine bodyPost_ret (results_cell_row rfl _ _ gb183 29 #[.int .i64 t185, .int .i64 t186, .string t187, .string t188, .slice Ao17 t189.length co17] (0, 0) _ rfl (by refine zB ?_; refine zp5 (cs := #[.int .i64 0, .int .i64 0, .string (⟨#[]⟩ : ByteArray), .string (⟨#[]⟩ : ByteArray), .slice none 0 0]) ?_; exact zB BK183.out) Try.underlying29 rfl (by kernel_rfl)) rfl ?_
     exact ⟨_, zW, by (with_reducible repeat (first | apply Kd.S_alloc | apply Kd.S_drewN | apply Kd.S_drew)); exact Kd.S_mono (zSF5 (Kd.S_mono HO191.out (fun k_ hk => (⟨hk, hk.2.2⟩ : _ ∧ k_ ≠ gb183))) gb183 (fun _ hk => hk.2) (.int .i64 t185) (.int .i64 t186) (.string t187) (.string t188) (.slice Ao17 t189.length co17)) (fun _ hk => hk.1.1), zL2 HB.out GE182.out GE183.out⟩
    ·rw [if_neg c11] at H
     exact absurd H (by simp)
   ·obtain rfl := Bool.eq_false_iff.mpr c10
    rw [if_neg zn] at H
    obtain ⟨⟨t192, t193, t194, t195, t196⟩, A18, H⟩ := zO H; try dsimp only at H
    generalize hy199 : (([(⟨t192, t193, t194, t195, t196⟩ : S29)] : List (S29))) = y199 at H; (try rw [Option.bind_some] at H); have Ny199 := Aside0.mk hy199.symm; clear hy199
    simp only [Option.some.injEq, Prod.mk.injEq] at H
    obtain ⟨rfl, rfl, rfl, rfl, rfl⟩ := H
    have hnb19 := NB182_183.out
    have hnc19 := NB183_182.out
    have hcz20 := zc5 BK182.out
    have hfz20 := zf5 BK182.out
    go_wp2_with (first | ((with_reducible refine gC 55 rfl ?_); refine gL 18 Try.func55 #[.agg #[.int .i64 a0_0, .int .i64 a0_1, .string a0_2, .string a0_3, .slice A0_4 l0_4.length c0_4]] ?_; (with_reducible refine (impl_copyPol.calls kj1 a0_0 a0_1 a0_2 a0_3 _ _ l0_4 t192 t193 t194 t195 t196 _ ?side1 ?side2 A18.out).mono ?_); (case side1 => exact zC (Kd.C_below HR0_4.out HB.out)); (case side2 => exact HC0_4.out); rintro e w21 ⟨v197, rfl, ho0, hb⟩; refine ⟨_, rfl, ?_⟩; have HO198 := Aside0.mk (Kd.S_lower (Kd.S_mono (ok' := fun k_ => (w.heap.size ≤ k_) ∧ k_ ≠ gb182 ∧ k_ ≠ gb183) (Kd.S_bound ho0) (fun k_ hk_ => ⟨(Nat.le_trans (below_size (zL2 HB.out GE182.out GE183.out)) hk_.2.1), (Kd.freshB (g := gb182) (o := .cells #[.int .i64 a0_0, .int .i64 a0_1, .string a0_2, .string a0_3, .slice A0_4 l0_4.length c0_4] 29 (0, 0)) (zB BK182.out) k_ hk_.2.1), (Kd.freshB (g := gb183) (o := .cells #[.int .i64 0, .int .i64 0, .string (⟨#[]⟩ : ByteArray), .string (⟨#[]⟩ : ByteArray), .slice none 0 0] 29 (0, 0)) (zB BK183.out) k_ hk_.2.1)⟩)) (below_size (zL2 HB.out GE182.out GE183.out))); replace BK182 := zBB BK182 hb; replace BK183 := zBB BK183 hb; replace HB := zLB (zL2 HB.out GE182.out GE183.out) hb; clear ho0 hb; obtain ⟨Ao22, co22, eo22⟩ := Kd.S_slice HO198.out; subst eo22) | ((with_reducible refine gD 19 rfl ?_); (try (refine gate_guard (by rfl) ?_; dsimp only)); refine S_lit1 k29 w.heap.size 29 ?hg (N' := 19) ?hd (xs := ([(⟨t192, t193, t194, t195, t196⟩ : S29)] : List (S29))) (inner := [.int .i64 t192, .int .i64 t193, .string t194, .string t195, .slice Ao22 t196.length co22]) (ok := (fun k_ => (w.heap.size ≤ k_) ∧ k_ ≠ gb182 ∧ k_ ≠ gb183)) (okp := (fun k_ => (w.heap.size ≤ k_) ∧ k_ ≠ gb182 ∧ k_ ≠ gb183)) ?hr ?hp (fun _ hk => hk) ((show ∀ k_, w21.heap.size ≤ k_ → (fun k_ => (w.heap.size ≤ k_) ∧ k_ ≠ gb182 ∧ k_ ≠ gb183) k_ from fun k_ hk => ⟨(Nat.le_trans (below_size (zL2 HB.out GE182.out GE183.out)) hk), Kd.freshB (g := gb182) (o := .cells #[.int .i64 a0_0, .int .i64 a0_1, .string a0_2, .string a0_3, .slice A0_4 l0_4.length c0_4] 29 (0, 0)) (zB BK182.out) k_ hk, Kd.freshB (g := gb183) (o := .cells #[.int .i64 0, .int .i64 0, .string (⟨#[]⟩ : ByteArray), .string (⟨#[]⟩ : ByteArray), .slice none 0 0] 29 (0, 0)) (zB BK183.out) k_ hk⟩) _ (Nat.le_refl _)) (zL2 HB.out GE182.out GE183.out) (below_size (zL2 HB.out GE182.out GE183.out)) (by simp) ?_; (case hd => rfl); (case hg => rfl); (case hr => first | (go_simp; done) | (go_simp; rfl)); (case hp => exact (show k29.M _ _ _ (⟨t192, t193, t194, t195, t196⟩ : S29) [.int .i64 t192, .int .i64 t193, .string t194, .string t195, .slice Ao22 t196.length co22] from k29_mkM _ _ _ (⟨t192, t193, t194, t195, t196⟩ : S29) (Kd.S_mono (ok' := (fun k_ => (w.heap.size ≤ k_) ∧ k_ ≠ gb182 ∧ k_ ≠ gb183)) (HO198.out) (fun k_ hk => ⟨hk.1, ⟨hk.2.1, hk.2.2⟩⟩)))); intro v200 w23 ho24 hb hg_ hnew_; clear hg_ hnew_; (first | rw [← Ny199.out] at ho24 | (simp only [Int.reduceToNat] at ho24; rw [← Ny199.out] at ho24)); have HO201 := Aside0.mk (ho24); replace BK182 := zBB BK182 hb; replace BK183 := zBB BK183 hb; replace HB := zLB (zL2 HB.out GE182.out GE183.out) hb; clear HO198; clear hb ho24; obtain ⟨Ao25, co25, eo25⟩ := Kd.S_slice HO201.out; subst eo25; have hcz26 := zc5 BK183.out; have hfz26 := zf5 BK183.out))
    refine bodyPost_ret (results_cell_row rfl _ _ gb183 29 #[.int .i64 9, .int .i64 0, .string (⟨#[]⟩ : ByteArray), .string (⟨#[]⟩ : ByteArray), .slice Ao25 y199.length co25] (0, 0) _ rfl (by refine zB ?_; refine zp5 (cs := #[.int .i64 0, .int .i64 0, .string (⟨#[]⟩ : ByteArray), .string (⟨#[]⟩ : ByteArray), .slice none 0 0]) ?_; exact zB BK183.out) Try.underlying29 rfl (by kernel_rfl)) rfl ?_
    exact ⟨_, zW, by (with_reducible repeat (first | apply Kd.S_alloc | apply Kd.S_drewN | apply Kd.S_drew)); exact Kd.S_mono (zSF5 (Kd.S_mono HO201.out (fun k_ hk => (⟨hk, hk.2.2⟩ : _ ∧ k_ ≠ gb183))) gb183 (fun _ hk => hk.2) (.int .i64 9) (.int .i64 0) (.string (⟨#[]⟩ : ByteArray)) (.string (⟨#[]⟩ : ByteArray)) (.slice Ao25 y199.length co25)) (fun _ hk => hk.1.1), zL2 HB.out GE182.out GE183.out⟩

open Go.Proofs.YtfhblnbicnmndaaW.PrintWords renaming blk_drewN → bN, blk_drew → bD, blk_alloc → bA, blk_cell → bC, blk_below → bB, below_set → bS
/-! ### laws_markText: function 82 -/
def laws_markText.l0 : Nat → Int → ByteArray → Option (ByteArray)
 | 0, _, _ => none
 | k + 1, x0, x3 => if x0 > 0 then ((some (([(wrap64 (48 + (Int.tmod x0 10))) % 256] : List Int) : List Int)).bind fun y202 => (if (strOfNums y202).size + x3.size ≤ 9223372036854775807 then (laws_markText.l0 k (wrap64 (Int.tdiv x0 10)) ((strOfNums y202) ++ x3)) else (none))) else (if 1 + x3.size ≤ 9223372036854775807 then (some ((⟨#[109]⟩ : ByteArray) ++ x3)) else (none))
def laws_markText.f (k : Nat) (a0 : Int) : Option (ByteArray) := if a0 ≤ 0 then (some (⟨#[109, 48]⟩ : ByteArray)) else (laws_markText.l0 k a0 (⟨#[]⟩ : ByteArray))
theorem laws_markText.mono_l : ∀ k, (∀ y0 y1, LeO (laws_markText.l0 k y0 y1) (laws_markText.l0 (k + 1) y0 y1))
 | 0 => fun _ _ r h => by simp [laws_markText.l0] at h
 | k + 1 => by
  have ih0 := laws_markText.mono_l k
  ·intro y0 y1
   unfold laws_markText.l0
   repeat' first
   | (with_reducible exact ih0 _ _)
   | (with_reducible exact LeO.refl _)
   | (with_reducible exact LeO.none _)
   | (with_reducible refine LeO.ite ?_ ?_)
   | (with_reducible refine LeO.bind ?_ (fun _ => ?_))
   | exact ih0 _ _
   | exact LeO.none _
   | refine LeO.ite ?_ ?_
   | refine LeO.bind ?_ (fun _ => ?_)
theorem laws_markText.mono : ∀ a0 k, LeO (laws_markText.f k a0) (laws_markText.f (k + 1) a0) := by
 intro a0 k
 have ih0 := laws_markText.mono_l k
 unfold laws_markText.f
 repeat' first
   | (with_reducible exact ih0 _ _)
   | (with_reducible exact LeO.refl _)
   | (with_reducible exact LeO.none _)
   | (with_reducible refine LeO.ite ?_ ?_)
   | (with_reducible refine LeO.bind ?_ (fun _ => ?_))
   | exact ih0 _ _
   | exact LeO.none _
   | refine LeO.ite ?_ ?_
   | refine LeO.bind ?_ (fun _ => ?_)
set_option maxHeartbeats 8000000 in
set_option maxRecDepth 100000 in
theorem laws_markText.calls (k : Nat) (a0 : Int) (r : ByteArray) (w : World) (h : laws_markText.f k a0 = some r) :
  Calls Try.prog 82 #[.int .i64 a0] w fun e w' => e = .returned (.string r) ∧ Below w.heap.size w w' := by
 have HB := Aside0.mk (Below.refl w.heap.size w)
 unfold laws_markText.f at h; have H := h
 clear h
 by_cases c2 : a0 ≤ 0
 ·rw [if_pos c2] at H
  have c2b0 := decide_eq_true c2
  clear c2
  obtain rfl := Option.some.inj H
  go_enter Try.func82, Try.ntmps82
  go_wp2
  go_ret
  exact ⟨zW, zL HB.out⟩
 ·rw [if_neg c2] at H
  have c2b0 := decide_eq_false c2
  clear c2
  have H' := Aside0.mk H
  clear H
  go_enter Try.func82, Try.ntmps82
  go_wp2
  go_loopg [0, 3] k (fun kq v0 v3 w' => ∃ (x0_1 : Int) (x3_1 : ByteArray), v0 = .int .i64 x0_1 ∧ v3 = .string x3_1 ∧ Aside0 (laws_markText.l0 kq x0_1 x3_1 = some r) ∧ Aside0 (kq ≤ k) ∧ Aside0 (Below w.heap.size w w'))
  case atStart => exact ⟨(a0), ((⟨#[]⟩ : ByteArray)), zV, zV, H', ⟨Nat.le_refl _⟩, ⟨zL HB.out⟩⟩
  case round =>
   clear H'
   try clear c2
   try clear c2b0
   try clear p2
   obtain ⟨x0_1, x3_1, rfl, rfl, HA, HK1, HB⟩ := hrel
   cases gk with
   | zero => exact absurd HA.out (by simp [laws_markText.l0])
   | succ k1 =>
    have H := HA.out
    clear HA
    simp only [laws_markText.l0] at H
    by_cases c3 : x0_1 > 0
    ·rw [if_pos c3] at H
     have c3b0 := decide_eq_true c3
     clear c3
     generalize hy202 : (([(wrap64 (48 + (Int.tmod x0_1 10))) % 256] : List Int)) = y202 at H; (try rw [Option.bind_some] at H); have Ny202 := Aside0.mk hy202.symm; clear hy202
     by_cases c4 : (strOfNums y202).size + x3_1.size ≤ 9223372036854775807
     ·rw [if_pos c4] at H
      have c4b0 := eq_true c4
      have c4b1 := decide_eq_true c4
      have c4b2 := eq_false (Nat.not_lt.2 c4)
      have H' := Aside0.mk H
      clear H
      go_wp2_with (first | ((with_reducible refine gD 12 rfl ?_); refine Kd.R_lit (Kd.int .u8) _ 5 ?hg (N := 12) ?hd (xs := ([(wrap64 (48 + (Int.tmod x0_1 10))) % 256] : List Int)) (inner := [.int .u8 ((wrap64 (48 + (Int.tmod x0_1 10))) % 256)]) (ok := fun _ => True) (okp := fun _ => True) ?hr ?hp (fun _ hk => hk) trivial (Below.refl _ _) (Nat.le_refl _) (by simp) ?_; (case hd => rfl); (case hg => rfl); (case hr => first | (go_simp; done) | (go_simp; rfl)); (case hp => exact zhp); intro v203 w5 ho6 hb hg_ hnew_; clear hg_ hnew_; (first | rw [← Ny202.out] at ho6 | (simp only [Int.reduceToNat] at ho6; rw [← Ny202.out] at ho6)); have HO204 := Aside0.mk (Kd.R_lower ho6 (below_size (zL HB.out))); replace HB := zLB (zL HB.out) hb; clear hb ho6; have hcv7 := own_string (P := Try.prog) Try.underlying56 Try.underlying5 Try.underlying9 (Kd.own_of_R HO204.out)))
      go_roundg k1
      case measure => have := HK1.out; omega
      case rel => exact ⟨(wrap64 (Int.tdiv x0_1 10)), ((strOfNums y202) ++ x3_1), zV, zV, H', ⟨by have := HK1.out; omega⟩, ⟨zL HB.out⟩⟩
     ·rw [if_neg c4] at H
      exact absurd H (by simp)
    ·rw [if_neg c3] at H
     have c3b0 := decide_eq_false c3
     clear c3
     by_cases c8 : 1 + x3_1.size ≤ 9223372036854775807
     ·rw [if_pos c8] at H
      have c8b0 := eq_true c8
      have c8b1 := decide_eq_true c8
      have c8b2 := eq_false (Nat.not_lt.2 c8)
      obtain rfl := Option.some.inj H
      go_wp2
      go_ret
      exact ⟨zW, zL HB.out⟩
     ·rw [if_neg c8] at H
      exact absurd H (by simp)

/-! ### laws_markPolS: function 56, by hand -/
/-! ### marks on a tree whose rows lie apart (by hand): an element is lent, its cells are written, its rows are marked -/
theorem H_cells {α : Type} {d : Kd α} {e g n cap : Nat} {W : World} {base : Nat} {ok oki : Nat → Prop} {xs : List α} {i : Int} {c : List Value} (z : α) (h : Kd.H d e W base ok (.slice (some ⟨g, 0, none⟩) n cap) xs i oki c) (h0 : 0 ≤ i) (h1 : i < n) :
    (∀ j u, c[j]? = some u → W.cell? ⟨g, i.toNat * d.sz + j, none⟩ = some u) ∧ ∀ j, W.frozen? ⟨g, i.toNat * d.sz + j, none⟩ = false := by
  obtain ⟨_, _, _, _, _, hcc, _⟩ := Kd.H_raw h h0 h1
  obtain ⟨_, f, hR⟩ := h
  obtain ⟨_, _, _, _, hfr⟩ := Kd.R_elem hR (z, 0) i h0 h1
  exact ⟨hcc, hfr⟩
def Hole (w0 w : World) (P0 : Nat → Prop) (g n cap : Nat) (xs : List S29) (i : Int) (oki : Nat → Prop) (u0 u1 u2 u3 v4 : Value) (l4 : List S29) (wr : World) : Prop :=
  (Kd.H k29 29 wr w0.heap.size P0 (.slice (some ⟨g, 0, none⟩) n cap) xs i oki [u0, u1, u2, u3, v4] ∧ k29.S 29 wr w0.heap.size oki v4 l4) ∧ Kept w wr P0 ∧ Below w0.heap.size w0 wr ∧ (0 ≤ i ∧ i < (n : Int)) ∧ w0.heap.size ≤ g ∧ P0 g ∧ ∀ k_, oki k_ → k_ ≠ g
section
variable {w0 w wr w1 : World} {P0 oki : Nat → Prop} {g n cap : Nat} {xs : List S29} {i : Int} {u u0 u1 u2 u3 v4 : Value} {l4 l5 : List S29}
theorem Hole.start (hS : k29.S 29 wr w0.heap.size P0 (.slice (some ⟨g, 0, none⟩) n cap) xs) (hk : Kept w wr P0) (hb : Below w0.heap.size w0 wr) (h0 : 0 ≤ i) (h1 : i < (n : Int)) :
    ∃ oki v4, Hole w0 w P0 g n cap xs i oki (.int .i64 (rd_T29 xs i).f0) (.int .i64 (rd_T29 xs i).f1) (.string (rd_T29 xs i).f2) (.string (rd_T29 xs i).f3) v4 (rd_T29 xs i).f4 wr := by
  obtain ⟨oki, c, hcl, hM, hcc, hoki, hH⟩ := Kd.S_lend hS z29 i h0 h1
  obtain ⟨v4, rfl, g4⟩ := k29_openM hM
  exact ⟨oki, v4, ⟨hH, g4⟩, hk, hb, ⟨h0, h1⟩, Kd.S_base hS g (by simp [Value.ownBlock]), (Kd.S_R hS).1 g (by simp [Value.ownBlock]), fun k_ hk_ => (hoki k_ hk_).2⟩
theorem Hole.cells (h : Hole w0 w P0 g n cap xs i oki u0 u1 u2 u3 v4 l4 wr) :
    (wr.cell? ⟨g, i.toNat * 5, none⟩ = some u0 ∧ wr.cell? ⟨g, i.toNat * 5 + 1, none⟩ = some u1 ∧ wr.cell? ⟨g, i.toNat * 5 + 2, none⟩ = some u2 ∧ wr.cell? ⟨g, i.toNat * 5 + 3, none⟩ = some u3 ∧ wr.cell? ⟨g, i.toNat * 5 + 4, none⟩ = some v4) ∧
    wr.frozen? ⟨g, i.toNat * 5, none⟩ = false ∧ wr.frozen? ⟨g, i.toNat * 5 + 1, none⟩ = false ∧ wr.frozen? ⟨g, i.toNat * 5 + 2, none⟩ = false ∧ wr.frozen? ⟨g, i.toNat * 5 + 3, none⟩ = false ∧ wr.frozen? ⟨g, i.toNat * 5 + 4, none⟩ = false := by
  obtain ⟨hc, hf⟩ := H_cells z29 h.1.1 h.2.2.2.1.1 h.2.2.2.1.2
  exact ⟨⟨hc 0 _ rfl, hc 1 _ rfl, hc 2 _ rfl, hc 3 _ rfl, hc 4 _ rfl⟩, hf 0, hf 1, hf 2, hf 3, hf 4⟩
theorem Hole.below (h : Hole w0 w P0 g n cap xs i oki u0 u1 u2 u3 v4 l4 wr) (hb : Below wr.heap.size wr w1) : Hole w0 w P0 g n cap xs i oki u0 u1 u2 u3 v4 l4 w1 :=
  ⟨⟨Kd.H_below h.1.1 hb, Kd.S_below h.1.2 hb⟩, h.2.1.below hb, below_step h.2.2.1 hb, h.2.2.2⟩
theorem Hole.set0 (h : Hole w0 w P0 g n cap xs i oki u0 u1 u2 u3 v4 l4 wr) (hw : w1 = wr.setCell ⟨g, i.toNat * 5, none⟩ u) (hu : u.oneCell' = true) : Hole w0 w P0 g n cap xs i oki u u1 u2 u3 v4 l4 w1 := by
  obtain ⟨⟨hH, hS⟩, hk, hb, hi, hg, hp, ho⟩ := h
  subst hw
  obtain ⟨h2, h3⟩ := Kd.H_seg hH hi.1 hi.2 (seg := [u]) (j := 0) (show 0 + 1 ≤ 5 by decide) (fun q hq => by rw [List.mem_singleton.1 hq]; exact hu)
  exact ⟨⟨h2, Kd.S_far (p := ⟨g, i.toNat * 5, none⟩) hS ho u⟩, Kept.of_grown h3 hk (fun k_ e_ => by cases e_; exact .inl hp), below_set hb hg, hi, hg, hp, ho⟩
theorem Hole.set1 (h : Hole w0 w P0 g n cap xs i oki u0 u1 u2 u3 v4 l4 wr) (hw : w1 = wr.setCell ⟨g, i.toNat * 5 + 1, none⟩ u) (hu : u.oneCell' = true) : Hole w0 w P0 g n cap xs i oki u0 u u2 u3 v4 l4 w1 := by
  obtain ⟨⟨hH, hS⟩, hk, hb, hi, hg, hp, ho⟩ := h
  subst hw
  obtain ⟨h2, h3⟩ := Kd.H_seg hH hi.1 hi.2 (seg := [u]) (j := 1) (show 1 + 1 ≤ 5 by decide) (fun q hq => by rw [List.mem_singleton.1 hq]; exact hu)
  exact ⟨⟨h2, Kd.S_far (p := ⟨g, i.toNat * 5 + 1, none⟩) hS ho u⟩, Kept.of_grown h3 hk (fun k_ e_ => by cases e_; exact .inl hp), below_set hb hg, hi, hg, hp, ho⟩
theorem Hole.set2 (h : Hole w0 w P0 g n cap xs i oki u0 u1 u2 u3 v4 l4 wr) (hw : w1 = wr.setCell ⟨g, i.toNat * 5 + 2, none⟩ u) (hu : u.oneCell' = true) : Hole w0 w P0 g n cap xs i oki u0 u1 u u3 v4 l4 w1 := by
  obtain ⟨⟨hH, hS⟩, hk, hb, hi, hg, hp, ho⟩ := h
  subst hw
  obtain ⟨h2, h3⟩ := Kd.H_seg hH hi.1 hi.2 (seg := [u]) (j := 2) (show 2 + 1 ≤ 5 by decide) (fun q hq => by rw [List.mem_singleton.1 hq]; exact hu)
  exact ⟨⟨h2, Kd.S_far (p := ⟨g, i.toNat * 5 + 2, none⟩) hS ho u⟩, Kept.of_grown h3 hk (fun k_ e_ => by cases e_; exact .inl hp), below_set hb hg, hi, hg, hp, ho⟩
theorem Hole.set3 (h : Hole w0 w P0 g n cap xs i oki u0 u1 u2 u3 v4 l4 wr) (hw : w1 = wr.setCell ⟨g, i.toNat * 5 + 3, none⟩ u) (hu : u.oneCell' = true) : Hole w0 w P0 g n cap xs i oki u0 u1 u2 u v4 l4 w1 := by
  obtain ⟨⟨hH, hS⟩, hk, hb, hi, hg, hp, ho⟩ := h
  subst hw
  obtain ⟨h2, h3⟩ := Kd.H_seg hH hi.1 hi.2 (seg := [u]) (j := 3) (show 3 + 1 ≤ 5 by decide) (fun q hq => by rw [List.mem_singleton.1 hq]; exact hu)
  exact ⟨⟨h2, Kd.S_far (p := ⟨g, i.toNat * 5 + 3, none⟩) hS ho u⟩, Kept.of_grown h3 hk (fun k_ e_ => by cases e_; exact .inl hp), below_set hb hg, hi, hg, hp, ho⟩
theorem Hole.back {a b : Int} {s t : ByteArray} (h : Hole w0 w P0 g n cap xs i oki (.int .i64 a) (.int .i64 b) (.string s) (.string t) v4 l4 wr) (hs : k29.S 29 w1 w0.heap.size oki v4 l5) (hk : Kept wr w1 oki) :
    k29.S 29 w1 w0.heap.size P0 (.slice (some ⟨g, 0, none⟩) n cap) (xs.set i.toNat (⟨a, b, s, t, l5⟩ : S29)) ∧ Kept w w1 P0 :=
  ⟨Kd.H_back (Kd.H_kept h.1.1 hk (fun _ _ hn => hn)) (k29_mkM w1 _ oki (⟨a, b, s, t, l5⟩ : S29) hs) (fun _ hk_ => hk_), h.2.1.then_ hk (fun k_ hk_ => .inl (h.1.1.1 k_ hk_))⟩
end
def laws_markPolS.l0 (F : List S29 → Int → Option (Int × List S29)) (K : Nat) : Nat → List S29 → Int → Int → Option (Int × List S29)
  | 0, _, _, _ => none
  | j + 1, x0, x1, x5 => if x5 < (x0.length : Int) then (if 0 ≤ x5 then ((laws_markText.f K (wrap64 (wrap64 (x1 + 1) + 1))).bind fun s => (laws_markText.f K (wrap64 (wrap64 (wrap64 (x1 + 1) + 1) + 1))).bind fun t => (F (rd_T29 x0 x5).f4 (wrap64 (wrap64 (wrap64 (wrap64 (x1 + 1) + 1) + 1) + 1))).bind fun r => laws_markPolS.l0 F K j (x0.set x5.toNat (⟨x1, wrap64 (x1 + 1), s, t, r.2⟩ : S29)) r.1 (wrap64 (x5 + 1))) else none) else some (x1, x0)
def laws_markPolS.g (K : Nat) : Nat → List S29 → Int → Option (Int × List S29)
  | 0, _, _ => none
  | k + 1, l, a => laws_markPolS.l0 (laws_markPolS.g K k) K (l.length + 1) l a 0
set_option maxHeartbeats 8000000 in
set_option maxRecDepth 100000 in
theorem laws_markPolS.callsG (K k : Nat) : ∀ (P0_ : Nat → Prop) (u9000_ : Value) (l0 : List S29) (a1 r1 : Int) (r2 : List S29) (w0 w : World) (hB : Below w0.heap.size w0 w) (ho0 : k29.S 29 w w0.heap.size P0_ u9000_ l0) (h : laws_markPolS.g K k l0 a1 = some (r1, r2)),
    Calls Try.prog 56 #[u9000_, .int .i64 a1] w fun e w' => e = .returned (.int .i64 r1) ∧ k29.S 29 w' w0.heap.size P0_ u9000_ r2 ∧ Below w0.heap.size w0 w' ∧ Kept w w' P0_ := by
  induction k with
  | zero => intro P0_ u9000_ l0 a1 r1 r2 w0 w hB ho0 h; exact absurd h (by simp [laws_markPolS.g])
  | succ k ih =>
  intro P0_ u9000_ l0 a1 r1 r2 w0 w hB ho0 h
  have IH := Aside0.mk ih
  have HO0 := Aside0.mk ho0
  have HK := Aside0.mk (Kept.refl w P0_)
  have HB := Aside0.mk hB
  clear hB ho0 ih
  have H' := Aside0.mk (show laws_markPolS.l0 (laws_markPolS.g K k) K (l0.length + 1) l0 a1 0 = some (r1, r2) from h)
  clear h
  go_enter Try.func56, Try.ntmps56
  go_wp2
  go_loopg [1, 5] (l0.length + 1) (fun kq v1 v5 w' => ∃ (x0_1 : List S29) (x1_1 : Int) (x5_1 : Int), v1 = .int .i64 x1_1 ∧ v5 = .int .i64 x5_1 ∧ Aside0 (laws_markPolS.l0 (laws_markPolS.g K k) K kq x0_1 x1_1 x5_1 = some (r1, r2)) ∧ Aside0 (k29.S 29 w' w0.heap.size P0_ u9000_ x0_1) ∧ Aside0 (Kept w w' P0_) ∧ Aside0 (Below w0.heap.size w0 w'))
  case atStart => exact ⟨l0, a1, 0, rfl, rfl, H', HO0, HK, HB⟩
  case round =>
    clear H' HO0 HK HB
    obtain ⟨x0_1, x1_1, x5_1, rfl, rfl, HA, HO_0, HK, HB⟩ := hrel
    cases gk with
    | zero => exact absurd HA.out (by simp [laws_markPolS.l0])
    | succ k1 =>
      have H := HA.out
      clear HA
      simp only [laws_markPolS.l0] at H
      by_cases c3 : x5_1 < (x0_1.length : Int)
      · rw [if_pos c3] at H
        by_cases c4 : 0 ≤ x5_1
        · rw [if_pos c4] at H
          obtain ⟨s_, hs_, H⟩ := Option.bind_eq_some_iff.mp H
          obtain ⟨t_, ht_, H⟩ := Option.bind_eq_some_iff.mp H
          obtain ⟨⟨t1, t2⟩, hr_, H2⟩ := Option.bind_eq_some_iff.mp H
          clear H
          have A1 := Aside0.mk hs_
          have A2 := Aside0.mk ht_
          have A3 := Aside0.mk hr_
          have H' := Aside0.mk H2
          clear H2 hs_ ht_ hr_
          obtain ⟨go5, co5, eo5, gb5, gl5, gx5⟩ := Kd.S_form HO_0.out (by omega)
          subst eo5
          obtain ⟨oki, v4, hL⟩ := Hole.start HO_0.out HK.out HB.out c4 c3
          obtain ⟨A4, c4_, rfl⟩ := Kd.S_slice hL.1.2
          have HL := Aside0.mk hL
          obtain ⟨⟨hx0_, hx1_, hx2_, hx3_, hx4_⟩, hf0_, hf1_, hf2_, hf3_, hf4_⟩ := hL.cells
          have c3b : decide (x5_1 < (x0_1.length : Int)) = true := decide_eq_true c3
          have c4e := eq_true c4
          have c3e := eq_true c3
          clear hL gb5 gl5 gx5 c3 c4 HO_0 HK HB
          go_wp2_with (first | ((with_reducible refine gate_store (t := 3) (p := 16) rfl ?_); refine store_event (t := 3) (p := 16) (v := ?vo0_) (w1 := (wr.setCell ⟨go5, x5_1.toNat * 5, none⟩ (.int .i64 x1_1))) ?hg ?ho ?hn ?hr ?_; (case ho => rfl); (case hg => rfl); (case hn => rfl); (case hr => first | (go_simp; done) | (go_simp; rfl)); intro w2_ hw_; replace HL := Aside0.mk (HL.out.set0 hw_ rfl); clear hw_; clear hx0_ hx1_ hx2_ hx3_ hx4_ hf0_ hf1_ hf2_ hf3_ hf4_; obtain ⟨⟨hx0_, hx1_, hx2_, hx3_, hx4_⟩, hf0_, hf1_, hf2_, hf3_, hf4_⟩ := HL.out.cells) | ((with_reducible refine gate_store (t := 3) (p := 23) rfl ?_); refine store_event (t := 3) (p := 23) (v := ?vo1_) (w1 := (w2_.setCell ⟨go5, x5_1.toNat * 5 + 1, none⟩ (.int .i64 (wrap64 (x1_1 + 1))))) ?hg ?ho ?hn ?hr ?_; (case ho => rfl); (case hg => rfl); (case hn => rfl); (case hr => first | (go_simp; done) | (go_simp; rfl)); intro w3_ hw_; replace HL := Aside0.mk (HL.out.set1 hw_ rfl); clear hw_; clear hx0_ hx1_ hx2_ hx3_ hx4_ hf0_ hf1_ hf2_ hf3_ hf4_; obtain ⟨⟨hx0_, hx1_, hx2_, hx3_, hx4_⟩, hf0_, hf1_, hf2_, hf3_, hf4_⟩ := HL.out.cells) | ((with_reducible refine gC 82 rfl ?_); refine gL 29 Try.func82 #[.int .i64 (wrap64 (wrap64 (x1_1 + 1) + 1))] ?_; (refine (laws_markText.calls K _ _ _ A1.out).mono ?_); rintro e w4_ ⟨rfl, hb⟩; refine ⟨_, rfl, ?_⟩; replace HL := Aside0.mk (HL.out.below hb); clear hb; clear hx0_ hx1_ hx2_ hx3_ hx4_ hf0_ hf1_ hf2_ hf3_ hf4_; obtain ⟨⟨hx0_, hx1_, hx2_, hx3_, hx4_⟩, hf0_, hf1_, hf2_, hf3_, hf4_⟩ := HL.out.cells) | ((with_reducible refine gate_store (t := 9) (p := 31) rfl ?_); refine store_event (t := 9) (p := 31) (v := ?vo2_) (w1 := (w4_.setCell ⟨go5, x5_1.toNat * 5 + 2, none⟩ (.string s_))) ?hg ?ho ?hn ?hr ?_; (case ho => rfl); (case hg => rfl); (case hn => rfl); (case hr => first | (go_simp; done) | (go_simp; rfl)); intro w5_ hw_; replace HL := Aside0.mk (HL.out.set2 hw_ rfl); clear hw_; clear hx0_ hx1_ hx2_ hx3_ hx4_ hf0_ hf1_ hf2_ hf3_ hf4_; obtain ⟨⟨hx0_, hx1_, hx2_, hx3_, hx4_⟩, hf0_, hf1_, hf2_, hf3_, hf4_⟩ := HL.out.cells) | ((with_reducible refine gC 82 rfl ?_); refine gL 37 Try.func82 #[.int .i64 (wrap64 (wrap64 (wrap64 (x1_1 + 1) + 1) + 1))] ?_; (refine (laws_markText.calls K _ _ _ A2.out).mono ?_); rintro e w6_ ⟨rfl, hb⟩; refine ⟨_, rfl, ?_⟩; replace HL := Aside0.mk (HL.out.below hb); clear hb; clear hx0_ hx1_ hx2_ hx3_ hx4_ hf0_ hf1_ hf2_ hf3_ hf4_; obtain ⟨⟨hx0_, hx1_, hx2_, hx3_, hx4_⟩, hf0_, hf1_, hf2_, hf3_, hf4_⟩ := HL.out.cells) | ((with_reducible refine gate_store (t := 9) (p := 39) rfl ?_); refine store_event (t := 9) (p := 39) (v := ?vo3_) (w1 := (w6_.setCell ⟨go5, x5_1.toNat * 5 + 3, none⟩ (.string t_))) ?hg ?ho ?hn ?hr ?_; (case ho => rfl); (case hg => rfl); (case hn => rfl); (case hr => first | (go_simp; done) | (go_simp; rfl)); intro w7_ hw_; replace HL := Aside0.mk (HL.out.set3 hw_ rfl); clear hw_; clear hx0_ hx1_ hx2_ hx3_ hx4_ hf0_ hf1_ hf2_ hf3_ hf4_; obtain ⟨⟨hx0_, hx1_, hx2_, hx3_, hx4_⟩, hf0_, hf1_, hf2_, hf3_, hf4_⟩ := HL.out.cells) | (go_at_call 56; refine (IH.out oki _ _ _ _ _ w0 _ HL.out.2.2.1 HL.out.1.2 A3.out).mono ?_; rintro e w9_ ⟨rfl, hs, hb, hk⟩; have hb_ := HL.out.back hs hk; have HO1 := Aside0.mk hb_.1; have HK1 := Aside0.mk hb_.2; have HB1 := Aside0.mk hb; clear hs hb hk hb_))
          go_roundg k1
          case measure => exact Nat.lt_succ_self _
          case rel => exact ⟨_, _, _, rfl, rfl, H', HO1, HK1, HB1⟩
        · rw [if_neg c4] at H
          exact absurd H (by simp)
      · rw [if_neg c3] at H
        have c3b0 : decide (x5_1 < (x0_1.length : Int)) = false := decide_eq_false c3
        clear c3
        simp only [Option.some.injEq, Prod.mk.injEq] at H
        obtain ⟨rfl, rfl⟩ := H
        obtain ⟨Ao15, co15, eo15⟩ := Kd.S_slice HO_0.out
        subst eo15
        go_wp2
        go_ret
        exact ⟨rfl, HO_0.out, HB.out, HK.out⟩
def laws_markPolS.f (k : Nat) (l : List S29) (a : Int) : Option (Int × List S29) := laws_markPolS.g k k l a
set_option maxHeartbeats 8000000 in
set_option maxRecDepth 100000 in
theorem laws_markPol.callsM (k : Nat) (P0_ : Nat → Prop) (a0 b0 : Int) (s0 t0 : ByteArray) (A0 : Option Addr) (c0 : Nat) (l0 : List S29) (a1 r1 : Int) (r2 : List S29) (w0 w : World) (hB : Below w0.heap.size w0 w) (ho0 : k29.S 29 w w0.heap.size P0_ (.slice A0 l0.length c0) l0) (h : laws_markPolS.f k l0 a1 = some (r1, r2)) :
    Calls Try.prog 29 #[.agg #[.int .i64 a0, .int .i64 b0, .string s0, .string t0, .slice A0 l0.length c0], .int .i64 a1] w fun e w' => e = .returned (.int .i64 r1) ∧ k29.S 29 w' w0.heap.size P0_ (.slice A0 l0.length c0) r2 ∧ Below w0.heap.size w0 w' ∧ Kept w w' P0_ := by
  have Q1 := Aside0.mk (show laws_markPolS.g k k l0 a1 = some (r1, r2) from h)
  have S1 := Aside0.mk ho0
  have HB := Aside0.mk hB
  clear h ho0 hB
  have hu29 := Try.underlying29
  go_enter Try.func29, Try.ntmps29
  go_wp2_with (first | ((with_reducible refine gate_dst (N := 2) rfl ?_); refine box_event ?hg (N := 2) ?hd (cs := #[.int .i64 a0, .int .i64 b0, .string s0, .string t0, .slice A0 l0.length c0]) (t := 29) ?hr ?_; (case hd => rfl); (case hg => rfl); (case hr => first | (go_simp; done) | (go_simp; rfl)); intro gb hg w7 hbox hb; have HB7 := Aside0.mk hb; clear hg; have hx4 : w7.cell? ⟨gb, 4, none⟩ = some (.slice A0 l0.length c0) := (blk_cell hbox 4).trans rfl; clear hbox hb) | (go_at_call 56; refine (laws_markPolS.callsG k k P0_ (.slice A0 l0.length c0) l0 a1 r1 r2 w0 w7 (below_step HB.out HB7.out) (Kd.S_below S1.out HB7.out) Q1.out).mono ?_; rintro e w8 ⟨rfl, hs, hb, hk⟩; have HS1 := Aside0.mk hs; have HB8 := Aside0.mk hb; have HK8 := Aside0.mk hk; clear hs hb hk hx4))
  go_ret
  exact ⟨rfl, HS1.out, HB8.out, (Kept.of_below HB7.out P0_).then_ HK8.out (fun _ hk => .inl hk)⟩

/-! ### laws_markPol: function 29, by hand -/


end Go.Proofs.Ytfhblnbicnmndaa.QFnExactOpposite
