/- What the Go functions that the law FnPols reaches answer: each as a Lean function, with its walk. Written by a program of this session. Conditions: those that each theorem names. -/
import Derived.Test.YtfhblnbicnmndaaDoorQFnPolsx0
import Derived.Test.YtfhblnbicnmndaaDoorQFnPolsx1
import Derived.Test.YtfhblnbicnmndaaDoorQFnPolsx2
namespace Go.Proofs.YtfhblnbicnmndaaDoor.QFnPols
open Go.RowKit Go.Proofs.YtfhblnbicnmndaaDoorW.PrintWords Go.Proofs.YtfhblnbicnmndaaDoorW.PrintLast Go.Proofs.YtfhblnbicnmndaaDoorW.PrintMore
attribute [local go_sem] max2_int min2_int max_two min_two max_three min_three max_four min_four   -- for this text's walks alone
set_option linter.unusedVariables false
set_option linter.unusedSimpArgs false

open Go.Proofs.YtfhblnbicnmndaaDoorW.PrintWords renaming blk_drewN → bN, blk_drew → bD, blk_alloc → bA, blk_cell → bC, blk_below → bB, below_set → bS
/-! ### spec_l5Any: function 25 -/
def spec_l5Any.l0 : Nat → Int → List Int → Int → Int → Int → Int → ByteArray → ByteArray → List (S26) → Option (Int × Int × ByteArray × ByteArray × (List (S26)) × Int × Int)
 | 0, _, _, _, _, _, _, _, _, _ => none
 | k + 1, x4, x1000, x1001, x1002, x254000, x254001, x254002, x254003, x254004 => if x4 < 3 then (spec_l5Any.l0 k (wrap64 (x4 + 1)) x1000 x1001 x1002 9 0 (⟨#[]⟩ : ByteArray) (⟨#[]⟩ : ByteArray) (([(⟨x254000, x254001, x254002, x254003, x254004⟩ : S26)] : List (S26)))) else (some (x254000, x254001, x254002, x254003, x254004, x1001, x1002))
def spec_l5Any.f (k : Nat) (s0_0 : List Int) (s0_1 : Int) (s0_2 : Int) : Option (Int × Int × ByteArray × ByteArray × (List (S26)) × Int × Int) := (spec_l5Draw.f k s0_0 s0_1 s0_2 3).bind fun bt244 => ((spec_l1Below.f s0_0 bt244.2.2.2.2.2.1 bt244.2.2.2.2.2.2 14).bind fun bt254 => (if bt254.1 = 0 then ((spec_l1Int.f s0_0 bt254.2.1 bt254.2.2 (([0, 1, 7, 9, 10] : List Int))).bind fun bt260 => (some (bt260.1, bt244.2.1, bt244.2.2.1, bt244.2.2.2.1, bt244.2.2.2.2.1, bt260.2.1, bt260.2.2))) else (if bt254.1 = 1 then ((spec_l1Raw.f s0_0 bt254.2.1 bt254.2.2).bind fun bt263 => (some (bt244.1, bt263.1, bt244.2.2.1, bt244.2.2.2.1, bt244.2.2.2.2.1, bt263.2.1, bt263.2.2))) else (if bt254.1 = 2 then ((spec_l1AnyName.f s0_0 bt254.2.1 bt254.2.2).bind fun bt266 => (some (bt244.1, bt244.2.1, bt266.1, bt244.2.2.2.1, bt244.2.2.2.2.1, bt266.2.1, bt266.2.2))) else (if bt254.1 = 3 then ((spec_l1Plain.f s0_0 bt254.2.1 bt254.2.2).bind fun bt269 => (some (bt244.1, bt244.2.1, bt244.2.2.1, bt269.1, bt244.2.2.2.2.1, bt269.2.1, bt269.2.2))) else (if bt254.1 = 4 then ((spec_l5Draw.f k s0_0 bt254.2.1 bt254.2.2 2).bind fun bt272 => ((spec_l5Draw.f k s0_0 bt272.2.2.2.2.2.1 bt272.2.2.2.2.2.2 2).bind fun bt281 => ((some (([(⟨bt272.1, bt272.2.1, bt272.2.2.1, bt272.2.2.2.1, bt272.2.2.2.2.1⟩ : S26), (⟨bt281.1, bt281.2.1, bt281.2.2.1, bt281.2.2.2.1, bt281.2.2.2.2.1⟩ : S26)] : List (S26)) : List (S26))).bind fun y290 => (if bt244.2.2.2.2.1.length + y290.length < 1954687338268 then (some (bt244.1, bt244.2.1, bt244.2.2.1, bt244.2.2.2.1, (bt244.2.2.2.2.1 ++ y290), bt281.2.2.2.2.2.1, bt281.2.2.2.2.2.2)) else (none))))) else (if bt254.1 = 5 then (spec_l5Any.l0 k 0 s0_0 bt254.2.1 bt254.2.2 bt244.1 bt244.2.1 bt244.2.2.1 bt244.2.2.2.1 bt244.2.2.2.2.1) else (if bt254.1 = 6 then (some (7, 0, (⟨#[]⟩ : ByteArray), (⟨#[]⟩ : ByteArray), (([(⟨bt244.1, bt244.2.1, bt244.2.2.1, bt244.2.2.2.1, bt244.2.2.2.2.1⟩ : S26), (⟨bt244.1, bt244.2.1, bt244.2.2.1, bt244.2.2.2.1, bt244.2.2.2.2.1⟩ : S26), (⟨bt244.1, bt244.2.1, bt244.2.2.1, bt244.2.2.2.1, bt244.2.2.2.2.1⟩ : S26), (⟨bt244.1, bt244.2.1, bt244.2.2.1, bt244.2.2.2.1, bt244.2.2.2.2.1⟩ : S26)] : List (S26))), bt254.2.1, bt254.2.2)) else (some (bt244.1, bt244.2.1, bt244.2.2.1, bt244.2.2.2.1, bt244.2.2.2.2.1, bt254.2.1, bt254.2.2))))))))))
theorem spec_l5Any.mono_l : ∀ k, (∀ y0 y1 y2 y3 y4 y5 y6 y7 y8, LeO (spec_l5Any.l0 k y0 y1 y2 y3 y4 y5 y6 y7 y8) (spec_l5Any.l0 (k + 1) y0 y1 y2 y3 y4 y5 y6 y7 y8))
 | 0 => fun _ _ _ _ _ _ _ _ _ r h => by simp [spec_l5Any.l0] at h
 | k + 1 => by
  have ih0 := spec_l5Any.mono_l k
  ·intro y0 y1 y2 y3 y4 y5 y6 y7 y8
   unfold spec_l5Any.l0
   repeat' first
   | (with_reducible exact ih0 _ _ _ _ _ _ _ _ _)
   | (with_reducible apply spec_l5Draw.mono)
   | (with_reducible exact LeO.refl _)
   | (with_reducible exact LeO.none _)
   | (with_reducible refine LeO.ite ?_ ?_)
   | (with_reducible refine LeO.bind ?_ (fun _ => ?_))
   | exact ih0 _ _ _ _ _ _ _ _ _
   | apply spec_l5Draw.mono
   | exact LeO.none _
   | refine LeO.ite ?_ ?_
   | refine LeO.bind ?_ (fun _ => ?_)
theorem spec_l5Any.mono : ∀ a0 a1 a2 k, LeO (spec_l5Any.f k a0 a1 a2) (spec_l5Any.f (k + 1) a0 a1 a2) := by
 intro a0 a1 a2 k
 have ih0 := spec_l5Any.mono_l k
 unfold spec_l5Any.f
 repeat' first
   | (with_reducible exact ih0 _ _ _ _ _ _ _ _ _)
   | (with_reducible apply spec_l5Draw.mono)
   | (with_reducible exact LeO.refl _)
   | (with_reducible exact LeO.none _)
   | (with_reducible refine LeO.ite ?_ ?_)
   | (with_reducible refine LeO.bind ?_ (fun _ => ?_))
   | exact ih0 _ _ _ _ _ _ _ _ _
   | apply spec_l5Draw.mono
   | exact LeO.none _
   | refine LeO.ite ?_ ?_
   | refine LeO.bind ?_ (fun _ => ?_)
def spec_l5Any.T12 : Bool × List (List Nat × List Nat) := (true, [([], []), ([0], [0]), ([], []), ([2], [2]), ([], []), ([4, 3], [4]), ([3, 5], [3, 5]), ([1, 6, 5], [1, 6]), ([0, 1, 2, 3, 4, 5, 6, 7], []), ([8, 7, 7, 0, 1, 2, 3, 4, 5, 6, 7], [7, 8])])
def spec_l5Any.B12 : List Nat := [0, 1, 0, 4, 0, 28, 60, 127, 255, 511]
theorem spec_l5Any.tab12 : rtab .any (opsOf Tryd.f25 12) = spec_l5Any.T12 := by kernel_rfl
theorem spec_l5Any.bits12 : waitsOk spec_l5Any.T12.2 spec_l5Any.B12 = true := by kernel_rfl
set_option maxHeartbeats 8000000 in
set_option maxRecDepth 100000 in
theorem spec_l5Any.calls (k : Nat) (g : Nat) (s0_0 : List Int) (s0_1 : Int) (s0_2 : Int) (r1 : Int) (r2 : Int) (r3 : ByteArray) (r4 : ByteArray) (r5 : List (S26)) (r6 : Int) (r7 : Int) (w0 w : World) (hI : IsS53 w0 w g s0_0 s0_1 s0_2) (hB : Below w0.heap.size w0 w) (h : spec_l5Any.f k s0_0 s0_1 s0_2 = some (r1, r2, r3, r4, r5, r6, r7)) :
  Calls Tryd.prog 25 #[.pointer (some ⟨g, 0, none⟩)] w fun e w' => ∃ v4_ : Value, e = .returned (.agg #[.int .i64 r1, .int .i64 r2, .string r3, .string r4, v4_]) ∧ Kd.N k26 26 w' w.heap.size (fun k_ => (w.heap.size ≤ k_)) v4_ r5 ∧ IsS53 w0 w' g s0_0 r6 r7 ∧ Below w0.heap.size w0 w' ∧ KeepBut w w' g none := by
 have hu26 := Tryd.underlying26
 have HI0 := Aside0.mk hI
 have HK := Aside0.mk (KeepBut.refl w g none)
 have HL := Aside0.mk hB.size
 clear hI
 have HW0 := Aside0.mk hB.size
 have HB := Aside0.mk hB
 clear hB
 unfold spec_l5Any.f at h; have H := h
 clear h
 obtain ⟨⟨t244, t245, t246, t247, t248, t251, t252⟩, A2, H⟩ := zO H; try dsimp only at H
 obtain ⟨⟨t254, t255, t256⟩, A3, H⟩ := zO H; try dsimp only at H
 by_cases c4 : t254 = 0
 ·rw [if_pos c4] at H
  obtain ⟨c4b0, c4b1⟩ := zt c4
  clear c4
  generalize hy257 : (([0, 1, 7, 9, 10] : List Int)) = y257 at H; (try rw [Option.bind_some] at H); have Ny257 := Aside0.mk hy257.symm; clear hy257
  obtain ⟨⟨t260, t261, t262⟩, A5, H⟩ := zO H; try dsimp only at H
  simp only [Option.some.injEq, Prod.mk.injEq] at H
  obtain ⟨rfl, rfl, rfl, rfl, rfl, rfl, rfl⟩ := H
  go_enter Tryd.func25, Tryd.ntmps25
  go_wp2_with (first | ((with_reducible refine gD 2 rfl ?_); refine bE 2 #[.int .i64 0, .int .i64 0, .string (⟨#[]⟩ : ByteArray), .string (⟨#[]⟩ : ByteArray), .slice none 0 0] 26 ?_; intro gb243 hg w6 hbox hb; replace HB := zLB (zL1 HB.out (IsS53.ge HI0.out)) hb; have BK243 := Aside0.mk hbox; have GW243 := Aside0.mk (zgK (g := g) (zK HK.out) hg : w.heap.size ≤ gb243); have GE243 := Aside0.mk ((Nat.le_trans HW0.out (zgK (g := g) (zK HK.out) hg : w.heap.size ≤ gb243) : w0.heap.size ≤ gb243)); replace HK := zKB g (zK HK.out) hb; have NB0_243 := Aside0.mk ((zNI (IsS53.lt (zI HI0.out : IsS53 w0 _ g s0_0 s0_1 s0_2)) hg : g ≠ gb243)); have NB243_0 := Aside0.mk ((zMI (IsS53.lt (zI HI0.out : IsS53 w0 _ g s0_0 s0_1 s0_2)) hg : gb243 ≠ g)); replace HI0 := Aside0.mk (IsS53.below (zI HI0.out) hb); clear hb hbox hg) | ((with_reducible refine gC 37 rfl ?_); refine gL 6 Tryd.func37 #[.pointer (some ⟨g, 0, none⟩), .int .i64 3] ?_; (with_reducible refine (spec_l5Draw.calls k g s0_0 s0_1 s0_2 3 t244 t245 t246 t247 t248 t251 t252 w0 _ ?side1 ?side2 A2.out).mono ?_); (case side1 => exact zI1 HI0.out NB0_243.out); (case side2 => exact zL2 HB.out (IsS53.ge HI0.out) GE243.out); rintro e w7 ⟨v249, rfl, ho0, hi, hb, hk⟩; refine ⟨_, rfl, ?_⟩; have HO250 := Aside0.mk (Kd.N_lower (Kd.N_mono (ok' := fun k_ => (w.heap.size ≤ k_) ∧ k_ ≠ gb243 ∧ k_ ≠ g) (Kd.R_N (Kd.R_bound ho0)) (fun k_ hk_ => ⟨(Nat.le_trans (keep_size (w := w) (g := g) (row := none) (zK1 HK.out GW243.out)) hk_.2.1), (Kd.freshB (g := gb243) (o := .cells #[.int .i64 0, .int .i64 0, .string (⟨#[]⟩ : ByteArray), .string (⟨#[]⟩ : ByteArray), .slice none 0 0] 26 (0, 0)) (zB BK243.out) k_ hk_.2.1), (IsS53.fresh (zI1 HI0.out NB0_243.out) k_ hk_.2.1)⟩)) (keep_size (w := w) (g := g) (row := none) (zK1 HK.out GW243.out))); replace BK243 := zBK hk BK243 NB243_0; replace HK := zKK (zK1 HK.out GW243.out) hk; replace HB := Aside0.mk hb; replace HI0 := Aside0.mk hi; clear ho0 hi hb hk) | ((with_reducible refine gD 3 rfl ?_); refine bE 3 #[.int .i64 0, .int .i64 0, .string (⟨#[]⟩ : ByteArray), .string (⟨#[]⟩ : ByteArray), .slice none 0 0] 26 ?_; intro gb253 hg w8 hbox hb; replace HO250 := Aside0.mk (Kd.N_below (Kd.N_elderB (zX HO250.out) gb253 (Nat.le_of_eq hg.symm)) hb); replace HB := zLB (zL2 HB.out (IsS53.ge HI0.out) GE243.out) hb; have BK253 := Aside0.mk hbox; have GW253 := Aside0.mk (zgK (g := g) (zK1 HK.out GW243.out) hg : w.heap.size ≤ gb253); have GE253 := Aside0.mk ((Nat.le_trans HW0.out (zgK (g := g) (zK1 HK.out GW243.out) hg : w.heap.size ≤ gb253) : w0.heap.size ≤ gb253)); replace HK := zKB g (zK1 HK.out GW243.out) hb; have NB243_253 := Aside0.mk (zN BK243.out hg : gb243 ≠ gb253); have NB253_243 := Aside0.mk (zM BK243.out hg : gb253 ≠ gb243); replace BK243 := zBB BK243 hb; have NB0_253 := Aside0.mk ((zNI (IsS53.lt (zI1 HI0.out NB0_243.out : IsS53 w0 _ g s0_0 t251 t252)) hg : g ≠ gb253)); have NB253_0 := Aside0.mk ((zMI (IsS53.lt (zI1 HI0.out NB0_243.out : IsS53 w0 _ g s0_0 t251 t252)) hg : gb253 ≠ g)); replace HI0 := Aside0.mk (IsS53.below (zI1 HI0.out NB0_243.out) hb); clear hb hbox hg; have hnb9 := NB253_243.out; have hnc9 := NB243_253.out; have hnb10 := NB253_0.out; have hnc10 := NB0_253.out; have hcz11 := zc5 BK253.out; have hfz11 := zf5 BK253.out; obtain ⟨Ao12, co12, eo12⟩ := Kd.N_slice HO250.out; subst eo12) | ((with_reducible refine gC 38 rfl ?_); refine gL 8 Tryd.func38 #[.pointer (some ⟨g, 0, none⟩), .int .i64 14] ?_; (with_reducible refine (spec_l1Below.calls g s0_0 t251 t252 14 t254 t255 t256 w0 _ ?side1 ?side2 A3.out).mono ?_); (case side1 => exact zI2 HI0.out NB0_243.out NB0_253.out); (case side2 => exact zL3 HB.out (IsS53.ge HI0.out) GE243.out GE253.out); rintro e w13 ⟨rfl, hi, hb, hk⟩; refine ⟨_, rfl, ?_⟩; replace BK243 := Aside0.mk (zQ2 (.cells #[.int .i64 0, .int .i64 0, .string (⟨#[]⟩ : ByteArray), .string (⟨#[]⟩ : ByteArray), .slice none 0 0] 26 (0, 0)) hk (by refine zB ?_; refine zr5 ?_ NB243_253.out; exact zB BK243.out) NB243_0.out (by simp)); replace HO250 := Aside0.mk (Kd.N_mono (Kd.N_keep (Kd.N_mono (ok := fun k_ => ((((w.heap.size ≤ k_)) ∧ (k_ ≠ gb243 ∧ k_ ≠ g)) ∧ k_ ≠ gb253)) (by (with_reducible repeat (first | apply Kd.N_alloc | apply Kd.N_drewN | apply Kd.N_drew)); exact (Kd.N_mono (zNF5 (Kd.N_mono HO250.out (fun k_ hk => (⟨hk, hk.2⟩ : _ ∧ k_ ≠ gb253))) gb253 (fun _ hk => hk.2) (.int .i64 t244) (.int .i64 t245) (.string t246) (.string t247) (.slice Ao12 t248.length co12)) (fun _ h_ => h_.1))) (fun k_ hk_ => (⟨hk_, hk_.1.2.2⟩ : _ ∧ k_ ≠ g))) hk (fun _ h => h.2)) (fun _ h => h.1)); replace BK253 := Aside0.mk (zQ2 (.cells #[.int .i64 t244, .int .i64 t245, .string t246, .string t247, .slice Ao12 t248.length co12] 26 (0, 0)) hk (by refine zB ?_; refine zp5 (cs := #[.int .i64 0, .int .i64 0, .string (⟨#[]⟩ : ByteArray), .string (⟨#[]⟩ : ByteArray), .slice none 0 0]) ?_; exact zB BK253.out) NB253_0.out (by simp)); replace HK := zKK (zK2 HK.out GW243.out GW253.out) hk; replace HB := Aside0.mk hb; replace HI0 := Aside0.mk hi; clear hi hb hk) | ((with_reducible refine gD 12 rfl ?_); refine Kd.R_lit (Kd.int .i64) _ 3 ?hg (N := 12) ?hd (xs := ([0, 1, 7, 9, 10] : List Int)) (inner := [.int .i64 0, .int .i64 1, .int .i64 7, .int .i64 9, .int .i64 10]) (ok := fun _ => True) (okp := fun _ => True) ?hr ?hp (fun _ hk => hk) trivial (Below.refl _ _) (Nat.le_refl _) (by simp) ?_; (case hd => rfl); (case hg => rfl); (case hr => first | (go_simp; done) | (go_simp; rfl)); (case hp => exact zhp); intro v258 w14 ho15 hb hg_ hnew_; clear hg_ hnew_; (first | rw [← Ny257.out] at ho15 | (simp only [Int.reduceToNat] at ho15; rw [← Ny257.out] at ho15)); replace HO250 := Aside0.mk (Kd.N_elder' (zX HO250.out) (Kd.R_base ho15) hb); have HO259 := Aside0.mk (Kd.R_lower (Kd.R_newM (M := fun k_ => (w.heap.size ≤ k_)) ho15 (keep_size (w := w) (g := g) (row := none) (zK2 HK.out GW243.out GW253.out)) (fun k_ h_ => h_)) (keep_size (w := w) (g := g) (row := none) (zK2 HK.out GW243.out GW253.out))); replace BK243 := zBB BK243 hb; replace BK253 := zBB BK253 hb; replace HK := zKB g (zK2 HK.out GW243.out GW253.out) hb; replace HB := zLB (zL3 HB.out (IsS53.ge HI0.out) GE243.out GE253.out) hb; replace HI0 := Aside0.mk (IsS53.below (zI2 HI0.out NB0_243.out NB0_253.out) hb); clear hb ho15; obtain ⟨Ao16, co16, eo16⟩ := Kd.R_slice HO259.out; subst eo16) | ((with_reducible refine gC 39 rfl ?_); refine gL 13 Tryd.func39 #[.pointer (some ⟨g, 0, none⟩), .slice Ao16 y257.length co16] ?_; (with_reducible refine (spec_l1Int.calls g s0_0 t255 t256 _ _ y257 t260 t261 t262 w0 _ ?side1 ?side2 ?side3 ?side4 ?side5 A5.out).mono ?_); (case side1 => exact zI2 HI0.out NB0_243.out NB0_253.out); (case side2 => exact zL3 HB.out (IsS53.ge HI0.out) GE243.out GE253.out); (case side3 => exact zC (Kd.R_reads' HO259.out).2.2); (case side4 => exact (Kd.R_reads' HO259.out).2.1); (case side5 => exact far_slice (IsS53.own_ne HI0.out HO259.out (by decide))); rintro e w17 ⟨rfl, hi, hb, hk⟩; refine ⟨_, rfl, ?_⟩; replace BK243 := zBK hk BK243 NB243_0; replace HO250 := Aside0.mk (Kd.N_mono (Kd.N_keep (Kd.N_mono (ok := fun k_ => (((((w.heap.size ≤ k_)) ∧ (k_ ≠ gb243 ∧ k_ ≠ g)) ∧ k_ ≠ gb253) ∧ some k_ ≠ (.slice Ao16 y257.length co16 : Value).ownBlock)) (zX HO250.out) (fun k_ hk_ => (⟨hk_, hk_.1.1.2.2⟩ : _ ∧ k_ ≠ g))) hk (fun _ h => h.2)) (fun _ h => h.1)); replace BK253 := zBK hk BK253 NB253_0; replace HO259 := Aside0.mk (Kd.R_mono (Kd.R_keep (IsS53.apart (show IsS53 w0 _ g s0_0 t255 t256 from zI2 HI0.out NB0_243.out NB0_253.out) (zR HO259.out) (by decide)) hk (fun _ h => h.2)) (fun _ h => h.1)); replace HK := zKK (zK2 HK.out GW243.out GW253.out) hk; replace HB := Aside0.mk hb; replace HI0 := Aside0.mk hi; clear hi hb hk; have hcz18 := zc5 BK253.out; have hfz18 := zf5 BK253.out; have hnb19 := NB243_0.out; have hnc19 := NB0_243.out; have hcz20 := zc5 BK243.out; have hfz20 := zf5 BK243.out))
  refine bodyPost_ret (results_cell_row rfl _ _ gb243 26 #[.int .i64 t260, .int .i64 t245, .string t246, .string t247, .slice Ao12 t248.length co12] (0, 0) _ rfl (by refine zB ?_; refine zp5 (cs := #[.int .i64 0, .int .i64 0, .string (⟨#[]⟩ : ByteArray), .string (⟨#[]⟩ : ByteArray), .slice none 0 0]) ?_; (with_reducible repeat (first | refine bN ?_ _ | refine bD ?_ | refine bA ?_ _)); refine blk_far ?_ NB243_253.out _; exact zB BK243.out) Tryd.underlying26 rfl (by kernel_rfl)) rfl ?_
  exact ⟨_, zW, by (with_reducible repeat (first | apply Kd.N_alloc | apply Kd.N_drewN | apply Kd.N_drew)); exact Kd.N_mono (zNF5 (Kd.N_far (p := ⟨gb253, 0, none⟩) (Kd.N_mono (Kd.N_mono HO250.out (fun k_ hk => (⟨hk, hk.1.2⟩ : _ ∧ k_ ≠ gb253))) (fun k_ hk => (⟨hk, hk.1.1.1.2.1⟩ : _ ∧ k_ ≠ gb243))) (fun _ hk => hk.1.2) (.int .i64 t260)) gb243 (fun _ hk => hk.2) (.int .i64 t260) (.int .i64 t245) (.string t246) (.string t247) (.slice Ao12 t248.length co12)) (fun _ hk => hk.1.1.1.1.1), zI2 HI0.out NB0_243.out NB0_253.out, zL3 HB.out (IsS53.ge HI0.out) GE243.out GE253.out, zK2 HK.out GW243.out GW253.out⟩
 ·rw [if_neg c4] at H
  obtain ⟨c4b0, c4b1⟩ := zf c4
  by_cases c21 : t254 = 1
  ·rw [if_pos c21] at H
   obtain ⟨c21b0, c21b1⟩ := zt c21
   clear c21
   obtain ⟨⟨t263, t264, t265⟩, A22, H⟩ := zO H; try dsimp only at H
   simp only [Option.some.injEq, Prod.mk.injEq] at H
   obtain ⟨rfl, rfl, rfl, rfl, rfl, rfl, rfl⟩ := H
   go_enter Tryd.func25, Tryd.ntmps25
   go_wp2_with (first | ((with_reducible refine gD 2 rfl ?_); refine bE 2 #[.int .i64 0, .int .i64 0, .string (⟨#[]⟩ : ByteArray), .string (⟨#[]⟩ : ByteArray), .slice none 0 0] 26 ?_; intro gb243 hg w23 hbox hb; replace HB := zLB (zL1 HB.out (IsS53.ge HI0.out)) hb; have BK243 := Aside0.mk hbox; have GW243 := Aside0.mk (zgK (g := g) (zK HK.out) hg : w.heap.size ≤ gb243); have GE243 := Aside0.mk ((Nat.le_trans HW0.out (zgK (g := g) (zK HK.out) hg : w.heap.size ≤ gb243) : w0.heap.size ≤ gb243)); replace HK := zKB g (zK HK.out) hb; have NB0_243 := Aside0.mk ((zNI (IsS53.lt (zI HI0.out : IsS53 w0 _ g s0_0 s0_1 s0_2)) hg : g ≠ gb243)); have NB243_0 := Aside0.mk ((zMI (IsS53.lt (zI HI0.out : IsS53 w0 _ g s0_0 s0_1 s0_2)) hg : gb243 ≠ g)); replace HI0 := Aside0.mk (IsS53.below (zI HI0.out) hb); clear hb hbox hg) | ((with_reducible refine gC 37 rfl ?_); refine gL 6 Tryd.func37 #[.pointer (some ⟨g, 0, none⟩), .int .i64 3] ?_; (with_reducible refine (spec_l5Draw.calls k g s0_0 s0_1 s0_2 3 t244 t245 t246 t247 t248 t251 t252 w0 _ ?side1 ?side2 A2.out).mono ?_); (case side1 => exact zI1 HI0.out NB0_243.out); (case side2 => exact zL2 HB.out (IsS53.ge HI0.out) GE243.out); rintro e w24 ⟨v249, rfl, ho0, hi, hb, hk⟩; refine ⟨_, rfl, ?_⟩; have HO250 := Aside0.mk (Kd.N_lower (Kd.N_mono (ok' := fun k_ => (w.heap.size ≤ k_) ∧ k_ ≠ gb243 ∧ k_ ≠ g) (Kd.R_N (Kd.R_bound ho0)) (fun k_ hk_ => ⟨(Nat.le_trans (keep_size (w := w) (g := g) (row := none) (zK1 HK.out GW243.out)) hk_.2.1), (Kd.freshB (g := gb243) (o := .cells #[.int .i64 0, .int .i64 0, .string (⟨#[]⟩ : ByteArray), .string (⟨#[]⟩ : ByteArray), .slice none 0 0] 26 (0, 0)) (zB BK243.out) k_ hk_.2.1), (IsS53.fresh (zI1 HI0.out NB0_243.out) k_ hk_.2.1)⟩)) (keep_size (w := w) (g := g) (row := none) (zK1 HK.out GW243.out))); replace BK243 := zBK hk BK243 NB243_0; replace HK := zKK (zK1 HK.out GW243.out) hk; replace HB := Aside0.mk hb; replace HI0 := Aside0.mk hi; clear ho0 hi hb hk) | ((with_reducible refine gD 3 rfl ?_); refine bE 3 #[.int .i64 0, .int .i64 0, .string (⟨#[]⟩ : ByteArray), .string (⟨#[]⟩ : ByteArray), .slice none 0 0] 26 ?_; intro gb253 hg w25 hbox hb; replace HO250 := Aside0.mk (Kd.N_below (Kd.N_elderB (zX HO250.out) gb253 (Nat.le_of_eq hg.symm)) hb); replace HB := zLB (zL2 HB.out (IsS53.ge HI0.out) GE243.out) hb; have BK253 := Aside0.mk hbox; have GW253 := Aside0.mk (zgK (g := g) (zK1 HK.out GW243.out) hg : w.heap.size ≤ gb253); have GE253 := Aside0.mk ((Nat.le_trans HW0.out (zgK (g := g) (zK1 HK.out GW243.out) hg : w.heap.size ≤ gb253) : w0.heap.size ≤ gb253)); replace HK := zKB g (zK1 HK.out GW243.out) hb; have NB243_253 := Aside0.mk (zN BK243.out hg : gb243 ≠ gb253); have NB253_243 := Aside0.mk (zM BK243.out hg : gb253 ≠ gb243); replace BK243 := zBB BK243 hb; have NB0_253 := Aside0.mk ((zNI (IsS53.lt (zI1 HI0.out NB0_243.out : IsS53 w0 _ g s0_0 t251 t252)) hg : g ≠ gb253)); have NB253_0 := Aside0.mk ((zMI (IsS53.lt (zI1 HI0.out NB0_243.out : IsS53 w0 _ g s0_0 t251 t252)) hg : gb253 ≠ g)); replace HI0 := Aside0.mk (IsS53.below (zI1 HI0.out NB0_243.out) hb); clear hb hbox hg; have hnb26 := NB253_243.out; have hnc26 := NB243_253.out; have hnb27 := NB253_0.out; have hnc27 := NB0_253.out; have hcz28 := zc5 BK253.out; have hfz28 := zf5 BK253.out; obtain ⟨Ao29, co29, eo29⟩ := Kd.N_slice HO250.out; subst eo29) | ((with_reducible refine gC 38 rfl ?_); refine gL 8 Tryd.func38 #[.pointer (some ⟨g, 0, none⟩), .int .i64 14] ?_; (with_reducible refine (spec_l1Below.calls g s0_0 t251 t252 14 t254 t255 t256 w0 _ ?side1 ?side2 A3.out).mono ?_); (case side1 => exact zI2 HI0.out NB0_243.out NB0_253.out); (case side2 => exact zL3 HB.out (IsS53.ge HI0.out) GE243.out GE253.out); rintro e w30 ⟨rfl, hi, hb, hk⟩; refine ⟨_, rfl, ?_⟩; replace BK243 := Aside0.mk (zQ2 (.cells #[.int .i64 0, .int .i64 0, .string (⟨#[]⟩ : ByteArray), .string (⟨#[]⟩ : ByteArray), .slice none 0 0] 26 (0, 0)) hk (by refine zB ?_; refine zr5 ?_ NB243_253.out; exact zB BK243.out) NB243_0.out (by simp)); replace HO250 := Aside0.mk (Kd.N_mono (Kd.N_keep (Kd.N_mono (ok := fun k_ => ((((w.heap.size ≤ k_)) ∧ (k_ ≠ gb243 ∧ k_ ≠ g)) ∧ k_ ≠ gb253)) (by (with_reducible repeat (first | apply Kd.N_alloc | apply Kd.N_drewN | apply Kd.N_drew)); exact (Kd.N_mono (zNF5 (Kd.N_mono HO250.out (fun k_ hk => (⟨hk, hk.2⟩ : _ ∧ k_ ≠ gb253))) gb253 (fun _ hk => hk.2) (.int .i64 t244) (.int .i64 t245) (.string t246) (.string t247) (.slice Ao29 t248.length co29)) (fun _ h_ => h_.1))) (fun k_ hk_ => (⟨hk_, hk_.1.2.2⟩ : _ ∧ k_ ≠ g))) hk (fun _ h => h.2)) (fun _ h => h.1)); replace BK253 := Aside0.mk (zQ2 (.cells #[.int .i64 t244, .int .i64 t245, .string t246, .string t247, .slice Ao29 t248.length co29] 26 (0, 0)) hk (by refine zB ?_; refine zp5 (cs := #[.int .i64 0, .int .i64 0, .string (⟨#[]⟩ : ByteArray), .string (⟨#[]⟩ : ByteArray), .slice none 0 0]) ?_; exact zB BK253.out) NB253_0.out (by simp)); replace HK := zKK (zK2 HK.out GW243.out GW253.out) hk; replace HB := Aside0.mk hb; replace HI0 := Aside0.mk hi; clear hi hb hk) | ((with_reducible refine gC 40 rfl ?_); refine gL 18 Tryd.func40 #[.pointer (some ⟨g, 0, none⟩)] ?_; (with_reducible refine (spec_l1Raw.calls g s0_0 t255 t256 t263 t264 t265 w0 _ ?side1 ?side2 A22.out).mono ?_); (case side1 => exact zI2 HI0.out NB0_243.out NB0_253.out); (case side2 => exact zL3 HB.out (IsS53.ge HI0.out) GE243.out GE253.out); rintro e w31 ⟨rfl, hi, hb, hk⟩; refine ⟨_, rfl, ?_⟩; replace BK243 := zBK hk BK243 NB243_0; replace HO250 := Aside0.mk (Kd.N_mono (Kd.N_keep (Kd.N_mono (ok := fun k_ => ((((w.heap.size ≤ k_)) ∧ (k_ ≠ gb243 ∧ k_ ≠ g)) ∧ k_ ≠ gb253)) (zX HO250.out) (fun k_ hk_ => (⟨hk_, hk_.1.2.2⟩ : _ ∧ k_ ≠ g))) hk (fun _ h => h.2)) (fun _ h => h.1)); replace BK253 := zBK hk BK253 NB253_0; replace HK := zKK (zK2 HK.out GW243.out GW253.out) hk; replace HB := Aside0.mk hb; replace HI0 := Aside0.mk hi; clear hi hb hk; have hcz32 := zc5 BK253.out; have hfz32 := zf5 BK253.out; have hnb33 := NB243_0.out; have hnc33 := NB0_243.out; have hcz34 := zc5 BK243.out; have hfz34 := zf5 BK243.out))
   refine bodyPost_ret (results_cell_row rfl _ _ gb243 26 #[.int .i64 t244, .int .i64 t263, .string t246, .string t247, .slice Ao29 t248.length co29] (0, 0) _ rfl (by refine zB ?_; refine zp5 (cs := #[.int .i64 0, .int .i64 0, .string (⟨#[]⟩ : ByteArray), .string (⟨#[]⟩ : ByteArray), .slice none 0 0]) ?_; (with_reducible repeat (first | refine bN ?_ _ | refine bD ?_ | refine bA ?_ _)); refine blk_far ?_ NB243_253.out _; exact zB BK243.out) Tryd.underlying26 rfl (by kernel_rfl)) rfl ?_
   exact ⟨_, zW, by (with_reducible repeat (first | apply Kd.N_alloc | apply Kd.N_drewN | apply Kd.N_drew)); exact Kd.N_mono (zNF5 (Kd.N_far (p := ⟨gb253, 1, none⟩) (Kd.N_mono (Kd.N_mono HO250.out (fun k_ hk => (⟨hk, hk.2⟩ : _ ∧ k_ ≠ gb253))) (fun k_ hk => (⟨hk, hk.1.1.2.1⟩ : _ ∧ k_ ≠ gb243))) (fun _ hk => hk.1.2) (.int .i64 t263)) gb243 (fun _ hk => hk.2) (.int .i64 t244) (.int .i64 t263) (.string t246) (.string t247) (.slice Ao29 t248.length co29)) (fun _ hk => hk.1.1.1.1), zI2 HI0.out NB0_243.out NB0_253.out, zL3 HB.out (IsS53.ge HI0.out) GE243.out GE253.out, zK2 HK.out GW243.out GW253.out⟩
  ·rw [if_neg c21] at H
   obtain ⟨c21b0, c21b1⟩ := zf c21
   by_cases c35 : t254 = 2
   ·rw [if_pos c35] at H
    obtain ⟨c35b0, c35b1⟩ := zt c35
    clear c35
    obtain ⟨⟨t266, t267, t268⟩, A36, H⟩ := zO H; try dsimp only at H
    simp only [Option.some.injEq, Prod.mk.injEq] at H
    obtain ⟨rfl, rfl, rfl, rfl, rfl, rfl, rfl⟩ := H
    go_enter Tryd.func25, Tryd.ntmps25
    go_wp2_with (first | ((with_reducible refine gD 2 rfl ?_); refine bE 2 #[.int .i64 0, .int .i64 0, .string (⟨#[]⟩ : ByteArray), .string (⟨#[]⟩ : ByteArray), .slice none 0 0] 26 ?_; intro gb243 hg w37 hbox hb; replace HB := zLB (zL1 HB.out (IsS53.ge HI0.out)) hb; have BK243 := Aside0.mk hbox; have GW243 := Aside0.mk (zgK (g := g) (zK HK.out) hg : w.heap.size ≤ gb243); have GE243 := Aside0.mk ((Nat.le_trans HW0.out (zgK (g := g) (zK HK.out) hg : w.heap.size ≤ gb243) : w0.heap.size ≤ gb243)); replace HK := zKB g (zK HK.out) hb; have NB0_243 := Aside0.mk ((zNI (IsS53.lt (zI HI0.out : IsS53 w0 _ g s0_0 s0_1 s0_2)) hg : g ≠ gb243)); have NB243_0 := Aside0.mk ((zMI (IsS53.lt (zI HI0.out : IsS53 w0 _ g s0_0 s0_1 s0_2)) hg : gb243 ≠ g)); replace HI0 := Aside0.mk (IsS53.below (zI HI0.out) hb); clear hb hbox hg) | ((with_reducible refine gC 37 rfl ?_); refine gL 6 Tryd.func37 #[.pointer (some ⟨g, 0, none⟩), .int .i64 3] ?_; (with_reducible refine (spec_l5Draw.calls k g s0_0 s0_1 s0_2 3 t244 t245 t246 t247 t248 t251 t252 w0 _ ?side1 ?side2 A2.out).mono ?_); (case side1 => exact zI1 HI0.out NB0_243.out); (case side2 => exact zL2 HB.out (IsS53.ge HI0.out) GE243.out); rintro e w38 ⟨v249, rfl, ho0, hi, hb, hk⟩; refine ⟨_, rfl, ?_⟩; have HO250 := Aside0.mk (Kd.N_lower (Kd.N_mono (ok' := fun k_ => (w.heap.size ≤ k_) ∧ k_ ≠ gb243 ∧ k_ ≠ g) (Kd.R_N (Kd.R_bound ho0)) (fun k_ hk_ => ⟨(Nat.le_trans (keep_size (w := w) (g := g) (row := none) (zK1 HK.out GW243.out)) hk_.2.1), (Kd.freshB (g := gb243) (o := .cells #[.int .i64 0, .int .i64 0, .string (⟨#[]⟩ : ByteArray), .string (⟨#[]⟩ : ByteArray), .slice none 0 0] 26 (0, 0)) (zB BK243.out) k_ hk_.2.1), (IsS53.fresh (zI1 HI0.out NB0_243.out) k_ hk_.2.1)⟩)) (keep_size (w := w) (g := g) (row := none) (zK1 HK.out GW243.out))); replace BK243 := zBK hk BK243 NB243_0; replace HK := zKK (zK1 HK.out GW243.out) hk; replace HB := Aside0.mk hb; replace HI0 := Aside0.mk hi; clear ho0 hi hb hk) | ((with_reducible refine gD 3 rfl ?_); refine bE 3 #[.int .i64 0, .int .i64 0, .string (⟨#[]⟩ : ByteArray), .string (⟨#[]⟩ : ByteArray), .slice none 0 0] 26 ?_; intro gb253 hg w39 hbox hb; replace HO250 := Aside0.mk (Kd.N_below (Kd.N_elderB (zX HO250.out) gb253 (Nat.le_of_eq hg.symm)) hb); replace HB := zLB (zL2 HB.out (IsS53.ge HI0.out) GE243.out) hb; have BK253 := Aside0.mk hbox; have GW253 := Aside0.mk (zgK (g := g) (zK1 HK.out GW243.out) hg : w.heap.size ≤ gb253); have GE253 := Aside0.mk ((Nat.le_trans HW0.out (zgK (g := g) (zK1 HK.out GW243.out) hg : w.heap.size ≤ gb253) : w0.heap.size ≤ gb253)); replace HK := zKB g (zK1 HK.out GW243.out) hb; have NB243_253 := Aside0.mk (zN BK243.out hg : gb243 ≠ gb253); have NB253_243 := Aside0.mk (zM BK243.out hg : gb253 ≠ gb243); replace BK243 := zBB BK243 hb; have NB0_253 := Aside0.mk ((zNI (IsS53.lt (zI1 HI0.out NB0_243.out : IsS53 w0 _ g s0_0 t251 t252)) hg : g ≠ gb253)); have NB253_0 := Aside0.mk ((zMI (IsS53.lt (zI1 HI0.out NB0_243.out : IsS53 w0 _ g s0_0 t251 t252)) hg : gb253 ≠ g)); replace HI0 := Aside0.mk (IsS53.below (zI1 HI0.out NB0_243.out) hb); clear hb hbox hg; have hnb40 := NB253_243.out; have hnc40 := NB243_253.out; have hnb41 := NB253_0.out; have hnc41 := NB0_253.out; have hcz42 := zc5 BK253.out; have hfz42 := zf5 BK253.out; obtain ⟨Ao43, co43, eo43⟩ := Kd.N_slice HO250.out; subst eo43) | ((with_reducible refine gC 38 rfl ?_); refine gL 8 Tryd.func38 #[.pointer (some ⟨g, 0, none⟩), .int .i64 14] ?_; (with_reducible refine (spec_l1Below.calls g s0_0 t251 t252 14 t254 t255 t256 w0 _ ?side1 ?side2 A3.out).mono ?_); (case side1 => exact zI2 HI0.out NB0_243.out NB0_253.out); (case side2 => exact zL3 HB.out (IsS53.ge HI0.out) GE243.out GE253.out); rintro e w44 ⟨rfl, hi, hb, hk⟩; refine ⟨_, rfl, ?_⟩; replace BK243 := Aside0.mk (zQ2 (.cells #[.int .i64 0, .int .i64 0, .string (⟨#[]⟩ : ByteArray), .string (⟨#[]⟩ : ByteArray), .slice none 0 0] 26 (0, 0)) hk (by refine zB ?_; refine zr5 ?_ NB243_253.out; exact zB BK243.out) NB243_0.out (by simp)); replace HO250 := Aside0.mk (Kd.N_mono (Kd.N_keep (Kd.N_mono (ok := fun k_ => ((((w.heap.size ≤ k_)) ∧ (k_ ≠ gb243 ∧ k_ ≠ g)) ∧ k_ ≠ gb253)) (by (with_reducible repeat (first | apply Kd.N_alloc | apply Kd.N_drewN | apply Kd.N_drew)); exact (Kd.N_mono (zNF5 (Kd.N_mono HO250.out (fun k_ hk => (⟨hk, hk.2⟩ : _ ∧ k_ ≠ gb253))) gb253 (fun _ hk => hk.2) (.int .i64 t244) (.int .i64 t245) (.string t246) (.string t247) (.slice Ao43 t248.length co43)) (fun _ h_ => h_.1))) (fun k_ hk_ => (⟨hk_, hk_.1.2.2⟩ : _ ∧ k_ ≠ g))) hk (fun _ h => h.2)) (fun _ h => h.1)); replace BK253 := Aside0.mk (zQ2 (.cells #[.int .i64 t244, .int .i64 t245, .string t246, .string t247, .slice Ao43 t248.length co43] 26 (0, 0)) hk (by refine zB ?_; refine zp5 (cs := #[.int .i64 0, .int .i64 0, .string (⟨#[]⟩ : ByteArray), .string (⟨#[]⟩ : ByteArray), .slice none 0 0]) ?_; exact zB BK253.out) NB253_0.out (by simp)); replace HK := zKK (zK2 HK.out GW243.out GW253.out) hk; replace HB := Aside0.mk hb; replace HI0 := Aside0.mk hi; clear hi hb hk) | ((with_reducible refine gC 41 rfl ?_); refine gL 23 Tryd.func41 #[.pointer (some ⟨g, 0, none⟩)] ?_; (with_reducible refine (spec_l1AnyName.calls g s0_0 t255 t256 t266 t267 t268 w0 _ ?side1 ?side2 A36.out).mono ?_); (case side1 => exact zI2 HI0.out NB0_243.out NB0_253.out); (case side2 => exact zL3 HB.out (IsS53.ge HI0.out) GE243.out GE253.out); rintro e w45 ⟨rfl, hi, hb, hk⟩; refine ⟨_, rfl, ?_⟩; replace BK243 := zBK hk BK243 NB243_0; replace HO250 := Aside0.mk (Kd.N_mono (Kd.N_keep (Kd.N_mono (ok := fun k_ => ((((w.heap.size ≤ k_)) ∧ (k_ ≠ gb243 ∧ k_ ≠ g)) ∧ k_ ≠ gb253)) (zX HO250.out) (fun k_ hk_ => (⟨hk_, hk_.1.2.2⟩ : _ ∧ k_ ≠ g))) hk (fun _ h => h.2)) (fun _ h => h.1)); replace BK253 := zBK hk BK253 NB253_0; replace HK := zKK (zK2 HK.out GW243.out GW253.out) hk; replace HB := Aside0.mk hb; replace HI0 := Aside0.mk hi; clear hi hb hk; have hcz46 := zc5 BK253.out; have hfz46 := zf5 BK253.out; have hnb47 := NB243_0.out; have hnc47 := NB0_243.out; have hcz48 := zc5 BK243.out; have hfz48 := zf5 BK243.out))
    refine bodyPost_ret (results_cell_row rfl _ _ gb243 26 #[.int .i64 t244, .int .i64 t245, .string t266, .string t247, .slice Ao43 t248.length co43] (0, 0) _ rfl (by refine zB ?_; refine zp5 (cs := #[.int .i64 0, .int .i64 0, .string (⟨#[]⟩ : ByteArray), .string (⟨#[]⟩ : ByteArray), .slice none 0 0]) ?_; (with_reducible repeat (first | refine bN ?_ _ | refine bD ?_ | refine bA ?_ _)); refine blk_far ?_ NB243_253.out _; exact zB BK243.out) Tryd.underlying26 rfl (by kernel_rfl)) rfl ?_
    exact ⟨_, zW, by (with_reducible repeat (first | apply Kd.N_alloc | apply Kd.N_drewN | apply Kd.N_drew)); exact Kd.N_mono (zNF5 (Kd.N_far (p := ⟨gb253, 2, none⟩) (Kd.N_mono (Kd.N_mono HO250.out (fun k_ hk => (⟨hk, hk.2⟩ : _ ∧ k_ ≠ gb253))) (fun k_ hk => (⟨hk, hk.1.1.2.1⟩ : _ ∧ k_ ≠ gb243))) (fun _ hk => hk.1.2) (.string t266)) gb243 (fun _ hk => hk.2) (.int .i64 t244) (.int .i64 t245) (.string t266) (.string t247) (.slice Ao43 t248.length co43)) (fun _ hk => hk.1.1.1.1), zI2 HI0.out NB0_243.out NB0_253.out, zL3 HB.out (IsS53.ge HI0.out) GE243.out GE253.out, zK2 HK.out GW243.out GW253.out⟩
   ·rw [if_neg c35] at H
    obtain ⟨c35b0, c35b1⟩ := zf c35
    by_cases c49 : t254 = 3
    ·rw [if_pos c49] at H
     obtain ⟨c49b0, c49b1⟩ := zt c49
     clear c49
     obtain ⟨⟨t269, t270, t271⟩, A50, H⟩ := zO H; try dsimp only at H
     simp only [Option.some.injEq, Prod.mk.injEq] at H
     obtain ⟨rfl, rfl, rfl, rfl, rfl, rfl, rfl⟩ := H
     go_enter Tryd.func25, Tryd.ntmps25
     go_wp2_with (first | ((with_reducible refine gD 2 rfl ?_); refine bE 2 #[.int .i64 0, .int .i64 0, .string (⟨#[]⟩ : ByteArray), .string (⟨#[]⟩ : ByteArray), .slice none 0 0] 26 ?_; intro gb243 hg w51 hbox hb; replace HB := zLB (zL1 HB.out (IsS53.ge HI0.out)) hb; have BK243 := Aside0.mk hbox; have GW243 := Aside0.mk (zgK (g := g) (zK HK.out) hg : w.heap.size ≤ gb243); have GE243 := Aside0.mk ((Nat.le_trans HW0.out (zgK (g := g) (zK HK.out) hg : w.heap.size ≤ gb243) : w0.heap.size ≤ gb243)); replace HK := zKB g (zK HK.out) hb; have NB0_243 := Aside0.mk ((zNI (IsS53.lt (zI HI0.out : IsS53 w0 _ g s0_0 s0_1 s0_2)) hg : g ≠ gb243)); have NB243_0 := Aside0.mk ((zMI (IsS53.lt (zI HI0.out : IsS53 w0 _ g s0_0 s0_1 s0_2)) hg : gb243 ≠ g)); replace HI0 := Aside0.mk (IsS53.below (zI HI0.out) hb); clear hb hbox hg) | ((with_reducible refine gC 37 rfl ?_); refine gL 6 Tryd.func37 #[.pointer (some ⟨g, 0, none⟩), .int .i64 3] ?_; (with_reducible refine (spec_l5Draw.calls k g s0_0 s0_1 s0_2 3 t244 t245 t246 t247 t248 t251 t252 w0 _ ?side1 ?side2 A2.out).mono ?_); (case side1 => exact zI1 HI0.out NB0_243.out); (case side2 => exact zL2 HB.out (IsS53.ge HI0.out) GE243.out); rintro e w52 ⟨v249, rfl, ho0, hi, hb, hk⟩; refine ⟨_, rfl, ?_⟩; have HO250 := Aside0.mk (Kd.N_lower (Kd.N_mono (ok' := fun k_ => (w.heap.size ≤ k_) ∧ k_ ≠ gb243 ∧ k_ ≠ g) (Kd.R_N (Kd.R_bound ho0)) (fun k_ hk_ => ⟨(Nat.le_trans (keep_size (w := w) (g := g) (row := none) (zK1 HK.out GW243.out)) hk_.2.1), (Kd.freshB (g := gb243) (o := .cells #[.int .i64 0, .int .i64 0, .string (⟨#[]⟩ : ByteArray), .string (⟨#[]⟩ : ByteArray), .slice none 0 0] 26 (0, 0)) (zB BK243.out) k_ hk_.2.1), (IsS53.fresh (zI1 HI0.out NB0_243.out) k_ hk_.2.1)⟩)) (keep_size (w := w) (g := g) (row := none) (zK1 HK.out GW243.out))); replace BK243 := zBK hk BK243 NB243_0; replace HK := zKK (zK1 HK.out GW243.out) hk; replace HB := Aside0.mk hb; replace HI0 := Aside0.mk hi; clear ho0 hi hb hk) | ((with_reducible refine gD 3 rfl ?_); refine bE 3 #[.int .i64 0, .int .i64 0, .string (⟨#[]⟩ : ByteArray), .string (⟨#[]⟩ : ByteArray), .slice none 0 0] 26 ?_; intro gb253 hg w53 hbox hb; replace HO250 := Aside0.mk (Kd.N_below (Kd.N_elderB (zX HO250.out) gb253 (Nat.le_of_eq hg.symm)) hb); replace HB := zLB (zL2 HB.out (IsS53.ge HI0.out) GE243.out) hb; have BK253 := Aside0.mk hbox; have GW253 := Aside0.mk (zgK (g := g) (zK1 HK.out GW243.out) hg : w.heap.size ≤ gb253); have GE253 := Aside0.mk ((Nat.le_trans HW0.out (zgK (g := g) (zK1 HK.out GW243.out) hg : w.heap.size ≤ gb253) : w0.heap.size ≤ gb253)); replace HK := zKB g (zK1 HK.out GW243.out) hb; have NB243_253 := Aside0.mk (zN BK243.out hg : gb243 ≠ gb253); have NB253_243 := Aside0.mk (zM BK243.out hg : gb253 ≠ gb243); replace BK243 := zBB BK243 hb; have NB0_253 := Aside0.mk ((zNI (IsS53.lt (zI1 HI0.out NB0_243.out : IsS53 w0 _ g s0_0 t251 t252)) hg : g ≠ gb253)); have NB253_0 := Aside0.mk ((zMI (IsS53.lt (zI1 HI0.out NB0_243.out : IsS53 w0 _ g s0_0 t251 t252)) hg : gb253 ≠ g)); replace HI0 := Aside0.mk (IsS53.below (zI1 HI0.out NB0_243.out) hb); clear hb hbox hg; have hnb54 := NB253_243.out; have hnc54 := NB243_253.out; have hnb55 := NB253_0.out; have hnc55 := NB0_253.out; have hcz56 := zc5 BK253.out; have hfz56 := zf5 BK253.out; obtain ⟨Ao57, co57, eo57⟩ := Kd.N_slice HO250.out; subst eo57) | ((with_reducible refine gC 38 rfl ?_); refine gL 8 Tryd.func38 #[.pointer (some ⟨g, 0, none⟩), .int .i64 14] ?_; (with_reducible refine (spec_l1Below.calls g s0_0 t251 t252 14 t254 t255 t256 w0 _ ?side1 ?side2 A3.out).mono ?_); (case side1 => exact zI2 HI0.out NB0_243.out NB0_253.out); (case side2 => exact zL3 HB.out (IsS53.ge HI0.out) GE243.out GE253.out); rintro e w58 ⟨rfl, hi, hb, hk⟩; refine ⟨_, rfl, ?_⟩; replace BK243 := Aside0.mk (zQ2 (.cells #[.int .i64 0, .int .i64 0, .string (⟨#[]⟩ : ByteArray), .string (⟨#[]⟩ : ByteArray), .slice none 0 0] 26 (0, 0)) hk (by refine zB ?_; refine zr5 ?_ NB243_253.out; exact zB BK243.out) NB243_0.out (by simp)); replace HO250 := Aside0.mk (Kd.N_mono (Kd.N_keep (Kd.N_mono (ok := fun k_ => ((((w.heap.size ≤ k_)) ∧ (k_ ≠ gb243 ∧ k_ ≠ g)) ∧ k_ ≠ gb253)) (by (with_reducible repeat (first | apply Kd.N_alloc | apply Kd.N_drewN | apply Kd.N_drew)); exact (Kd.N_mono (zNF5 (Kd.N_mono HO250.out (fun k_ hk => (⟨hk, hk.2⟩ : _ ∧ k_ ≠ gb253))) gb253 (fun _ hk => hk.2) (.int .i64 t244) (.int .i64 t245) (.string t246) (.string t247) (.slice Ao57 t248.length co57)) (fun _ h_ => h_.1))) (fun k_ hk_ => (⟨hk_, hk_.1.2.2⟩ : _ ∧ k_ ≠ g))) hk (fun _ h => h.2)) (fun _ h => h.1)); replace BK253 := Aside0.mk (zQ2 (.cells #[.int .i64 t244, .int .i64 t245, .string t246, .string t247, .slice Ao57 t248.length co57] 26 (0, 0)) hk (by refine zB ?_; refine zp5 (cs := #[.int .i64 0, .int .i64 0, .string (⟨#[]⟩ : ByteArray), .string (⟨#[]⟩ : ByteArray), .slice none 0 0]) ?_; exact zB BK253.out) NB253_0.out (by simp)); replace HK := zKK (zK2 HK.out GW243.out GW253.out) hk; replace HB := Aside0.mk hb; replace HI0 := Aside0.mk hi; clear hi hb hk) | ((with_reducible refine gC 42 rfl ?_); refine gL 28 Tryd.func42 #[.pointer (some ⟨g, 0, none⟩)] ?_; (with_reducible refine (spec_l1Plain.calls g s0_0 t255 t256 t269 t270 t271 w0 _ ?side1 ?side2 A50.out).mono ?_); (case side1 => exact zI2 HI0.out NB0_243.out NB0_253.out); (case side2 => exact zL3 HB.out (IsS53.ge HI0.out) GE243.out GE253.out); rintro e w59 ⟨rfl, hi, hb, hk⟩; refine ⟨_, rfl, ?_⟩; replace BK243 := zBK hk BK243 NB243_0; replace HO250 := Aside0.mk (Kd.N_mono (Kd.N_keep (Kd.N_mono (ok := fun k_ => ((((w.heap.size ≤ k_)) ∧ (k_ ≠ gb243 ∧ k_ ≠ g)) ∧ k_ ≠ gb253)) (zX HO250.out) (fun k_ hk_ => (⟨hk_, hk_.1.2.2⟩ : _ ∧ k_ ≠ g))) hk (fun _ h => h.2)) (fun _ h => h.1)); replace BK253 := zBK hk BK253 NB253_0; replace HK := zKK (zK2 HK.out GW243.out GW253.out) hk; replace HB := Aside0.mk hb; replace HI0 := Aside0.mk hi; clear hi hb hk; have hcz60 := zc5 BK253.out; have hfz60 := zf5 BK253.out; have hnb61 := NB243_0.out; have hnc61 := NB0_243.out; have hcz62 := zc5 BK243.out; have hfz62 := zf5 BK243.out))
     refine bodyPost_ret (results_cell_row rfl _ _ gb243 26 #[.int .i64 t244, .int .i64 t245, .string t246, .string t269, .slice Ao57 t248.length co57] (0, 0) _ rfl (by refine zB ?_; refine zp5 (cs := #[.int .i64 0, .int .i64 0, .string (⟨#[]⟩ : ByteArray), .string (⟨#[]⟩ : ByteArray), .slice none 0 0]) ?_; (with_reducible repeat (first | refine bN ?_ _ | refine bD ?_ | refine bA ?_ _)); refine blk_far ?_ NB243_253.out _; exact zB BK243.out) Tryd.underlying26 rfl (by kernel_rfl)) rfl ?_
     exact ⟨_, zW, by (with_reducible repeat (first | apply Kd.N_alloc | apply Kd.N_drewN | apply Kd.N_drew)); exact Kd.N_mono (zNF5 (Kd.N_far (p := ⟨gb253, 3, none⟩) (Kd.N_mono (Kd.N_mono HO250.out (fun k_ hk => (⟨hk, hk.2⟩ : _ ∧ k_ ≠ gb253))) (fun k_ hk => (⟨hk, hk.1.1.2.1⟩ : _ ∧ k_ ≠ gb243))) (fun _ hk => hk.1.2) (.string t269)) gb243 (fun _ hk => hk.2) (.int .i64 t244) (.int .i64 t245) (.string t246) (.string t269) (.slice Ao57 t248.length co57)) (fun _ hk => hk.1.1.1.1), zI2 HI0.out NB0_243.out NB0_253.out, zL3 HB.out (IsS53.ge HI0.out) GE243.out GE253.out, zK2 HK.out GW243.out GW253.out⟩
    ·rw [if_neg c49] at H
     obtain ⟨c49b0, c49b1⟩ := zf c49
     by_cases c63 : t254 = 4
     ·rw [if_pos c63] at H
      obtain ⟨c63b0, c63b1⟩ := zt c63
      clear c63
      obtain ⟨⟨t272, t273, t274, t275, t276, t279, t280⟩, A64, H⟩ := zO H; try dsimp only at H
      obtain ⟨⟨t281, t282, t283, t284, t285, t288, t289⟩, A65, H⟩ := zO H; try dsimp only at H
      generalize hy290 : (([(⟨t272, t273, t274, t275, t276⟩ : S26), (⟨t281, t282, t283, t284, t285⟩ : S26)] : List (S26))) = y290 at H; (try rw [Option.bind_some] at H); have Ny290 := Aside0.mk hy290.symm; clear hy290
      by_cases c66 : t248.length + y290.length < 1954687338268
      ·rw [if_pos c66] at H
       have LMc66 := Aside0.mk c66
       clear c66
       generalize hy293 : (t248 ++ y290) = y293 at H; (try rw [Option.bind_some] at H); have Ny293 := Aside0.mk hy293.symm; clear hy293
       simp only [Option.some.injEq, Prod.mk.injEq] at H
       obtain ⟨rfl, rfl, rfl, rfl, rfl, rfl, rfl⟩ := H
       go_enter Tryd.func25, Tryd.ntmps25
       try go_wp2_with (first | ((with_reducible refine gD 2 rfl ?_); refine bE 2 #[.int .i64 0, .int .i64 0, .string (⟨#[]⟩ : ByteArray), .string (⟨#[]⟩ : ByteArray), .slice none 0 0] 26 ?_; intro gb243 hg w67 hbox hb; replace HB := zLB (zL1 HB.out (IsS53.ge HI0.out)) hb; have BK243 := Aside0.mk hbox; have GW243 := Aside0.mk (zgK (g := g) (zK HK.out) hg : w.heap.size ≤ gb243); have GE243 := Aside0.mk ((Nat.le_trans HW0.out (zgK (g := g) (zK HK.out) hg : w.heap.size ≤ gb243) : w0.heap.size ≤ gb243)); replace HK := zKB g (zK HK.out) hb; have NB0_243 := Aside0.mk ((zNI (IsS53.lt (zI HI0.out : IsS53 w0 _ g s0_0 s0_1 s0_2)) hg : g ≠ gb243)); have NB243_0 := Aside0.mk ((zMI (IsS53.lt (zI HI0.out : IsS53 w0 _ g s0_0 s0_1 s0_2)) hg : gb243 ≠ g)); replace HI0 := Aside0.mk (IsS53.below (zI HI0.out) hb); clear hb hbox hg) | ((with_reducible refine gC 37 rfl ?_); refine gL 6 Tryd.func37 #[.pointer (some ⟨g, 0, none⟩), .int .i64 3] ?_; (with_reducible refine (spec_l5Draw.calls k g s0_0 s0_1 s0_2 3 t244 t245 t246 t247 t248 t251 t252 w0 _ ?side1 ?side2 A2.out).mono ?_); (case side1 => exact zI1 HI0.out NB0_243.out); (case side2 => exact zL2 HB.out (IsS53.ge HI0.out) GE243.out); rintro e w68 ⟨v249, rfl, ho0, hi, hb, hk⟩; refine ⟨_, rfl, ?_⟩; have HO250 := Aside0.mk (Kd.N_lower (Kd.N_mono (ok' := fun k_ => (w.heap.size ≤ k_) ∧ k_ ≠ gb243 ∧ k_ ≠ g) (Kd.R_N (Kd.R_bound ho0)) (fun k_ hk_ => ⟨(Nat.le_trans (keep_size (w := w) (g := g) (row := none) (zK1 HK.out GW243.out)) hk_.2.1), (Kd.freshB (g := gb243) (o := .cells #[.int .i64 0, .int .i64 0, .string (⟨#[]⟩ : ByteArray), .string (⟨#[]⟩ : ByteArray), .slice none 0 0] 26 (0, 0)) (zB BK243.out) k_ hk_.2.1), (IsS53.fresh (zI1 HI0.out NB0_243.out) k_ hk_.2.1)⟩)) (keep_size (w := w) (g := g) (row := none) (zK1 HK.out GW243.out))); replace BK243 := zBK hk BK243 NB243_0; replace HK := zKK (zK1 HK.out GW243.out) hk; replace HB := Aside0.mk hb; replace HI0 := Aside0.mk hi; clear ho0 hi hb hk) | ((with_reducible refine gD 3 rfl ?_); refine bE 3 #[.int .i64 0, .int .i64 0, .string (⟨#[]⟩ : ByteArray), .string (⟨#[]⟩ : ByteArray), .slice none 0 0] 26 ?_; intro gb253 hg w69 hbox hb; replace HO250 := Aside0.mk (Kd.N_below (Kd.N_elderB (zX HO250.out) gb253 (Nat.le_of_eq hg.symm)) hb); replace HB := zLB (zL2 HB.out (IsS53.ge HI0.out) GE243.out) hb; have BK253 := Aside0.mk hbox; have GW253 := Aside0.mk (zgK (g := g) (zK1 HK.out GW243.out) hg : w.heap.size ≤ gb253); have GE253 := Aside0.mk ((Nat.le_trans HW0.out (zgK (g := g) (zK1 HK.out GW243.out) hg : w.heap.size ≤ gb253) : w0.heap.size ≤ gb253)); replace HK := zKB g (zK1 HK.out GW243.out) hb; have NB243_253 := Aside0.mk (zN BK243.out hg : gb243 ≠ gb253); have NB253_243 := Aside0.mk (zM BK243.out hg : gb253 ≠ gb243); replace BK243 := zBB BK243 hb; have NB0_253 := Aside0.mk ((zNI (IsS53.lt (zI1 HI0.out NB0_243.out : IsS53 w0 _ g s0_0 t251 t252)) hg : g ≠ gb253)); have NB253_0 := Aside0.mk ((zMI (IsS53.lt (zI1 HI0.out NB0_243.out : IsS53 w0 _ g s0_0 t251 t252)) hg : gb253 ≠ g)); replace HI0 := Aside0.mk (IsS53.below (zI1 HI0.out NB0_243.out) hb); clear hb hbox hg; have hnb70 := NB253_243.out; have hnc70 := NB243_253.out; have hnb71 := NB253_0.out; have hnc71 := NB0_253.out; have hcz72 := zc5 BK253.out; have hfz72 := zf5 BK253.out; obtain ⟨Ao73, co73, eo73⟩ := Kd.N_slice HO250.out; subst eo73) | ((with_reducible refine gC 38 rfl ?_); refine gL 8 Tryd.func38 #[.pointer (some ⟨g, 0, none⟩), .int .i64 14] ?_; (with_reducible refine (spec_l1Below.calls g s0_0 t251 t252 14 t254 t255 t256 w0 _ ?side1 ?side2 A3.out).mono ?_); (case side1 => exact zI2 HI0.out NB0_243.out NB0_253.out); (case side2 => exact zL3 HB.out (IsS53.ge HI0.out) GE243.out GE253.out); rintro e w74 ⟨rfl, hi, hb, hk⟩; refine ⟨_, rfl, ?_⟩; replace BK243 := Aside0.mk (zQ2 (.cells #[.int .i64 0, .int .i64 0, .string (⟨#[]⟩ : ByteArray), .string (⟨#[]⟩ : ByteArray), .slice none 0 0] 26 (0, 0)) hk (by refine zB ?_; refine zr5 ?_ NB243_253.out; exact zB BK243.out) NB243_0.out (by simp)); replace HO250 := Aside0.mk (Kd.N_mono (Kd.N_keep (Kd.N_mono (ok := fun k_ => ((((w.heap.size ≤ k_)) ∧ (k_ ≠ gb243 ∧ k_ ≠ g)) ∧ k_ ≠ gb253)) (by (with_reducible repeat (first | apply Kd.N_alloc | apply Kd.N_drewN | apply Kd.N_drew)); exact (Kd.N_mono (zNF5 (Kd.N_mono HO250.out (fun k_ hk => (⟨hk, hk.2⟩ : _ ∧ k_ ≠ gb253))) gb253 (fun _ hk => hk.2) (.int .i64 t244) (.int .i64 t245) (.string t246) (.string t247) (.slice Ao73 t248.length co73)) (fun _ h_ => h_.1))) (fun k_ hk_ => (⟨hk_, hk_.1.2.2⟩ : _ ∧ k_ ≠ g))) hk (fun _ h => h.2)) (fun _ h => h.1)); replace BK253 := Aside0.mk (zQ2 (.cells #[.int .i64 t244, .int .i64 t245, .string t246, .string t247, .slice Ao73 t248.length co73] 26 (0, 0)) hk (by refine zB ?_; refine zp5 (cs := #[.int .i64 0, .int .i64 0, .string (⟨#[]⟩ : ByteArray), .string (⟨#[]⟩ : ByteArray), .slice none 0 0]) ?_; exact zB BK253.out) NB253_0.out (by simp)); replace HK := zKK (zK2 HK.out GW243.out GW253.out) hk; replace HB := Aside0.mk hb; replace HI0 := Aside0.mk hi; clear hi hb hk))
       replace HO250 := zXD HO250; replace BK243 := zBD BK243; replace BK253 := zBD BK253; replace HI0 := Aside0.mk (IsS53.drew HI0.out); replace HK := Aside0.mk (keep_drew HK.out); replace HB := zLD HB
       refine start_ (n := 10) (S := fun w' => zs5 w' gb253 (.int .i64 t244) (.int .i64 t245) (.string t246) (.string t247) (.slice Ao73 t248.length co73)) (ds := [9]) (fB 10 0) (by kernel_rfl) rfl rfl (zc5 BK253.out) (fun hHeld => ?_); refine with_tabW spec_l5Any.tab12 spec_l5Any.bits12 (fun HT_ HW_ => ?_)
       generalize w74.drew = w75 at HO250 BK243 BK253 HI0 HK HB hHeld ⊢
       refine pY 0 32 (fB 10 1) HT_.out ?_
       refine pY 2 34 (fB 10 5) HT_.out ?_
       refine pY 4 36 (fB 10 21) HT_.out ?_
       refine tY 1 33 (fB 10 23) HT_.out HW_.out hHeld ?_
       refine oN 3 35 (fB 10 31) HT_.out fun K hK => ?_
       refine gS Tryd.func37 #[.pointer (some ⟨g, 0, none⟩), .int .i64 2] ?_
       with_reducible refine (spec_l5Draw.calls k g s0_0 t255 t256 2 t272 t273 t274 t275 t276 t279 t280 w0 _ ?side1 ?side2 A64.out).mono ?_
       (case side1 => exact zI2 HI0.out NB0_243.out NB0_253.out)
       (case side2 => exact zL3 HB.out (IsS53.ge HI0.out) GE243.out GE253.out)
       rintro e w76 ⟨v277, rfl, ho0, hi, hb, hk⟩
       refine ⟨_, rfl, ?_⟩
       have HO278 := Aside0.mk (Kd.N_lower (Kd.N_mono (ok' := fun k_ => (w.heap.size ≤ k_) ∧ some k_ ≠ (.slice Ao73 t248.length co73 : Value).ownBlock ∧ k_ ≠ gb243 ∧ k_ ≠ gb253 ∧ k_ ≠ g) (Kd.R_N (Kd.R_bound ho0)) (fun k_ hk_ => ⟨(Nat.le_trans (keep_size (w := w) (g := g) (row := none) (zK2 HK.out GW243.out GW253.out)) hk_.2.1), (Kd.fresh' (Kd.N_lt (zX HO250.out)) k_ hk_.2.1), (Kd.freshB (g := gb243) (o := .cells #[.int .i64 0, .int .i64 0, .string (⟨#[]⟩ : ByteArray), .string (⟨#[]⟩ : ByteArray), .slice none 0 0] 26 (0, 0)) (zB BK243.out) k_ hk_.2.1), (Kd.freshB (g := gb253) (o := .cells #[.int .i64 t244, .int .i64 t245, .string t246, .string t247, .slice Ao73 t248.length co73] 26 (0, 0)) (zB BK253.out) k_ hk_.2.1), (IsS53.fresh (zI2 HI0.out NB0_243.out NB0_253.out) k_ hk_.2.1)⟩)) (keep_size (w := w) (g := g) (row := none) (zK2 HK.out GW243.out GW253.out))); replace BK243 := zBK hk BK243 NB243_0; replace HO250 := Aside0.mk (Kd.N_mono (Kd.N_told (Kd.N_oldK (Kd.N_mono (ok := fun k_ => ((((w.heap.size ≤ k_)) ∧ (k_ ≠ gb243 ∧ k_ ≠ g)) ∧ k_ ≠ gb253)) (zX HO250.out) (fun k_ hk_ => (⟨hk_, hk_.1.2.2⟩ : _ ∧ k_ ≠ g))) hk) (by first | exact Kd.N_base ho0 | exact Kd.R_base ho0)) (fun _ h_ => h_.1)); replace BK253 := zBK hk BK253 NB253_0; replace HK := zKK (zK2 HK.out GW243.out GW253.out) hk; replace HB := Aside0.mk hb; replace HI0 := Aside0.mk hi
       clear ho0 hi hb hk
       (try clear ho0)
       refine hK.out _ _ (zc5 BK253.out) fun hHeld => ?_; clear hK K
       refine nZ 35 ?_
       refine oN 5 37 (fB 10 63) HT_.out fun K hK => ?_
       refine gS Tryd.func37 #[.pointer (some ⟨g, 0, none⟩), .int .i64 2] ?_
       with_reducible refine (spec_l5Draw.calls k g s0_0 t279 t280 2 t281 t282 t283 t284 t285 t288 t289 w0 _ ?side1 ?side2 A65.out).mono ?_
       (case side1 => exact zI2 HI0.out NB0_243.out NB0_253.out)
       (case side2 => exact zL3 HB.out (IsS53.ge HI0.out) GE243.out GE253.out)
       rintro e w77 ⟨v286, rfl, ho0, hi, hb, hk⟩
       refine ⟨_, rfl, ?_⟩
       have HO287 := Aside0.mk (Kd.N_lower (Kd.N_mono (ok' := fun k_ => (w.heap.size ≤ k_) ∧ some k_ ≠ (.slice Ao73 t248.length co73 : Value).ownBlock ∧ some k_ ≠ (v277 : Value).ownBlock ∧ k_ ≠ gb243 ∧ k_ ≠ gb253 ∧ k_ ≠ g) (Kd.R_N (Kd.R_bound ho0)) (fun k_ hk_ => ⟨(Nat.le_trans (keep_size (w := w) (g := g) (row := none) (zK2 HK.out GW243.out GW253.out)) hk_.2.1), (Kd.fresh' (Kd.N_lt (zX HO250.out)) k_ hk_.2.1), (Kd.fresh' (Kd.N_lt (zX HO278.out)) k_ hk_.2.1), (Kd.freshB (g := gb243) (o := .cells #[.int .i64 0, .int .i64 0, .string (⟨#[]⟩ : ByteArray), .string (⟨#[]⟩ : ByteArray), .slice none 0 0] 26 (0, 0)) (zB BK243.out) k_ hk_.2.1), (Kd.freshB (g := gb253) (o := .cells #[.int .i64 t244, .int .i64 t245, .string t246, .string t247, .slice Ao73 t248.length co73] 26 (0, 0)) (zB BK253.out) k_ hk_.2.1), (IsS53.fresh (zI2 HI0.out NB0_243.out NB0_253.out) k_ hk_.2.1)⟩)) (keep_size (w := w) (g := g) (row := none) (zK2 HK.out GW243.out GW253.out))); replace BK243 := zBK hk BK243 NB243_0; replace HO250 := Aside0.mk (Kd.N_mono (Kd.N_told (Kd.N_oldK (Kd.N_mono (ok := fun k_ => (((((w.heap.size ≤ k_)) ∧ (k_ ≠ gb243 ∧ k_ ≠ g)) ∧ k_ ≠ gb253) ∧ some k_ ≠ (v277 : Value).ownBlock)) (zX HO250.out) (fun k_ hk_ => (⟨hk_, hk_.1.1.2.2⟩ : _ ∧ k_ ≠ g))) hk) (by first | exact Kd.N_base ho0 | exact Kd.R_base ho0)) (fun _ h_ => h_.1)); replace BK253 := zBK hk BK253 NB253_0; replace HO278 := Aside0.mk (Kd.N_mono (Kd.N_told (Kd.N_oldK (Kd.N_mono (ok := fun k_ => (((w.heap.size ≤ k_)) ∧ (some k_ ≠ (.slice Ao73 t248.length co73 : Value).ownBlock ∧ (k_ ≠ gb243 ∧ (k_ ≠ gb253 ∧ k_ ≠ g))))) (zX HO278.out) (fun k_ hk_ => (⟨hk_, hk_.2.2.2.2⟩ : _ ∧ k_ ≠ g))) hk) (by first | exact Kd.N_base ho0 | exact Kd.R_base ho0)) (fun _ h_ => h_.1)); replace HK := zKK (zK2 HK.out GW243.out GW253.out) hk; replace HB := Aside0.mk hb; replace HI0 := Aside0.mk hi
       clear ho0 hi hb hk
       (try clear ho0)
       obtain ⟨Ao78, co78, eo78⟩ := Kd.N_slice HO278.out
       (first | subst eo78 | (injection eo78 with f1_ f2_ f3_; have f4_ := f1_.symm; have f5_ := f3_.symm; clear f1_ f2_ f3_; subst f4_; subst f5_))
       obtain ⟨Ao79, co79, eo79⟩ := Kd.N_slice HO287.out
       (first | subst eo79 | (injection eo79 with f1_ f2_ f3_; have f4_ := f1_.symm; have f5_ := f3_.symm; clear f1_ f2_ f3_; subst f4_; subst f5_))
       refine hK.out _ _ (zc5 BK253.out) fun hHeld => ?_; clear hK K
       refine nZ 37 ?_
       refine oN 6 38 (fB 10 127) HT_.out fun K hK => ?_
       refine Kd.N_lit_step k26 _ 26 ?hg (N' := 38) ?hd (xs := ([(⟨t272, t273, t274, t275, t276⟩ : S26), (⟨t281, t282, t283, t284, t285⟩ : S26)] : List (S26))) (inner := [.int .i64 t272, .int .i64 t273, .string t274, .string t275, .slice Ao78 t276.length co78, .int .i64 t281, .int .i64 t282, .string t283, .string t284, .slice Ao79 t285.length co79]) (ok := (fun k_ => (w.heap.size ≤ k_) ∧ some k_ ≠ (.slice Ao73 t248.length co73 : Value).ownBlock ∧ k_ ≠ gb243 ∧ k_ ≠ gb253 ∧ k_ ≠ g)) (okp := (fun k_ => (w.heap.size ≤ k_) ∧ some k_ ≠ (.slice Ao73 t248.length co73 : Value).ownBlock ∧ k_ ≠ gb243 ∧ k_ ≠ gb253 ∧ k_ ≠ g)) ?hr ?hp (fun _ hk => hk) ((show ∀ k_, w77.heap.size ≤ k_ → (fun k_ => (w.heap.size ≤ k_) ∧ some k_ ≠ (.slice Ao73 t248.length co73 : Value).ownBlock ∧ k_ ≠ gb243 ∧ k_ ≠ gb253 ∧ k_ ≠ g) k_ from fun k_ hk => ⟨(Nat.le_trans (keep_size (w := w) (g := g) (row := none) (zK2 HK.out GW243.out GW253.out)) hk), Kd.fresh' (Kd.N_lt (zX HO250.out)) k_ hk, Kd.freshB (g := gb243) (o := .cells #[.int .i64 0, .int .i64 0, .string (⟨#[]⟩ : ByteArray), .string (⟨#[]⟩ : ByteArray), .slice none 0 0] 26 (0, 0)) (zB BK243.out) k_ hk, Kd.freshB (g := gb253) (o := .cells #[.int .i64 t244, .int .i64 t245, .string t246, .string t247, .slice Ao73 t248.length co73] 26 (0, 0)) (zB BK253.out) k_ hk, IsS53.fresh (zI2 HI0.out NB0_243.out NB0_253.out) k_ hk⟩) _ (Nat.le_refl _)) (Below.refl _ _) (Nat.le_refl _) (by simp) ?_; (case hd => rfl); (case hg => rfl); (case hr => first | (go_simp; done) | (go_simp; rfl)); (case hp => exact (Reps.c5 (show Kd.FK k26 _ _ (⟨t272, t273, t274, t275, t276⟩ : S26) [.int .i64 t272, .int .i64 t273, .string t274, .string t275, .slice Ao78 t276.length co78] from (k26_mkF _ _ (⟨t272, t273, t274, t275, t276⟩ : S26) (Kd.N_reads' (Kd.N_mono (ok' := (fun k_ => (w.heap.size ≤ k_) ∧ some k_ ≠ (.slice Ao73 t248.length co73 : Value).ownBlock ∧ k_ ≠ gb243 ∧ k_ ≠ gb253 ∧ k_ ≠ g)) (HO278.out) (fun k_ hk => ⟨hk.1.1, ⟨hk.1.2.1, ⟨hk.1.2.2.1, ⟨hk.1.2.2.2.1, hk.1.2.2.2.2⟩⟩⟩⟩))).2.1 (Kd.N_F (Kd.N_mono (ok' := (fun k_ => (w.heap.size ≤ k_) ∧ some k_ ≠ (.slice Ao73 t248.length co73 : Value).ownBlock ∧ k_ ≠ gb243 ∧ k_ ≠ gb253 ∧ k_ ≠ g)) (HO278.out) (fun k_ hk => ⟨hk.1.1, ⟨hk.1.2.1, ⟨hk.1.2.2.1, ⟨hk.1.2.2.2.1, hk.1.2.2.2.2⟩⟩⟩⟩))))) (Reps.c5 (show Kd.FK k26 _ _ (⟨t281, t282, t283, t284, t285⟩ : S26) [.int .i64 t281, .int .i64 t282, .string t283, .string t284, .slice Ao79 t285.length co79] from (k26_mkF _ _ (⟨t281, t282, t283, t284, t285⟩ : S26) (Kd.N_reads' (Kd.N_mono (ok' := (fun k_ => (w.heap.size ≤ k_) ∧ some k_ ≠ (.slice Ao73 t248.length co73 : Value).ownBlock ∧ k_ ≠ gb243 ∧ k_ ≠ gb253 ∧ k_ ≠ g)) (HO287.out) (fun k_ hk => ⟨hk.1, ⟨hk.2.1, ⟨hk.2.2.2.1, ⟨hk.2.2.2.2.1, hk.2.2.2.2.2⟩⟩⟩⟩))).2.1 (Kd.N_F (Kd.N_mono (ok' := (fun k_ => (w.heap.size ≤ k_) ∧ some k_ ≠ (.slice Ao73 t248.length co73 : Value).ownBlock ∧ k_ ≠ gb243 ∧ k_ ≠ gb253 ∧ k_ ≠ g)) (HO287.out) (fun k_ hk => ⟨hk.1, ⟨hk.2.1, ⟨hk.2.2.2.1, ⟨hk.2.2.2.2.1, hk.2.2.2.2.2⟩⟩⟩⟩))))) (Reps.none _ _))))
       intro v291 w80 ho81 hb hg_ hnew_
       clear hg_ hnew_
       (first | rw [← Ny290.out] at ho81 | (simp only [Int.reduceToNat] at ho81; rw [← Ny290.out] at ho81))
       replace HO250 := Aside0.mk (Kd.N_elder' (zX HO250.out) (Kd.N_base ho81) hb); have HO292 := Aside0.mk (Kd.N_lower ho81 (keep_size (w := w) (g := g) (row := none) (zK2 HK.out GW243.out GW253.out))); replace BK243 := zBB BK243 hb; replace BK253 := zBB BK253 hb; replace HK := zKB g (zK2 HK.out GW243.out GW253.out) hb; replace HB := zLB (zL3 HB.out (IsS53.ge HI0.out) GE243.out GE253.out) hb; replace HI0 := Aside0.mk (IsS53.below (zI2 HI0.out NB0_243.out NB0_253.out) hb); clear HO278 HO287
       clear hb ho81
       obtain ⟨Ao83, co83, eo83⟩ := Kd.N_slice HO292.out
       (first | subst eo83 | (injection eo83 with f1_ f2_ f3_; have f4_ := f1_.symm; have f5_ := f3_.symm; clear f1_ f2_ f3_; subst f4_; subst f5_))
       refine hK.out _ _ (zc5 BK253.out) fun hHeld => ?_; clear hK K
       refine nZ 38 ?_
       refine oN 7 39 (fB 10 255) HT_.out fun K hK => ?_
       refine Kd.N_append_rows_step k26 w.heap.size (by rfl) (.tmp 33) (.tmp 38) 24 26 (.agg #[(.int .i64 0), (.int .i64 0), (.string ⟨#[]⟩), (.string ⟨#[]⟩), (.slice none 0 0)]) 72 rfl Tryd.underlying24 info26 rfl (by decide) (by omega) (.slice Ao73 t248.length co73) t248 y290 _ _ _ (fun k_ => (w.heap.size ≤ k_) ∧ k_ ≠ gb243 ∧ k_ ≠ gb253 ∧ k_ ≠ g) (fun k_ => ((fun k_ => (w.heap.size ≤ k_) ∧ k_ ≠ gb243 ∧ k_ ≠ gb253 ∧ k_ ≠ g)) k_ ∧ some k_ ≠ (.slice Ao73 t248.length co73 : Value).ownBlock) rfl rfl ?aO ?aR (fun _ hk => hk) ?aF (Below.refl _ _) ?aS ?aL ?_
       (case aR => exact (by skip; exact Kd.N_F (Kd.N_mono (ok' := (fun k_ => ((fun k_ => (w.heap.size ≤ k_) ∧ k_ ≠ gb243 ∧ k_ ≠ gb253 ∧ k_ ≠ g)) k_ ∧ some k_ ≠ (.slice Ao73 t248.length co73 : Value).ownBlock)) (HO292.out) (fun k_ hk => ⟨⟨hk.1, ⟨hk.2.2.1, ⟨hk.2.2.2.1, hk.2.2.2.2⟩⟩⟩, hk.2.1⟩))))
       (case aF => exact (fun k_ hk => ⟨(Nat.le_trans (keep_size (w := w) (g := g) (row := none) (zK2 HK.out GW243.out GW253.out)) hk), Kd.freshB (g := gb243) (o := .cells #[.int .i64 0, .int .i64 0, .string (⟨#[]⟩ : ByteArray), .string (⟨#[]⟩ : ByteArray), .slice none 0 0] 26 (0, 0)) (zB BK243.out) k_ hk, Kd.freshB (g := gb253) (o := .cells #[.int .i64 t244, .int .i64 t245, .string t246, .string t247, .slice Ao73 t248.length co73] 26 (0, 0)) (zB BK253.out) k_ hk, IsS53.fresh (zI2 HI0.out NB0_243.out NB0_253.out) k_ hk⟩))
       (case aO => exact (zXm HO250.out (fun _ hk => ⟨hk.1.1.1.1.1, ⟨hk.1.1.1.1.2.1, ⟨hk.1.1.1.2, hk.1.1.1.1.2.2⟩⟩⟩)))
       (case aS => exact (keep_size (w := w) (g := g) (row := none) (zK2 HK.out GW243.out GW253.out)))
       (case aL => have := LMc66.out; omega)
       intro v294 w82 ho hb hg hat
       rw [← Ny293.out] at ho
       replace BK243 := Aside0.mk (blk_grown (g := gb243) (o := .cells #[.int .i64 0, .int .i64 0, .string (⟨#[]⟩ : ByteArray), .string (⟨#[]⟩ : ByteArray), .slice none 0 0] 26 (0, 0)) (zB BK243.out) hg (Kd.N_away HO250.out (fun _ hk => hk.1.1.1.1.2.1))); replace BK253 := Aside0.mk (blk_grown (g := gb253) (o := .cells #[.int .i64 t244, .int .i64 t245, .string t246, .string t247, .slice Ao73 t248.length co73] 26 (0, 0)) (zB BK253.out) hg (Kd.N_away HO250.out (fun _ hk => hk.1.1.1.2))); replace HO292 := Aside0.mk (Kd.N_afterv (ok := (fun k_ => (w.heap.size ≤ k_) ∧ k_ ≠ gb243 ∧ k_ ≠ gb253 ∧ k_ ≠ g)) (zXm HO292.out (fun _ hk => ⟨⟨hk.1, ⟨hk.2.2.1, ⟨hk.2.2.2.1, hk.2.2.2.2⟩⟩⟩, hk.2.1⟩)) hg hat); replace HB := Aside0.mk (below_weaken (zL3 HB.out (IsS53.ge HI0.out) GE243.out GE253.out) HL.out hb); replace HI0 := Aside0.mk (IsS53.grown (zI2 HI0.out NB0_243.out NB0_253.out) hg (IsS53.own_neN HI0.out HO250.out (by decide))); replace HK := Aside0.mk (KeepBut.trans (zK2 HK.out GW243.out GW253.out) (KeepBut.of_grown hg g) (Kd.N_base2 HO250.out)); have HO295 := Aside0.mk (ho); clear HO250
       clear ho hb hg hat
       obtain ⟨Ao84, co84, eo84⟩ := Kd.N_slice HO295.out
       (first | subst eo84 | (injection eo84 with f1_ f2_ f3_; have f4_ := f1_.symm; have f5_ := f3_.symm; clear f1_ f2_ f3_; subst f4_; subst f5_))
       refine hK.out _ _ (zc5 BK253.out) fun hHeld => ?_; clear hK K
       refine nZ 39 ?_
       refine pY 8 40 (fB 10 511) HT_.out ?_
       refine last_ (i := 9) (N := none) #[true, true, true, true, true, true, true, true, true, true] rfl rfl (one_of HT_.out (by kernel_rfl)) (by decide) (fun K hK => ?_)
       have hs85 : w82.cell? ⟨gb253, 4, none⟩ = some (.slice Ao73 t248.length co73) := (bC BK253.out 4).trans rfl
       have hfs85 := blk_frozen BK253.out 4
       have hns85_0 := NB243_253.out
       have hms85_0 := NB253_243.out
       refine skip_ (w1 := ?_) (by rfl) rfl ?_ ?_
       rotate_left
       ·go_simp
        rfl
       refine hK.out _ _ ?_
       clear hK K
       refine done_ (done_of HT_.out (by kernel_rfl)) ?_
       have hcz86 := zc5 BK253.out
       have hfz86 := zf5 BK253.out
       have hnb87 := NB243_0.out
       have hnc87 := NB0_243.out
       have hcz88 := zc5 BK243.out
       have hfz88 := zf5 BK243.out
       try go_wp2
       refine bodyPost_ret (results_cell_row rfl _ _ gb243 26 #[.int .i64 t244, .int .i64 t245, .string t246, .string t247, .slice Ao84 y293.length co84] (0, 0) _ rfl (by refine zB ?_; refine zp5 (cs := #[.int .i64 0, .int .i64 0, .string (⟨#[]⟩ : ByteArray), .string (⟨#[]⟩ : ByteArray), .slice none 0 0]) ?_; (with_reducible repeat (first | refine bN ?_ _ | refine bD ?_ | refine bA ?_ _)); refine blk_far ?_ NB243_253.out _; exact zB BK243.out) Tryd.underlying26 rfl (by kernel_rfl)) rfl ?_
       exact ⟨_, zW, by (with_reducible repeat (first | apply Kd.N_alloc | apply Kd.N_drewN | apply Kd.N_drew)); exact Kd.N_mono (zNF5 (Kd.N_far (p := ⟨gb253, 4, none⟩) (Kd.N_mono (Kd.N_mono HO295.out (fun k_ hk => (⟨hk, hk.2.2.1⟩ : _ ∧ k_ ≠ gb253))) (fun k_ hk => (⟨hk, hk.1.2.1⟩ : _ ∧ k_ ≠ gb243))) (fun _ hk => hk.1.2) (.slice Ao84 y293.length co84)) gb243 (fun _ hk => hk.2) (.int .i64 t244) (.int .i64 t245) (.string t246) (.string t247) (.slice Ao84 y293.length co84)) (fun _ hk => hk.1.1.1), zI2 HI0.out NB0_243.out NB0_253.out, zL3 HB.out (IsS53.ge HI0.out) GE243.out GE253.out, zK2 HK.out GW243.out GW253.out⟩
      ·rw [if_neg c66] at H
       exact absurd H (by simp)
     ·rw [if_neg c63] at H
      obtain ⟨c63b0, c63b1⟩ := zf c63
      by_cases c89 : t254 = 5
      ·rw [if_pos c89] at H
       obtain ⟨c89b0, c89b1⟩ := zt c89
       clear c89
       have H' := Aside0.mk H
       clear H
       go_enter Tryd.func25, Tryd.ntmps25
       go_wp2_with (first | ((with_reducible refine gD 2 rfl ?_); refine bE 2 #[.int .i64 0, .int .i64 0, .string (⟨#[]⟩ : ByteArray), .string (⟨#[]⟩ : ByteArray), .slice none 0 0] 26 ?_; intro gb243 hg w90 hbox hb; replace HB := zLB (zL1 HB.out (IsS53.ge HI0.out)) hb; have BK243 := Aside0.mk hbox; have GW243 := Aside0.mk (zgK (g := g) (zK HK.out) hg : w.heap.size ≤ gb243); have GE243 := Aside0.mk ((Nat.le_trans HW0.out (zgK (g := g) (zK HK.out) hg : w.heap.size ≤ gb243) : w0.heap.size ≤ gb243)); replace HK := zKB g (zK HK.out) hb; have NB0_243 := Aside0.mk ((zNI (IsS53.lt (zI HI0.out : IsS53 w0 _ g s0_0 s0_1 s0_2)) hg : g ≠ gb243)); have NB243_0 := Aside0.mk ((zMI (IsS53.lt (zI HI0.out : IsS53 w0 _ g s0_0 s0_1 s0_2)) hg : gb243 ≠ g)); replace HI0 := Aside0.mk (IsS53.below (zI HI0.out) hb); clear hb hbox hg) | ((with_reducible refine gC 37 rfl ?_); refine gL 6 Tryd.func37 #[.pointer (some ⟨g, 0, none⟩), .int .i64 3] ?_; (with_reducible refine (spec_l5Draw.calls k g s0_0 s0_1 s0_2 3 t244 t245 t246 t247 t248 t251 t252 w0 _ ?side1 ?side2 A2.out).mono ?_); (case side1 => exact zI1 HI0.out NB0_243.out); (case side2 => exact zL2 HB.out (IsS53.ge HI0.out) GE243.out); rintro e w91 ⟨v249, rfl, ho0, hi, hb, hk⟩; refine ⟨_, rfl, ?_⟩; have HO250 := Aside0.mk (Kd.N_lower (Kd.N_mono (ok' := fun k_ => (w.heap.size ≤ k_) ∧ k_ ≠ gb243 ∧ k_ ≠ g) (Kd.R_N (Kd.R_bound ho0)) (fun k_ hk_ => ⟨(Nat.le_trans (keep_size (w := w) (g := g) (row := none) (zK1 HK.out GW243.out)) hk_.2.1), (Kd.freshB (g := gb243) (o := .cells #[.int .i64 0, .int .i64 0, .string (⟨#[]⟩ : ByteArray), .string (⟨#[]⟩ : ByteArray), .slice none 0 0] 26 (0, 0)) (zB BK243.out) k_ hk_.2.1), (IsS53.fresh (zI1 HI0.out NB0_243.out) k_ hk_.2.1)⟩)) (keep_size (w := w) (g := g) (row := none) (zK1 HK.out GW243.out))); replace BK243 := zBK hk BK243 NB243_0; replace HK := zKK (zK1 HK.out GW243.out) hk; replace HB := Aside0.mk hb; replace HI0 := Aside0.mk hi; clear ho0 hi hb hk) | ((with_reducible refine gD 3 rfl ?_); refine bE 3 #[.int .i64 0, .int .i64 0, .string (⟨#[]⟩ : ByteArray), .string (⟨#[]⟩ : ByteArray), .slice none 0 0] 26 ?_; intro gb253 hg w92 hbox hb; replace HO250 := Aside0.mk (Kd.N_below (Kd.N_elderB (zX HO250.out) gb253 (Nat.le_of_eq hg.symm)) hb); replace HB := zLB (zL2 HB.out (IsS53.ge HI0.out) GE243.out) hb; have BK253 := Aside0.mk hbox; have GW253 := Aside0.mk (zgK (g := g) (zK1 HK.out GW243.out) hg : w.heap.size ≤ gb253); have GE253 := Aside0.mk ((Nat.le_trans HW0.out (zgK (g := g) (zK1 HK.out GW243.out) hg : w.heap.size ≤ gb253) : w0.heap.size ≤ gb253)); replace HK := zKB g (zK1 HK.out GW243.out) hb; have NB243_253 := Aside0.mk (zN BK243.out hg : gb243 ≠ gb253); have NB253_243 := Aside0.mk (zM BK243.out hg : gb253 ≠ gb243); replace BK243 := zBB BK243 hb; have NB0_253 := Aside0.mk ((zNI (IsS53.lt (zI1 HI0.out NB0_243.out : IsS53 w0 _ g s0_0 t251 t252)) hg : g ≠ gb253)); have NB253_0 := Aside0.mk ((zMI (IsS53.lt (zI1 HI0.out NB0_243.out : IsS53 w0 _ g s0_0 t251 t252)) hg : gb253 ≠ g)); replace HI0 := Aside0.mk (IsS53.below (zI1 HI0.out NB0_243.out) hb); clear hb hbox hg; have hnb93 := NB253_243.out; have hnc93 := NB243_253.out; have hnb94 := NB253_0.out; have hnc94 := NB0_253.out; have hcz95 := zc5 BK253.out; have hfz95 := zf5 BK253.out; obtain ⟨Ao96, co96, eo96⟩ := Kd.N_slice HO250.out; subst eo96) | ((with_reducible refine gC 38 rfl ?_); refine gL 8 Tryd.func38 #[.pointer (some ⟨g, 0, none⟩), .int .i64 14] ?_; (with_reducible refine (spec_l1Below.calls g s0_0 t251 t252 14 t254 t255 t256 w0 _ ?side1 ?side2 A3.out).mono ?_); (case side1 => exact zI2 HI0.out NB0_243.out NB0_253.out); (case side2 => exact zL3 HB.out (IsS53.ge HI0.out) GE243.out GE253.out); rintro e w97 ⟨rfl, hi, hb, hk⟩; refine ⟨_, rfl, ?_⟩; replace BK243 := Aside0.mk (zQ2 (.cells #[.int .i64 0, .int .i64 0, .string (⟨#[]⟩ : ByteArray), .string (⟨#[]⟩ : ByteArray), .slice none 0 0] 26 (0, 0)) hk (by refine zB ?_; refine zr5 ?_ NB243_253.out; exact zB BK243.out) NB243_0.out (by simp)); replace HO250 := Aside0.mk (Kd.N_mono (Kd.N_keep (Kd.N_mono (ok := fun k_ => ((((w.heap.size ≤ k_)) ∧ (k_ ≠ gb243 ∧ k_ ≠ g)) ∧ k_ ≠ gb253)) (by (with_reducible repeat (first | apply Kd.N_alloc | apply Kd.N_drewN | apply Kd.N_drew)); exact (Kd.N_mono (zNF5 (Kd.N_mono HO250.out (fun k_ hk => (⟨hk, hk.2⟩ : _ ∧ k_ ≠ gb253))) gb253 (fun _ hk => hk.2) (.int .i64 t244) (.int .i64 t245) (.string t246) (.string t247) (.slice Ao96 t248.length co96)) (fun _ h_ => h_.1))) (fun k_ hk_ => (⟨hk_, hk_.1.2.2⟩ : _ ∧ k_ ≠ g))) hk (fun _ h => h.2)) (fun _ h => h.1)); replace BK253 := Aside0.mk (zQ2 (.cells #[.int .i64 t244, .int .i64 t245, .string t246, .string t247, .slice Ao96 t248.length co96] 26 (0, 0)) hk (by refine zB ?_; refine zp5 (cs := #[.int .i64 0, .int .i64 0, .string (⟨#[]⟩ : ByteArray), .string (⟨#[]⟩ : ByteArray), .slice none 0 0]) ?_; exact zB BK253.out) NB253_0.out (by simp)); replace HK := zKK (zK2 HK.out GW243.out GW253.out) hk; replace HB := Aside0.mk hb; replace HI0 := Aside0.mk hi; clear hi hb hk))
       go_loopg [4] k (fun kq v4 w' => ∃ (x4_1 : Int) (x254000_1 : Int) (x254001_1 : Int) (x254002_1 : ByteArray) (x254003_1 : ByteArray) (x254004_1 : List (S26)) (u254004 : Value), v4 = .int .i64 x4_1 ∧ Aside0 (spec_l5Any.l0 kq x4_1 s0_0 t255 t256 x254000_1 x254001_1 x254002_1 x254003_1 x254004_1 = some (r1, r2, r3, r4, r5, r6, r7)) ∧ Aside0 (kq ≤ k) ∧ Aside0 (Kd.N k26 26 w' w.heap.size (fun k_ => (w.heap.size ≤ k_) ∧ k_ ≠ gb243 ∧ k_ ≠ gb253 ∧ k_ ≠ g) u254004 x254004_1) ∧ Aside0 (w'.heap[gb243]? = some (.cells #[.int .i64 0, .int .i64 0, .string (⟨#[]⟩ : ByteArray), .string (⟨#[]⟩ : ByteArray), (.slice none 0 0)] 26 (0, 0))) ∧ Aside0 (w'.heap[gb253]? = some (.cells #[.int .i64 x254000_1, .int .i64 x254001_1, .string x254002_1, .string x254003_1, u254004] 26 (0, 0))) ∧ Aside0 (IsS53 w0 w' g s0_0 t255 t256) ∧ Aside0 (KeepBut w w' g none) ∧ Aside0 (Below w0.heap.size w0 w'))
       case atStart => exact ⟨(0), (t244), (t245), (t246), (t247), (t248), (.slice Ao96 t248.length co96), zV, H', ⟨Nat.le_refl _⟩, ⟨zXm HO250.out (fun _ hk => ⟨hk.1.1, ⟨hk.1.2.1, ⟨hk.2, hk.1.2.2⟩⟩⟩)⟩, ⟨zB BK243.out⟩, ⟨zB BK253.out⟩, ⟨zI2 HI0.out NB0_243.out NB0_253.out⟩, ⟨zK2 HK.out GW243.out GW253.out⟩, ⟨zL3 HB.out (IsS53.ge HI0.out) GE243.out GE253.out⟩⟩
       case round =>
        clear H'
        try clear c1
        try clear c2
        try clear p2
        try clear c3
        try clear c4
        try clear c4b0
        try clear c4b1
        try clear c5
        try clear c6
        try clear c7
        try clear c8
        try clear c9
        try clear c10
        try clear c19
        try clear c21
        try clear c21b0
        try clear c21b1
        try clear c25
        try clear c26
        try clear c27
        try clear c33
        try clear c35
        try clear c35b0
        try clear c35b1
        try clear c37
        try clear c38
        try clear c39
        try clear c40
        try clear c41
        try clear c42
        try clear c47
        try clear c49
        try clear c49b0
        try clear c49b1
        try clear c54
        try clear c55
        try clear c61
        try clear c63
        try clear c63b0
        try clear c63b1
        try clear c66
        try clear c70
        try clear c71
        try clear c87
        try clear c89
        try clear c89b0
        try clear c89b1
        try clear c93
        try clear c94
        try clear hcz11; try clear hcz18; try clear hcz20; try clear hcz28; try clear hcz32; try clear hcz34; try clear hcz42; try clear hcz46; try clear hcz48; try clear hcz56; try clear hcz60; try clear hcz62; try clear hcz72; try clear hcz86; try clear hcz88; try clear hcz95; try clear hfz11; try clear hfz18; try clear hfz20; try clear hfz28; try clear hfz32; try clear hfz34; try clear hfz42; try clear hfz46; try clear hfz48; try clear hfz56; try clear hfz60; try clear hfz62; try clear hfz72; try clear hfz86; try clear hfz88; try clear hfz95
        try clear BK243; try clear BK253
        obtain ⟨x4_1, x254000_1, x254001_1, x254002_1, x254003_1, x254004_1, u254004, rfl, HA, HK1, HO_254004, BK243, BK253, HI0, HK, HB⟩ := hrel
        cases gk with
        | zero => exact absurd HA.out (by simp [spec_l5Any.l0])
        | succ k1 =>
         have H := HA.out
         clear HA
         simp only [spec_l5Any.l0] at H
         by_cases c98 : x4_1 < 3
         ·rw [if_pos c98] at H
          have c98b0 := decide_eq_true c98
          clear c98
          generalize hy296 : (([(⟨x254000_1, x254001_1, x254002_1, x254003_1, x254004_1⟩ : S26)] : List (S26))) = y296 at H; (try rw [Option.bind_some] at H); have Ny296 := Aside0.mk hy296.symm; clear hy296
          have H' := Aside0.mk H
          clear H
          have hnb99 := NB253_243.out
          have hnc99 := NB243_253.out
          have hnb100 := NB253_0.out
          have hnc100 := NB0_253.out
          have hcz101 := zc5 BK253.out
          have hfz101 := zf5 BK253.out
          obtain ⟨Ao102, co102, eo102⟩ := Kd.N_slice HO_254004.out
          subst eo102
          go_wp2_with (first | ((with_reducible refine gD 48 rfl ?_); refine Kd.N_lit k26 _ 26 ?hg (N' := 48) ?hd (xs := ([(⟨x254000_1, x254001_1, x254002_1, x254003_1, x254004_1⟩ : S26)] : List (S26))) (inner := [.int .i64 x254000_1, .int .i64 x254001_1, .string x254002_1, .string x254003_1, .slice Ao102 x254004_1.length co102]) (ok := (fun k_ => (w.heap.size ≤ k_) ∧ k_ ≠ gb243 ∧ k_ ≠ gb253 ∧ k_ ≠ g)) (okp := (fun k_ => (w.heap.size ≤ k_) ∧ k_ ≠ gb243 ∧ k_ ≠ gb253 ∧ k_ ≠ g)) ?hr ?hp (fun _ hk => hk) ((show ∀ k_, wr.heap.size ≤ k_ → (fun k_ => (w.heap.size ≤ k_) ∧ k_ ≠ gb243 ∧ k_ ≠ gb253 ∧ k_ ≠ g) k_ from fun k_ hk => ⟨(Nat.le_trans (keep_size (w := w) (g := g) (row := none) (zK2 HK.out GW243.out GW253.out)) hk), Kd.freshB (g := gb243) (o := .cells #[.int .i64 0, .int .i64 0, .string (⟨#[]⟩ : ByteArray), .string (⟨#[]⟩ : ByteArray), .slice none 0 0] 26 (0, 0)) (zB BK243.out) k_ hk, Kd.freshB (g := gb253) (o := .cells #[.int .i64 x254000_1, .int .i64 x254001_1, .string x254002_1, .string x254003_1, .slice Ao102 x254004_1.length co102] 26 (0, 0)) (zB BK253.out) k_ hk, IsS53.fresh (zI2 HI0.out NB0_243.out NB0_253.out) k_ hk⟩) _ (Nat.le_refl _)) (Below.refl _ _) (Nat.le_refl _) (by simp) ?_; (case hd => rfl); (case hg => rfl); (case hr => first | (go_simp; done) | (go_simp; rfl)); (case hp => exact (Reps.c5 (show Kd.FK k26 _ _ (⟨x254000_1, x254001_1, x254002_1, x254003_1, x254004_1⟩ : S26) [.int .i64 x254000_1, .int .i64 x254001_1, .string x254002_1, .string x254003_1, .slice Ao102 x254004_1.length co102] from (k26_mkF _ _ (⟨x254000_1, x254001_1, x254002_1, x254003_1, x254004_1⟩ : S26) (Kd.N_reads' (Kd.N_mono (ok' := (fun k_ => (w.heap.size ≤ k_) ∧ k_ ≠ gb243 ∧ k_ ≠ gb253 ∧ k_ ≠ g)) (HO_254004.out) (fun k_ hk => ⟨hk.1, ⟨hk.2.1, ⟨hk.2.2.1, hk.2.2.2⟩⟩⟩))).2.1 (Kd.N_F (Kd.N_mono (ok' := (fun k_ => (w.heap.size ≤ k_) ∧ k_ ≠ gb243 ∧ k_ ≠ gb253 ∧ k_ ≠ g)) (HO_254004.out) (fun k_ hk => ⟨hk.1, ⟨hk.2.1, ⟨hk.2.2.1, hk.2.2.2⟩⟩⟩))))) (Reps.none _ _))); intro v297 w103 ho104 hb hg_ hnew_; clear hg_ hnew_; (first | rw [← Ny296.out] at ho104 | (simp only [Int.reduceToNat] at ho104; rw [← Ny296.out] at ho104)); have HO298 := Aside0.mk (Kd.N_lower ho104 (keep_size (w := w) (g := g) (row := none) (zK2 HK.out GW243.out GW253.out))); replace BK243 := zBB BK243 hb; replace BK253 := zBB BK253 hb; replace HK := zKB g (zK2 HK.out GW243.out GW253.out) hb; replace HB := zLB (zL3 HB.out (IsS53.ge HI0.out) GE243.out GE253.out) hb; replace HI0 := Aside0.mk (IsS53.below (zI2 HI0.out NB0_243.out NB0_253.out) hb); clear HO_254004; clear hb ho104; obtain ⟨Ao105, co105, eo105⟩ := Kd.N_slice HO298.out; subst eo105; have hcz106 := zc5 BK253.out; have hfz106 := zf5 BK253.out))
          go_roundg k1
          case measure => have := HK1.out; omega
          case rel => exact ⟨(wrap64 (x4_1 + 1)), (9), (0), ((⟨#[]⟩ : ByteArray)), ((⟨#[]⟩ : ByteArray)), (y296), (.slice Ao105 y296.length co105), zV, H', ⟨by have := HK1.out; omega⟩, ⟨by (with_reducible repeat (first | apply Kd.N_alloc | apply Kd.N_drewN | apply Kd.N_drew)); exact Kd.N_mono (zNF5 (Kd.N_mono HO298.out (fun k_ hk => (⟨hk, hk.2.2.1⟩ : _ ∧ k_ ≠ gb253))) gb253 (fun _ hk => hk.2) (.int .i64 9) (.int .i64 0) (.string (⟨#[]⟩ : ByteArray)) (.string (⟨#[]⟩ : ByteArray)) (.slice Ao105 y296.length co105)) (fun _ hk => ⟨hk.1.1, ⟨hk.1.2.1, ⟨hk.1.2.2.1, hk.1.2.2.2⟩⟩⟩)⟩, ⟨by refine zB ?_; refine zr5 ?_ NB243_253.out; exact zB BK243.out⟩, ⟨by refine zB ?_; refine zp5 (cs := #[.int .i64 x254000_1, .int .i64 x254001_1, .string x254002_1, .string x254003_1, .slice Ao102 x254004_1.length co102]) ?_; exact zB BK253.out⟩, ⟨zI2 HI0.out NB0_243.out NB0_253.out⟩, ⟨zK2 HK.out GW243.out GW253.out⟩, ⟨zL3 HB.out (IsS53.ge HI0.out) GE243.out GE253.out⟩⟩
         ·rw [if_neg c98] at H
          have c98b0 := decide_eq_false c98
          clear c98
          simp only [Option.some.injEq, Prod.mk.injEq] at H
          obtain ⟨rfl, rfl, rfl, rfl, rfl, rfl, rfl⟩ := H
          have hnb107 := NB253_243.out
          have hnc107 := NB243_253.out
          have hnb108 := NB253_0.out
          have hnc108 := NB0_253.out
          have hcz109 := zc5 BK253.out
          have hfz109 := zf5 BK253.out
          have hnb110 := NB243_0.out
          have hnc110 := NB0_243.out
          have hcz111 := zc5 BK243.out
          have hfz111 := zf5 BK243.out
          obtain ⟨Ao112, co112, eo112⟩ := Kd.N_slice HO_254004.out
          subst eo112
          go_wp2
          refine bodyPost_ret (results_cell_row rfl _ _ gb243 26 #[.int .i64 x254000_1, .int .i64 x254001_1, .string x254002_1, .string x254003_1, .slice Ao112 x254004_1.length co112] (0, 0) _ rfl (by refine zB ?_; refine zp5 (cs := #[.int .i64 0, .int .i64 0, .string (⟨#[]⟩ : ByteArray), .string (⟨#[]⟩ : ByteArray), .slice none 0 0]) ?_; exact zB BK243.out) Tryd.underlying26 rfl (by kernel_rfl)) rfl ?_
          exact ⟨_, zW, by (with_reducible repeat (first | apply Kd.N_alloc | apply Kd.N_drewN | apply Kd.N_drew)); exact Kd.N_mono (zNF5 (Kd.N_mono HO_254004.out (fun k_ hk => (⟨hk, hk.2.1⟩ : _ ∧ k_ ≠ gb243))) gb243 (fun _ hk => hk.2) (.int .i64 x254000_1) (.int .i64 x254001_1) (.string x254002_1) (.string x254003_1) (.slice Ao112 x254004_1.length co112)) (fun _ hk => hk.1.1), zI2 HI0.out NB0_243.out NB0_253.out, zL3 HB.out (IsS53.ge HI0.out) GE243.out GE253.out, zK2 HK.out GW243.out GW253.out⟩
      ·rw [if_neg c89] at H
       obtain ⟨c89b0, c89b1⟩ := zf c89
       by_cases c113 : t254 = 6
       ·rw [if_pos c113] at H
        obtain ⟨c113b0, c113b1⟩ := zt c113
        clear c113
        generalize hy299 : (([(⟨t244, t245, t246, t247, t248⟩ : S26), (⟨t244, t245, t246, t247, t248⟩ : S26), (⟨t244, t245, t246, t247, t248⟩ : S26), (⟨t244, t245, t246, t247, t248⟩ : S26)] : List (S26))) = y299 at H; (try rw [Option.bind_some] at H); have Ny299 := Aside0.mk hy299.symm; clear hy299
        simp only [Option.some.injEq, Prod.mk.injEq] at H
        obtain ⟨rfl, rfl, rfl, rfl, rfl, rfl, rfl⟩ := H
        go_enter Tryd.func25, Tryd.ntmps25
        go_wp2_with (first | ((with_reducible refine gD 2 rfl ?_); refine bE 2 #[.int .i64 0, .int .i64 0, .string (⟨#[]⟩ : ByteArray), .string (⟨#[]⟩ : ByteArray), .slice none 0 0] 26 ?_; intro gb243 hg w114 hbox hb; replace HB := zLB (zL1 HB.out (IsS53.ge HI0.out)) hb; have BK243 := Aside0.mk hbox; have GW243 := Aside0.mk (zgK (g := g) (zK HK.out) hg : w.heap.size ≤ gb243); have GE243 := Aside0.mk ((Nat.le_trans HW0.out (zgK (g := g) (zK HK.out) hg : w.heap.size ≤ gb243) : w0.heap.size ≤ gb243)); replace HK := zKB g (zK HK.out) hb; have NB0_243 := Aside0.mk ((zNI (IsS53.lt (zI HI0.out : IsS53 w0 _ g s0_0 s0_1 s0_2)) hg : g ≠ gb243)); have NB243_0 := Aside0.mk ((zMI (IsS53.lt (zI HI0.out : IsS53 w0 _ g s0_0 s0_1 s0_2)) hg : gb243 ≠ g)); replace HI0 := Aside0.mk (IsS53.below (zI HI0.out) hb); clear hb hbox hg) | ((with_reducible refine gC 37 rfl ?_); refine gL 6 Tryd.func37 #[.pointer (some ⟨g, 0, none⟩), .int .i64 3] ?_; (with_reducible refine (spec_l5Draw.calls k g s0_0 s0_1 s0_2 3 t244 t245 t246 t247 t248 t251 t252 w0 _ ?side1 ?side2 A2.out).mono ?_); (case side1 => exact zI1 HI0.out NB0_243.out); (case side2 => exact zL2 HB.out (IsS53.ge HI0.out) GE243.out); rintro e w115 ⟨v249, rfl, ho0, hi, hb, hk⟩; refine ⟨_, rfl, ?_⟩; have HO250 := Aside0.mk (Kd.N_lower (Kd.N_mono (ok' := fun k_ => (w.heap.size ≤ k_) ∧ k_ ≠ gb243 ∧ k_ ≠ g) (Kd.R_N (Kd.R_bound ho0)) (fun k_ hk_ => ⟨(Nat.le_trans (keep_size (w := w) (g := g) (row := none) (zK1 HK.out GW243.out)) hk_.2.1), (Kd.freshB (g := gb243) (o := .cells #[.int .i64 0, .int .i64 0, .string (⟨#[]⟩ : ByteArray), .string (⟨#[]⟩ : ByteArray), .slice none 0 0] 26 (0, 0)) (zB BK243.out) k_ hk_.2.1), (IsS53.fresh (zI1 HI0.out NB0_243.out) k_ hk_.2.1)⟩)) (keep_size (w := w) (g := g) (row := none) (zK1 HK.out GW243.out))); replace BK243 := zBK hk BK243 NB243_0; replace HK := zKK (zK1 HK.out GW243.out) hk; replace HB := Aside0.mk hb; replace HI0 := Aside0.mk hi; clear ho0 hi hb hk) | ((with_reducible refine gD 3 rfl ?_); refine bE 3 #[.int .i64 0, .int .i64 0, .string (⟨#[]⟩ : ByteArray), .string (⟨#[]⟩ : ByteArray), .slice none 0 0] 26 ?_; intro gb253 hg w116 hbox hb; replace HO250 := Aside0.mk (Kd.N_below (Kd.N_elderB (zX HO250.out) gb253 (Nat.le_of_eq hg.symm)) hb); replace HB := zLB (zL2 HB.out (IsS53.ge HI0.out) GE243.out) hb; have BK253 := Aside0.mk hbox; have GW253 := Aside0.mk (zgK (g := g) (zK1 HK.out GW243.out) hg : w.heap.size ≤ gb253); have GE253 := Aside0.mk ((Nat.le_trans HW0.out (zgK (g := g) (zK1 HK.out GW243.out) hg : w.heap.size ≤ gb253) : w0.heap.size ≤ gb253)); replace HK := zKB g (zK1 HK.out GW243.out) hb; have NB243_253 := Aside0.mk (zN BK243.out hg : gb243 ≠ gb253); have NB253_243 := Aside0.mk (zM BK243.out hg : gb253 ≠ gb243); replace BK243 := zBB BK243 hb; have NB0_253 := Aside0.mk ((zNI (IsS53.lt (zI1 HI0.out NB0_243.out : IsS53 w0 _ g s0_0 t251 t252)) hg : g ≠ gb253)); have NB253_0 := Aside0.mk ((zMI (IsS53.lt (zI1 HI0.out NB0_243.out : IsS53 w0 _ g s0_0 t251 t252)) hg : gb253 ≠ g)); replace HI0 := Aside0.mk (IsS53.below (zI1 HI0.out NB0_243.out) hb); clear hb hbox hg; have hnb117 := NB253_243.out; have hnc117 := NB243_253.out; have hnb118 := NB253_0.out; have hnc118 := NB0_253.out; have hcz119 := zc5 BK253.out; have hfz119 := zf5 BK253.out; obtain ⟨Ao120, co120, eo120⟩ := Kd.N_slice HO250.out; subst eo120) | ((with_reducible refine gC 38 rfl ?_); refine gL 8 Tryd.func38 #[.pointer (some ⟨g, 0, none⟩), .int .i64 14] ?_; (with_reducible refine (spec_l1Below.calls g s0_0 t251 t252 14 t254 t255 t256 w0 _ ?side1 ?side2 A3.out).mono ?_); (case side1 => exact zI2 HI0.out NB0_243.out NB0_253.out); (case side2 => exact zL3 HB.out (IsS53.ge HI0.out) GE243.out GE253.out); rintro e w121 ⟨rfl, hi, hb, hk⟩; refine ⟨_, rfl, ?_⟩; replace BK243 := Aside0.mk (zQ2 (.cells #[.int .i64 0, .int .i64 0, .string (⟨#[]⟩ : ByteArray), .string (⟨#[]⟩ : ByteArray), .slice none 0 0] 26 (0, 0)) hk (by refine zB ?_; refine zr5 ?_ NB243_253.out; exact zB BK243.out) NB243_0.out (by simp)); replace HO250 := Aside0.mk (Kd.N_mono (Kd.N_keep (Kd.N_mono (ok := fun k_ => ((((w.heap.size ≤ k_)) ∧ (k_ ≠ gb243 ∧ k_ ≠ g)) ∧ k_ ≠ gb253)) (by (with_reducible repeat (first | apply Kd.N_alloc | apply Kd.N_drewN | apply Kd.N_drew)); exact (Kd.N_mono (zNF5 (Kd.N_mono HO250.out (fun k_ hk => (⟨hk, hk.2⟩ : _ ∧ k_ ≠ gb253))) gb253 (fun _ hk => hk.2) (.int .i64 t244) (.int .i64 t245) (.string t246) (.string t247) (.slice Ao120 t248.length co120)) (fun _ h_ => h_.1))) (fun k_ hk_ => (⟨hk_, hk_.1.2.2⟩ : _ ∧ k_ ≠ g))) hk (fun _ h => h.2)) (fun _ h => h.1)); replace BK253 := Aside0.mk (zQ2 (.cells #[.int .i64 t244, .int .i64 t245, .string t246, .string t247, .slice Ao120 t248.length co120] 26 (0, 0)) hk (by refine zB ?_; refine zp5 (cs := #[.int .i64 0, .int .i64 0, .string (⟨#[]⟩ : ByteArray), .string (⟨#[]⟩ : ByteArray), .slice none 0 0]) ?_; exact zB BK253.out) NB253_0.out (by simp)); replace HK := zKK (zK2 HK.out GW243.out GW253.out) hk; replace HB := Aside0.mk hb; replace HI0 := Aside0.mk hi; clear hi hb hk; have hcz122 := zc5 BK253.out; have hfz122 := zf5 BK253.out) | ((with_reducible refine gD 56 rfl ?_); refine Kd.N_lit k26 _ 26 ?hg (N' := 56) ?hd (xs := ([(⟨t244, t245, t246, t247, t248⟩ : S26), (⟨t244, t245, t246, t247, t248⟩ : S26), (⟨t244, t245, t246, t247, t248⟩ : S26), (⟨t244, t245, t246, t247, t248⟩ : S26)] : List (S26))) (inner := [.int .i64 t244, .int .i64 t245, .string t246, .string t247, .slice Ao120 t248.length co120, .int .i64 t244, .int .i64 t245, .string t246, .string t247, .slice Ao120 t248.length co120, .int .i64 t244, .int .i64 t245, .string t246, .string t247, .slice Ao120 t248.length co120, .int .i64 t244, .int .i64 t245, .string t246, .string t247, .slice Ao120 t248.length co120]) (ok := (fun k_ => (w.heap.size ≤ k_) ∧ k_ ≠ gb243 ∧ k_ ≠ gb253 ∧ k_ ≠ g)) (okp := (fun k_ => (w.heap.size ≤ k_) ∧ k_ ≠ gb243 ∧ k_ ≠ gb253 ∧ k_ ≠ g)) ?hr ?hp (fun _ hk => hk) ((show ∀ k_, w121.heap.size ≤ k_ → (fun k_ => (w.heap.size ≤ k_) ∧ k_ ≠ gb243 ∧ k_ ≠ gb253 ∧ k_ ≠ g) k_ from fun k_ hk => ⟨(Nat.le_trans (keep_size (w := w) (g := g) (row := none) (zK2 HK.out GW243.out GW253.out)) hk), Kd.freshB (g := gb243) (o := .cells #[.int .i64 0, .int .i64 0, .string (⟨#[]⟩ : ByteArray), .string (⟨#[]⟩ : ByteArray), .slice none 0 0] 26 (0, 0)) (zB BK243.out) k_ hk, Kd.freshB (g := gb253) (o := .cells #[.int .i64 t244, .int .i64 t245, .string t246, .string t247, .slice Ao120 t248.length co120] 26 (0, 0)) (zB BK253.out) k_ hk, IsS53.fresh (zI2 HI0.out NB0_243.out NB0_253.out) k_ hk⟩) _ (Nat.le_refl _)) (Below.refl _ _) (Nat.le_refl _) (by simp) ?_; (case hd => rfl); (case hg => rfl); (case hr => first | (go_simp; done) | (go_simp; rfl)); (case hp => exact (Reps.c5 (show Kd.FK k26 _ _ (⟨t244, t245, t246, t247, t248⟩ : S26) [.int .i64 t244, .int .i64 t245, .string t246, .string t247, .slice Ao120 t248.length co120] from (k26_mkF _ _ (⟨t244, t245, t246, t247, t248⟩ : S26) (Kd.N_reads' (Kd.N_mono (ok' := (fun k_ => (w.heap.size ≤ k_) ∧ k_ ≠ gb243 ∧ k_ ≠ gb253 ∧ k_ ≠ g)) (HO250.out) (fun k_ hk => ⟨hk.1.1, ⟨hk.1.2.1, ⟨hk.2, hk.1.2.2⟩⟩⟩))).2.1 (Kd.N_F (Kd.N_mono (ok' := (fun k_ => (w.heap.size ≤ k_) ∧ k_ ≠ gb243 ∧ k_ ≠ gb253 ∧ k_ ≠ g)) (HO250.out) (fun k_ hk => ⟨hk.1.1, ⟨hk.1.2.1, ⟨hk.2, hk.1.2.2⟩⟩⟩))))) (Reps.c5 (show Kd.FK k26 _ _ (⟨t244, t245, t246, t247, t248⟩ : S26) [.int .i64 t244, .int .i64 t245, .string t246, .string t247, .slice Ao120 t248.length co120] from (k26_mkF _ _ (⟨t244, t245, t246, t247, t248⟩ : S26) (Kd.N_reads' (Kd.N_mono (ok' := (fun k_ => (w.heap.size ≤ k_) ∧ k_ ≠ gb243 ∧ k_ ≠ gb253 ∧ k_ ≠ g)) (HO250.out) (fun k_ hk => ⟨hk.1.1, ⟨hk.1.2.1, ⟨hk.2, hk.1.2.2⟩⟩⟩))).2.1 (Kd.N_F (Kd.N_mono (ok' := (fun k_ => (w.heap.size ≤ k_) ∧ k_ ≠ gb243 ∧ k_ ≠ gb253 ∧ k_ ≠ g)) (HO250.out) (fun k_ hk => ⟨hk.1.1, ⟨hk.1.2.1, ⟨hk.2, hk.1.2.2⟩⟩⟩))))) (Reps.c5 (show Kd.FK k26 _ _ (⟨t244, t245, t246, t247, t248⟩ : S26) [.int .i64 t244, .int .i64 t245, .string t246, .string t247, .slice Ao120 t248.length co120] from (k26_mkF _ _ (⟨t244, t245, t246, t247, t248⟩ : S26) (Kd.N_reads' (Kd.N_mono (ok' := (fun k_ => (w.heap.size ≤ k_) ∧ k_ ≠ gb243 ∧ k_ ≠ gb253 ∧ k_ ≠ g)) (HO250.out) (fun k_ hk => ⟨hk.1.1, ⟨hk.1.2.1, ⟨hk.2, hk.1.2.2⟩⟩⟩))).2.1 (Kd.N_F (Kd.N_mono (ok' := (fun k_ => (w.heap.size ≤ k_) ∧ k_ ≠ gb243 ∧ k_ ≠ gb253 ∧ k_ ≠ g)) (HO250.out) (fun k_ hk => ⟨hk.1.1, ⟨hk.1.2.1, ⟨hk.2, hk.1.2.2⟩⟩⟩))))) (Reps.c5 (show Kd.FK k26 _ _ (⟨t244, t245, t246, t247, t248⟩ : S26) [.int .i64 t244, .int .i64 t245, .string t246, .string t247, .slice Ao120 t248.length co120] from (k26_mkF _ _ (⟨t244, t245, t246, t247, t248⟩ : S26) (Kd.N_reads' (Kd.N_mono (ok' := (fun k_ => (w.heap.size ≤ k_) ∧ k_ ≠ gb243 ∧ k_ ≠ gb253 ∧ k_ ≠ g)) (HO250.out) (fun k_ hk => ⟨hk.1.1, ⟨hk.1.2.1, ⟨hk.2, hk.1.2.2⟩⟩⟩))).2.1 (Kd.N_F (Kd.N_mono (ok' := (fun k_ => (w.heap.size ≤ k_) ∧ k_ ≠ gb243 ∧ k_ ≠ gb253 ∧ k_ ≠ g)) (HO250.out) (fun k_ hk => ⟨hk.1.1, ⟨hk.1.2.1, ⟨hk.2, hk.1.2.2⟩⟩⟩))))) (Reps.none _ _)))))); intro v300 w123 ho124 hb hg_ hnew_; clear hg_ hnew_; (first | rw [← Ny299.out] at ho124 | (simp only [Int.reduceToNat] at ho124; rw [← Ny299.out] at ho124)); have HO301 := Aside0.mk (Kd.N_lower ho124 (keep_size (w := w) (g := g) (row := none) (zK2 HK.out GW243.out GW253.out))); replace BK243 := zBB BK243 hb; replace BK253 := zBB BK253 hb; replace HK := zKB g (zK2 HK.out GW243.out GW253.out) hb; replace HB := zLB (zL3 HB.out (IsS53.ge HI0.out) GE243.out GE253.out) hb; replace HI0 := Aside0.mk (IsS53.below (zI2 HI0.out NB0_243.out NB0_253.out) hb); clear HO250; clear hb ho124; obtain ⟨Ao125, co125, eo125⟩ := Kd.N_slice HO301.out; subst eo125; have hcz126 := zc5 BK253.out; have hfz126 := zf5 BK253.out; have hnb127 := NB243_0.out; have hnc127 := NB0_243.out; have hcz128 := zc5 BK243.out; have hfz128 := zf5 BK243.out))
        refine bodyPost_ret (results_cell_row rfl _ _ gb243 26 #[.int .i64 7, .int .i64 0, .string (⟨#[]⟩ : ByteArray), .string (⟨#[]⟩ : ByteArray), .slice Ao125 y299.length co125] (0, 0) _ rfl (by refine zB ?_; refine zp5 (cs := #[.int .i64 0, .int .i64 0, .string (⟨#[]⟩ : ByteArray), .string (⟨#[]⟩ : ByteArray), .slice none 0 0]) ?_; refine zB ?_; refine zr5 ?_ NB243_253.out; exact zB BK243.out) Tryd.underlying26 rfl (by kernel_rfl)) rfl ?_
        exact ⟨_, zW, by (with_reducible repeat (first | apply Kd.N_alloc | apply Kd.N_drewN | apply Kd.N_drew)); exact Kd.N_mono (zNF5 (zNF5 (Kd.N_mono (Kd.N_mono HO301.out (fun k_ hk => (⟨hk, hk.2.2.1⟩ : _ ∧ k_ ≠ gb253))) (fun k_ hk => (⟨hk, hk.1.2.1⟩ : _ ∧ k_ ≠ gb243))) gb253 (fun _ hk => hk.1.2) (.int .i64 7) (.int .i64 0) (.string (⟨#[]⟩ : ByteArray)) (.string (⟨#[]⟩ : ByteArray)) (.slice Ao125 y299.length co125)) gb243 (fun _ hk => hk.2) (.int .i64 7) (.int .i64 0) (.string (⟨#[]⟩ : ByteArray)) (.string (⟨#[]⟩ : ByteArray)) (.slice Ao125 y299.length co125)) (fun _ hk => hk.1.1.1), zI2 HI0.out NB0_243.out NB0_253.out, zL3 HB.out (IsS53.ge HI0.out) GE243.out GE253.out, zK2 HK.out GW243.out GW253.out⟩
       ·rw [if_neg c113] at H
        obtain ⟨c113b0, c113b1⟩ := zf c113
        simp only [Option.some.injEq, Prod.mk.injEq] at H
        obtain ⟨rfl, rfl, rfl, rfl, rfl, rfl, rfl⟩ := H
        go_enter Tryd.func25, Tryd.ntmps25
        go_wp2_with (first | ((with_reducible refine gD 2 rfl ?_); refine bE 2 #[.int .i64 0, .int .i64 0, .string (⟨#[]⟩ : ByteArray), .string (⟨#[]⟩ : ByteArray), .slice none 0 0] 26 ?_; intro gb243 hg w129 hbox hb; replace HB := zLB (zL1 HB.out (IsS53.ge HI0.out)) hb; have BK243 := Aside0.mk hbox; have GW243 := Aside0.mk (zgK (g := g) (zK HK.out) hg : w.heap.size ≤ gb243); have GE243 := Aside0.mk ((Nat.le_trans HW0.out (zgK (g := g) (zK HK.out) hg : w.heap.size ≤ gb243) : w0.heap.size ≤ gb243)); replace HK := zKB g (zK HK.out) hb; have NB0_243 := Aside0.mk ((zNI (IsS53.lt (zI HI0.out : IsS53 w0 _ g s0_0 s0_1 s0_2)) hg : g ≠ gb243)); have NB243_0 := Aside0.mk ((zMI (IsS53.lt (zI HI0.out : IsS53 w0 _ g s0_0 s0_1 s0_2)) hg : gb243 ≠ g)); replace HI0 := Aside0.mk (IsS53.below (zI HI0.out) hb); clear hb hbox hg) | ((with_reducible refine gC 37 rfl ?_); refine gL 6 Tryd.func37 #[.pointer (some ⟨g, 0, none⟩), .int .i64 3] ?_; (with_reducible refine (spec_l5Draw.calls k g s0_0 s0_1 s0_2 3 t244 t245 t246 t247 t248 t251 t252 w0 _ ?side1 ?side2 A2.out).mono ?_); (case side1 => exact zI1 HI0.out NB0_243.out); (case side2 => exact zL2 HB.out (IsS53.ge HI0.out) GE243.out); rintro e w130 ⟨v249, rfl, ho0, hi, hb, hk⟩; refine ⟨_, rfl, ?_⟩; have HO250 := Aside0.mk (Kd.N_lower (Kd.N_mono (ok' := fun k_ => (w.heap.size ≤ k_) ∧ k_ ≠ gb243 ∧ k_ ≠ g) (Kd.R_N (Kd.R_bound ho0)) (fun k_ hk_ => ⟨(Nat.le_trans (keep_size (w := w) (g := g) (row := none) (zK1 HK.out GW243.out)) hk_.2.1), (Kd.freshB (g := gb243) (o := .cells #[.int .i64 0, .int .i64 0, .string (⟨#[]⟩ : ByteArray), .string (⟨#[]⟩ : ByteArray), .slice none 0 0] 26 (0, 0)) (zB BK243.out) k_ hk_.2.1), (IsS53.fresh (zI1 HI0.out NB0_243.out) k_ hk_.2.1)⟩)) (keep_size (w := w) (g := g) (row := none) (zK1 HK.out GW243.out))); replace BK243 := zBK hk BK243 NB243_0; replace HK := zKK (zK1 HK.out GW243.out) hk; replace HB := Aside0.mk hb; replace HI0 := Aside0.mk hi; clear ho0 hi hb hk) | ((with_reducible refine gD 3 rfl ?_); refine bE 3 #[.int .i64 0, .int .i64 0, .string (⟨#[]⟩ : ByteArray), .string (⟨#[]⟩ : ByteArray), .slice none 0 0] 26 ?_; intro gb253 hg w131 hbox hb; replace HO250 := Aside0.mk (Kd.N_below (Kd.N_elderB (zX HO250.out) gb253 (Nat.le_of_eq hg.symm)) hb); replace HB := zLB (zL2 HB.out (IsS53.ge HI0.out) GE243.out) hb; have BK253 := Aside0.mk hbox; have GW253 := Aside0.mk (zgK (g := g) (zK1 HK.out GW243.out) hg : w.heap.size ≤ gb253); have GE253 := Aside0.mk ((Nat.le_trans HW0.out (zgK (g := g) (zK1 HK.out GW243.out) hg : w.heap.size ≤ gb253) : w0.heap.size ≤ gb253)); replace HK := zKB g (zK1 HK.out GW243.out) hb; have NB243_253 := Aside0.mk (zN BK243.out hg : gb243 ≠ gb253); have NB253_243 := Aside0.mk (zM BK243.out hg : gb253 ≠ gb243); replace BK243 := zBB BK243 hb; have NB0_253 := Aside0.mk ((zNI (IsS53.lt (zI1 HI0.out NB0_243.out : IsS53 w0 _ g s0_0 t251 t252)) hg : g ≠ gb253)); have NB253_0 := Aside0.mk ((zMI (IsS53.lt (zI1 HI0.out NB0_243.out : IsS53 w0 _ g s0_0 t251 t252)) hg : gb253 ≠ g)); replace HI0 := Aside0.mk (IsS53.below (zI1 HI0.out NB0_243.out) hb); clear hb hbox hg; have hnb132 := NB253_243.out; have hnc132 := NB243_253.out; have hnb133 := NB253_0.out; have hnc133 := NB0_253.out; have hcz134 := zc5 BK253.out; have hfz134 := zf5 BK253.out; obtain ⟨Ao135, co135, eo135⟩ := Kd.N_slice HO250.out; subst eo135) | ((with_reducible refine gC 38 rfl ?_); refine gL 8 Tryd.func38 #[.pointer (some ⟨g, 0, none⟩), .int .i64 14] ?_; (with_reducible refine (spec_l1Below.calls g s0_0 t251 t252 14 t254 t255 t256 w0 _ ?side1 ?side2 A3.out).mono ?_); (case side1 => exact zI2 HI0.out NB0_243.out NB0_253.out); (case side2 => exact zL3 HB.out (IsS53.ge HI0.out) GE243.out GE253.out); rintro e w136 ⟨rfl, hi, hb, hk⟩; refine ⟨_, rfl, ?_⟩; replace BK243 := Aside0.mk (zQ2 (.cells #[.int .i64 0, .int .i64 0, .string (⟨#[]⟩ : ByteArray), .string (⟨#[]⟩ : ByteArray), .slice none 0 0] 26 (0, 0)) hk (by refine zB ?_; refine zr5 ?_ NB243_253.out; exact zB BK243.out) NB243_0.out (by simp)); replace HO250 := Aside0.mk (Kd.N_mono (Kd.N_keep (Kd.N_mono (ok := fun k_ => ((((w.heap.size ≤ k_)) ∧ (k_ ≠ gb243 ∧ k_ ≠ g)) ∧ k_ ≠ gb253)) (by (with_reducible repeat (first | apply Kd.N_alloc | apply Kd.N_drewN | apply Kd.N_drew)); exact (Kd.N_mono (zNF5 (Kd.N_mono HO250.out (fun k_ hk => (⟨hk, hk.2⟩ : _ ∧ k_ ≠ gb253))) gb253 (fun _ hk => hk.2) (.int .i64 t244) (.int .i64 t245) (.string t246) (.string t247) (.slice Ao135 t248.length co135)) (fun _ h_ => h_.1))) (fun k_ hk_ => (⟨hk_, hk_.1.2.2⟩ : _ ∧ k_ ≠ g))) hk (fun _ h => h.2)) (fun _ h => h.1)); replace BK253 := Aside0.mk (zQ2 (.cells #[.int .i64 t244, .int .i64 t245, .string t246, .string t247, .slice Ao135 t248.length co135] 26 (0, 0)) hk (by refine zB ?_; refine zp5 (cs := #[.int .i64 0, .int .i64 0, .string (⟨#[]⟩ : ByteArray), .string (⟨#[]⟩ : ByteArray), .slice none 0 0]) ?_; exact zB BK253.out) NB253_0.out (by simp)); replace HK := zKK (zK2 HK.out GW243.out GW253.out) hk; replace HB := Aside0.mk hb; replace HI0 := Aside0.mk hi; clear hi hb hk; have hcz137 := zc5 BK253.out; have hfz137 := zf5 BK253.out; have hnb138 := NB243_0.out; have hnc138 := NB0_243.out; have hcz139 := zc5 BK243.out; have hfz139 := zf5 BK243.out))
        refine bodyPost_ret (results_cell_row rfl _ _ gb243 26 #[.int .i64 t244, .int .i64 t245, .string t246, .string t247, .slice Ao135 t248.length co135] (0, 0) _ rfl (by refine zB ?_; refine zp5 (cs := #[.int .i64 0, .int .i64 0, .string (⟨#[]⟩ : ByteArray), .string (⟨#[]⟩ : ByteArray), .slice none 0 0]) ?_; exact zB BK243.out) Tryd.underlying26 rfl (by kernel_rfl)) rfl ?_
        exact ⟨_, zW, by (with_reducible repeat (first | apply Kd.N_alloc | apply Kd.N_drewN | apply Kd.N_drew)); exact Kd.N_mono (zNF5 (Kd.N_mono HO250.out (fun k_ hk => (⟨hk, hk.1.2.1⟩ : _ ∧ k_ ≠ gb243))) gb243 (fun _ hk => hk.2) (.int .i64 t244) (.int .i64 t245) (.string t246) (.string t247) (.slice Ao135 t248.length co135)) (fun _ hk => hk.1.1.1), zI2 HI0.out NB0_243.out NB0_253.out, zL3 HB.out (IsS53.ge HI0.out) GE243.out GE253.out, zK2 HK.out GW243.out GW253.out⟩

open Go.Proofs.YtfhblnbicnmndaaDoorW.PrintWords renaming blk_drewN → bN, blk_drew → bD, blk_alloc → bA, blk_cell → bC, blk_below → bB, below_set → bS
/-! ### spec_DrawPolOk: function 6 -/
def spec_DrawPolOk.f (k : Nat) (l0 : List Int) : Option (Int × Int × ByteArray × ByteArray × (List (S26))) := (spec_l1New.f k l0).bind fun bt303 => ((spec_l5Any.f k bt303.1 bt303.2.1 bt303.2.2).bind fun bt307 => (some (bt307.1, bt307.2.1, bt307.2.2.1, bt307.2.2.2.1, bt307.2.2.2.2.1)))
theorem spec_DrawPolOk.mono : ∀ a0 k, LeO (spec_DrawPolOk.f k a0) (spec_DrawPolOk.f (k + 1) a0) := by
 intro a0 k
 unfold spec_DrawPolOk.f
 repeat' first
   | (with_reducible apply spec_l1New.mono)
   | (with_reducible apply spec_l5Any.mono)
   | (with_reducible exact LeO.refl _)
   | (with_reducible exact LeO.none _)
   | (with_reducible refine LeO.ite ?_ ?_)
   | (with_reducible refine LeO.bind ?_ (fun _ => ?_))
   | apply spec_l1New.mono
   | apply spec_l5Any.mono
   | exact LeO.none _
   | refine LeO.ite ?_ ?_
   | refine LeO.bind ?_ (fun _ => ?_)
set_option maxHeartbeats 8000000 in
set_option maxRecDepth 100000 in
theorem spec_DrawPolOk.calls (k : Nat) (A0 : Option Addr) (c0 : Nat) (l0 : List Int) (r1 : Int) (r2 : Int) (r3 : ByteArray) (r4 : ByteArray) (r5 : List (S26)) (w : World) (hr0 : Kd.C (Kd.int .u8) w A0 l0.length l0) (hc0 : l0.length ≤ c0) (h : spec_DrawPolOk.f k l0 = some (r1, r2, r3, r4, r5)) :
  Calls Tryd.prog 6 #[.slice A0 l0.length c0] w fun e w' => ∃ v4_ : Value, e = .returned (.agg #[.int .i64 r1, .int .i64 r2, .string r3, .string r4, v4_]) ∧ Kd.N k26 26 w' w.heap.size (fun k_ => (w.heap.size ≤ k_)) v4_ r5 ∧ Below w.heap.size w w' := by
 have hu26 := Tryd.underlying26
 have HR0 := Aside0.mk hr0
 have HC0 := Aside0.mk hc0
 clear hr0 hc0
 have HB := Aside0.mk (Below.refl w.heap.size w)
 unfold spec_DrawPolOk.f at h; have H := h
 clear h
 obtain ⟨⟨t303, t304, t305⟩, A2, H⟩ := zO H; try dsimp only at H
 obtain ⟨⟨t307, t308, t309, t310, t311, t314, t315⟩, A3, H⟩ := zO H; try dsimp only at H
 simp only [Option.some.injEq, Prod.mk.injEq] at H
 obtain ⟨rfl, rfl, rfl, rfl, rfl⟩ := H
 go_enter Tryd.func6, Tryd.ntmps6
 go_wp2_with (first | ((with_reducible refine gD 2 rfl ?_); refine bE 2 #[.int .i64 0, .int .i64 0, .string (⟨#[]⟩ : ByteArray), .string (⟨#[]⟩ : ByteArray), .slice none 0 0] 26 ?_; intro gb302 hg w4 hbox hb; have BK302 := Aside0.mk hbox; have GW302 := Aside0.mk (zg (zL HB.out) hg : w.heap.size ≤ gb302); have GE302 := GW302; replace HB := zLB (zL HB.out) hb; clear hb hbox hg) | ((with_reducible refine gC 24 rfl ?_); refine gL 5 Tryd.func24 #[.slice A0 l0.length c0] ?_; (with_reducible refine (spec_l1New.calls k _ _ l0 t303 t304 t305 w _ ?side1 ?side2 ?side3 A2.out).mono ?_); (case side1 => exact zL1 HB.out GE302.out); (case side2 => exact HR0.out); (case side3 => exact HC0.out); rintro e w5 ⟨g306, rfl, hi, hb, hb2⟩; refine ⟨_, rfl, ?_⟩; replace HB := Aside0.mk hb; have HI306 := Aside0.mk hi; have NB306_302 := Aside0.mk (IsS53.ne_blk hi (bB (g := gb302) (o := .cells #[.int .i64 0, .int .i64 0, .string (⟨#[]⟩ : ByteArray), .string (⟨#[]⟩ : ByteArray), .slice none 0 0] 26 (0, 0)) (zB BK302.out) hb2) (by decide)); have NB302_306 := Aside0.mk (Ne.symm (IsS53.ne_blk hi (bB (g := gb302) (o := .cells #[.int .i64 0, .int .i64 0, .string (⟨#[]⟩ : ByteArray), .string (⟨#[]⟩ : ByteArray), .slice none 0 0] 26 (0, 0)) (zB BK302.out) hb2) (by decide))); replace BK302 := zBB BK302 hb2; clear hi hb hb2) | ((with_reducible refine gC 25 rfl ?_); refine gL 7 Tryd.func25 #[.pointer (some ⟨g306, 0, none⟩)] ?_; (with_reducible refine (spec_l5Any.calls k g306 t303 t304 t305 t307 t308 t309 t310 t311 t314 t315 w _ ?side1 ?side2 A3.out).mono ?_); (case side1 => exact zI1 HI306.out NB306_302.out); (case side2 => exact zL2 HB.out (IsS53.ge HI306.out) GE302.out); rintro e w6 ⟨v312, rfl, ho0, hi, hb, hk⟩; refine ⟨_, rfl, ?_⟩; have HO313 := Aside0.mk (Kd.N_lower (Kd.N_mono (ok' := fun k_ => (w.heap.size ≤ k_) ∧ k_ ≠ gb302 ∧ k_ ≠ g306) ho0 (fun k_ hk_ => ⟨(Nat.le_trans (below_size (zL2 HB.out (IsS53.ge HI306.out) GE302.out)) hk_), (Kd.freshB (g := gb302) (o := .cells #[.int .i64 0, .int .i64 0, .string (⟨#[]⟩ : ByteArray), .string (⟨#[]⟩ : ByteArray), .slice none 0 0] 26 (0, 0)) (zB BK302.out) k_ hk_), (IsS53.fresh (zI1 HI306.out NB306_302.out) k_ hk_)⟩)) (below_size (zL2 HB.out (IsS53.ge HI306.out) GE302.out))); replace BK302 := zBK hk BK302 NB302_306; replace HB := Aside0.mk hb; replace HI306 := Aside0.mk hi; clear ho0 hi hb hk; have hnb7 := NB302_306.out; have hnc7 := NB306_302.out; have hcz8 := zc5 BK302.out; have hfz8 := zf5 BK302.out; obtain ⟨Ao9, co9, eo9⟩ := Kd.N_slice HO313.out; subst eo9))
 refine bodyPost_ret (results_cell_row rfl _ _ gb302 26 #[.int .i64 t307, .int .i64 t308, .string t309, .string t310, .slice Ao9 t311.length co9] (0, 0) _ rfl (by refine zB ?_; refine zp5 (cs := #[.int .i64 0, .int .i64 0, .string (⟨#[]⟩ : ByteArray), .string (⟨#[]⟩ : ByteArray), .slice none 0 0]) ?_; exact zB BK302.out) Tryd.underlying26 rfl (by kernel_rfl)) rfl ?_
 exact ⟨_, zW, by (with_reducible repeat (first | apply Kd.N_alloc | apply Kd.N_drewN | apply Kd.N_drew)); exact Kd.N_mono (zNF5 (Kd.N_mono HO313.out (fun k_ hk => (⟨hk, hk.2.1⟩ : _ ∧ k_ ≠ gb302))) gb302 (fun _ hk => hk.2) (.int .i64 t307) (.int .i64 t308) (.string t309) (.string t310) (.slice Ao9 t311.length co9)) (fun _ hk => hk.1.1), zL2 HB.out (IsS53.ge HI306.out) GE302.out⟩

open Go.Proofs.YtfhblnbicnmndaaDoorW.PrintWords renaming blk_drewN → bN, blk_drew → bD, blk_alloc → bA, blk_cell → bC, blk_below → bB, below_set → bS
/-! ### spec_l5Copy: function 27 -/
mutual
def spec_l5Copy.l0 : Nat → Int → Int → Int → ByteArray → ByteArray → List (S26) → Int → Int → ByteArray → ByteArray → List (S26) → Option (Int × Int × ByteArray × ByteArray × (List (S26)))
 | 0, _, _, _, _, _, _, _, _, _, _, _ => none
 | k + 1, x4, x317000, x317001, x317002, x317003, x317004, x319000, x319001, x319002, x319003, x319004 => if x4 < (x317004.length : Int) then (if 0 ≤ x4 then ((spec_l5Copy.f k ((rd_T26 x317004 x4).f0) ((rd_T26 x317004 x4).f1) ((rd_T26 x317004 x4).f2) ((rd_T26 x317004 x4).f3) ((rd_T26 x317004 x4).f4)).bind fun bt323 => (if x319004.length < 1954687338268 then (spec_l5Copy.l0 k (wrap64 (x4 + 1)) x317000 x317001 x317002 x317003 x317004 x319000 x319001 x319002 x319003 (x319004 ++ [(⟨bt323.1, bt323.2.1, bt323.2.2.1, bt323.2.2.2.1, bt323.2.2.2.2⟩ : S26)])) else (none))) else (none)) else (some (x319000, x319001, x319002, x319003, x319004))
def spec_l5Copy.f : Nat → Int → Int → ByteArray → ByteArray → List (S26) → Option (Int × Int × ByteArray × ByteArray × (List (S26)))
 | 0, _, _, _, _, _ => none
 | k + 1, a0_0, a0_1, a0_2, a0_3, l0_4 => spec_l5Copy.l0 k 0 a0_0 a0_1 a0_2 a0_3 l0_4 a0_0 a0_1 a0_2 a0_3 (([] : List (S26)))
end
theorem spec_l5Copy.mono_l : ∀ k, (∀ y0 y1 y2 y3 y4, LeO (spec_l5Copy.f k y0 y1 y2 y3 y4) (spec_l5Copy.f (k + 1) y0 y1 y2 y3 y4)) ∧ (∀ y0 y1 y2 y3 y4 y5 y6 y7 y8 y9 y10, LeO (spec_l5Copy.l0 k y0 y1 y2 y3 y4 y5 y6 y7 y8 y9 y10) (spec_l5Copy.l0 (k + 1) y0 y1 y2 y3 y4 y5 y6 y7 y8 y9 y10))
 | 0 => ⟨fun _ _ _ _ _ r h => by simp [spec_l5Copy.f] at h, fun _ _ _ _ _ _ _ _ _ _ _ r h => by simp [spec_l5Copy.l0] at h⟩
 | k + 1 => by
  obtain ⟨ih0, ih1⟩ := spec_l5Copy.mono_l k
  refine ⟨?_, ?_⟩
  ·intro y0 y1 y2 y3 y4
   unfold spec_l5Copy.f
   repeat' first
   | (with_reducible exact ih0 _ _ _ _ _)
   | (with_reducible exact ih1 _ _ _ _ _ _ _ _ _ _ _)
   | (with_reducible exact LeO.refl _)
   | (with_reducible exact LeO.none _)
   | (with_reducible refine LeO.ite ?_ ?_)
   | (with_reducible refine LeO.bind ?_ (fun _ => ?_))
   | exact ih0 _ _ _ _ _
   | exact ih1 _ _ _ _ _ _ _ _ _ _ _
   | exact LeO.none _
   | refine LeO.ite ?_ ?_
   | refine LeO.bind ?_ (fun _ => ?_)
  ·intro y0 y1 y2 y3 y4 y5 y6 y7 y8 y9 y10
   unfold spec_l5Copy.l0
   repeat' first
   | (with_reducible exact ih0 _ _ _ _ _)
   | (with_reducible exact ih1 _ _ _ _ _ _ _ _ _ _ _)
   | (with_reducible exact LeO.refl _)
   | (with_reducible exact LeO.none _)
   | (with_reducible refine LeO.ite ?_ ?_)
   | (with_reducible refine LeO.bind ?_ (fun _ => ?_))
   | exact ih0 _ _ _ _ _
   | exact ih1 _ _ _ _ _ _ _ _ _ _ _
   | exact LeO.none _
   | refine LeO.ite ?_ ?_
   | refine LeO.bind ?_ (fun _ => ?_)
theorem spec_l5Copy.mono : ∀ a0 a1 a2 a3 a4 k, LeO (spec_l5Copy.f k a0 a1 a2 a3 a4) (spec_l5Copy.f (k + 1) a0 a1 a2 a3 a4) := by
 intro a0 a1 a2 a3 a4 k
 obtain ⟨ih0, ih1⟩ := spec_l5Copy.mono_l k
 exact ih0 a0 a1 a2 a3 a4
set_option maxHeartbeats 8000000 in
set_option maxRecDepth 100000 in
theorem spec_l5Copy.calls (k : Nat) : ∀ (a0_0 : Int) (a0_1 : Int) (a0_2 : ByteArray) (a0_3 : ByteArray) (A0_4 : Option Addr) (c0_4 : Nat) (l0_4 : List (S26)) (r1 : Int) (r2 : Int) (r3 : ByteArray) (r4 : ByteArray) (r5 : List (S26)) (w : World) (hr0_4 : Kd.C k26 w A0_4 l0_4.length l0_4) (hc0_4 : l0_4.length ≤ c0_4) (h : spec_l5Copy.f k a0_0 a0_1 a0_2 a0_3 l0_4 = some (r1, r2, r3, r4, r5)),
  Calls Tryd.prog 27 #[.agg #[.int .i64 a0_0, .int .i64 a0_1, .string a0_2, .string a0_3, .slice A0_4 l0_4.length c0_4]] w fun e w' => ∃ v4_ : Value, e = .returned (.agg #[.int .i64 r1, .int .i64 r2, .string r3, .string r4, v4_]) ∧ Kd.R k26 26 w' w.heap.size (fun _ => True) v4_ r5 ∧ Below w.heap.size w w' := by
 induction k using Nat.strongRecOn with
 | _ k ih =>
 intro a0_0 a0_1 a0_2 a0_3 A0_4 c0_4 l0_4 r1 r2 r3 r4 r5 w hr0_4 hc0_4 h
 cases k with
 | zero => exact absurd h (by simp [spec_l5Copy.f])
 | succ k =>
 simp only [spec_l5Copy.f] at h
 have hu26 := Tryd.underlying26
 have HR0_4 := Aside0.mk hr0_4
 have HC0_4 := Aside0.mk hc0_4
 clear hr0_4 hc0_4
 have HB := Aside0.mk (Below.refl w.heap.size w)
 have H : (spec_l5Copy.l0 k 0 a0_0 a0_1 a0_2 a0_3 l0_4 a0_0 a0_1 a0_2 a0_3 (([] : List (S26)))) = some (r1, r2, r3, r4, r5) := h
 clear h
 generalize hy319 : (([] : List (S26))) = y319 at H; (try rw [Option.bind_some] at H); have Ny319 := Aside0.mk hy319.symm; clear hy319
 have H' := Aside0.mk H
 clear H
 go_enter Tryd.func27, Tryd.ntmps27
 go_wp2_with (first | ((with_reducible refine gD 1 rfl ?_); refine bE 1 #[.int .i64 a0_0, .int .i64 a0_1, .string a0_2, .string a0_3, .slice A0_4 l0_4.length c0_4] 26 ?_; intro gb316 hg w2 hbox hb; have BK316 := Aside0.mk hbox; have GW316 := Aside0.mk (zg (zL HB.out) hg : w.heap.size ≤ gb316); have GE316 := GW316; replace HB := zLB (zL HB.out) hb; clear hb hbox hg) | ((with_reducible refine gD 2 rfl ?_); refine bE 2 #[.int .i64 0, .int .i64 0, .string (⟨#[]⟩ : ByteArray), .string (⟨#[]⟩ : ByteArray), .slice none 0 0] 26 ?_; intro gb317 hg w3 hbox hb; have BK317 := Aside0.mk hbox; have GW317 := Aside0.mk (zg (zL1 HB.out GE316.out) hg : w.heap.size ≤ gb317); have GE317 := GW317; replace HB := zLB (zL1 HB.out GE316.out) hb; have NB316_317 := Aside0.mk (zN BK316.out hg : gb316 ≠ gb317); have NB317_316 := Aside0.mk (zM BK316.out hg : gb317 ≠ gb316); replace BK316 := zBB BK316 hb; clear hb hbox hg; have hnb4 := NB316_317.out; have hnc4 := NB317_316.out; have hcz5 := zc5 BK316.out; have hfz5 := zf5 BK316.out) | ((with_reducible refine gD 3 rfl ?_); refine bE 3 #[.int .i64 0, .int .i64 0, .string (⟨#[]⟩ : ByteArray), .string (⟨#[]⟩ : ByteArray), .slice none 0 0] 26 ?_; intro gb318 hg w6 hbox hb; have BK318 := Aside0.mk hbox; have GW318 := Aside0.mk (zg (zL2 HB.out GE316.out GE317.out) hg : w.heap.size ≤ gb318); have GE318 := GW318; replace HB := zLB (zL2 HB.out GE316.out GE317.out) hb; have NB316_318 := Aside0.mk (zN BK316.out hg : gb316 ≠ gb318); have NB318_316 := Aside0.mk (zM BK316.out hg : gb318 ≠ gb316); replace BK316 := zBB BK316 hb; have NB317_318 := Aside0.mk (zN BK317.out hg : gb317 ≠ gb318); have NB318_317 := Aside0.mk (zM BK317.out hg : gb318 ≠ gb317); replace BK317 := zBB BK317 hb; clear hb hbox hg; have hnb7 := NB318_316.out; have hnc7 := NB316_318.out; have hnb8 := NB318_317.out; have hnc8 := NB317_318.out; have hcz9 := zc5 BK318.out; have hfz9 := zf5 BK318.out) | ((with_reducible refine gD 7 rfl ?_); refine Kd.R_lit k26 _ 26 ?hg (N := 7) ?hd (xs := ([] : List (S26))) (inner := []) (ok := fun _ => True) (okp := fun _ => True) ?hr ?hp (fun _ hk => hk) trivial (Below.refl _ _) (Nat.le_refl _) (by simp) ?_; (case hd => rfl); (case hg => rfl); (case hr => first | (go_simp; done) | (go_simp; rfl)); (case hp => exact (Reps.none _ _)); intro v320 w10 ho11 hb hg_ hnew_; clear hg_ hnew_; (first | rw [← Ny319.out] at ho11 | (simp only [Int.reduceToNat] at ho11; rw [← Ny319.out] at ho11)); have HO321 := Aside0.mk (Kd.R_lower (Kd.R_newB (Kd.R_newB (Kd.R_newB ho11 (g := gb316) (o := .cells #[.int .i64 a0_0, .int .i64 a0_1, .string a0_2, .string a0_3, .slice A0_4 l0_4.length c0_4] 26 (0, 0)) (by refine zB ?_; refine zr5 ?_ NB316_318.out; exact zB BK316.out)) (g := gb317) (o := .cells #[.int .i64 0, .int .i64 0, .string (⟨#[]⟩ : ByteArray), .string (⟨#[]⟩ : ByteArray), .slice none 0 0] 26 (0, 0)) (by refine zB ?_; refine zr5 ?_ NB317_318.out; exact zB BK317.out)) (g := gb318) (o := .cells #[.int .i64 a0_0, .int .i64 a0_1, .string a0_2, .string a0_3, .slice A0_4 l0_4.length c0_4] 26 (0, 0)) (by refine zB ?_; refine zp5 (cs := #[.int .i64 0, .int .i64 0, .string (⟨#[]⟩ : ByteArray), .string (⟨#[]⟩ : ByteArray), .slice none 0 0]) ?_; exact zB BK318.out)) (below_size (zL3 HB.out GE316.out GE317.out GE318.out))); replace BK316 := Aside0.mk (bB (g := gb316) (o := .cells #[.int .i64 a0_0, .int .i64 a0_1, .string a0_2, .string a0_3, .slice A0_4 l0_4.length c0_4] 26 (0, 0)) (by refine zB ?_; refine zr5 ?_ NB316_318.out; exact zB BK316.out) hb); replace BK317 := Aside0.mk (bB (g := gb317) (o := .cells #[.int .i64 0, .int .i64 0, .string (⟨#[]⟩ : ByteArray), .string (⟨#[]⟩ : ByteArray), .slice none 0 0] 26 (0, 0)) (by refine zB ?_; refine zr5 ?_ NB317_318.out; exact zB BK317.out) hb); replace BK318 := Aside0.mk (bB (g := gb318) (o := .cells #[.int .i64 a0_0, .int .i64 a0_1, .string a0_2, .string a0_3, .slice A0_4 l0_4.length c0_4] 26 (0, 0)) (by refine zB ?_; refine zp5 (cs := #[.int .i64 0, .int .i64 0, .string (⟨#[]⟩ : ByteArray), .string (⟨#[]⟩ : ByteArray), .slice none 0 0]) ?_; exact zB BK318.out) hb); replace HB := zLB (zL3 HB.out GE316.out GE317.out GE318.out) hb; clear hb ho11; obtain ⟨Ao12, co12, eo12⟩ := Kd.R_slice HO321.out; subst eo12; have hcz13 := zc5 BK318.out; have hfz13 := zf5 BK318.out))
 go_loopg [4] k (fun kq v4 w' => ∃ (x4_1 : Int) (x319004_1 : List (S26)) (u319004 : Value), v4 = .int .i64 x4_1 ∧ Aside0 (spec_l5Copy.l0 kq x4_1 a0_0 a0_1 a0_2 a0_3 l0_4 a0_0 a0_1 a0_2 a0_3 x319004_1 = some (r1, r2, r3, r4, r5)) ∧ Aside0 (kq ≤ k) ∧ Aside0 (Kd.R k26 26 w' w.heap.size (fun k_ => k_ ≠ gb316 ∧ k_ ≠ gb317 ∧ k_ ≠ gb318) u319004 x319004_1) ∧ Aside0 (w'.heap[gb316]? = some (.cells #[.int .i64 a0_0, .int .i64 a0_1, .string a0_2, .string a0_3, (.slice A0_4 l0_4.length c0_4)] 26 (0, 0))) ∧ Aside0 (w'.heap[gb317]? = some (.cells #[.int .i64 0, .int .i64 0, .string (⟨#[]⟩ : ByteArray), .string (⟨#[]⟩ : ByteArray), (.slice none 0 0)] 26 (0, 0))) ∧ Aside0 (w'.heap[gb318]? = some (.cells #[.int .i64 a0_0, .int .i64 a0_1, .string a0_2, .string a0_3, u319004] 26 (0, 0))) ∧ Aside0 (Below w.heap.size w w'))
 case atStart => exact ⟨(0), (y319), (.slice Ao12 y319.length co12), zV, H', ⟨Nat.le_refl _⟩, ⟨by (with_reducible repeat (first | apply Kd.R_alloc | apply Kd.R_drewN | apply Kd.R_drew)); exact Kd.R_mono (Kd.R_far (p := ⟨gb318, 4, none⟩) (Kd.R_mono HO321.out (fun k_ hk => (⟨hk, hk.2⟩ : _ ∧ k_ ≠ gb318))) (fun _ hk => hk.2) (.slice Ao12 y319.length co12)) (fun _ hk => ⟨hk.1.1.1.2, ⟨hk.1.1.2, hk.1.2⟩⟩)⟩, ⟨by (with_reducible repeat (first | refine bN ?_ _ | refine bD ?_ | refine bA ?_ _)); refine blk_far ?_ NB316_318.out _; exact zB BK316.out⟩, ⟨by (with_reducible repeat (first | refine bN ?_ _ | refine bD ?_ | refine bA ?_ _)); refine blk_far ?_ NB317_318.out _; exact zB BK317.out⟩, ⟨by (with_reducible repeat (first | refine bN ?_ _ | refine bD ?_ | refine bA ?_ _)); refine blk_put (cs := #[.int .i64 a0_0, .int .i64 a0_1, .string a0_2, .string a0_3, .slice A0_4 l0_4.length c0_4]) ?_ 4 _ rfl; exact zB BK318.out⟩, ⟨zL3 HB.out GE316.out GE317.out GE318.out⟩⟩
 case round =>
  clear H'
  try clear c2
  try clear p2
  try clear c4
  try clear c7
  try clear c8
  try clear hcz13; try clear hcz5; try clear hcz9; try clear hfz13; try clear hfz5; try clear hfz9
  try clear BK316; try clear BK317; try clear BK318
  obtain ⟨x4_1, x319004_1, u319004, rfl, HA, HK1, HO_319004, BK316, BK317, BK318, HB⟩ := hrel
  cases gk with
  | zero => exact absurd HA.out (by simp [spec_l5Copy.l0])
  | succ k1 =>
   have H := HA.out
   clear HA
   simp only [spec_l5Copy.l0] at H
   by_cases c14 : x4_1 < (l0_4.length : Int)
   ·rw [if_pos c14] at H
    have c14b0 := decide_eq_true c14
    clear c14
    by_cases c15 : 0 ≤ x4_1
    ·rw [if_pos c15] at H
     have c15b0 := decide_eq_true c15
     clear c15
     obtain ⟨⟨t323, t324, t325, t326, t327⟩, A16, H⟩ := zO H; try dsimp only at H
     by_cases c17 : x319004_1.length < 1954687338268
     ·rw [if_pos c17] at H
      have LMc17 := Aside0.mk c17
      clear c17
      generalize hy331 : (x319004_1 ++ [(⟨t323, t324, t325, t326, t327⟩ : S26)]) = y331 at H; (try rw [Option.bind_some] at H); have Ny331 := Aside0.mk hy331.symm; clear hy331
      have H' := Aside0.mk H
      clear H
      have hnb18 := NB316_317.out
      have hnc18 := NB317_316.out
      have hnb19 := NB316_318.out
      have hnc19 := NB318_316.out
      have hcz20 := zc5 BK316.out
      have hfz20 := zf5 BK316.out
      have p322 : 0 ≤ (x4_1 : Int) := zD
      have q322 : x4_1 < (l0_4.length : Int) := zD
      obtain ⟨ad322, A322_4, c322_4, e322, hx322_0, hx322_1, hx322_2, hx322_3, hx322_4, hl322_4, hi322_4⟩ := at_T26 HR0_4.out x4_1 p322 q322
      cases e322
      replace hx322_0 := zh HB.out hx322_0
      replace hx322_1 := zh HB.out hx322_1
      replace hx322_2 := zh HB.out hx322_2
      replace hx322_3 := zh HB.out hx322_3
      replace hx322_4 := zh HB.out hx322_4
      have HR322_4 := Aside0.mk hi322_4
      have HC322_4 := Aside0.mk hl322_4
      clear hi322_4 hl322_4
      replace p322 := eq_true p322
      replace q322 := eq_true q322
      go_wp2_with (first | ((with_reducible refine gC 27 rfl ?_); refine gL 21 Tryd.func27 #[.agg #[.int .i64 ((rd_T26 l0_4 x4_1).f0), .int .i64 ((rd_T26 l0_4 x4_1).f1), .string ((rd_T26 l0_4 x4_1).f2), .string ((rd_T26 l0_4 x4_1).f3), .slice A322_4 ((rd_T26 l0_4 x4_1).f4).length c322_4]] ?_; (with_reducible refine (ih k1 (by have := HK1.out; omega) ((rd_T26 l0_4 x4_1).f0) ((rd_T26 l0_4 x4_1).f1) ((rd_T26 l0_4 x4_1).f2) ((rd_T26 l0_4 x4_1).f3) _ _ ((rd_T26 l0_4 x4_1).f4) t323 t324 t325 t326 t327 _ ?side1 ?side2 A16.out).mono ?_); (case side1 => exact zC (Kd.C_below HR322_4.out HB.out)); (case side2 => exact HC322_4.out); rintro e w21 ⟨v328, rfl, ho0, hb⟩; refine ⟨_, rfl, ?_⟩; have HO329 := Aside0.mk (Kd.R_lower (Kd.R_newB (Kd.R_newB (Kd.R_newB (Kd.R_new' ho0 (Kd.R_lt (zR HO_319004.out))) (g := gb316) (o := .cells #[.int .i64 a0_0, .int .i64 a0_1, .string a0_2, .string a0_3, .slice (some ad322) l0_4.length c0_4] 26 (0, 0)) (zB BK316.out)) (g := gb317) (o := .cells #[.int .i64 0, .int .i64 0, .string (⟨#[]⟩ : ByteArray), .string (⟨#[]⟩ : ByteArray), .slice none 0 0] 26 (0, 0)) (zB BK317.out)) (g := gb318) (o := .cells #[.int .i64 a0_0, .int .i64 a0_1, .string a0_2, .string a0_3, u319004] 26 (0, 0)) (zB BK318.out)) (below_size (zL3 HB.out GE316.out GE317.out GE318.out))); replace HO_319004 := Aside0.mk (Kd.R_elder' (zR HO_319004.out) (Kd.R_base ho0) hb); replace BK316 := zBB BK316 hb; replace BK317 := zBB BK317 hb; replace BK318 := zBB BK318 hb; replace HB := zLB (zL3 HB.out GE316.out GE317.out GE318.out) hb; clear ho0 hb) | ((with_reducible refine gD 5 rfl ?_); refine bE 5 #[.int .i64 0, .int .i64 0, .string (⟨#[]⟩ : ByteArray), .string (⟨#[]⟩ : ByteArray), .slice none 0 0] 26 ?_; intro gb330 hg w22 hbox hb; replace HO_319004 := Aside0.mk (Kd.R_below (Kd.R_elderB (zR HO_319004.out) gb330 (Nat.le_of_eq hg.symm)) hb); replace HO329 := Aside0.mk (Kd.R_below (Kd.R_elderB (zR HO329.out) gb330 (Nat.le_of_eq hg.symm)) hb); have BK330 := Aside0.mk hbox; have GW330 := Aside0.mk (zg (zL3 HB.out GE316.out GE317.out GE318.out) hg : w.heap.size ≤ gb330); have GE330 := GW330; replace HB := zLB (zL3 HB.out GE316.out GE317.out GE318.out) hb; have NB316_330 := Aside0.mk (zN BK316.out hg : gb316 ≠ gb330); have NB330_316 := Aside0.mk (zM BK316.out hg : gb330 ≠ gb316); replace BK316 := zBB BK316 hb; have NB317_330 := Aside0.mk (zN BK317.out hg : gb317 ≠ gb330); have NB330_317 := Aside0.mk (zM BK317.out hg : gb330 ≠ gb317); replace BK317 := zBB BK317 hb; have NB318_330 := Aside0.mk (zN BK318.out hg : gb318 ≠ gb330); have NB330_318 := Aside0.mk (zM BK318.out hg : gb330 ≠ gb318); replace BK318 := zBB BK318 hb; clear hb hbox hg; have hnb23 := NB330_316.out; have hnc23 := NB316_330.out; have hnb24 := NB330_317.out; have hnc24 := NB317_330.out; have hnb25 := NB330_318.out; have hnc25 := NB318_330.out; have hcz26 := zc5 BK330.out; have hfz26 := zf5 BK330.out; obtain ⟨Ao27, co27, eo27⟩ := Kd.R_slice HO329.out; subst eo27) | ((with_reducible refine gate_store (t := 26) (p := 5) rfl ?_); refine store_event (t := 26) (p := 5) (v := ?vo_w28) (w1 := (((((w22.setCell ⟨gb330, 0, none⟩ (.int .i64 t323)).setCell ⟨gb330, 1, none⟩ (.int .i64 t324)).setCell ⟨gb330, 2, none⟩ (.string t325)).setCell ⟨gb330, 3, none⟩ (.string t326)).setCell ⟨gb330, 4, none⟩ (.slice Ao27 t327.length co27))) ?hg ?ho ?hn ?hr ?_; (case ho => rfl); (case hg => rfl); (case hn => rfl); (case hr => first | (go_simp; done) | (go_simp; rfl)); intro w28 hw; have n0_ : Aside0 (Kd.R k26 26 w28 w.heap.size (fun k_ => some k_ ≠ (.slice Ao27 t327.length co27 : Value).ownBlock ∧ k_ ≠ gb316 ∧ k_ ≠ gb317 ∧ k_ ≠ gb318 ∧ k_ ≠ gb330) u319004 x319004_1) := ⟨(by rw [hw]; exact (by (with_reducible repeat (first | apply Kd.R_alloc | apply Kd.R_drewN | apply Kd.R_drew)); exact Kd.R_mono (zRF5 (Kd.R_mono HO_319004.out (fun k_ hk => (⟨hk, hk.2⟩ : _ ∧ k_ ≠ gb330))) gb330 (fun _ hk => hk.2) (.int .i64 t323) (.int .i64 t324) (.string t325) (.string t326) (.slice Ao27 t327.length co27)) (fun _ hk => ⟨hk.1.1.2, ⟨hk.1.1.1.1, ⟨hk.1.1.1.2.1, ⟨hk.1.1.1.2.2, hk.1.2⟩⟩⟩⟩)))⟩; have n1_ : Aside0 (Kd.R k26 26 w28 w.heap.size (fun k_ => some k_ ≠ (u319004 : Value).ownBlock ∧ k_ ≠ gb316 ∧ k_ ≠ gb317 ∧ k_ ≠ gb318 ∧ k_ ≠ gb330) (.slice Ao27 t327.length co27) t327) := ⟨(by rw [hw]; exact (by (with_reducible repeat (first | apply Kd.R_alloc | apply Kd.R_drewN | apply Kd.R_drew)); exact Kd.R_mono (zRF5 (Kd.R_mono HO329.out (fun k_ hk => (⟨hk, hk.2⟩ : _ ∧ k_ ≠ gb330))) gb330 (fun _ hk => hk.2) (.int .i64 t323) (.int .i64 t324) (.string t325) (.string t326) (.slice Ao27 t327.length co27)) (fun _ hk => ⟨hk.1.1.1.1.1.2, ⟨hk.1.1.1.1.2, ⟨hk.1.1.1.2, ⟨hk.1.1.2, hk.1.2⟩⟩⟩⟩)))⟩; have n2_ : Aside0 (w28.heap[gb316]? = some (.cells #[.int .i64 a0_0, .int .i64 a0_1, .string a0_2, .string a0_3, .slice (some ad322) l0_4.length c0_4] 26 (0, 0))) := ⟨(by rw [hw]; exact (by refine zB ?_; refine zr5 ?_ NB316_330.out; exact zB BK316.out))⟩; have n3_ : Aside0 (w28.heap[gb317]? = some (.cells #[.int .i64 0, .int .i64 0, .string (⟨#[]⟩ : ByteArray), .string (⟨#[]⟩ : ByteArray), .slice none 0 0] 26 (0, 0))) := ⟨(by rw [hw]; exact (by refine zB ?_; refine zr5 ?_ NB317_330.out; exact zB BK317.out))⟩; have n4_ : Aside0 (w28.heap[gb318]? = some (.cells #[.int .i64 a0_0, .int .i64 a0_1, .string a0_2, .string a0_3, u319004] 26 (0, 0))) := ⟨(by rw [hw]; exact (by refine zB ?_; refine zr5 ?_ NB318_330.out; exact zB BK318.out))⟩; have n5_ : Aside0 (w28.heap[gb330]? = some (.cells #[.int .i64 t323, .int .i64 t324, .string t325, .string t326, .slice Ao27 t327.length co27] 26 (0, 0))) := ⟨(by rw [hw]; exact (by refine zB ?_; refine zp5 (cs := #[.int .i64 0, .int .i64 0, .string (⟨#[]⟩ : ByteArray), .string (⟨#[]⟩ : ByteArray), .slice none 0 0]) ?_; exact zB BK330.out))⟩; have n6_ : Aside0 (Below w.heap.size w w28) := ⟨(by rw [hw]; exact (zL4 HB.out GE316.out GE317.out GE318.out GE330.out))⟩; clear hw; clear HO_319004; clear HO329; clear BK316; clear BK317; clear BK318; clear BK330; clear HB; have HO_319004 := n0_; have HO329 := n1_; have BK316 := n2_; have BK317 := n3_; have BK318 := n4_; have BK330 := n5_; have HB := n6_; clear n0_ n1_ n2_ n3_ n4_ n5_ n6_; have hnb29 := NB318_317.out; have hnc29 := NB317_318.out; have hcz30 := zc5 BK318.out; have hfz30 := zf5 BK318.out; have hcz31 := zc5 BK330.out; have hfz31 := zf5 BK330.out) | ((with_reducible refine gate_builtin (b := .append) (xs := #[.tmp 23, .tmp 25]) rfl ?_); at_builtin; refine Kd.R_append k26 (w0 := w) w.heap.size rfl (.tmp 23) (.tmp 25) 24 26 (.agg #[(.int .i64 0), (.int .i64 0), (.string ⟨#[]⟩), (.string ⟨#[]⟩), (.slice none 0 0)]) 72 rfl Tryd.underlying24 info26 rfl (by decide) (by omega) u319004 x319004_1 (⟨t323, t324, t325, t326, t327⟩ : S26) [.int .i64 t323, .int .i64 t324, .string t325, .string t326, .slice Ao27 t327.length co27] (fun k_ => k_ ≠ gb316 ∧ k_ ≠ gb317 ∧ k_ ≠ gb318 ∧ k_ ≠ gb330) (fun k_ => ((fun k_ => k_ ≠ gb316 ∧ k_ ≠ gb317 ∧ k_ ≠ gb318 ∧ k_ ≠ gb330)) k_ ∧ some k_ ≠ (u319004 : Value).ownBlock) rfl rfl ?aP (fun _ hk => hk) ?aF ?aO ?aB ?aS ?aL ?_; (case aP => exact k26_mkM _ _ _ (⟨t323, t324, t325, t326, t327⟩ : S26) (Kd.R_mono (HO329.out) (fun k_ hk => ⟨⟨hk.2.1, ⟨hk.2.2.1, ⟨hk.2.2.2.1, hk.2.2.2.2⟩⟩⟩, hk.1⟩))); (case aB => exact (zL4 HB.out GE316.out GE317.out GE318.out GE330.out)); (case aF => exact (fun k_ hk => ⟨Kd.freshB (g := gb316) (o := .cells #[.int .i64 a0_0, .int .i64 a0_1, .string a0_2, .string a0_3, .slice (some ad322) l0_4.length c0_4] 26 (0, 0)) (zB BK316.out) k_ hk, Kd.freshB (g := gb317) (o := .cells #[.int .i64 0, .int .i64 0, .string (⟨#[]⟩ : ByteArray), .string (⟨#[]⟩ : ByteArray), .slice none 0 0] 26 (0, 0)) (zB BK317.out) k_ hk, Kd.freshB (g := gb318) (o := .cells #[.int .i64 a0_0, .int .i64 a0_1, .string a0_2, .string a0_3, u319004] 26 (0, 0)) (zB BK318.out) k_ hk, Kd.freshB (g := gb330) (o := .cells #[.int .i64 t323, .int .i64 t324, .string t325, .string t326, .slice Ao27 t327.length co27] 26 (0, 0)) (zB BK330.out) k_ hk⟩)); (case aO => exact (zRm HO_319004.out (fun _ hk => ⟨hk.2.1, ⟨hk.2.2.1, ⟨hk.2.2.2.1, hk.2.2.2.2⟩⟩⟩))); (case aS => exact (below_size (zL4 HB.out GE316.out GE317.out GE318.out GE330.out))); (case aL => have := LMc17.out; omega); intro v332 w32 ho hb hg hat; rw [← Ny331.out] at ho; replace BK316 := Aside0.mk (blk_grown (g := gb316) (o := .cells #[.int .i64 a0_0, .int .i64 a0_1, .string a0_2, .string a0_3, .slice (some ad322) l0_4.length c0_4] 26 (0, 0)) (zB BK316.out) hg (Kd.R_away HO_319004.out (fun _ hk => hk.2.1))); replace BK317 := Aside0.mk (blk_grown (g := gb317) (o := .cells #[.int .i64 0, .int .i64 0, .string (⟨#[]⟩ : ByteArray), .string (⟨#[]⟩ : ByteArray), .slice none 0 0] 26 (0, 0)) (zB BK317.out) hg (Kd.R_away HO_319004.out (fun _ hk => hk.2.2.1))); replace BK318 := Aside0.mk (blk_grown (g := gb318) (o := .cells #[.int .i64 a0_0, .int .i64 a0_1, .string a0_2, .string a0_3, u319004] 26 (0, 0)) (zB BK318.out) hg (Kd.R_away HO_319004.out (fun _ hk => hk.2.2.2.1))); replace BK330 := Aside0.mk (blk_grown (g := gb330) (o := .cells #[.int .i64 t323, .int .i64 t324, .string t325, .string t326, .slice Ao27 t327.length co27] 26 (0, 0)) (zB BK330.out) hg (Kd.R_away HO_319004.out (fun _ hk => hk.2.2.2.2))); replace HB := Aside0.mk hb; have HO333 := Aside0.mk (ho); clear HO_319004 HO329; clear ho hb hg hat; obtain ⟨Ao33, co33, eo33⟩ := Kd.R_slice HO333.out; subst eo33; have hcz34 := zc5 BK318.out; have hfz34 := zf5 BK318.out))
      go_roundg k1
      case measure => have := HK1.out; omega
      case rel => exact ⟨(wrap64 (x4_1 + 1)), (y331), (.slice Ao33 y331.length co33), zV, H', ⟨by have := HK1.out; omega⟩, ⟨by (with_reducible repeat (first | apply Kd.R_alloc | apply Kd.R_drewN | apply Kd.R_drew)); exact Kd.R_mono (Kd.R_far (p := ⟨gb318, 4, none⟩) (Kd.R_mono HO333.out (fun k_ hk => (⟨hk, hk.2.2.1⟩ : _ ∧ k_ ≠ gb318))) (fun _ hk => hk.2) (.slice Ao33 y331.length co33)) (fun _ hk => ⟨hk.1.1, ⟨hk.1.2.1, hk.1.2.2.1⟩⟩)⟩, ⟨by (with_reducible repeat (first | refine bN ?_ _ | refine bD ?_ | refine bA ?_ _)); refine blk_far ?_ NB316_318.out _; exact zB BK316.out⟩, ⟨by (with_reducible repeat (first | refine bN ?_ _ | refine bD ?_ | refine bA ?_ _)); refine blk_far ?_ NB317_318.out _; exact zB BK317.out⟩, ⟨by (with_reducible repeat (first | refine bN ?_ _ | refine bD ?_ | refine bA ?_ _)); refine blk_put (cs := #[.int .i64 a0_0, .int .i64 a0_1, .string a0_2, .string a0_3, u319004]) ?_ 4 _ rfl; exact zB BK318.out⟩, ⟨zL4 HB.out GE316.out GE317.out GE318.out GE330.out⟩⟩
     ·rw [if_neg c17] at H
      exact absurd H (by simp)
    ·rw [if_neg c15] at H
     exact absurd H (by simp)
   ·rw [if_neg c14] at H
    have c14b0 := decide_eq_false c14
    clear c14
    simp only [Option.some.injEq, Prod.mk.injEq] at H
    obtain ⟨rfl, rfl, rfl, rfl, rfl⟩ := H
    have hnb35 := NB316_317.out
    have hnc35 := NB317_316.out
    have hnb36 := NB316_318.out
    have hnc36 := NB318_316.out
    have hcz37 := zc5 BK316.out
    have hfz37 := zf5 BK316.out
    have hnb38 := NB318_317.out
    have hnc38 := NB317_318.out
    have hcz39 := zc5 BK318.out
    have hfz39 := zf5 BK318.out
    have hcz40 := zc5 BK317.out
    have hfz40 := zf5 BK317.out
    obtain ⟨Ao41, co41, eo41⟩ := Kd.R_slice HO_319004.out
    subst eo41
    go_wp2
    refine bodyPost_ret (results_cell_row rfl _ _ gb317 26 #[.int .i64 a0_0, .int .i64 a0_1, .string a0_2, .string a0_3, .slice Ao41 x319004_1.length co41] (0, 0) _ rfl (by refine zB ?_; refine zp5 (cs := #[.int .i64 0, .int .i64 0, .string (⟨#[]⟩ : ByteArray), .string (⟨#[]⟩ : ByteArray), .slice none 0 0]) ?_; exact zB BK317.out) Tryd.underlying26 rfl (by kernel_rfl)) rfl ?_
    exact ⟨_, zW, by (with_reducible repeat (first | apply Kd.R_alloc | apply Kd.R_drewN | apply Kd.R_drew)); exact Kd.R_mono (zRF5 (Kd.R_mono HO_319004.out (fun k_ hk => (⟨hk, hk.2.1⟩ : _ ∧ k_ ≠ gb317))) gb317 (fun _ hk => hk.2) (.int .i64 a0_0) (.int .i64 a0_1) (.string a0_2) (.string a0_3) (.slice Ao41 x319004_1.length co41)) (fun _ hk => trivial), zL3 HB.out GE316.out GE317.out GE318.out⟩

open Go.Proofs.YtfhblnbicnmndaaDoorW.PrintWords renaming blk_drewN → bN, blk_drew → bD, blk_alloc → bA, blk_cell → bC, blk_below → bB, below_set → bS
/-! ### spec_DrawSamePol: function 7 -/
def spec_DrawSamePol.f (k : Nat) (l0 : List Int) : Option (Int × Int × ByteArray × ByteArray × (List (S26)) × Int × Int × ByteArray × ByteArray × (List (S26))) := (spec_l1New.f k l0).bind fun bt336 => ((spec_l5Any.f k bt336.1 bt336.2.1 bt336.2.2).bind fun bt340 => ((spec_l1Once.f bt336.1 bt340.2.2.2.2.2.1 bt340.2.2.2.2.2.2 2).bind fun bt350 => (if bt350.1 = true then ((spec_l5Copy.f k bt340.1 bt340.2.1 bt340.2.2.1 bt340.2.2.2.1 bt340.2.2.2.2.1).bind fun bt353 => (some (bt340.1, bt340.2.1, bt340.2.2.1, bt340.2.2.2.1, bt340.2.2.2.2.1, bt353.1, bt353.2.1, bt353.2.2.1, bt353.2.2.2.1, bt353.2.2.2.2))) else ((spec_l5Any.f k bt336.1 bt350.2.1 bt350.2.2).bind fun bt360 => (some (bt340.1, bt340.2.1, bt340.2.2.1, bt340.2.2.2.1, bt340.2.2.2.2.1, bt360.1, bt360.2.1, bt360.2.2.1, bt360.2.2.2.1, bt360.2.2.2.2.1))))))
theorem spec_DrawSamePol.mono : ∀ a0 k, LeO (spec_DrawSamePol.f k a0) (spec_DrawSamePol.f (k + 1) a0) := by
 intro a0 k
 unfold spec_DrawSamePol.f
 repeat' first
   | (with_reducible apply spec_l1New.mono)
   | (with_reducible apply spec_l5Any.mono)
   | (with_reducible apply spec_l5Copy.mono)
   | (with_reducible exact LeO.refl _)
   | (with_reducible exact LeO.none _)
   | (with_reducible refine LeO.ite ?_ ?_)
   | (with_reducible refine LeO.bind ?_ (fun _ => ?_))
   | apply spec_l1New.mono
   | apply spec_l5Any.mono
   | apply spec_l5Copy.mono
   | exact LeO.none _
   | refine LeO.ite ?_ ?_
   | refine LeO.bind ?_ (fun _ => ?_)
set_option maxHeartbeats 8000000 in
set_option maxRecDepth 100000 in
theorem spec_DrawSamePol.calls (k : Nat) (A0 : Option Addr) (c0 : Nat) (l0 : List Int) (r1 : Int) (r2 : Int) (r3 : ByteArray) (r4 : ByteArray) (r5 : List (S26)) (r6 : Int) (r7 : Int) (r8 : ByteArray) (r9 : ByteArray) (r10 : List (S26)) (w : World) (hr0 : Kd.C (Kd.int .u8) w A0 l0.length l0) (hc0 : l0.length ≤ c0) (h : spec_DrawSamePol.f k l0 = some (r1, r2, r3, r4, r5, r6, r7, r8, r9, r10)) :
  Calls Tryd.prog 7 #[.slice A0 l0.length c0] w fun e w' => ∃ v4_ v9_ : Value, e = .returned (.tuple #[.agg #[.int .i64 r1, .int .i64 r2, .string r3, .string r4, v4_], .agg #[.int .i64 r6, .int .i64 r7, .string r8, .string r9, v9_]]) ∧ Kd.N k26 26 w' w.heap.size (fun k_ => (w.heap.size ≤ k_) ∧ some k_ ≠ (v9_ : Value).ownBlock) v4_ r5 ∧ Kd.N k26 26 w' w.heap.size (fun k_ => (w.heap.size ≤ k_) ∧ some k_ ≠ (v4_ : Value).ownBlock) v9_ r10 ∧ Below w.heap.size w w' := by
 have hu26 := Tryd.underlying26
 have HR0 := Aside0.mk hr0
 have HC0 := Aside0.mk hc0
 clear hr0 hc0
 have HB := Aside0.mk (Below.refl w.heap.size w)
 unfold spec_DrawSamePol.f at h; have H := h
 clear h
 obtain ⟨⟨t336, t337, t338⟩, A2, H⟩ := zO H; try dsimp only at H
 obtain ⟨⟨t340, t341, t342, t343, t344, t347, t348⟩, A3, H⟩ := zO H; try dsimp only at H
 obtain ⟨⟨t350, t351, t352⟩, A4, H⟩ := zO H; try dsimp only at H
 by_cases c5 : t350 = true
 ·subst c5
  rw [if_pos rfl] at H
  obtain ⟨⟨t353, t354, t355, t356, t357⟩, A6, H⟩ := zO H; try dsimp only at H
  simp only [Option.some.injEq, Prod.mk.injEq] at H
  obtain ⟨rfl, rfl, rfl, rfl, rfl, rfl, rfl, rfl, rfl, rfl⟩ := H
  go_enter Tryd.func7, Tryd.ntmps7
  try go_wp2_with (first | ((with_reducible refine gD 2 rfl ?_); refine bE 2 #[.int .i64 0, .int .i64 0, .string (⟨#[]⟩ : ByteArray), .string (⟨#[]⟩ : ByteArray), .slice none 0 0] 26 ?_; intro gb334 hg w7 hbox hb; have BK334 := Aside0.mk hbox; have GW334 := Aside0.mk (zg (zL HB.out) hg : w.heap.size ≤ gb334); have GE334 := GW334; replace HB := zLB (zL HB.out) hb; clear hb hbox hg) | ((with_reducible refine gD 3 rfl ?_); refine bE 3 #[.int .i64 0, .int .i64 0, .string (⟨#[]⟩ : ByteArray), .string (⟨#[]⟩ : ByteArray), .slice none 0 0] 26 ?_; intro gb335 hg w8 hbox hb; have BK335 := Aside0.mk hbox; have GW335 := Aside0.mk (zg (zL1 HB.out GE334.out) hg : w.heap.size ≤ gb335); have GE335 := GW335; replace HB := zLB (zL1 HB.out GE334.out) hb; have NB334_335 := Aside0.mk (zN BK334.out hg : gb334 ≠ gb335); have NB335_334 := Aside0.mk (zM BK334.out hg : gb335 ≠ gb334); replace BK334 := zBB BK334 hb; clear hb hbox hg) | ((with_reducible refine gC 24 rfl ?_); refine gL 7 Tryd.func24 #[.slice A0 l0.length c0] ?_; (with_reducible refine (spec_l1New.calls k _ _ l0 t336 t337 t338 w _ ?side1 ?side2 ?side3 A2.out).mono ?_); (case side1 => exact zL2 HB.out GE334.out GE335.out); (case side2 => exact HR0.out); (case side3 => exact HC0.out); rintro e w9 ⟨g339, rfl, hi, hb, hb2⟩; refine ⟨_, rfl, ?_⟩; replace HB := Aside0.mk hb; have HI339 := Aside0.mk hi; have NB339_334 := Aside0.mk (IsS53.ne_blk hi (bB (g := gb334) (o := .cells #[.int .i64 0, .int .i64 0, .string (⟨#[]⟩ : ByteArray), .string (⟨#[]⟩ : ByteArray), .slice none 0 0] 26 (0, 0)) (zB BK334.out) hb2) (by decide)); have NB334_339 := Aside0.mk (Ne.symm (IsS53.ne_blk hi (bB (g := gb334) (o := .cells #[.int .i64 0, .int .i64 0, .string (⟨#[]⟩ : ByteArray), .string (⟨#[]⟩ : ByteArray), .slice none 0 0] 26 (0, 0)) (zB BK334.out) hb2) (by decide))); replace BK334 := zBB BK334 hb2; have NB339_335 := Aside0.mk (IsS53.ne_blk hi (bB (g := gb335) (o := .cells #[.int .i64 0, .int .i64 0, .string (⟨#[]⟩ : ByteArray), .string (⟨#[]⟩ : ByteArray), .slice none 0 0] 26 (0, 0)) (zB BK335.out) hb2) (by decide)); have NB335_339 := Aside0.mk (Ne.symm (IsS53.ne_blk hi (bB (g := gb335) (o := .cells #[.int .i64 0, .int .i64 0, .string (⟨#[]⟩ : ByteArray), .string (⟨#[]⟩ : ByteArray), .slice none 0 0] 26 (0, 0)) (zB BK335.out) hb2) (by decide))); replace BK335 := zBB BK335 hb2; clear hi hb hb2) | ((with_reducible refine gC 25 rfl ?_); refine gL 9 Tryd.func25 #[.pointer (some ⟨g339, 0, none⟩)] ?_; (with_reducible refine (spec_l5Any.calls k g339 t336 t337 t338 t340 t341 t342 t343 t344 t347 t348 w _ ?side1 ?side2 A3.out).mono ?_); (case side1 => exact zI2 HI339.out NB339_334.out NB339_335.out); (case side2 => exact zL3 HB.out (IsS53.ge HI339.out) GE334.out GE335.out); rintro e w10 ⟨v345, rfl, ho0, hi, hb, hk⟩; refine ⟨_, rfl, ?_⟩; have HO346 := Aside0.mk (Kd.N_lower (Kd.N_mono (ok' := fun k_ => (w.heap.size ≤ k_) ∧ k_ ≠ gb334 ∧ k_ ≠ gb335 ∧ k_ ≠ g339) ho0 (fun k_ hk_ => ⟨(Nat.le_trans (below_size (zL3 HB.out (IsS53.ge HI339.out) GE334.out GE335.out)) hk_), (Kd.freshB (g := gb334) (o := .cells #[.int .i64 0, .int .i64 0, .string (⟨#[]⟩ : ByteArray), .string (⟨#[]⟩ : ByteArray), .slice none 0 0] 26 (0, 0)) (zB BK334.out) k_ hk_), (Kd.freshB (g := gb335) (o := .cells #[.int .i64 0, .int .i64 0, .string (⟨#[]⟩ : ByteArray), .string (⟨#[]⟩ : ByteArray), .slice none 0 0] 26 (0, 0)) (zB BK335.out) k_ hk_), (IsS53.fresh (zI2 HI339.out NB339_334.out NB339_335.out) k_ hk_)⟩)) (below_size (zL3 HB.out (IsS53.ge HI339.out) GE334.out GE335.out))); replace BK334 := zBK hk BK334 NB334_339; replace BK335 := zBK hk BK335 NB335_339; replace HB := Aside0.mk hb; replace HI339 := Aside0.mk hi; clear ho0 hi hb hk) | ((with_reducible refine gD 5 rfl ?_); refine bE 5 #[.int .i64 0, .int .i64 0, .string (⟨#[]⟩ : ByteArray), .string (⟨#[]⟩ : ByteArray), .slice none 0 0] 26 ?_; intro gb349 hg w11 hbox hb; replace HO346 := Aside0.mk (Kd.N_below (Kd.N_elderB (zX HO346.out) gb349 (Nat.le_of_eq hg.symm)) hb); have BK349 := Aside0.mk hbox; have GW349 := Aside0.mk ((zg (zL3 HB.out (IsS53.ge HI339.out) GE334.out GE335.out) hg : w.heap.size ≤ gb349)); have GE349 := GW349; replace HB := zLB (zL3 HB.out (IsS53.ge HI339.out) GE334.out GE335.out) hb; have NB334_349 := Aside0.mk (zN BK334.out hg : gb334 ≠ gb349); have NB349_334 := Aside0.mk (zM BK334.out hg : gb349 ≠ gb334); replace BK334 := zBB BK334 hb; have NB335_349 := Aside0.mk (zN BK335.out hg : gb335 ≠ gb349); have NB349_335 := Aside0.mk (zM BK335.out hg : gb349 ≠ gb335); replace BK335 := zBB BK335 hb; have NB339_349 := Aside0.mk ((zNI (IsS53.lt (zI2 HI339.out NB339_334.out NB339_335.out : IsS53 w _ g339 t336 t347 t348)) hg : g339 ≠ gb349)); have NB349_339 := Aside0.mk ((zMI (IsS53.lt (zI2 HI339.out NB339_334.out NB339_335.out : IsS53 w _ g339 t336 t347 t348)) hg : gb349 ≠ g339)); replace HI339 := Aside0.mk (IsS53.below (zI2 HI339.out NB339_334.out NB339_335.out) hb); clear hb hbox hg; have hnb12 := NB349_334.out; have hnc12 := NB334_349.out; have hnb13 := NB349_335.out; have hnc13 := NB335_349.out; have hnb14 := NB349_339.out; have hnc14 := NB339_349.out; have hcz15 := zc5 BK349.out; have hfz15 := zf5 BK349.out; obtain ⟨Ao16, co16, eo16⟩ := Kd.N_slice HO346.out; subst eo16) | ((with_reducible refine gC 26 rfl ?_); refine gL 11 Tryd.func26 #[.pointer (some ⟨g339, 0, none⟩), .int .i64 2] ?_; (with_reducible refine (spec_l1Once.calls g339 t336 t347 t348 2 true t351 t352 w _ ?side1 ?side2 A4.out).mono ?_); (case side1 => exact zI3 HI339.out NB339_334.out NB339_335.out NB339_349.out); (case side2 => exact zL4 HB.out (IsS53.ge HI339.out) GE334.out GE335.out GE349.out); rintro e w17 ⟨rfl, hi, hb, hk⟩; refine ⟨_, rfl, ?_⟩; replace BK334 := Aside0.mk (zQ2 (.cells #[.int .i64 0, .int .i64 0, .string (⟨#[]⟩ : ByteArray), .string (⟨#[]⟩ : ByteArray), .slice none 0 0] 26 (0, 0)) hk (by refine zB ?_; refine zr5 ?_ NB334_349.out; exact zB BK334.out) NB334_339.out (by simp)); replace BK335 := Aside0.mk (zQ2 (.cells #[.int .i64 0, .int .i64 0, .string (⟨#[]⟩ : ByteArray), .string (⟨#[]⟩ : ByteArray), .slice none 0 0] 26 (0, 0)) hk (by refine zB ?_; refine zr5 ?_ NB335_349.out; exact zB BK335.out) NB335_339.out (by simp)); replace HO346 := Aside0.mk (Kd.N_mono (Kd.N_keep (Kd.N_mono (ok := fun k_ => ((((w.heap.size ≤ k_)) ∧ (k_ ≠ gb334 ∧ (k_ ≠ gb335 ∧ k_ ≠ g339))) ∧ k_ ≠ gb349)) (by (with_reducible repeat (first | apply Kd.N_alloc | apply Kd.N_drewN | apply Kd.N_drew)); exact (Kd.N_mono (zNF5 (Kd.N_mono HO346.out (fun k_ hk => (⟨hk, hk.2⟩ : _ ∧ k_ ≠ gb349))) gb349 (fun _ hk => hk.2) (.int .i64 t340) (.int .i64 t341) (.string t342) (.string t343) (.slice Ao16 t344.length co16)) (fun _ h_ => h_.1))) (fun k_ hk_ => (⟨hk_, hk_.1.2.2.2⟩ : _ ∧ k_ ≠ g339))) hk (fun _ h => h.2)) (fun _ h => h.1)); replace BK349 := Aside0.mk (zQ2 (.cells #[.int .i64 t340, .int .i64 t341, .string t342, .string t343, .slice Ao16 t344.length co16] 26 (0, 0)) hk (by refine zB ?_; refine zp5 (cs := #[.int .i64 0, .int .i64 0, .string (⟨#[]⟩ : ByteArray), .string (⟨#[]⟩ : ByteArray), .slice none 0 0]) ?_; exact zB BK349.out) NB349_339.out (by simp)); replace HB := Aside0.mk hb; replace HI339 := Aside0.mk hi; clear hi hb hk))
  replace HO346 := zXD HO346; replace BK334 := zBD BK334; replace BK335 := zBD BK335; replace BK349 := zBD BK349; replace HI339 := Aside0.mk (IsS53.drew HI339.out); replace HB := zLD HB
  refine start_ (n := 5) (S := fun w' => zs5 w' gb349 (.int .i64 t340) (.int .i64 t341) (.string t342) (.string t343) (.slice Ao16 t344.length co16)) (ds := []) (fB 5 0) (by kernel_rfl) rfl rfl (zc5 BK349.out) (fun hHeld => ?_)
  generalize w17.drew = w18 at HO346 BK334 BK335 BK349 HI339 HB hHeld ⊢
  refine take_ (i := 0) (N := some 12) (v := ?_) (a' := ?_) (fB 5 1) rfl rfl (by kernel_rfl) (fun _ _ _ h => h) (Or.inl ⟨by rfl, ?_⟩) hHeld ?_ ?_
  rotate_left
  ·rintro w' ⟨s0, s1, s2, s3, s4⟩; go_simp; with_reducible rfl
  rotate_left
  ·exact zP
  refine take_ (i := 1) (N := some 13) (v := ?_) (a' := ?_) (fB 5 3) rfl rfl (by kernel_rfl) (fun _ _ _ h => h) (Or.inl ⟨by rfl, ?_⟩) hHeld ?_ ?_
  rotate_left
  ·rintro w' ⟨s0, s1, s2, s3, s4⟩; go_simp; with_reducible rfl
  rotate_left
  ·exact zP
  refine one_ (i := 2) (N := some 14) (fB 5 7) rfl rfl (by kernel_rfl) (by decide) (fun K hK => ?_)
  refine gS Tryd.func27 #[.agg #[.int .i64 t340, .int .i64 t341, .string t342, .string t343, .slice Ao16 t344.length co16]] ?_
  with_reducible refine (spec_l5Copy.calls k t340 t341 t342 t343 _ _ t344 t353 t354 t355 t356 t357 _ ?side1 ?side2 A6.out).mono ?_
  (case side1 => exact zC (Kd.N_reads' HO346.out).2.2)
  (case side2 => exact (Kd.N_reads' HO346.out).2.1)
  rintro e w19 ⟨v358, rfl, ho0, hb⟩
  refine ⟨_, rfl, ?_⟩
  have HO359 := Aside0.mk (Kd.N_lower (Kd.N_mono (ok' := fun k_ => (w.heap.size ≤ k_) ∧ some k_ ≠ (.slice Ao16 t344.length co16 : Value).ownBlock ∧ k_ ≠ gb334 ∧ k_ ≠ gb335 ∧ k_ ≠ gb349 ∧ k_ ≠ g339) (Kd.R_N (Kd.R_bound ho0)) (fun k_ hk_ => ⟨(Nat.le_trans (below_size (zL4 HB.out (IsS53.ge HI339.out) GE334.out GE335.out GE349.out)) hk_.2.1), (Kd.fresh' (Kd.N_lt (zX HO346.out)) k_ hk_.2.1), (Kd.freshB (g := gb334) (o := .cells #[.int .i64 0, .int .i64 0, .string (⟨#[]⟩ : ByteArray), .string (⟨#[]⟩ : ByteArray), .slice none 0 0] 26 (0, 0)) (zB BK334.out) k_ hk_.2.1), (Kd.freshB (g := gb335) (o := .cells #[.int .i64 0, .int .i64 0, .string (⟨#[]⟩ : ByteArray), .string (⟨#[]⟩ : ByteArray), .slice none 0 0] 26 (0, 0)) (zB BK335.out) k_ hk_.2.1), (Kd.freshB (g := gb349) (o := .cells #[.int .i64 t340, .int .i64 t341, .string t342, .string t343, .slice Ao16 t344.length co16] 26 (0, 0)) (zB BK349.out) k_ hk_.2.1), (IsS53.fresh (zI3 HI339.out NB339_334.out NB339_335.out NB339_349.out) k_ hk_.2.1)⟩)) (below_size (zL4 HB.out (IsS53.ge HI339.out) GE334.out GE335.out GE349.out))); replace HO346 := Aside0.mk (Kd.N_elder' (zX HO346.out) (by first | exact Kd.N_base ho0 | exact Kd.R_base ho0) hb); replace BK334 := zBB BK334 hb; replace BK335 := zBB BK335 hb; replace BK349 := zBB BK349 hb; replace HB := zLB (zL4 HB.out (IsS53.ge HI339.out) GE334.out GE335.out GE349.out) hb; replace HI339 := Aside0.mk (IsS53.below (zI3 HI339.out NB339_334.out NB339_335.out NB339_349.out) hb)
  clear ho0 hb
  (try clear ho0)
  obtain ⟨Ao29, co29, eo29⟩ := Kd.N_slice HO359.out
  (first | subst eo29 | (injection eo29 with f1_ f2_ f3_; have f4_ := f1_.symm; have f5_ := f3_.symm; clear f1_ f2_ f3_; subst f4_; subst f5_))
  refine hK.out _ _ (zc5 BK349.out) fun hHeld => ?_; clear hK K
  refine nZ 14 ?_
  refine one_ (i := 3) (N := none) (fB 5 15) rfl rfl (by kernel_rfl) (by decide) (fun K hK => ?_)
  have hs20 : w19.cell? ⟨gb334, 0, none⟩ = some (.int .i64 0) := (bC BK334.out 0).trans rfl
  have hfs20 := blk_frozen BK334.out 0
  have hns20_1 := NB335_334.out
  have hns20_2 := NB349_334.out
  have hms20_1 := NB334_335.out
  have hms20_2 := NB334_349.out
  have hs21 : w19.cell? ⟨gb334, 1, none⟩ = some (.int .i64 0) := (bC BK334.out 1).trans rfl
  have hfs21 := blk_frozen BK334.out 1
  have hns21_1 := NB335_334.out
  have hns21_2 := NB349_334.out
  have hms21_1 := NB334_335.out
  have hms21_2 := NB334_349.out
  have hs22 : w19.cell? ⟨gb334, 2, none⟩ = some (.string (⟨#[]⟩ : ByteArray)) := (bC BK334.out 2).trans rfl
  have hfs22 := blk_frozen BK334.out 2
  have hns22_1 := NB335_334.out
  have hns22_2 := NB349_334.out
  have hms22_1 := NB334_335.out
  have hms22_2 := NB334_349.out
  have hs23 : w19.cell? ⟨gb334, 3, none⟩ = some (.string (⟨#[]⟩ : ByteArray)) := (bC BK334.out 3).trans rfl
  have hfs23 := blk_frozen BK334.out 3
  have hns23_1 := NB335_334.out
  have hns23_2 := NB349_334.out
  have hms23_1 := NB334_335.out
  have hms23_2 := NB334_349.out
  have hs24 : w19.cell? ⟨gb334, 4, none⟩ = some (.slice none 0 0) := (bC BK334.out 4).trans rfl
  have hfs24 := blk_frozen BK334.out 4
  have hns24_1 := NB335_334.out
  have hns24_2 := NB349_334.out
  have hms24_1 := NB334_335.out
  have hms24_2 := NB334_349.out
  refine skip_ (w1 := ?_) (by rfl) rfl ?_ ?_
  rotate_left
  ·go_simp
   rfl
  refine hK.out _ _ ⟨zcf5 NB349_334.out hHeld.1, zcf5 NB349_334.out hHeld.2.1, zcf5 NB349_334.out hHeld.2.2.1, zcf5 NB349_334.out hHeld.2.2.2.1, zcf5 NB349_334.out hHeld.2.2.2.2⟩ fun hHeld => ?_; clear hK K
  refine one_ (i := 4) (N := none) (fB 5 31) rfl rfl (by kernel_rfl) (by decide) (fun K hK => ?_)
  have hs25 : w19.cell? ⟨gb335, 0, none⟩ = some (.int .i64 0) := (bC BK335.out 0).trans rfl
  have hfs25 := blk_frozen BK335.out 0
  have hns25_0 := NB334_335.out
  have hns25_2 := NB349_335.out
  have hms25_0 := NB335_334.out
  have hms25_2 := NB335_349.out
  have hs26 : w19.cell? ⟨gb335, 1, none⟩ = some (.int .i64 0) := (bC BK335.out 1).trans rfl
  have hfs26 := blk_frozen BK335.out 1
  have hns26_0 := NB334_335.out
  have hns26_2 := NB349_335.out
  have hms26_0 := NB335_334.out
  have hms26_2 := NB335_349.out
  have hs27 : w19.cell? ⟨gb335, 2, none⟩ = some (.string (⟨#[]⟩ : ByteArray)) := (bC BK335.out 2).trans rfl
  have hfs27 := blk_frozen BK335.out 2
  have hns27_0 := NB334_335.out
  have hns27_2 := NB349_335.out
  have hms27_0 := NB335_334.out
  have hms27_2 := NB335_349.out
  have hs28 : w19.cell? ⟨gb335, 3, none⟩ = some (.string (⟨#[]⟩ : ByteArray)) := (bC BK335.out 3).trans rfl
  have hfs28 := blk_frozen BK335.out 3
  have hns28_0 := NB334_335.out
  have hns28_2 := NB349_335.out
  have hms28_0 := NB335_334.out
  have hms28_2 := NB335_349.out
  have hs30 : w19.cell? ⟨gb335, 4, none⟩ = some (.slice none 0 0) := (bC BK335.out 4).trans rfl
  have hfs30 := blk_frozen BK335.out 4
  have hns30_0 := NB334_335.out
  have hns30_2 := NB349_335.out
  have hms30_0 := NB335_334.out
  have hms30_2 := NB335_349.out
  refine skip_ (w1 := ?_) (by rfl) rfl ?_ ?_
  rotate_left
  ·go_simp
   rfl
  refine hK.out _ _ ⟨zcf5 NB349_335.out hHeld.1, zcf5 NB349_335.out hHeld.2.1, zcf5 NB349_335.out hHeld.2.2.1, zcf5 NB349_335.out hHeld.2.2.2.1, zcf5 NB349_335.out hHeld.2.2.2.2⟩ fun hHeld => ?_; clear hK K
  refine done_ (by kernel_rfl) ?_
  try go_wp2
  refine bodyPost_ret (results_cc rfl _ _ gb334 gb335 26 26 #[.int .i64 t340, .int .i64 t341, .string t342, .string t343, .slice Ao16 t344.length co16] #[.int .i64 t353, .int .i64 t354, .string t355, .string t356, .slice Ao29 t357.length co29] (0, 0) (0, 0) _ _ rfl (by refine zB ?_; refine zr5 ?_ NB334_335.out; refine zB ?_; refine zp5 (cs := #[.int .i64 0, .int .i64 0, .string (⟨#[]⟩ : ByteArray), .string (⟨#[]⟩ : ByteArray), .slice none 0 0]) ?_; exact zB BK334.out) Tryd.underlying26 rfl (by kernel_rfl) rfl (by refine zB ?_; refine zp5 (cs := #[.int .i64 0, .int .i64 0, .string (⟨#[]⟩ : ByteArray), .string (⟨#[]⟩ : ByteArray), .slice none 0 0]) ?_; refine zB ?_; refine zr5 ?_ NB335_334.out; exact zB BK335.out) Tryd.underlying26 rfl (by kernel_rfl)) rfl ?_
  exact ⟨_, _, zW, by (with_reducible repeat (first | apply Kd.N_alloc | apply Kd.N_drewN | apply Kd.N_drew)); exact Kd.N_mono (zNF5 (zNF5 (Kd.N_mono (Kd.N_mono HO346.out (fun k_ hk => (⟨hk, hk.1.1.2.1⟩ : _ ∧ k_ ≠ gb334))) (fun k_ hk => (⟨hk, hk.1.1.1.2.2.1⟩ : _ ∧ k_ ≠ gb335))) gb334 (fun _ hk => hk.1.2) (.int .i64 t340) (.int .i64 t341) (.string t342) (.string t343) (.slice Ao16 t344.length co16)) gb335 (fun _ hk => hk.2) (.int .i64 t353) (.int .i64 t354) (.string t355) (.string t356) (.slice Ao29 t357.length co29)) (fun _ hk => ⟨hk.1.1.1.1.1, hk.1.1.2⟩), by (with_reducible repeat (first | apply Kd.N_alloc | apply Kd.N_drewN | apply Kd.N_drew)); exact Kd.N_mono (zNF5 (zNF5 (Kd.N_mono (Kd.N_mono HO359.out (fun k_ hk => (⟨hk, hk.2.2.1⟩ : _ ∧ k_ ≠ gb334))) (fun k_ hk => (⟨hk, hk.1.2.2.2.1⟩ : _ ∧ k_ ≠ gb335))) gb334 (fun _ hk => hk.1.2) (.int .i64 t340) (.int .i64 t341) (.string t342) (.string t343) (.slice Ao16 t344.length co16)) gb335 (fun _ hk => hk.2) (.int .i64 t353) (.int .i64 t354) (.string t355) (.string t356) (.slice Ao29 t357.length co29)) (fun _ hk => ⟨hk.1.1.1, hk.1.1.2.1⟩), zL4 HB.out (IsS53.ge HI339.out) GE334.out GE335.out GE349.out⟩
 ·obtain rfl := Bool.eq_false_iff.mpr c5
  rw [if_neg zn] at H
  obtain ⟨⟨t360, t361, t362, t363, t364, t367, t368⟩, A31, H⟩ := zO H; try dsimp only at H
  simp only [Option.some.injEq, Prod.mk.injEq] at H
  obtain ⟨rfl, rfl, rfl, rfl, rfl, rfl, rfl, rfl, rfl, rfl⟩ := H
  go_enter Tryd.func7, Tryd.ntmps7
  try go_wp2_with (first | ((with_reducible refine gD 2 rfl ?_); refine bE 2 #[.int .i64 0, .int .i64 0, .string (⟨#[]⟩ : ByteArray), .string (⟨#[]⟩ : ByteArray), .slice none 0 0] 26 ?_; intro gb334 hg w32 hbox hb; have BK334 := Aside0.mk hbox; have GW334 := Aside0.mk (zg (zL HB.out) hg : w.heap.size ≤ gb334); have GE334 := GW334; replace HB := zLB (zL HB.out) hb; clear hb hbox hg) | ((with_reducible refine gD 3 rfl ?_); refine bE 3 #[.int .i64 0, .int .i64 0, .string (⟨#[]⟩ : ByteArray), .string (⟨#[]⟩ : ByteArray), .slice none 0 0] 26 ?_; intro gb335 hg w33 hbox hb; have BK335 := Aside0.mk hbox; have GW335 := Aside0.mk (zg (zL1 HB.out GE334.out) hg : w.heap.size ≤ gb335); have GE335 := GW335; replace HB := zLB (zL1 HB.out GE334.out) hb; have NB334_335 := Aside0.mk (zN BK334.out hg : gb334 ≠ gb335); have NB335_334 := Aside0.mk (zM BK334.out hg : gb335 ≠ gb334); replace BK334 := zBB BK334 hb; clear hb hbox hg) | ((with_reducible refine gC 24 rfl ?_); refine gL 7 Tryd.func24 #[.slice A0 l0.length c0] ?_; (with_reducible refine (spec_l1New.calls k _ _ l0 t336 t337 t338 w _ ?side1 ?side2 ?side3 A2.out).mono ?_); (case side1 => exact zL2 HB.out GE334.out GE335.out); (case side2 => exact HR0.out); (case side3 => exact HC0.out); rintro e w34 ⟨g339, rfl, hi, hb, hb2⟩; refine ⟨_, rfl, ?_⟩; replace HB := Aside0.mk hb; have HI339 := Aside0.mk hi; have NB339_334 := Aside0.mk (IsS53.ne_blk hi (bB (g := gb334) (o := .cells #[.int .i64 0, .int .i64 0, .string (⟨#[]⟩ : ByteArray), .string (⟨#[]⟩ : ByteArray), .slice none 0 0] 26 (0, 0)) (zB BK334.out) hb2) (by decide)); have NB334_339 := Aside0.mk (Ne.symm (IsS53.ne_blk hi (bB (g := gb334) (o := .cells #[.int .i64 0, .int .i64 0, .string (⟨#[]⟩ : ByteArray), .string (⟨#[]⟩ : ByteArray), .slice none 0 0] 26 (0, 0)) (zB BK334.out) hb2) (by decide))); replace BK334 := zBB BK334 hb2; have NB339_335 := Aside0.mk (IsS53.ne_blk hi (bB (g := gb335) (o := .cells #[.int .i64 0, .int .i64 0, .string (⟨#[]⟩ : ByteArray), .string (⟨#[]⟩ : ByteArray), .slice none 0 0] 26 (0, 0)) (zB BK335.out) hb2) (by decide)); have NB335_339 := Aside0.mk (Ne.symm (IsS53.ne_blk hi (bB (g := gb335) (o := .cells #[.int .i64 0, .int .i64 0, .string (⟨#[]⟩ : ByteArray), .string (⟨#[]⟩ : ByteArray), .slice none 0 0] 26 (0, 0)) (zB BK335.out) hb2) (by decide))); replace BK335 := zBB BK335 hb2; clear hi hb hb2) | ((with_reducible refine gC 25 rfl ?_); refine gL 9 Tryd.func25 #[.pointer (some ⟨g339, 0, none⟩)] ?_; (with_reducible refine (spec_l5Any.calls k g339 t336 t337 t338 t340 t341 t342 t343 t344 t347 t348 w _ ?side1 ?side2 A3.out).mono ?_); (case side1 => exact zI2 HI339.out NB339_334.out NB339_335.out); (case side2 => exact zL3 HB.out (IsS53.ge HI339.out) GE334.out GE335.out); rintro e w35 ⟨v345, rfl, ho0, hi, hb, hk⟩; refine ⟨_, rfl, ?_⟩; have HO346 := Aside0.mk (Kd.N_lower (Kd.N_mono (ok' := fun k_ => (w.heap.size ≤ k_) ∧ k_ ≠ gb334 ∧ k_ ≠ gb335 ∧ k_ ≠ g339) ho0 (fun k_ hk_ => ⟨(Nat.le_trans (below_size (zL3 HB.out (IsS53.ge HI339.out) GE334.out GE335.out)) hk_), (Kd.freshB (g := gb334) (o := .cells #[.int .i64 0, .int .i64 0, .string (⟨#[]⟩ : ByteArray), .string (⟨#[]⟩ : ByteArray), .slice none 0 0] 26 (0, 0)) (zB BK334.out) k_ hk_), (Kd.freshB (g := gb335) (o := .cells #[.int .i64 0, .int .i64 0, .string (⟨#[]⟩ : ByteArray), .string (⟨#[]⟩ : ByteArray), .slice none 0 0] 26 (0, 0)) (zB BK335.out) k_ hk_), (IsS53.fresh (zI2 HI339.out NB339_334.out NB339_335.out) k_ hk_)⟩)) (below_size (zL3 HB.out (IsS53.ge HI339.out) GE334.out GE335.out))); replace BK334 := zBK hk BK334 NB334_339; replace BK335 := zBK hk BK335 NB335_339; replace HB := Aside0.mk hb; replace HI339 := Aside0.mk hi; clear ho0 hi hb hk) | ((with_reducible refine gD 5 rfl ?_); refine bE 5 #[.int .i64 0, .int .i64 0, .string (⟨#[]⟩ : ByteArray), .string (⟨#[]⟩ : ByteArray), .slice none 0 0] 26 ?_; intro gb349 hg w36 hbox hb; replace HO346 := Aside0.mk (Kd.N_below (Kd.N_elderB (zX HO346.out) gb349 (Nat.le_of_eq hg.symm)) hb); have BK349 := Aside0.mk hbox; have GW349 := Aside0.mk ((zg (zL3 HB.out (IsS53.ge HI339.out) GE334.out GE335.out) hg : w.heap.size ≤ gb349)); have GE349 := GW349; replace HB := zLB (zL3 HB.out (IsS53.ge HI339.out) GE334.out GE335.out) hb; have NB334_349 := Aside0.mk (zN BK334.out hg : gb334 ≠ gb349); have NB349_334 := Aside0.mk (zM BK334.out hg : gb349 ≠ gb334); replace BK334 := zBB BK334 hb; have NB335_349 := Aside0.mk (zN BK335.out hg : gb335 ≠ gb349); have NB349_335 := Aside0.mk (zM BK335.out hg : gb349 ≠ gb335); replace BK335 := zBB BK335 hb; have NB339_349 := Aside0.mk ((zNI (IsS53.lt (zI2 HI339.out NB339_334.out NB339_335.out : IsS53 w _ g339 t336 t347 t348)) hg : g339 ≠ gb349)); have NB349_339 := Aside0.mk ((zMI (IsS53.lt (zI2 HI339.out NB339_334.out NB339_335.out : IsS53 w _ g339 t336 t347 t348)) hg : gb349 ≠ g339)); replace HI339 := Aside0.mk (IsS53.below (zI2 HI339.out NB339_334.out NB339_335.out) hb); clear hb hbox hg; have hnb37 := NB349_334.out; have hnc37 := NB334_349.out; have hnb38 := NB349_335.out; have hnc38 := NB335_349.out; have hnb39 := NB349_339.out; have hnc39 := NB339_349.out; have hcz40 := zc5 BK349.out; have hfz40 := zf5 BK349.out; obtain ⟨Ao41, co41, eo41⟩ := Kd.N_slice HO346.out; subst eo41) | ((with_reducible refine gC 26 rfl ?_); refine gL 11 Tryd.func26 #[.pointer (some ⟨g339, 0, none⟩), .int .i64 2] ?_; (with_reducible refine (spec_l1Once.calls g339 t336 t347 t348 2 false t351 t352 w _ ?side1 ?side2 A4.out).mono ?_); (case side1 => exact zI3 HI339.out NB339_334.out NB339_335.out NB339_349.out); (case side2 => exact zL4 HB.out (IsS53.ge HI339.out) GE334.out GE335.out GE349.out); rintro e w42 ⟨rfl, hi, hb, hk⟩; refine ⟨_, rfl, ?_⟩; replace BK334 := Aside0.mk (zQ2 (.cells #[.int .i64 0, .int .i64 0, .string (⟨#[]⟩ : ByteArray), .string (⟨#[]⟩ : ByteArray), .slice none 0 0] 26 (0, 0)) hk (by refine zB ?_; refine zr5 ?_ NB334_349.out; exact zB BK334.out) NB334_339.out (by simp)); replace BK335 := Aside0.mk (zQ2 (.cells #[.int .i64 0, .int .i64 0, .string (⟨#[]⟩ : ByteArray), .string (⟨#[]⟩ : ByteArray), .slice none 0 0] 26 (0, 0)) hk (by refine zB ?_; refine zr5 ?_ NB335_349.out; exact zB BK335.out) NB335_339.out (by simp)); replace HO346 := Aside0.mk (Kd.N_mono (Kd.N_keep (Kd.N_mono (ok := fun k_ => ((((w.heap.size ≤ k_)) ∧ (k_ ≠ gb334 ∧ (k_ ≠ gb335 ∧ k_ ≠ g339))) ∧ k_ ≠ gb349)) (by (with_reducible repeat (first | apply Kd.N_alloc | apply Kd.N_drewN | apply Kd.N_drew)); exact (Kd.N_mono (zNF5 (Kd.N_mono HO346.out (fun k_ hk => (⟨hk, hk.2⟩ : _ ∧ k_ ≠ gb349))) gb349 (fun _ hk => hk.2) (.int .i64 t340) (.int .i64 t341) (.string t342) (.string t343) (.slice Ao41 t344.length co41)) (fun _ h_ => h_.1))) (fun k_ hk_ => (⟨hk_, hk_.1.2.2.2⟩ : _ ∧ k_ ≠ g339))) hk (fun _ h => h.2)) (fun _ h => h.1)); replace BK349 := Aside0.mk (zQ2 (.cells #[.int .i64 t340, .int .i64 t341, .string t342, .string t343, .slice Ao41 t344.length co41] 26 (0, 0)) hk (by refine zB ?_; refine zp5 (cs := #[.int .i64 0, .int .i64 0, .string (⟨#[]⟩ : ByteArray), .string (⟨#[]⟩ : ByteArray), .slice none 0 0]) ?_; exact zB BK349.out) NB349_339.out (by simp)); replace HB := Aside0.mk hb; replace HI339 := Aside0.mk hi; clear hi hb hk))
  replace HO346 := zXD HO346; replace BK334 := zBD BK334; replace BK335 := zBD BK335; replace BK349 := zBD BK349; replace HI339 := Aside0.mk (IsS53.drew HI339.out); replace HB := zLD HB
  refine start_ (n := 5) (S := fun w' => zs5 w' gb349 (.int .i64 t340) (.int .i64 t341) (.string t342) (.string t343) (.slice Ao41 t344.length co41)) (ds := []) (fB 5 0) (by kernel_rfl) rfl rfl (zc5 BK349.out) (fun hHeld => ?_)
  generalize w42.drew = w43 at HO346 BK334 BK335 BK349 HI339 HB hHeld ⊢
  refine pure_ (i := 1) (N := some 16) (v := ?_) (a' := ?_) (fB 5 2) rfl rfl (by kernel_rfl) (fun _ _ _ h => h) (Or.inl ⟨by rfl, ?_⟩) ?_ ?_
  rotate_left
  ·intro w'; go_simp; with_reducible rfl
  rotate_left
  ·exact zP
  refine take_ (i := 0) (N := some 15) (v := ?_) (a' := ?_) (fB 5 3) rfl rfl (by kernel_rfl) (fun _ _ _ h => h) (Or.inl ⟨by rfl, ?_⟩) hHeld ?_ ?_
  rotate_left
  ·rintro w' ⟨s0, s1, s2, s3, s4⟩; go_simp; with_reducible rfl
  rotate_left
  ·exact zP
  refine one_ (i := 2) (N := some 17) (fB 5 7) rfl rfl (by kernel_rfl) (by decide) (fun K hK => ?_)
  refine gS Tryd.func25 #[.pointer (some ⟨g339, 0, none⟩)] ?_
  with_reducible refine (spec_l5Any.calls k g339 t336 t351 t352 t360 t361 t362 t363 t364 t367 t368 w _ ?side1 ?side2 A31.out).mono ?_
  (case side1 => exact zI3 HI339.out NB339_334.out NB339_335.out NB339_349.out)
  (case side2 => exact zL4 HB.out (IsS53.ge HI339.out) GE334.out GE335.out GE349.out)
  rintro e w44 ⟨v365, rfl, ho0, hi, hb, hk⟩
  refine ⟨_, rfl, ?_⟩
  have HO366 := Aside0.mk (Kd.N_lower (Kd.N_mono (ok' := fun k_ => (w.heap.size ≤ k_) ∧ some k_ ≠ (.slice Ao41 t344.length co41 : Value).ownBlock ∧ k_ ≠ gb334 ∧ k_ ≠ gb335 ∧ k_ ≠ gb349 ∧ k_ ≠ g339) ho0 (fun k_ hk_ => ⟨(Nat.le_trans (below_size (zL4 HB.out (IsS53.ge HI339.out) GE334.out GE335.out GE349.out)) hk_), (Kd.fresh' (Kd.N_lt (zX HO346.out)) k_ hk_), (Kd.freshB (g := gb334) (o := .cells #[.int .i64 0, .int .i64 0, .string (⟨#[]⟩ : ByteArray), .string (⟨#[]⟩ : ByteArray), .slice none 0 0] 26 (0, 0)) (zB BK334.out) k_ hk_), (Kd.freshB (g := gb335) (o := .cells #[.int .i64 0, .int .i64 0, .string (⟨#[]⟩ : ByteArray), .string (⟨#[]⟩ : ByteArray), .slice none 0 0] 26 (0, 0)) (zB BK335.out) k_ hk_), (Kd.freshB (g := gb349) (o := .cells #[.int .i64 t340, .int .i64 t341, .string t342, .string t343, .slice Ao41 t344.length co41] 26 (0, 0)) (zB BK349.out) k_ hk_), (IsS53.fresh (zI3 HI339.out NB339_334.out NB339_335.out NB339_349.out) k_ hk_)⟩)) (below_size (zL4 HB.out (IsS53.ge HI339.out) GE334.out GE335.out GE349.out))); replace BK334 := zBK hk BK334 NB334_339; replace BK335 := zBK hk BK335 NB335_339; replace HO346 := Aside0.mk (Kd.N_mono (Kd.N_told (Kd.N_oldK (Kd.N_mono (ok := fun k_ => ((((w.heap.size ≤ k_)) ∧ (k_ ≠ gb334 ∧ (k_ ≠ gb335 ∧ k_ ≠ g339))) ∧ k_ ≠ gb349)) (zX HO346.out) (fun k_ hk_ => (⟨hk_, hk_.1.2.2.2⟩ : _ ∧ k_ ≠ g339))) hk) (by first | exact Kd.N_base ho0 | exact Kd.R_base ho0)) (fun _ h_ => h_.1)); replace BK349 := zBK hk BK349 NB349_339; replace HB := Aside0.mk hb; replace HI339 := Aside0.mk hi
  clear ho0 hi hb hk
  (try clear ho0)
  obtain ⟨Ao54, co54, eo54⟩ := Kd.N_slice HO366.out
  (first | subst eo54 | (injection eo54 with f1_ f2_ f3_; have f4_ := f1_.symm; have f5_ := f3_.symm; clear f1_ f2_ f3_; subst f4_; subst f5_))
  refine hK.out _ _ (zc5 BK349.out) fun hHeld => ?_; clear hK K
  refine nZ 17 ?_
  refine one_ (i := 3) (N := none) (fB 5 15) rfl rfl (by kernel_rfl) (by decide) (fun K hK => ?_)
  have hs45 : w44.cell? ⟨gb334, 0, none⟩ = some (.int .i64 0) := (bC BK334.out 0).trans rfl
  have hfs45 := blk_frozen BK334.out 0
  have hns45_1 := NB335_334.out
  have hns45_2 := NB349_334.out
  have hms45_1 := NB334_335.out
  have hms45_2 := NB334_349.out
  have hs46 : w44.cell? ⟨gb334, 1, none⟩ = some (.int .i64 0) := (bC BK334.out 1).trans rfl
  have hfs46 := blk_frozen BK334.out 1
  have hns46_1 := NB335_334.out
  have hns46_2 := NB349_334.out
  have hms46_1 := NB334_335.out
  have hms46_2 := NB334_349.out
  have hs47 : w44.cell? ⟨gb334, 2, none⟩ = some (.string (⟨#[]⟩ : ByteArray)) := (bC BK334.out 2).trans rfl
  have hfs47 := blk_frozen BK334.out 2
  have hns47_1 := NB335_334.out
  have hns47_2 := NB349_334.out
  have hms47_1 := NB334_335.out
  have hms47_2 := NB334_349.out
  have hs48 : w44.cell? ⟨gb334, 3, none⟩ = some (.string (⟨#[]⟩ : ByteArray)) := (bC BK334.out 3).trans rfl
  have hfs48 := blk_frozen BK334.out 3
  have hns48_1 := NB335_334.out
  have hns48_2 := NB349_334.out
  have hms48_1 := NB334_335.out
  have hms48_2 := NB334_349.out
  have hs49 : w44.cell? ⟨gb334, 4, none⟩ = some (.slice none 0 0) := (bC BK334.out 4).trans rfl
  have hfs49 := blk_frozen BK334.out 4
  have hns49_1 := NB335_334.out
  have hns49_2 := NB349_334.out
  have hms49_1 := NB334_335.out
  have hms49_2 := NB334_349.out
  refine skip_ (w1 := ?_) (by rfl) rfl ?_ ?_
  rotate_left
  ·go_simp
   rfl
  refine hK.out _ _ ⟨zcf5 NB349_334.out hHeld.1, zcf5 NB349_334.out hHeld.2.1, zcf5 NB349_334.out hHeld.2.2.1, zcf5 NB349_334.out hHeld.2.2.2.1, zcf5 NB349_334.out hHeld.2.2.2.2⟩ fun hHeld => ?_; clear hK K
  refine one_ (i := 4) (N := none) (fB 5 31) rfl rfl (by kernel_rfl) (by decide) (fun K hK => ?_)
  have hs50 : w44.cell? ⟨gb335, 0, none⟩ = some (.int .i64 0) := (bC BK335.out 0).trans rfl
  have hfs50 := blk_frozen BK335.out 0
  have hns50_0 := NB334_335.out
  have hns50_2 := NB349_335.out
  have hms50_0 := NB335_334.out
  have hms50_2 := NB335_349.out
  have hs51 : w44.cell? ⟨gb335, 1, none⟩ = some (.int .i64 0) := (bC BK335.out 1).trans rfl
  have hfs51 := blk_frozen BK335.out 1
  have hns51_0 := NB334_335.out
  have hns51_2 := NB349_335.out
  have hms51_0 := NB335_334.out
  have hms51_2 := NB335_349.out
  have hs52 : w44.cell? ⟨gb335, 2, none⟩ = some (.string (⟨#[]⟩ : ByteArray)) := (bC BK335.out 2).trans rfl
  have hfs52 := blk_frozen BK335.out 2
  have hns52_0 := NB334_335.out
  have hns52_2 := NB349_335.out
  have hms52_0 := NB335_334.out
  have hms52_2 := NB335_349.out
  have hs53 : w44.cell? ⟨gb335, 3, none⟩ = some (.string (⟨#[]⟩ : ByteArray)) := (bC BK335.out 3).trans rfl
  have hfs53 := blk_frozen BK335.out 3
  have hns53_0 := NB334_335.out
  have hns53_2 := NB349_335.out
  have hms53_0 := NB335_334.out
  have hms53_2 := NB335_349.out
  have hs55 : w44.cell? ⟨gb335, 4, none⟩ = some (.slice none 0 0) := (bC BK335.out 4).trans rfl
  have hfs55 := blk_frozen BK335.out 4
  have hns55_0 := NB334_335.out
  have hns55_2 := NB349_335.out
  have hms55_0 := NB335_334.out
  have hms55_2 := NB335_349.out
  refine skip_ (w1 := ?_) (by rfl) rfl ?_ ?_
  rotate_left
  ·go_simp
   rfl
  refine hK.out _ _ ⟨zcf5 NB349_335.out hHeld.1, zcf5 NB349_335.out hHeld.2.1, zcf5 NB349_335.out hHeld.2.2.1, zcf5 NB349_335.out hHeld.2.2.2.1, zcf5 NB349_335.out hHeld.2.2.2.2⟩ fun hHeld => ?_; clear hK K
  refine done_ (by kernel_rfl) ?_
  try go_wp2
  refine bodyPost_ret (results_cc rfl _ _ gb334 gb335 26 26 #[.int .i64 t340, .int .i64 t341, .string t342, .string t343, .slice Ao41 t344.length co41] #[.int .i64 t360, .int .i64 t361, .string t362, .string t363, .slice Ao54 t364.length co54] (0, 0) (0, 0) _ _ rfl (by refine zB ?_; refine zr5 ?_ NB334_335.out; refine zB ?_; refine zp5 (cs := #[.int .i64 0, .int .i64 0, .string (⟨#[]⟩ : ByteArray), .string (⟨#[]⟩ : ByteArray), .slice none 0 0]) ?_; exact zB BK334.out) Tryd.underlying26 rfl (by kernel_rfl) rfl (by refine zB ?_; refine zp5 (cs := #[.int .i64 0, .int .i64 0, .string (⟨#[]⟩ : ByteArray), .string (⟨#[]⟩ : ByteArray), .slice none 0 0]) ?_; refine zB ?_; refine zr5 ?_ NB335_334.out; exact zB BK335.out) Tryd.underlying26 rfl (by kernel_rfl)) rfl ?_
  exact ⟨_, _, zW, by (with_reducible repeat (first | apply Kd.N_alloc | apply Kd.N_drewN | apply Kd.N_drew)); exact Kd.N_mono (zNF5 (zNF5 (Kd.N_mono (Kd.N_mono HO346.out (fun k_ hk => (⟨hk, hk.1.1.2.1⟩ : _ ∧ k_ ≠ gb334))) (fun k_ hk => (⟨hk, hk.1.1.1.2.2.1⟩ : _ ∧ k_ ≠ gb335))) gb334 (fun _ hk => hk.1.2) (.int .i64 t340) (.int .i64 t341) (.string t342) (.string t343) (.slice Ao41 t344.length co41)) gb335 (fun _ hk => hk.2) (.int .i64 t360) (.int .i64 t361) (.string t362) (.string t363) (.slice Ao54 t364.length co54)) (fun _ hk => ⟨hk.1.1.1.1.1, hk.1.1.2⟩), by (with_reducible repeat (first | apply Kd.N_alloc | apply Kd.N_drewN | apply Kd.N_drew)); exact Kd.N_mono (zNF5 (zNF5 (Kd.N_mono (Kd.N_mono HO366.out (fun k_ hk => (⟨hk, hk.2.2.1⟩ : _ ∧ k_ ≠ gb334))) (fun k_ hk => (⟨hk, hk.1.2.2.2.1⟩ : _ ∧ k_ ≠ gb335))) gb334 (fun _ hk => hk.1.2) (.int .i64 t340) (.int .i64 t341) (.string t342) (.string t343) (.slice Ao41 t344.length co41)) gb335 (fun _ hk => hk.2) (.int .i64 t360) (.int .i64 t361) (.string t362) (.string t363) (.slice Ao54 t364.length co54)) (fun _ hk => ⟨hk.1.1.1, hk.1.1.2.1⟩), zL4 HB.out (IsS53.ge HI339.out) GE334.out GE335.out GE349.out⟩

open Go.Proofs.YtfhblnbicnmndaaDoorW.PrintWords renaming blk_drewN → bN, blk_drew → bD, blk_alloc → bA, blk_cell → bC, blk_below → bB, below_set → bS
/-! ### spec_DrawPolCount: function 8 -/
def spec_DrawPolCount.f (k : Nat) (l0 : List Int) : Option (Int × Int × ByteArray × ByteArray × (List (S26))) := (spec_l1New.f k l0).bind fun bt370 => ((spec_l5Any.f k bt370.1 bt370.2.1 bt370.2.2).bind fun bt374 => (some (bt374.1, bt374.2.1, bt374.2.2.1, bt374.2.2.2.1, bt374.2.2.2.2.1)))
theorem spec_DrawPolCount.mono : ∀ a0 k, LeO (spec_DrawPolCount.f k a0) (spec_DrawPolCount.f (k + 1) a0) := by
 intro a0 k
 unfold spec_DrawPolCount.f
 repeat' first
   | (with_reducible apply spec_l1New.mono)
   | (with_reducible apply spec_l5Any.mono)
   | (with_reducible exact LeO.refl _)
   | (with_reducible exact LeO.none _)
   | (with_reducible refine LeO.ite ?_ ?_)
   | (with_reducible refine LeO.bind ?_ (fun _ => ?_))
   | apply spec_l1New.mono
   | apply spec_l5Any.mono
   | exact LeO.none _
   | refine LeO.ite ?_ ?_
   | refine LeO.bind ?_ (fun _ => ?_)
set_option maxHeartbeats 8000000 in
set_option maxRecDepth 100000 in
theorem spec_DrawPolCount.calls (k : Nat) (A0 : Option Addr) (c0 : Nat) (l0 : List Int) (r1 : Int) (r2 : Int) (r3 : ByteArray) (r4 : ByteArray) (r5 : List (S26)) (w : World) (hr0 : Kd.C (Kd.int .u8) w A0 l0.length l0) (hc0 : l0.length ≤ c0) (h : spec_DrawPolCount.f k l0 = some (r1, r2, r3, r4, r5)) :
  Calls Tryd.prog 8 #[.slice A0 l0.length c0] w fun e w' => ∃ v4_ : Value, e = .returned (.agg #[.int .i64 r1, .int .i64 r2, .string r3, .string r4, v4_]) ∧ Kd.N k26 26 w' w.heap.size (fun k_ => (w.heap.size ≤ k_)) v4_ r5 ∧ Below w.heap.size w w' := by
 have hu26 := Tryd.underlying26
 have HR0 := Aside0.mk hr0
 have HC0 := Aside0.mk hc0
 clear hr0 hc0
 have HB := Aside0.mk (Below.refl w.heap.size w)
 unfold spec_DrawPolCount.f at h; have H := h
 clear h
 obtain ⟨⟨t370, t371, t372⟩, A2, H⟩ := zO H; try dsimp only at H
 obtain ⟨⟨t374, t375, t376, t377, t378, t381, t382⟩, A3, H⟩ := zO H; try dsimp only at H
 simp only [Option.some.injEq, Prod.mk.injEq] at H
 obtain ⟨rfl, rfl, rfl, rfl, rfl⟩ := H
 go_enter Tryd.func8, Tryd.ntmps8
 go_wp2_with (first | ((with_reducible refine gD 2 rfl ?_); refine bE 2 #[.int .i64 0, .int .i64 0, .string (⟨#[]⟩ : ByteArray), .string (⟨#[]⟩ : ByteArray), .slice none 0 0] 26 ?_; intro gb369 hg w4 hbox hb; have BK369 := Aside0.mk hbox; have GW369 := Aside0.mk (zg (zL HB.out) hg : w.heap.size ≤ gb369); have GE369 := GW369; replace HB := zLB (zL HB.out) hb; clear hb hbox hg) | ((with_reducible refine gC 24 rfl ?_); refine gL 5 Tryd.func24 #[.slice A0 l0.length c0] ?_; (with_reducible refine (spec_l1New.calls k _ _ l0 t370 t371 t372 w _ ?side1 ?side2 ?side3 A2.out).mono ?_); (case side1 => exact zL1 HB.out GE369.out); (case side2 => exact HR0.out); (case side3 => exact HC0.out); rintro e w5 ⟨g373, rfl, hi, hb, hb2⟩; refine ⟨_, rfl, ?_⟩; replace HB := Aside0.mk hb; have HI373 := Aside0.mk hi; have NB373_369 := Aside0.mk (IsS53.ne_blk hi (bB (g := gb369) (o := .cells #[.int .i64 0, .int .i64 0, .string (⟨#[]⟩ : ByteArray), .string (⟨#[]⟩ : ByteArray), .slice none 0 0] 26 (0, 0)) (zB BK369.out) hb2) (by decide)); have NB369_373 := Aside0.mk (Ne.symm (IsS53.ne_blk hi (bB (g := gb369) (o := .cells #[.int .i64 0, .int .i64 0, .string (⟨#[]⟩ : ByteArray), .string (⟨#[]⟩ : ByteArray), .slice none 0 0] 26 (0, 0)) (zB BK369.out) hb2) (by decide))); replace BK369 := zBB BK369 hb2; clear hi hb hb2) | ((with_reducible refine gC 25 rfl ?_); refine gL 7 Tryd.func25 #[.pointer (some ⟨g373, 0, none⟩)] ?_; (with_reducible refine (spec_l5Any.calls k g373 t370 t371 t372 t374 t375 t376 t377 t378 t381 t382 w _ ?side1 ?side2 A3.out).mono ?_); (case side1 => exact zI1 HI373.out NB373_369.out); (case side2 => exact zL2 HB.out (IsS53.ge HI373.out) GE369.out); rintro e w6 ⟨v379, rfl, ho0, hi, hb, hk⟩; refine ⟨_, rfl, ?_⟩; have HO380 := Aside0.mk (Kd.N_lower (Kd.N_mono (ok' := fun k_ => (w.heap.size ≤ k_) ∧ k_ ≠ gb369 ∧ k_ ≠ g373) ho0 (fun k_ hk_ => ⟨(Nat.le_trans (below_size (zL2 HB.out (IsS53.ge HI373.out) GE369.out)) hk_), (Kd.freshB (g := gb369) (o := .cells #[.int .i64 0, .int .i64 0, .string (⟨#[]⟩ : ByteArray), .string (⟨#[]⟩ : ByteArray), .slice none 0 0] 26 (0, 0)) (zB BK369.out) k_ hk_), (IsS53.fresh (zI1 HI373.out NB373_369.out) k_ hk_)⟩)) (below_size (zL2 HB.out (IsS53.ge HI373.out) GE369.out))); replace BK369 := zBK hk BK369 NB369_373; replace HB := Aside0.mk hb; replace HI373 := Aside0.mk hi; clear ho0 hi hb hk; have hnb7 := NB369_373.out; have hnc7 := NB373_369.out; have hcz8 := zc5 BK369.out; have hfz8 := zf5 BK369.out; obtain ⟨Ao9, co9, eo9⟩ := Kd.N_slice HO380.out; subst eo9))
 refine bodyPost_ret (results_cell_row rfl _ _ gb369 26 #[.int .i64 t374, .int .i64 t375, .string t376, .string t377, .slice Ao9 t378.length co9] (0, 0) _ rfl (by refine zB ?_; refine zp5 (cs := #[.int .i64 0, .int .i64 0, .string (⟨#[]⟩ : ByteArray), .string (⟨#[]⟩ : ByteArray), .slice none 0 0]) ?_; exact zB BK369.out) Tryd.underlying26 rfl (by kernel_rfl)) rfl ?_
 exact ⟨_, zW, by (with_reducible repeat (first | apply Kd.N_alloc | apply Kd.N_drewN | apply Kd.N_drew)); exact Kd.N_mono (zNF5 (Kd.N_mono HO380.out (fun k_ hk => (⟨hk, hk.2.1⟩ : _ ∧ k_ ≠ gb369))) gb369 (fun _ hk => hk.2) (.int .i64 t374) (.int .i64 t375) (.string t376) (.string t377) (.slice Ao9 t378.length co9)) (fun _ hk => hk.1.1), zL2 HB.out (IsS53.ge HI373.out) GE369.out⟩

open Go.Proofs.YtfhblnbicnmndaaDoorW.PrintWords renaming blk_drewN → bN, blk_drew → bD, blk_alloc → bA, blk_cell → bC, blk_below → bB, below_set → bS
/-! ### spec_DrawHasRate: function 9 -/
def spec_DrawHasRate.f (k : Nat) (l0 : List Int) : Option (Int × Int × ByteArray × ByteArray × (List (S26))) := (spec_l1New.f k l0).bind fun bt384 => ((spec_l5Any.f k bt384.1 bt384.2.1 bt384.2.2).bind fun bt388 => (some (bt388.1, bt388.2.1, bt388.2.2.1, bt388.2.2.2.1, bt388.2.2.2.2.1)))
theorem spec_DrawHasRate.mono : ∀ a0 k, LeO (spec_DrawHasRate.f k a0) (spec_DrawHasRate.f (k + 1) a0) := by
 intro a0 k
 unfold spec_DrawHasRate.f
 repeat' first
   | (with_reducible apply spec_l1New.mono)
   | (with_reducible apply spec_l5Any.mono)
   | (with_reducible exact LeO.refl _)
   | (with_reducible exact LeO.none _)
   | (with_reducible refine LeO.ite ?_ ?_)
   | (with_reducible refine LeO.bind ?_ (fun _ => ?_))
   | apply spec_l1New.mono
   | apply spec_l5Any.mono
   | exact LeO.none _
   | refine LeO.ite ?_ ?_
   | refine LeO.bind ?_ (fun _ => ?_)
set_option maxHeartbeats 8000000 in
set_option maxRecDepth 100000 in
theorem spec_DrawHasRate.calls (k : Nat) (A0 : Option Addr) (c0 : Nat) (l0 : List Int) (r1 : Int) (r2 : Int) (r3 : ByteArray) (r4 : ByteArray) (r5 : List (S26)) (w : World) (hr0 : Kd.C (Kd.int .u8) w A0 l0.length l0) (hc0 : l0.length ≤ c0) (h : spec_DrawHasRate.f k l0 = some (r1, r2, r3, r4, r5)) :
  Calls Tryd.prog 9 #[.slice A0 l0.length c0] w fun e w' => ∃ v4_ : Value, e = .returned (.agg #[.int .i64 r1, .int .i64 r2, .string r3, .string r4, v4_]) ∧ Kd.N k26 26 w' w.heap.size (fun k_ => (w.heap.size ≤ k_)) v4_ r5 ∧ Below w.heap.size w w' := by
 have hu26 := Tryd.underlying26
 have HR0 := Aside0.mk hr0
 have HC0 := Aside0.mk hc0
 clear hr0 hc0
 have HB := Aside0.mk (Below.refl w.heap.size w)
 unfold spec_DrawHasRate.f at h; have H := h
 clear h
 obtain ⟨⟨t384, t385, t386⟩, A2, H⟩ := zO H; try dsimp only at H
 obtain ⟨⟨t388, t389, t390, t391, t392, t395, t396⟩, A3, H⟩ := zO H; try dsimp only at H
 simp only [Option.some.injEq, Prod.mk.injEq] at H
 obtain ⟨rfl, rfl, rfl, rfl, rfl⟩ := H
 go_enter Tryd.func9, Tryd.ntmps9
 go_wp2_with (first | ((with_reducible refine gD 2 rfl ?_); refine bE 2 #[.int .i64 0, .int .i64 0, .string (⟨#[]⟩ : ByteArray), .string (⟨#[]⟩ : ByteArray), .slice none 0 0] 26 ?_; intro gb383 hg w4 hbox hb; have BK383 := Aside0.mk hbox; have GW383 := Aside0.mk (zg (zL HB.out) hg : w.heap.size ≤ gb383); have GE383 := GW383; replace HB := zLB (zL HB.out) hb; clear hb hbox hg) | ((with_reducible refine gC 24 rfl ?_); refine gL 5 Tryd.func24 #[.slice A0 l0.length c0] ?_; (with_reducible refine (spec_l1New.calls k _ _ l0 t384 t385 t386 w _ ?side1 ?side2 ?side3 A2.out).mono ?_); (case side1 => exact zL1 HB.out GE383.out); (case side2 => exact HR0.out); (case side3 => exact HC0.out); rintro e w5 ⟨g387, rfl, hi, hb, hb2⟩; refine ⟨_, rfl, ?_⟩; replace HB := Aside0.mk hb; have HI387 := Aside0.mk hi; have NB387_383 := Aside0.mk (IsS53.ne_blk hi (bB (g := gb383) (o := .cells #[.int .i64 0, .int .i64 0, .string (⟨#[]⟩ : ByteArray), .string (⟨#[]⟩ : ByteArray), .slice none 0 0] 26 (0, 0)) (zB BK383.out) hb2) (by decide)); have NB383_387 := Aside0.mk (Ne.symm (IsS53.ne_blk hi (bB (g := gb383) (o := .cells #[.int .i64 0, .int .i64 0, .string (⟨#[]⟩ : ByteArray), .string (⟨#[]⟩ : ByteArray), .slice none 0 0] 26 (0, 0)) (zB BK383.out) hb2) (by decide))); replace BK383 := zBB BK383 hb2; clear hi hb hb2) | ((with_reducible refine gC 25 rfl ?_); refine gL 7 Tryd.func25 #[.pointer (some ⟨g387, 0, none⟩)] ?_; (with_reducible refine (spec_l5Any.calls k g387 t384 t385 t386 t388 t389 t390 t391 t392 t395 t396 w _ ?side1 ?side2 A3.out).mono ?_); (case side1 => exact zI1 HI387.out NB387_383.out); (case side2 => exact zL2 HB.out (IsS53.ge HI387.out) GE383.out); rintro e w6 ⟨v393, rfl, ho0, hi, hb, hk⟩; refine ⟨_, rfl, ?_⟩; have HO394 := Aside0.mk (Kd.N_lower (Kd.N_mono (ok' := fun k_ => (w.heap.size ≤ k_) ∧ k_ ≠ gb383 ∧ k_ ≠ g387) ho0 (fun k_ hk_ => ⟨(Nat.le_trans (below_size (zL2 HB.out (IsS53.ge HI387.out) GE383.out)) hk_), (Kd.freshB (g := gb383) (o := .cells #[.int .i64 0, .int .i64 0, .string (⟨#[]⟩ : ByteArray), .string (⟨#[]⟩ : ByteArray), .slice none 0 0] 26 (0, 0)) (zB BK383.out) k_ hk_), (IsS53.fresh (zI1 HI387.out NB387_383.out) k_ hk_)⟩)) (below_size (zL2 HB.out (IsS53.ge HI387.out) GE383.out))); replace BK383 := zBK hk BK383 NB383_387; replace HB := Aside0.mk hb; replace HI387 := Aside0.mk hi; clear ho0 hi hb hk; have hnb7 := NB383_387.out; have hnc7 := NB387_383.out; have hcz8 := zc5 BK383.out; have hfz8 := zf5 BK383.out; obtain ⟨Ao9, co9, eo9⟩ := Kd.N_slice HO394.out; subst eo9))
 refine bodyPost_ret (results_cell_row rfl _ _ gb383 26 #[.int .i64 t388, .int .i64 t389, .string t390, .string t391, .slice Ao9 t392.length co9] (0, 0) _ rfl (by refine zB ?_; refine zp5 (cs := #[.int .i64 0, .int .i64 0, .string (⟨#[]⟩ : ByteArray), .string (⟨#[]⟩ : ByteArray), .slice none 0 0]) ?_; exact zB BK383.out) Tryd.underlying26 rfl (by kernel_rfl)) rfl ?_
 exact ⟨_, zW, by (with_reducible repeat (first | apply Kd.N_alloc | apply Kd.N_drewN | apply Kd.N_drew)); exact Kd.N_mono (zNF5 (Kd.N_mono HO394.out (fun k_ hk => (⟨hk, hk.2.1⟩ : _ ∧ k_ ≠ gb383))) gb383 (fun _ hk => hk.2) (.int .i64 t388) (.int .i64 t389) (.string t390) (.string t391) (.slice Ao9 t392.length co9)) (fun _ hk => hk.1.1), zL2 HB.out (IsS53.ge HI387.out) GE383.out⟩

end Go.Proofs.YtfhblnbicnmndaaDoor.QFnPols
