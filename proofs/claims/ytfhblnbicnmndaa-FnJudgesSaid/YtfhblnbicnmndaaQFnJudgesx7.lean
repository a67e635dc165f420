/- What the Go functions that the law FnJudges reaches answer: each as a Lean function, with its walk. Written by a program of this session. Conditions: those that each theorem names. -/
import Derived.Test.YtfhblnbicnmndaaQFnJudgesx0
import Derived.Test.YtfhblnbicnmndaaQFnJudgesx6
namespace Go.Proofs.Ytfhblnbicnmndaa.QFnJudges
open Go.RowKit Go.Proofs.YtfhblnbicnmndaaW.PrintWords Go.Proofs.YtfhblnbicnmndaaW.PrintLast Go.Proofs.YtfhblnbicnmndaaW.PrintMore
attribute [local go_sem] max2_int min2_int max_two min_two max_three min_three max_four min_four   -- for this text's walks alone
set_option linter.unusedVariables false
set_option linter.unusedSimpArgs false

open Go.Proofs.YtfhblnbicnmndaaW.PrintWords renaming blk_drewN → bN, blk_drew → bD, blk_alloc → bA, blk_cell → bC, blk_below → bB, below_set → bS
/-! ### spec_l5Draw: function 72 -/
mutual
def spec_l5Draw.j0 : Nat → Int → Bool → List Int → Int → Int → Int → Int → ByteArray → ByteArray → Option (Int × Int × ByteArray × ByteArray × (List (S29)) × Int × Int)
 | 0, _, _, _, _, _, _, _, _, _ => none
 | k + 1, x1, x19, x1000, x1001, x1002, x277000, x277001, x277002, x277003 => if x19 = true then ((spec_l1Below.f x1000 x1001 x1002 6).bind fun bt277 => (spec_l5Draw.j1 k x1 x1000 bt277.2.1 bt277.2.2 (wrap64 (1 + bt277.1)) x277001 x277002 x277003)) else (spec_l5Draw.j1 k x1 x1000 x1001 x1002 x277000 x277001 x277002 x277003)
def spec_l5Draw.j1 : Nat → Int → List Int → Int → Int → Int → Int → ByteArray → ByteArray → Option (Int × Int × ByteArray × ByteArray × (List (S29)) × Int × Int)
 | 0, _, _, _, _, _, _, _, _ => none
 | k + 1, x1, x1000, x1001, x1002, x277000, x277001, x277002, x277003 => if x277000 = 3 then ((spec_l1Int.f x1000 x1001 x1002 (([0, 1, 5, 20] : List Int))).bind fun bt283 => (some (x277000, bt283.1, x277002, x277003, ([] : List (S29)), bt283.2.1, bt283.2.2))) else (if x277000 = 4 then ((spec_l1Names.f x1000 x1001 x1002).bind fun bt286 => ((spec_l1Str.f x1000 bt286.2.1 bt286.2.2 (([(⟨#[97]⟩ : ByteArray), (⟨#[98]⟩ : ByteArray), (⟨#[111, 107]⟩ : ByteArray)] : List ByteArray))).bind fun bt292 => (some (x277000, x277001, bt286.1, bt292.1, ([] : List (S29)), bt292.2.1, bt292.2.2)))) else (if x277000 = 5 then ((spec_l1Names.f x1000 x1001 x1002).bind fun bt295 => ((spec_l1Int.f x1000 bt295.2.1 bt295.2.2 (([0, 1, 200, 500] : List Int))).bind fun bt301 => (some (x277000, bt301.1, bt295.1, x277003, ([] : List (S29)), bt301.2.1, bt301.2.2)))) else (if x277000 = 7 then (spec_l5Draw.j2 k x1 x277000 (x277000 == 7) x1000 x1001 x1002 x277000 x277001 x277002 x277003) else (spec_l5Draw.j2 k x1 x277000 (x277000 == 8) x1000 x1001 x1002 x277000 x277001 x277002 x277003))))
def spec_l5Draw.j2 : Nat → Int → Int → Bool → List Int → Int → Int → Int → Int → ByteArray → ByteArray → Option (Int × Int × ByteArray × ByteArray × (List (S29)) × Int × Int)
 | 0, _, _, _, _, _, _, _, _, _, _ => none
 | k + 1, x1, x25, x50, x1000, x1001, x1002, x277000, x277001, x277002, x277003 => if x50 = true then ((spec_l1Below.f x1000 x1001 x1002 2).bind fun bt304 => (spec_l5Draw.l0 k x1 (wrap64 (1 + bt304.1)) x1000 bt304.2.1 bt304.2.2 x277000 x277001 x277002 x277003 ([] : List (S29)))) else (if x25 = 9 then ((spec_l5Draw.f k x1000 x1001 x1002 (wrap64 (x1 - 1))).bind fun bt320 => (if ([] : List (S29)).length < 1954687338268 then (some (x277000, x277001, x277002, x277003, (([] : List (S29)) ++ [(⟨bt320.1, bt320.2.1, bt320.2.2.1, bt320.2.2.2.1, bt320.2.2.2.2.1⟩ : S29)]), bt320.2.2.2.2.2.1, bt320.2.2.2.2.2.2)) else (none))) else (some (x277000, x277001, x277002, x277003, ([] : List (S29)), x1001, x1002)))
def spec_l5Draw.l0 : Nat → Int → Int → List Int → Int → Int → Int → Int → ByteArray → ByteArray → List (S29) → Option (Int × Int × ByteArray × ByteArray × (List (S29)) × Int × Int)
 | 0, _, _, _, _, _, _, _, _, _, _ => none
 | k + 1, x1, x6, x1000, x1001, x1002, x277000, x277001, x277002, x277003, x277004 => if x6 > 0 then ((spec_l5Draw.f k x1000 x1001 x1002 (wrap64 (x1 - 1))).bind fun bt307 => (if x277004.length < 1954687338268 then (spec_l5Draw.l0 k x1 (wrap64 (x6 - 1)) x1000 bt307.2.2.2.2.2.1 bt307.2.2.2.2.2.2 x277000 x277001 x277002 x277003 (x277004 ++ [(⟨bt307.1, bt307.2.1, bt307.2.2.1, bt307.2.2.2.1, bt307.2.2.2.2.1⟩ : S29)])) else (none))) else (some (x277000, x277001, x277002, x277003, x277004, x1001, x1002))
def spec_l5Draw.f : Nat → List Int → Int → Int → Int → Option (Int × Int × ByteArray × ByteArray × (List (S29)) × Int × Int)
 | 0, _, _, _, _ => none
 | k + 1, s0_0, s0_1, s0_2, a1 => (spec_l1Int.f s0_0 s0_1 s0_2 (([1, 2, 3, 4, 5, 6, 6, 7, 8, 9] : List Int))).bind fun bt273 => (if a1 = 1 then (spec_l5Draw.j0 k a1 (decide (bt273.1 ≥ 7)) s0_0 bt273.2.1 bt273.2.2 bt273.1 0 (⟨#[]⟩ : ByteArray) (⟨#[]⟩ : ByteArray)) else (spec_l5Draw.j0 k a1 false s0_0 bt273.2.1 bt273.2.2 bt273.1 0 (⟨#[]⟩ : ByteArray) (⟨#[]⟩ : ByteArray)))
end
theorem spec_l5Draw.mono_l : ∀ k, (∀ y0 y1 y2 y3, LeO (spec_l5Draw.f k y0 y1 y2 y3) (spec_l5Draw.f (k + 1) y0 y1 y2 y3)) ∧ (∀ y0 y1 y2 y3 y4 y5 y6 y7 y8, LeO (spec_l5Draw.j0 k y0 y1 y2 y3 y4 y5 y6 y7 y8) (spec_l5Draw.j0 (k + 1) y0 y1 y2 y3 y4 y5 y6 y7 y8)) ∧ (∀ y0 y1 y2 y3 y4 y5 y6 y7, LeO (spec_l5Draw.j1 k y0 y1 y2 y3 y4 y5 y6 y7) (spec_l5Draw.j1 (k + 1) y0 y1 y2 y3 y4 y5 y6 y7)) ∧ (∀ y0 y1 y2 y3 y4 y5 y6 y7 y8 y9, LeO (spec_l5Draw.j2 k y0 y1 y2 y3 y4 y5 y6 y7 y8 y9) (spec_l5Draw.j2 (k + 1) y0 y1 y2 y3 y4 y5 y6 y7 y8 y9)) ∧ (∀ y0 y1 y2 y3 y4 y5 y6 y7 y8 y9, LeO (spec_l5Draw.l0 k y0 y1 y2 y3 y4 y5 y6 y7 y8 y9) (spec_l5Draw.l0 (k + 1) y0 y1 y2 y3 y4 y5 y6 y7 y8 y9))
 | 0 => ⟨fun _ _ _ _ r h => by simp [spec_l5Draw.f] at h, fun _ _ _ _ _ _ _ _ _ r h => by simp [spec_l5Draw.j0] at h, fun _ _ _ _ _ _ _ _ r h => by simp [spec_l5Draw.j1] at h, fun _ _ _ _ _ _ _ _ _ _ r h => by simp [spec_l5Draw.j2] at h, fun _ _ _ _ _ _ _ _ _ _ r h => by simp [spec_l5Draw.l0] at h⟩
 | k + 1 => by
  obtain ⟨ih0, ih1, ih2, ih3, ih4⟩ := spec_l5Draw.mono_l k
  refine ⟨?_, ?_, ?_, ?_, ?_⟩
  ·intro y0 y1 y2 y3
   unfold spec_l5Draw.f
   repeat' first
   | (with_reducible exact ih0 _ _ _ _)
   | (with_reducible exact ih1 _ _ _ _ _ _ _ _ _)
   | (with_reducible exact ih2 _ _ _ _ _ _ _ _)
   | (with_reducible exact ih3 _ _ _ _ _ _ _ _ _ _)
   | (with_reducible exact ih4 _ _ _ _ _ _ _ _ _ _)
   | (with_reducible exact LeO.refl _)
   | (with_reducible exact LeO.none _)
   | (with_reducible refine LeO.ite ?_ ?_)
   | (with_reducible refine LeO.bind ?_ (fun _ => ?_))
   | exact ih0 _ _ _ _
   | exact ih1 _ _ _ _ _ _ _ _ _
   | exact ih2 _ _ _ _ _ _ _ _
   | exact ih3 _ _ _ _ _ _ _ _ _ _
   | exact ih4 _ _ _ _ _ _ _ _ _ _
   | exact LeO.none _
   | refine LeO.ite ?_ ?_
   | refine LeO.bind ?_ (fun _ => ?_)
  ·intro y0 y1 y2 y3 y4 y5 y6 y7 y8
   unfold spec_l5Draw.j0
   repeat' first
   | (with_reducible exact ih0 _ _ _ _)
   | (with_reducible exact ih1 _ _ _ _ _ _ _ _ _)
   | (with_reducible exact ih2 _ _ _ _ _ _ _ _)
   | (with_reducible exact ih3 _ _ _ _ _ _ _ _ _ _)
   | (with_reducible exact ih4 _ _ _ _ _ _ _ _ _ _)
   | (with_reducible exact LeO.refl _)
   | (with_reducible exact LeO.none _)
   | (with_reducible refine LeO.ite ?_ ?_)
   | (with_reducible refine LeO.bind ?_ (fun _ => ?_))
   | exact ih0 _ _ _ _
   | exact ih1 _ _ _ _ _ _ _ _ _
   | exact ih2 _ _ _ _ _ _ _ _
   | exact ih3 _ _ _ _ _ _ _ _ _ _
   | exact ih4 _ _ _ _ _ _ _ _ _ _
   | exact LeO.none _
   | refine LeO.ite ?_ ?_
   | refine LeO.bind ?_ (fun _ => ?_)
  ·intro y0 y1 y2 y3 y4 y5 y6 y7
   unfold spec_l5Draw.j1
   repeat' first
   | (with_reducible exact ih0 _ _ _ _)
   | (with_reducible exact ih1 _ _ _ _ _ _ _ _ _)
   | (with_reducible exact ih2 _ _ _ _ _ _ _ _)
   | (with_reducible exact ih3 _ _ _ _ _ _ _ _ _ _)
   | (with_reducible exact ih4 _ _ _ _ _ _ _ _ _ _)
   | (with_reducible exact LeO.refl _)
   | (with_reducible exact LeO.none _)
   | (with_reducible refine LeO.ite ?_ ?_)
   | (with_reducible refine LeO.bind ?_ (fun _ => ?_))
   | exact ih0 _ _ _ _
   | exact ih1 _ _ _ _ _ _ _ _ _
   | exact ih2 _ _ _ _ _ _ _ _
   | exact ih3 _ _ _ _ _ _ _ _ _ _
   | exact ih4 _ _ _ _ _ _ _ _ _ _
   | exact LeO.none _
   | refine LeO.ite ?_ ?_
   | refine LeO.bind ?_ (fun _ => ?_)
  ·intro y0 y1 y2 y3 y4 y5 y6 y7 y8 y9
   unfold spec_l5Draw.j2
   repeat' first
   | (with_reducible exact ih0 _ _ _ _)
   | (with_reducible exact ih1 _ _ _ _ _ _ _ _ _)
   | (with_reducible exact ih2 _ _ _ _ _ _ _ _)
   | (with_reducible exact ih3 _ _ _ _ _ _ _ _ _ _)
   | (with_reducible exact ih4 _ _ _ _ _ _ _ _ _ _)
   | (with_reducible exact LeO.refl _)
   | (with_reducible exact LeO.none _)
   | (with_reducible refine LeO.ite ?_ ?_)
   | (with_reducible refine LeO.bind ?_ (fun _ => ?_))
   | exact ih0 _ _ _ _
   | exact ih1 _ _ _ _ _ _ _ _ _
   | exact ih2 _ _ _ _ _ _ _ _
   | exact ih3 _ _ _ _ _ _ _ _ _ _
   | exact ih4 _ _ _ _ _ _ _ _ _ _
   | exact LeO.none _
   | refine LeO.ite ?_ ?_
   | refine LeO.bind ?_ (fun _ => ?_)
  ·intro y0 y1 y2 y3 y4 y5 y6 y7 y8 y9
   unfold spec_l5Draw.l0
   repeat' first
   | (with_reducible exact ih0 _ _ _ _)
   | (with_reducible exact ih1 _ _ _ _ _ _ _ _ _)
   | (with_reducible exact ih2 _ _ _ _ _ _ _ _)
   | (with_reducible exact ih3 _ _ _ _ _ _ _ _ _ _)
   | (with_reducible exact ih4 _ _ _ _ _ _ _ _ _ _)
   | (with_reducible exact LeO.refl _)
   | (with_reducible exact LeO.none _)
   | (with_reducible refine LeO.ite ?_ ?_)
   | (with_reducible refine LeO.bind ?_ (fun _ => ?_))
   | exact ih0 _ _ _ _
   | exact ih1 _ _ _ _ _ _ _ _ _
   | exact ih2 _ _ _ _ _ _ _ _
   | exact ih3 _ _ _ _ _ _ _ _ _ _
   | exact ih4 _ _ _ _ _ _ _ _ _ _
   | exact LeO.none _
   | refine LeO.ite ?_ ?_
   | refine LeO.bind ?_ (fun _ => ?_)
theorem spec_l5Draw.mono : ∀ a0 a1 a2 a3 k, LeO (spec_l5Draw.f k a0 a1 a2 a3) (spec_l5Draw.f (k + 1) a0 a1 a2 a3) := by
 intro a0 a1 a2 a3 k
 obtain ⟨ih0, ih1, ih2, ih3, ih4⟩ := spec_l5Draw.mono_l k
 exact ih0 a0 a1 a2 a3
set_option maxHeartbeats 8000000 in
set_option maxRecDepth 100000 in
theorem spec_l5Draw.calls (k : Nat) : ∀ (g : Nat) (s0_0 : List Int) (s0_1 : Int) (s0_2 : Int) (a1 : Int) (r1 : Int) (r2 : Int) (r3 : ByteArray) (r4 : ByteArray) (r5 : List (S29)) (r6 : Int) (r7 : Int) (w0 w : World) (hI : IsS102 w0 w g s0_0 s0_1 s0_2) (hB : Below w0.heap.size w0 w) (h : spec_l5Draw.f k s0_0 s0_1 s0_2 a1 = some (r1, r2, r3, r4, r5, r6, r7)),
  Calls Try.prog 72 #[.pointer (some ⟨g, 0, none⟩), .int .i64 a1] w fun e w' => ∃ v4_ : Value, e = .returned (.agg #[.int .i64 r1, .int .i64 r2, .string r3, .string r4, v4_]) ∧ Kd.R k29 29 w' w.heap.size (fun _ => True) v4_ r5 ∧ IsS102 w0 w' g s0_0 r6 r7 ∧ Below w0.heap.size w0 w' ∧ KeepBut w w' g none := by
 induction k using Nat.strongRecOn with
 | _ k ih =>
 intro g s0_0 s0_1 s0_2 a1 r1 r2 r3 r4 r5 r6 r7 w0 w hI hB h
 cases k with
 | zero => exact absurd h (by simp [spec_l5Draw.f])
 | succ k =>
 simp only [spec_l5Draw.f] at h
 have hu29 := Try.underlying29
 have HI0 := Aside0.mk hI
 have HK := Aside0.mk (KeepBut.refl w g none)
 have HL := Aside0.mk hB.size
 clear hI
 have HW0 := Aside0.mk hB.size
 have HB := Aside0.mk hB
 clear hB
 have H : ((spec_l1Int.f s0_0 s0_1 s0_2 (([1, 2, 3, 4, 5, 6, 6, 7, 8, 9] : List Int))).bind fun bt273 => (if a1 = 1 then (spec_l5Draw.j0 k a1 (decide (bt273.1 ≥ 7)) s0_0 bt273.2.1 bt273.2.2 bt273.1 0 (⟨#[]⟩ : ByteArray) (⟨#[]⟩ : ByteArray)) else (spec_l5Draw.j0 k a1 false s0_0 bt273.2.1 bt273.2.2 bt273.1 0 (⟨#[]⟩ : ByteArray) (⟨#[]⟩ : ByteArray)))) = some (r1, r2, r3, r4, r5, r6, r7) := h
 clear h
 generalize hy270 : (([1, 2, 3, 4, 5, 6, 6, 7, 8, 9] : List Int)) = y270 at H; (try rw [Option.bind_some] at H); have Ny270 := Aside0.mk hy270.symm; clear hy270
 obtain ⟨⟨t273, t274, t275⟩, A3, H⟩ := zO H; try dsimp only at H
 have HC4 := Aside0.mk H
 clear H
 go_enter Try.func72, Try.ntmps72
 go_upto_region 2 with (first | ((with_reducible refine gD 4 rfl ?_); refine bE 4 #[.int .i64 0, .int .i64 0, .string (⟨#[]⟩ : ByteArray), .string (⟨#[]⟩ : ByteArray), .slice none 0 0] 29 ?_; intro gb269 hg w5 hbox hb; replace HB := zLB (zL1 HB.out (IsS102.ge HI0.out)) hb; have BK269 := Aside0.mk hbox; have GW269 := Aside0.mk (zgK (g := g) (zK HK.out) hg : w.heap.size ≤ gb269); have GE269 := Aside0.mk ((Nat.le_trans HW0.out (zgK (g := g) (zK HK.out) hg : w.heap.size ≤ gb269) : w0.heap.size ≤ gb269)); replace HK := zKB g (zK HK.out) hb; have NB0_269 := Aside0.mk ((zNI (IsS102.lt (zI HI0.out : IsS102 w0 _ g s0_0 s0_1 s0_2)) hg : g ≠ gb269)); have NB269_0 := Aside0.mk ((zMI (IsS102.lt (zI HI0.out : IsS102 w0 _ g s0_0 s0_1 s0_2)) hg : gb269 ≠ g)); replace HI0 := Aside0.mk (IsS102.below (zI HI0.out) hb); clear hb hbox hg) | ((with_reducible refine gD 10 rfl ?_); refine Kd.R_lit (Kd.int .i64) _ 3 ?hg (N := 10) ?hd (xs := ([1, 2, 3, 4, 5, 6, 6, 7, 8, 9] : List Int)) (inner := [.int .i64 1, .int .i64 2, .int .i64 3, .int .i64 4, .int .i64 5, .int .i64 6, .int .i64 6, .int .i64 7, .int .i64 8, .int .i64 9]) (ok := fun _ => True) (okp := fun _ => True) ?hr ?hp (fun _ hk => hk) trivial (Below.refl _ _) (Nat.le_refl _) (by simp) ?_; (case hd => rfl); (case hg => rfl); (case hr => first | (go_simp; done) | (go_simp; rfl)); (case hp => exact zhp); intro v271 w6 ho7 hb hg_ hnew_; clear hg_ hnew_; (first | rw [← Ny270.out] at ho7 | (simp only [Int.reduceToNat] at ho7; rw [← Ny270.out] at ho7)); have HO272 := Aside0.mk (Kd.R_lower ho7 (keep_size (w := w) (g := g) (row := none) (zK1 HK.out GW269.out))); replace BK269 := zBB BK269 hb; replace HK := zKB g (zK1 HK.out GW269.out) hb; replace HB := zLB (zL2 HB.out (IsS102.ge HI0.out) GE269.out) hb; replace HI0 := Aside0.mk (IsS102.below (zI1 HI0.out NB0_269.out) hb); clear hb ho7; obtain ⟨Ao8, co8, eo8⟩ := Kd.R_slice HO272.out; subst eo8) | ((with_reducible refine gC 77 rfl ?_); refine gL 11 Try.func77 #[.pointer (some ⟨g, 0, none⟩), .slice Ao8 y270.length co8] ?_; (with_reducible refine (spec_l1Int.calls g s0_0 s0_1 s0_2 _ _ y270 t273 t274 t275 w0 _ ?side1 ?side2 ?side3 ?side4 ?side5 A3.out).mono ?_); (case side1 => exact zI1 HI0.out NB0_269.out); (case side2 => exact zL2 HB.out (IsS102.ge HI0.out) GE269.out); (case side3 => exact zC (Kd.R_reads' HO272.out).2.2); (case side4 => exact (Kd.R_reads' HO272.out).2.1); (case side5 => exact far_slice (IsS102.own_ne HI0.out HO272.out (by decide))); rintro e w9 ⟨rfl, hi, hb, hk⟩; refine ⟨_, rfl, ?_⟩; replace BK269 := zBK hk BK269 NB269_0; replace HO272 := Aside0.mk (Kd.R_mono (Kd.R_keep (IsS102.apart (show IsS102 w0 _ g s0_0 s0_1 s0_2 from zI1 HI0.out NB0_269.out) (zR HO272.out) (by decide)) hk (fun _ h => h.2)) (fun _ h => h.1)); replace HK := zKK (zK1 HK.out GW269.out) hk; replace HB := Aside0.mk hb; replace HI0 := Aside0.mk hi; clear hi hb hk) | ((with_reducible refine gD 5 rfl ?_); refine bE 5 #[.int .i64 0, .int .i64 0, .string (⟨#[]⟩ : ByteArray), .string (⟨#[]⟩ : ByteArray), .slice none 0 0] 29 ?_; intro gb276 hg w10 hbox hb; replace HO272 := zRB HO272 hb; replace HB := zLB (zL2 HB.out (IsS102.ge HI0.out) GE269.out) hb; have BK276 := Aside0.mk hbox; have GW276 := Aside0.mk (zgK (g := g) (zK1 HK.out GW269.out) hg : w.heap.size ≤ gb276); have GE276 := Aside0.mk ((Nat.le_trans HW0.out (zgK (g := g) (zK1 HK.out GW269.out) hg : w.heap.size ≤ gb276) : w0.heap.size ≤ gb276)); replace HK := zKB g (zK1 HK.out GW269.out) hb; have NB269_276 := Aside0.mk (zN BK269.out hg : gb269 ≠ gb276); have NB276_269 := Aside0.mk (zM BK269.out hg : gb276 ≠ gb269); replace BK269 := zBB BK269 hb; have NB0_276 := Aside0.mk ((zNI (IsS102.lt (zI1 HI0.out NB0_269.out : IsS102 w0 _ g s0_0 t274 t275)) hg : g ≠ gb276)); have NB276_0 := Aside0.mk ((zMI (IsS102.lt (zI1 HI0.out NB0_269.out : IsS102 w0 _ g s0_0 t274 t275)) hg : gb276 ≠ g)); replace HI0 := Aside0.mk (IsS102.below (zI1 HI0.out NB0_269.out) hb); clear hb hbox hg; have hnb11 := NB276_269.out; have hnc11 := NB269_276.out; have hnb12 := NB276_0.out; have hnc12 := NB0_276.out; have hcz13 := zc5 BK276.out; have hfz13 := zf5 BK276.out))
 (try simp only [Act.put, List.setIfInBounds_toArray, List.set_cons_zero, List.set_cons_succ])
 go_cut [19] (fun v19 wc => ∃ (kq : Nat) (x19_3 : Bool), v19 = .bool x19_3 ∧ Aside0 (spec_l5Draw.j0 kq a1 x19_3 s0_0 t274 t275 t273 0 (⟨#[]⟩ : ByteArray) (⟨#[]⟩ : ByteArray) = some (r1, r2, r3, r4, r5, r6, r7)) ∧ Aside0 (kq ≤ k) ∧ Aside0 (wc.heap[gb269]? = some (.cells #[.int .i64 0, .int .i64 0, .string (⟨#[]⟩ : ByteArray), .string (⟨#[]⟩ : ByteArray), (.slice none 0 0)] 29 (0, 0))) ∧ Aside0 (wc.heap[gb276]? = some (.cells #[.int .i64 t273, .int .i64 0, .string (⟨#[]⟩ : ByteArray), .string (⟨#[]⟩ : ByteArray), (.slice none 0 0)] 29 (0, 0))) ∧ Aside0 (IsS102 w0 wc g s0_0 t274 t275) ∧ Aside0 (KeepBut w wc g none) ∧ Aside0 (Below w0.heap.size w0 wc))
 case first =>
  have H := HC4.out
  clear HC4
  by_cases c14 : a1 = 1
  ·rw [if_pos c14] at H
   obtain ⟨c14b0, c14b1⟩ := zt c14
   clear c14
   (first | rw [c14b0] | (simp only [i64_w, i32_w]; rw [c14b0]) | skip)
   have H' := Aside0.mk H
   clear H
   have hnb15 := NB276_269.out
   have hnc15 := NB269_276.out
   have hnb16 := NB276_0.out
   have hnc16 := NB0_276.out
   have hcz17 := zc5 BK276.out
   have hfz17 := zf5 BK276.out
   go_wp2
   go_meet
   case rel => exact ⟨_, (decide (t273 ≥ 7)), zV, H', ⟨by first | omega | exact Nat.le_refl _⟩, ⟨by refine zB ?_; refine zr5 ?_ NB269_276.out; exact zB BK269.out⟩, ⟨by refine zB ?_; refine zp5 (cs := #[.int .i64 0, .int .i64 0, .string (⟨#[]⟩ : ByteArray), .string (⟨#[]⟩ : ByteArray), .slice none 0 0]) ?_; exact zB BK276.out⟩, ⟨zI2 HI0.out NB0_269.out NB0_276.out⟩, ⟨zK2 HK.out GW269.out GW276.out⟩, ⟨zL3 HB.out (IsS102.ge HI0.out) GE269.out GE276.out⟩⟩
  ·rw [if_neg c14] at H
   obtain ⟨c14b0, c14b1⟩ := zf c14
   (first | rw [c14b0] | (simp only [i64_w, i32_w]; rw [c14b0]) | skip)
   have H' := Aside0.mk H
   clear H
   go_wp2
   go_meet
   case rel => exact ⟨_, (false), zV, H', ⟨by first | omega | exact Nat.le_refl _⟩, ⟨by refine zB ?_; refine zr5 ?_ NB269_276.out; exact zB BK269.out⟩, ⟨by refine zB ?_; refine zp5 (cs := #[.int .i64 0, .int .i64 0, .string (⟨#[]⟩ : ByteArray), .string (⟨#[]⟩ : ByteArray), .slice none 0 0]) ?_; exact zB BK276.out⟩, ⟨zI2 HI0.out NB0_269.out NB0_276.out⟩, ⟨zK2 HK.out GW269.out GW276.out⟩, ⟨zL3 HB.out (IsS102.ge HI0.out) GE269.out GE276.out⟩⟩
 case rest =>
  clear HC4
  try clear c1
  try clear p2
  try clear c7
  try clear c11
  try clear c12
  try clear c14
  try clear c14b0
  try clear c14b1
  try clear c15
  try clear c16
  try clear hcz13; try clear hcz17; try clear hfz13; try clear hfz17
  obtain ⟨kq, x19_3, rfl, HA, HJ3, BK269, BK276, HI0, HK, HB⟩ := hcut
  cases kq with
  | zero => exact absurd HA.out (by simp [spec_l5Draw.j0])
  | succ kj3 =>
   have H := HA.out
   clear HA
   simp only [spec_l5Draw.j0] at H
   have HC18 := Aside0.mk H
   clear H
   go_upto_if 19 with (fail)
   go_cut [] (fun wc => ∃ (kq : Nat) (x1001_17 : Int) (x1002_17 : Int) (x277000_17 : Int), Aside0 (spec_l5Draw.j1 kq a1 s0_0 x1001_17 x1002_17 x277000_17 0 (⟨#[]⟩ : ByteArray) (⟨#[]⟩ : ByteArray) = some (r1, r2, r3, r4, r5, r6, r7)) ∧ Aside0 (kq ≤ kj3) ∧ Aside0 (wc.heap[gb269]? = some (.cells #[.int .i64 0, .int .i64 0, .string (⟨#[]⟩ : ByteArray), .string (⟨#[]⟩ : ByteArray), (.slice none 0 0)] 29 (0, 0))) ∧ Aside0 (wc.heap[gb276]? = some (.cells #[.int .i64 x277000_17, .int .i64 0, .string (⟨#[]⟩ : ByteArray), .string (⟨#[]⟩ : ByteArray), (.slice none 0 0)] 29 (0, 0))) ∧ Aside0 (IsS102 w0 wc g s0_0 x1001_17 x1002_17) ∧ Aside0 (KeepBut w wc g none) ∧ Aside0 (Below w0.heap.size w0 wc))
   case first =>
    have H := HC18.out
    clear HC18
    by_cases c19 : x19_3 = true
    ·subst c19
     rw [if_pos rfl] at H
     obtain ⟨⟨t277, t278, t279⟩, A20, H⟩ := zO H; try dsimp only at H
     have H' := Aside0.mk H
     clear H
     go_wp2_with (first | ((with_reducible refine gC 89 rfl ?_); refine gL 21 Try.func89 #[.pointer (some ⟨g, 0, none⟩), .int .i64 6] ?_; (with_reducible refine (spec_l1Below.calls g s0_0 t274 t275 6 t277 t278 t279 w0 _ ?side1 ?side2 A20.out).mono ?_); (case side1 => exact zI2 HI0.out NB0_269.out NB0_276.out); (case side2 => exact zL3 HB.out (IsS102.ge HI0.out) GE269.out GE276.out); rintro e w21 ⟨rfl, hi, hb, hk⟩; refine ⟨_, rfl, ?_⟩; replace BK269 := zBK hk BK269 NB269_0; replace BK276 := zBK hk BK276 NB276_0; replace HK := zKK (zK2 HK.out GW269.out GW276.out) hk; replace HB := Aside0.mk hb; replace HI0 := Aside0.mk hi; clear hi hb hk; have hnb22 := NB276_269.out; have hnc22 := NB269_276.out; have hnb23 := NB276_0.out; have hnc23 := NB0_276.out; have hcz24 := zc5 BK276.out; have hfz24 := zf5 BK276.out))
     go_meet
     case rel => exact ⟨_, (t278), (t279), (wrap64 (1 + t277)), H', ⟨by have := HJ3.out; first | omega | exact Nat.le_refl _⟩, ⟨by (with_reducible repeat (first | refine bN ?_ _ | refine bD ?_ | refine bA ?_ _)); refine blk_far ?_ NB269_276.out _; exact zB BK269.out⟩, ⟨by (with_reducible repeat (first | refine bN ?_ _ | refine bD ?_ | refine bA ?_ _)); refine blk_put (cs := #[.int .i64 t273, .int .i64 0, .string (⟨#[]⟩ : ByteArray), .string (⟨#[]⟩ : ByteArray), .slice none 0 0]) ?_ 0 _ rfl; exact zB BK276.out⟩, ⟨zI2 HI0.out NB0_269.out NB0_276.out⟩, ⟨zK2 HK.out GW269.out GW276.out⟩, ⟨zL3 HB.out (IsS102.ge HI0.out) GE269.out GE276.out⟩⟩
    ·obtain rfl := Bool.eq_false_iff.mpr c19
     rw [if_neg zn] at H
     have H' := Aside0.mk H
     clear H
     go_wp2
     go_meet
     case rel => exact ⟨_, (t274), (t275), (t273), H', ⟨by have := HJ3.out; first | omega | exact Nat.le_refl _⟩, ⟨zB BK269.out⟩, ⟨zB BK276.out⟩, ⟨zI2 HI0.out NB0_269.out NB0_276.out⟩, ⟨zK2 HK.out GW269.out GW276.out⟩, ⟨zL3 HB.out (IsS102.ge HI0.out) GE269.out GE276.out⟩⟩
   case rest =>
    clear HC18
    try clear c1
    try clear c2
    try clear p2
    try clear p6
    try clear c7
    try clear c8
    try clear c11
    try clear c12
    try clear c14
    try clear c14b0
    try clear c14b1
    try clear c15
    try clear c16
    try clear c19
    try clear c22
    try clear c23
    try clear hcz13; try clear hcz17; try clear hcz24; try clear hfz13; try clear hfz17; try clear hfz24
    try clear p2
    obtain ⟨kq, x1001_17, x1002_17, x277000_17, HA, HJ17, BK269, BK276, HI0, HK, HB⟩ := hcut
    cases kq with
    | zero => exact absurd HA.out (by simp [spec_l5Draw.j1])
    | succ kj17 =>
     have H := HA.out
     clear HA
     simp only [spec_l5Draw.j1] at H
     by_cases c25 : x277000_17 = 3
     ·rw [if_pos c25] at H
      obtain ⟨c25b0, c25b1⟩ := zt c25
      clear c25
      generalize hy280 : (([0, 1, 5, 20] : List Int)) = y280 at H; (try rw [Option.bind_some] at H); have Ny280 := Aside0.mk hy280.symm; clear hy280
      obtain ⟨⟨t283, t284, t285⟩, A26, H⟩ := zO H; try dsimp only at H
      simp only [Option.some.injEq, Prod.mk.injEq] at H
      obtain ⟨rfl, rfl, rfl, rfl, rfl, rfl, rfl⟩ := H
      have hnb27 := NB276_269.out
      have hnc27 := NB269_276.out
      have hnb28 := NB276_0.out
      have hnc28 := NB0_276.out
      have hcz29 := zc5 BK276.out
      have hfz29 := zf5 BK276.out
      go_wp2_with (first | ((with_reducible refine gD 29 rfl ?_); refine Kd.R_lit (Kd.int .i64) _ 3 ?hg (N := 29) ?hd (xs := ([0, 1, 5, 20] : List Int)) (inner := [.int .i64 0, .int .i64 1, .int .i64 5, .int .i64 20]) (ok := fun _ => True) (okp := fun _ => True) ?hr ?hp (fun _ hk => hk) trivial (Below.refl _ _) (Nat.le_refl _) (by simp) ?_; (case hd => rfl); (case hg => rfl); (case hr => first | (go_simp; done) | (go_simp; rfl)); (case hp => exact zhp); intro v281 w30 ho31 hb hg_ hnew_; clear hg_ hnew_; (first | rw [← Ny280.out] at ho31 | (simp only [Int.reduceToNat] at ho31; rw [← Ny280.out] at ho31)); have HO282 := Aside0.mk (Kd.R_lower ho31 (keep_size (w := w) (g := g) (row := none) (zK2 HK.out GW269.out GW276.out))); replace BK269 := zBB BK269 hb; replace BK276 := zBB BK276 hb; replace HK := zKB g (zK2 HK.out GW269.out GW276.out) hb; replace HB := zLB (zL3 HB.out (IsS102.ge HI0.out) GE269.out GE276.out) hb; replace HI0 := Aside0.mk (IsS102.below (zI2 HI0.out NB0_269.out NB0_276.out) hb); clear hb ho31; obtain ⟨Ao32, co32, eo32⟩ := Kd.R_slice HO282.out; subst eo32) | ((with_reducible refine gC 77 rfl ?_); refine gL 30 Try.func77 #[.pointer (some ⟨g, 0, none⟩), .slice Ao32 y280.length co32] ?_; (with_reducible refine (spec_l1Int.calls g s0_0 x1001_17 x1002_17 _ _ y280 t283 t284 t285 w0 _ ?side1 ?side2 ?side3 ?side4 ?side5 A26.out).mono ?_); (case side1 => exact zI2 HI0.out NB0_269.out NB0_276.out); (case side2 => exact zL3 HB.out (IsS102.ge HI0.out) GE269.out GE276.out); (case side3 => exact zC (Kd.R_reads' HO282.out).2.2); (case side4 => exact (Kd.R_reads' HO282.out).2.1); (case side5 => exact far_slice (IsS102.own_ne HI0.out HO282.out (by decide))); rintro e w33 ⟨rfl, hi, hb, hk⟩; refine ⟨_, rfl, ?_⟩; replace BK269 := zBK hk BK269 NB269_0; replace BK276 := zBK hk BK276 NB276_0; replace HO282 := Aside0.mk (Kd.R_mono (Kd.R_keep (IsS102.apart (show IsS102 w0 _ g s0_0 x1001_17 x1002_17 from zI2 HI0.out NB0_269.out NB0_276.out) (zR HO282.out) (by decide)) hk (fun _ h => h.2)) (fun _ h => h.1)); replace HK := zKK (zK2 HK.out GW269.out GW276.out) hk; replace HB := Aside0.mk hb; replace HI0 := Aside0.mk hi; clear hi hb hk; have hcz34 := zc5 BK276.out; have hfz34 := zf5 BK276.out; have hnb35 := NB269_0.out; have hnc35 := NB0_269.out; have hcz36 := zc5 BK269.out; have hfz36 := zf5 BK269.out))
      refine bodyPost_ret (results_cell_row rfl _ _ gb269 29 #[.int .i64 x277000_17, .int .i64 t283, .string (⟨#[]⟩ : ByteArray), .string (⟨#[]⟩ : ByteArray), .slice none 0 0] (0, 0) _ rfl (by refine zB ?_; refine zp5 (cs := #[.int .i64 0, .int .i64 0, .string (⟨#[]⟩ : ByteArray), .string (⟨#[]⟩ : ByteArray), .slice none 0 0]) ?_; (with_reducible repeat (first | refine bN ?_ _ | refine bD ?_ | refine bA ?_ _)); refine blk_far ?_ NB269_276.out _; exact zB BK269.out) Try.underlying29 rfl (by kernel_rfl)) rfl ?_
      exact ⟨_, zW, by first | exact Kd.R_nil _ _ _ _ _ | exact Kd.N_nil _ _ _ _ _ | exact Kd.V_nil _ _ _ _ _ | exact Kd.Q_nil _ _ _ _ _ | exact Kd.S_nil _ _ _ _ _, zI2 HI0.out NB0_269.out NB0_276.out, zL3 HB.out (IsS102.ge HI0.out) GE269.out GE276.out, zK2 HK.out GW269.out GW276.out⟩
     ·rw [if_neg c25] at H
      obtain ⟨c25b0, c25b1⟩ := zf c25
      by_cases c37 : x277000_17 = 4
      ·rw [if_pos c37] at H
       obtain ⟨c37b0, c37b1⟩ := zt c37
       clear c37
       obtain ⟨⟨t286, t287, t288⟩, A38, H⟩ := zO H; try dsimp only at H
       generalize hy289 : (([(⟨#[97]⟩ : ByteArray), (⟨#[98]⟩ : ByteArray), (⟨#[111, 107]⟩ : ByteArray)] : List ByteArray)) = y289 at H; (try rw [Option.bind_some] at H); have Ny289 := Aside0.mk hy289.symm; clear hy289
       obtain ⟨⟨t292, t293, t294⟩, A39, H⟩ := zO H; try dsimp only at H
       simp only [Option.some.injEq, Prod.mk.injEq] at H
       obtain ⟨rfl, rfl, rfl, rfl, rfl, rfl, rfl⟩ := H
       have hnb40 := NB276_269.out
       have hnc40 := NB269_276.out
       have hnb41 := NB276_0.out
       have hnc41 := NB0_276.out
       have hcz42 := zc5 BK276.out
       have hfz42 := zf5 BK276.out
       go_wp2_with (first | ((with_reducible refine gC 90 rfl ?_); refine gL 35 Try.func90 #[.pointer (some ⟨g, 0, none⟩)] ?_; (with_reducible refine (spec_l1Names.calls g s0_0 x1001_17 x1002_17 t286 t287 t288 w0 _ ?side1 ?side2 A38.out).mono ?_); (case side1 => exact zI2 HI0.out NB0_269.out NB0_276.out); (case side2 => exact zL3 HB.out (IsS102.ge HI0.out) GE269.out GE276.out); rintro e w43 ⟨rfl, hi, hb, hk⟩; refine ⟨_, rfl, ?_⟩; replace BK269 := zBK hk BK269 NB269_0; replace BK276 := zBK hk BK276 NB276_0; replace HK := zKK (zK2 HK.out GW269.out GW276.out) hk; replace HB := Aside0.mk hb; replace HI0 := Aside0.mk hi; clear hi hb hk; have hcz44 := zc5 BK276.out; have hfz44 := zf5 BK276.out) | ((with_reducible refine gD 38 rfl ?_); refine Kd.R_lit Kd.string _ 9 ?hg (N := 38) ?hd (xs := ([(⟨#[97]⟩ : ByteArray), (⟨#[98]⟩ : ByteArray), (⟨#[111, 107]⟩ : ByteArray)] : List ByteArray)) (inner := [.string (⟨#[97]⟩ : ByteArray), .string (⟨#[98]⟩ : ByteArray), .string (⟨#[111, 107]⟩ : ByteArray)]) (ok := fun _ => True) (okp := fun _ => True) ?hr ?hp (fun _ hk => hk) trivial (Below.refl _ _) (Nat.le_refl _) (by simp) ?_; (case hd => rfl); (case hg => rfl); (case hr => first | (go_simp; done) | (go_simp; rfl)); (case hp => exact zhp); intro v290 w45 ho46 hb hg_ hnew_; clear hg_ hnew_; (first | rw [← Ny289.out] at ho46 | (simp only [Int.reduceToNat] at ho46; rw [← Ny289.out] at ho46)); have HO291 := Aside0.mk (Kd.R_lower ho46 (keep_size (w := w) (g := g) (row := none) (zK2 HK.out GW269.out GW276.out))); replace BK269 := Aside0.mk (bB (g := gb269) (o := .cells #[.int .i64 0, .int .i64 0, .string (⟨#[]⟩ : ByteArray), .string (⟨#[]⟩ : ByteArray), .slice none 0 0] 29 (0, 0)) (by (with_reducible repeat (first | refine bN ?_ _ | refine bD ?_ | refine bA ?_ _)); refine blk_far ?_ NB269_276.out _; exact zB BK269.out) hb); replace BK276 := Aside0.mk (bB (g := gb276) (o := .cells #[.int .i64 x277000_17, .int .i64 0, .string t286, .string (⟨#[]⟩ : ByteArray), .slice none 0 0] 29 (0, 0)) (by (with_reducible repeat (first | refine bN ?_ _ | refine bD ?_ | refine bA ?_ _)); refine blk_put (cs := #[.int .i64 x277000_17, .int .i64 0, .string (⟨#[]⟩ : ByteArray), .string (⟨#[]⟩ : ByteArray), .slice none 0 0]) ?_ 2 _ rfl; exact zB BK276.out) hb); replace HK := zKB g (zK2 HK.out GW269.out GW276.out) hb; replace HB := zLB (zL3 HB.out (IsS102.ge HI0.out) GE269.out GE276.out) hb; replace HI0 := Aside0.mk (IsS102.below (show IsS102 w0 (w43.setCell ⟨gb276, 2, none⟩ (.string t286)) g s0_0 t287 t288 from zI2 HI0.out NB0_269.out NB0_276.out) hb); clear hb ho46; obtain ⟨Ao47, co47, eo47⟩ := Kd.R_slice HO291.out; subst eo47) | ((with_reducible refine gC 91 rfl ?_); refine gL 39 Try.func91 #[.pointer (some ⟨g, 0, none⟩), .slice Ao47 y289.length co47] ?_; (with_reducible refine (spec_l1Str.calls g s0_0 t287 t288 _ _ y289 t292 t293 t294 w0 _ ?side1 ?side2 ?side3 ?side4 ?side5 A39.out).mono ?_); (case side1 => exact zI2 HI0.out NB0_269.out NB0_276.out); (case side2 => exact zL3 HB.out (IsS102.ge HI0.out) GE269.out GE276.out); (case side3 => exact zC (Kd.R_reads' HO291.out).2.2); (case side4 => exact (Kd.R_reads' HO291.out).2.1); (case side5 => exact far_slice (IsS102.own_ne HI0.out HO291.out (by decide))); rintro e w48 ⟨rfl, hi, hb, hk⟩; refine ⟨_, rfl, ?_⟩; replace BK269 := zBK hk BK269 NB269_0; replace BK276 := zBK hk BK276 NB276_0; replace HO291 := Aside0.mk (Kd.R_mono (Kd.R_keep (IsS102.apart (show IsS102 w0 _ g s0_0 t287 t288 from zI2 HI0.out NB0_269.out NB0_276.out) (zR HO291.out) (by decide)) hk (fun _ h => h.2)) (fun _ h => h.1)); replace HK := zKK (zK2 HK.out GW269.out GW276.out) hk; replace HB := Aside0.mk hb; replace HI0 := Aside0.mk hi; clear hi hb hk; have hcz49 := zc5 BK276.out; have hfz49 := zf5 BK276.out; have hnb50 := NB269_0.out; have hnc50 := NB0_269.out; have hcz51 := zc5 BK269.out; have hfz51 := zf5 BK269.out))
       refine bodyPost_ret (results_cell_row rfl _ _ gb269 29 #[.int .i64 x277000_17, .int .i64 0, .string t286, .string t292, .slice none 0 0] (0, 0) _ rfl (by refine zB ?_; refine zp5 (cs := #[.int .i64 0, .int .i64 0, .string (⟨#[]⟩ : ByteArray), .string (⟨#[]⟩ : ByteArray), .slice none 0 0]) ?_; (with_reducible repeat (first | refine bN ?_ _ | refine bD ?_ | refine bA ?_ _)); refine blk_far ?_ NB269_276.out _; exact zB BK269.out) Try.underlying29 rfl (by kernel_rfl)) rfl ?_
       exact ⟨_, zW, by first | exact Kd.R_nil _ _ _ _ _ | exact Kd.N_nil _ _ _ _ _ | exact Kd.V_nil _ _ _ _ _ | exact Kd.Q_nil _ _ _ _ _ | exact Kd.S_nil _ _ _ _ _, zI2 HI0.out NB0_269.out NB0_276.out, zL3 HB.out (IsS102.ge HI0.out) GE269.out GE276.out, zK2 HK.out GW269.out GW276.out⟩
      ·rw [if_neg c37] at H
       obtain ⟨c37b0, c37b1⟩ := zf c37
       by_cases c52 : x277000_17 = 5
       ·rw [if_pos c52] at H
        obtain ⟨c52b0, c52b1⟩ := zt c52
        clear c52
        obtain ⟨⟨t295, t296, t297⟩, A53, H⟩ := zO H; try dsimp only at H
        generalize hy298 : (([0, 1, 200, 500] : List Int)) = y298 at H; (try rw [Option.bind_some] at H); have Ny298 := Aside0.mk hy298.symm; clear hy298
        obtain ⟨⟨t301, t302, t303⟩, A54, H⟩ := zO H; try dsimp only at H
        simp only [Option.some.injEq, Prod.mk.injEq] at H
        obtain ⟨rfl, rfl, rfl, rfl, rfl, rfl, rfl⟩ := H
        have hnb55 := NB276_269.out
        have hnc55 := NB269_276.out
        have hnb56 := NB276_0.out
        have hnc56 := NB0_276.out
        have hcz57 := zc5 BK276.out
        have hfz57 := zf5 BK276.out
        go_wp2_with (first | ((with_reducible refine gC 90 rfl ?_); refine gL 44 Try.func90 #[.pointer (some ⟨g, 0, none⟩)] ?_; (with_reducible refine (spec_l1Names.calls g s0_0 x1001_17 x1002_17 t295 t296 t297 w0 _ ?side1 ?side2 A53.out).mono ?_); (case side1 => exact zI2 HI0.out NB0_269.out NB0_276.out); (case side2 => exact zL3 HB.out (IsS102.ge HI0.out) GE269.out GE276.out); rintro e w58 ⟨rfl, hi, hb, hk⟩; refine ⟨_, rfl, ?_⟩; replace BK269 := zBK hk BK269 NB269_0; replace BK276 := zBK hk BK276 NB276_0; replace HK := zKK (zK2 HK.out GW269.out GW276.out) hk; replace HB := Aside0.mk hb; replace HI0 := Aside0.mk hi; clear hi hb hk; have hcz59 := zc5 BK276.out; have hfz59 := zf5 BK276.out) | ((with_reducible refine gD 47 rfl ?_); refine Kd.R_lit (Kd.int .i64) _ 3 ?hg (N := 47) ?hd (xs := ([0, 1, 200, 500] : List Int)) (inner := [.int .i64 0, .int .i64 1, .int .i64 200, .int .i64 500]) (ok := fun _ => True) (okp := fun _ => True) ?hr ?hp (fun _ hk => hk) trivial (Below.refl _ _) (Nat.le_refl _) (by simp) ?_; (case hd => rfl); (case hg => rfl); (case hr => first | (go_simp; done) | (go_simp; rfl)); (case hp => exact zhp); intro v299 w60 ho61 hb hg_ hnew_; clear hg_ hnew_; (first | rw [← Ny298.out] at ho61 | (simp only [Int.reduceToNat] at ho61; rw [← Ny298.out] at ho61)); have HO300 := Aside0.mk (Kd.R_lower ho61 (keep_size (w := w) (g := g) (row := none) (zK2 HK.out GW269.out GW276.out))); replace BK269 := Aside0.mk (bB (g := gb269) (o := .cells #[.int .i64 0, .int .i64 0, .string (⟨#[]⟩ : ByteArray), .string (⟨#[]⟩ : ByteArray), .slice none 0 0] 29 (0, 0)) (by (with_reducible repeat (first | refine bN ?_ _ | refine bD ?_ | refine bA ?_ _)); refine blk_far ?_ NB269_276.out _; exact zB BK269.out) hb); replace BK276 := Aside0.mk (bB (g := gb276) (o := .cells #[.int .i64 x277000_17, .int .i64 0, .string t295, .string (⟨#[]⟩ : ByteArray), .slice none 0 0] 29 (0, 0)) (by (with_reducible repeat (first | refine bN ?_ _ | refine bD ?_ | refine bA ?_ _)); refine blk_put (cs := #[.int .i64 x277000_17, .int .i64 0, .string (⟨#[]⟩ : ByteArray), .string (⟨#[]⟩ : ByteArray), .slice none 0 0]) ?_ 2 _ rfl; exact zB BK276.out) hb); replace HK := zKB g (zK2 HK.out GW269.out GW276.out) hb; replace HB := zLB (zL3 HB.out (IsS102.ge HI0.out) GE269.out GE276.out) hb; replace HI0 := Aside0.mk (IsS102.below (show IsS102 w0 (w58.setCell ⟨gb276, 2, none⟩ (.string t295)) g s0_0 t296 t297 from zI2 HI0.out NB0_269.out NB0_276.out) hb); clear hb ho61; obtain ⟨Ao62, co62, eo62⟩ := Kd.R_slice HO300.out; subst eo62) | ((with_reducible refine gC 77 rfl ?_); refine gL 48 Try.func77 #[.pointer (some ⟨g, 0, none⟩), .slice Ao62 y298.length co62] ?_; (with_reducible refine (spec_l1Int.calls g s0_0 t296 t297 _ _ y298 t301 t302 t303 w0 _ ?side1 ?side2 ?side3 ?side4 ?side5 A54.out).mono ?_); (case side1 => exact zI2 HI0.out NB0_269.out NB0_276.out); (case side2 => exact zL3 HB.out (IsS102.ge HI0.out) GE269.out GE276.out); (case side3 => exact zC (Kd.R_reads' HO300.out).2.2); (case side4 => exact (Kd.R_reads' HO300.out).2.1); (case side5 => exact far_slice (IsS102.own_ne HI0.out HO300.out (by decide))); rintro e w63 ⟨rfl, hi, hb, hk⟩; refine ⟨_, rfl, ?_⟩; replace BK269 := zBK hk BK269 NB269_0; replace BK276 := zBK hk BK276 NB276_0; replace HO300 := Aside0.mk (Kd.R_mono (Kd.R_keep (IsS102.apart (show IsS102 w0 _ g s0_0 t296 t297 from zI2 HI0.out NB0_269.out NB0_276.out) (zR HO300.out) (by decide)) hk (fun _ h => h.2)) (fun _ h => h.1)); replace HK := zKK (zK2 HK.out GW269.out GW276.out) hk; replace HB := Aside0.mk hb; replace HI0 := Aside0.mk hi; clear hi hb hk; have hcz64 := zc5 BK276.out; have hfz64 := zf5 BK276.out; have hnb65 := NB269_0.out; have hnc65 := NB0_269.out; have hcz66 := zc5 BK269.out; have hfz66 := zf5 BK269.out))
        refine bodyPost_ret (results_cell_row rfl _ _ gb269 29 #[.int .i64 x277000_17, .int .i64 t301, .string t295, .string (⟨#[]⟩ : ByteArray), .slice none 0 0] (0, 0) _ rfl (by refine zB ?_; refine zp5 (cs := #[.int .i64 0, .int .i64 0, .string (⟨#[]⟩ : ByteArray), .string (⟨#[]⟩ : ByteArray), .slice none 0 0]) ?_; (with_reducible repeat (first | refine bN ?_ _ | refine bD ?_ | refine bA ?_ _)); refine blk_far ?_ NB269_276.out _; exact zB BK269.out) Try.underlying29 rfl (by kernel_rfl)) rfl ?_
        exact ⟨_, zW, by first | exact Kd.R_nil _ _ _ _ _ | exact Kd.N_nil _ _ _ _ _ | exact Kd.V_nil _ _ _ _ _ | exact Kd.Q_nil _ _ _ _ _ | exact Kd.S_nil _ _ _ _ _, zI2 HI0.out NB0_269.out NB0_276.out, zL3 HB.out (IsS102.ge HI0.out) GE269.out GE276.out, zK2 HK.out GW269.out GW276.out⟩
       ·rw [if_neg c52] at H
        obtain ⟨c52b0, c52b1⟩ := zf c52
        have HC67 := Aside0.mk H
        clear H
        have hnb68 := NB276_269.out
        have hnc68 := NB269_276.out
        have hnb69 := NB276_0.out
        have hnc69 := NB0_276.out
        have hcz70 := zc5 BK276.out
        have hfz70 := zf5 BK276.out
        go_upto_if 50 with (fail)
        go_cut [50] (fun v50 wc => ∃ (kq : Nat) (x50_66 : Bool), v50 = .bool x50_66 ∧ Aside0 (spec_l5Draw.j2 kq a1 x277000_17 x50_66 s0_0 x1001_17 x1002_17 x277000_17 0 (⟨#[]⟩ : ByteArray) (⟨#[]⟩ : ByteArray) = some (r1, r2, r3, r4, r5, r6, r7)) ∧ Aside0 (kq ≤ kj17) ∧ Aside0 (wc.heap[gb269]? = some (.cells #[.int .i64 0, .int .i64 0, .string (⟨#[]⟩ : ByteArray), .string (⟨#[]⟩ : ByteArray), (.slice none 0 0)] 29 (0, 0))) ∧ Aside0 (wc.heap[gb276]? = some (.cells #[.int .i64 x277000_17, .int .i64 0, .string (⟨#[]⟩ : ByteArray), .string (⟨#[]⟩ : ByteArray), (.slice none 0 0)] 29 (0, 0))) ∧ Aside0 (IsS102 w0 wc g s0_0 x1001_17 x1002_17) ∧ Aside0 (KeepBut w wc g none) ∧ Aside0 (Below w0.heap.size w0 wc))
        case first =>
         have H := HC67.out
         clear HC67
         by_cases c71 : x277000_17 = 7
         ·rw [if_pos c71] at H
          obtain ⟨c71b0, c71b1⟩ := zt c71
          clear c71
          (first | rw [c71b0] | (simp only [i64_w, i32_w]; rw [c71b0]) | skip)
          have H' := Aside0.mk H
          clear H
          go_wp2
          go_meet
          case rel => exact ⟨_, ((x277000_17 == 7)), zV, H', ⟨by have := HJ3.out; have := HJ17.out; first | omega | exact Nat.le_refl _⟩, ⟨zB BK269.out⟩, ⟨zB BK276.out⟩, ⟨zI2 HI0.out NB0_269.out NB0_276.out⟩, ⟨zK2 HK.out GW269.out GW276.out⟩, ⟨zL3 HB.out (IsS102.ge HI0.out) GE269.out GE276.out⟩⟩
         ·rw [if_neg c71] at H
          obtain ⟨c71b0, c71b1⟩ := zf c71
          (first | rw [c71b0] | (simp only [i64_w, i32_w]; rw [c71b0]) | skip)
          have H' := Aside0.mk H
          clear H
          go_wp2
          go_meet
          case rel => exact ⟨_, ((x277000_17 == 8)), zV, H', ⟨by have := HJ3.out; have := HJ17.out; first | omega | exact Nat.le_refl _⟩, ⟨zB BK269.out⟩, ⟨zB BK276.out⟩, ⟨zI2 HI0.out NB0_269.out NB0_276.out⟩, ⟨zK2 HK.out GW269.out GW276.out⟩, ⟨zL3 HB.out (IsS102.ge HI0.out) GE269.out GE276.out⟩⟩
        case rest =>
         clear HC67
         try clear c1
         try clear c2
         try clear p2
         try clear c3
         try clear c4
         try clear c5
         try clear c6
         try clear p6
         try clear c7
         try clear c8
         try clear c9
         try clear c11
         try clear c12
         try clear c14
         try clear c14b0
         try clear c14b1
         try clear c15
         try clear c16
         try clear c19
         try clear c22
         try clear c23
         try clear c25
         try clear c25b0
         try clear c25b1
         try clear c27
         try clear c28
         try clear c35
         try clear c37
         try clear c37b0
         try clear c37b1
         try clear c40
         try clear c41
         try clear c50
         try clear c52
         try clear c52b0
         try clear c52b1
         try clear c55
         try clear c56
         try clear p64
         try clear c65
         try clear c68
         try clear c69
         try clear c71
         try clear c71b0
         try clear c71b1
         try clear hcz13; try clear hcz17; try clear hcz24; try clear hcz29; try clear hcz34; try clear hcz36; try clear hcz42; try clear hcz44; try clear hcz49; try clear hcz51; try clear hcz57; try clear hcz59; try clear hcz64; try clear hcz66; try clear hcz70; try clear hfz13; try clear hfz17; try clear hfz24; try clear hfz29; try clear hfz34; try clear hfz36; try clear hfz42; try clear hfz44; try clear hfz49; try clear hfz51; try clear hfz57; try clear hfz59; try clear hfz64; try clear hfz66; try clear hfz70
         try clear p2
         try clear p6
         obtain ⟨kq, x50_66, rfl, HA, HJ66, BK269, BK276, HI0, HK, HB⟩ := hcut
         cases kq with
         | zero => exact absurd HA.out (by simp [spec_l5Draw.j2])
         | succ kj66 =>
          have H := HA.out
          clear HA
          simp only [spec_l5Draw.j2] at H
          by_cases c72 : x50_66 = true
          ·subst c72
           rw [if_pos rfl] at H
           obtain ⟨⟨t304, t305, t306⟩, A73, H⟩ := zO H; try dsimp only at H
           have H' := Aside0.mk H
           clear H
           go_wp2_with (first | ((with_reducible refine gC 89 rfl ?_); refine gL 54 Try.func89 #[.pointer (some ⟨g, 0, none⟩), .int .i64 2] ?_; (with_reducible refine (spec_l1Below.calls g s0_0 x1001_17 x1002_17 2 t304 t305 t306 w0 _ ?side1 ?side2 A73.out).mono ?_); (case side1 => exact zI2 HI0.out NB0_269.out NB0_276.out); (case side2 => exact zL3 HB.out (IsS102.ge HI0.out) GE269.out GE276.out); rintro e w74 ⟨rfl, hi, hb, hk⟩; refine ⟨_, rfl, ?_⟩; replace BK269 := zBK hk BK269 NB269_0; replace BK276 := zBK hk BK276 NB276_0; replace HK := zKK (zK2 HK.out GW269.out GW276.out) hk; replace HB := Aside0.mk hb; replace HI0 := Aside0.mk hi; clear hi hb hk))
           go_loopg [6] kj66 (fun kq v6 w' => ∃ (x6_4 : Int) (x1001_4 : Int) (x1002_4 : Int) (x277004_4 : List (S29)) (u277004 : Value), v6 = .int .i64 x6_4 ∧ Aside0 (spec_l5Draw.l0 kq a1 x6_4 s0_0 x1001_4 x1002_4 x277000_17 0 (⟨#[]⟩ : ByteArray) (⟨#[]⟩ : ByteArray) x277004_4 = some (r1, r2, r3, r4, r5, r6, r7)) ∧ Aside0 (kq ≤ kj66) ∧ Aside0 (Kd.R k29 29 w' w.heap.size (fun k_ => k_ ≠ gb269 ∧ k_ ≠ gb276) u277004 x277004_4) ∧ Aside0 (w'.heap[gb269]? = some (.cells #[.int .i64 0, .int .i64 0, .string (⟨#[]⟩ : ByteArray), .string (⟨#[]⟩ : ByteArray), (.slice none 0 0)] 29 (0, 0))) ∧ Aside0 (w'.heap[gb276]? = some (.cells #[.int .i64 x277000_17, .int .i64 0, .string (⟨#[]⟩ : ByteArray), .string (⟨#[]⟩ : ByteArray), u277004] 29 (0, 0))) ∧ Aside0 (IsS102 w0 w' g s0_0 x1001_4 x1002_4) ∧ Aside0 (KeepBut w w' g none) ∧ Aside0 (Below w0.heap.size w0 w'))
           case atStart => exact ⟨(wrap64 (1 + t304)), (t305), (t306), (([] : List (S29))), (.slice none 0 0), zV, H', ⟨Nat.le_refl _⟩, ⟨by first | exact Kd.R_nil _ _ _ _ _ | exact Kd.N_nil _ _ _ _ _ | exact Kd.V_nil _ _ _ _ _ | exact Kd.Q_nil _ _ _ _ _ | exact Kd.S_nil _ _ _ _ _⟩, ⟨zB BK269.out⟩, ⟨zB BK276.out⟩, ⟨zI2 HI0.out NB0_269.out NB0_276.out⟩, ⟨zK2 HK.out GW269.out GW276.out⟩, ⟨zL3 HB.out (IsS102.ge HI0.out) GE269.out GE276.out⟩⟩
           case round =>
            clear H'
            try clear c1
            try clear c2
            try clear p2
            try clear c3
            try clear c4
            try clear c5
            try clear c6
            try clear p6
            try clear c7
            try clear c8
            try clear c9
            try clear c11
            try clear c12
            try clear c14
            try clear c14b0
            try clear c14b1
            try clear c15
            try clear c16
            try clear c19
            try clear c22
            try clear c23
            try clear c25
            try clear c25b0
            try clear c25b1
            try clear c27
            try clear c28
            try clear c35
            try clear c37
            try clear c37b0
            try clear c37b1
            try clear c40
            try clear c41
            try clear c50
            try clear c52
            try clear c52b0
            try clear c52b1
            try clear c55
            try clear c56
            try clear p64
            try clear c65
            try clear c68
            try clear c69
            try clear c71
            try clear c71b0
            try clear c71b1
            try clear c72
            try clear hcz13; try clear hcz17; try clear hcz24; try clear hcz29; try clear hcz34; try clear hcz36; try clear hcz42; try clear hcz44; try clear hcz49; try clear hcz51; try clear hcz57; try clear hcz59; try clear hcz64; try clear hcz66; try clear hcz70; try clear hfz13; try clear hfz17; try clear hfz24; try clear hfz29; try clear hfz34; try clear hfz36; try clear hfz42; try clear hfz44; try clear hfz49; try clear hfz51; try clear hfz57; try clear hfz59; try clear hfz64; try clear hfz66; try clear hfz70
            try clear p2
            try clear p6
            try clear p64
            try clear BK269; try clear BK276
            obtain ⟨x6_4, x1001_4, x1002_4, x277004_4, u277004, rfl, HA, HK4, HO_277004, BK269, BK276, HI0, HK, HB⟩ := hrel
            cases gk with
            | zero => exact absurd HA.out (by simp [spec_l5Draw.l0])
            | succ k4 =>
             have H := HA.out
             clear HA
             simp only [spec_l5Draw.l0] at H
             by_cases c75 : x6_4 > 0
             ·rw [if_pos c75] at H
              have c75b0 := decide_eq_true c75
              clear c75
              obtain ⟨⟨t307, t308, t309, t310, t311, t314, t315⟩, A76, H⟩ := zO H; try dsimp only at H
              by_cases c77 : x277004_4.length < 1954687338268
              ·rw [if_pos c77] at H
               have LMc77 := Aside0.mk c77
               clear c77
               generalize hy317 : (x277004_4 ++ [(⟨t307, t308, t309, t310, t311⟩ : S29)]) = y317 at H; (try rw [Option.bind_some] at H); have Ny317 := Aside0.mk hy317.symm; clear hy317
               have H' := Aside0.mk H
               clear H
               go_wp2_with (first | ((with_reducible refine gC 72 rfl ?_); refine gL 63 Try.func72 #[.pointer (some ⟨g, 0, none⟩), .int .i64 (wrap64 (a1 - 1))] ?_; (with_reducible refine (ih k4 (by have := HJ3.out; have := HJ17.out; have := HJ66.out; have := HK4.out; omega) g s0_0 x1001_4 x1002_4 (wrap64 (a1 - 1)) t307 t308 t309 t310 t311 t314 t315 w0 _ ?side1 ?side2 A76.out).mono ?_); (case side1 => exact zI2 HI0.out NB0_269.out NB0_276.out); (case side2 => exact zL3 HB.out (IsS102.ge HI0.out) GE269.out GE276.out); rintro e w78 ⟨v312, rfl, ho0, hi, hb, hk⟩; refine ⟨_, rfl, ?_⟩; have HO313 := Aside0.mk (Kd.R_lower (Kd.R_newB (Kd.R_newB (Kd.R_new' ho0 (Kd.R_lt (zR HO_277004.out))) (g := gb269) (o := .cells #[.int .i64 0, .int .i64 0, .string (⟨#[]⟩ : ByteArray), .string (⟨#[]⟩ : ByteArray), .slice none 0 0] 29 (0, 0)) (zB BK269.out)) (g := gb276) (o := .cells #[.int .i64 x277000_17, .int .i64 0, .string (⟨#[]⟩ : ByteArray), .string (⟨#[]⟩ : ByteArray), u277004] 29 (0, 0)) (zB BK276.out)) (keep_size (w := w) (g := g) (row := none) (zK2 HK.out GW269.out GW276.out))); replace HO_277004 := Aside0.mk (Kd.R_mono (Kd.R_told (Kd.R_oldK (IsS102.apart (show IsS102 w0 _ g s0_0 x1001_4 x1002_4 from zI2 HI0.out NB0_269.out NB0_276.out) (zR HO_277004.out) (by decide)) hk) (Kd.R_base ho0)) (fun _ h_ => h_.1)); replace BK269 := zBK hk BK269 NB269_0; replace BK276 := zBK hk BK276 NB276_0; replace HK := zKK (zK2 HK.out GW269.out GW276.out) hk; replace HB := Aside0.mk hb; replace HI0 := Aside0.mk hi; clear ho0 hi hb hk) | ((with_reducible refine gD 7 rfl ?_); refine bE 7 #[.int .i64 0, .int .i64 0, .string (⟨#[]⟩ : ByteArray), .string (⟨#[]⟩ : ByteArray), .slice none 0 0] 29 ?_; intro gb316 hg w79 hbox hb; replace HO_277004 := Aside0.mk (Kd.R_below (Kd.R_elderB (zR HO_277004.out) gb316 (Nat.le_of_eq hg.symm)) hb); replace HO313 := Aside0.mk (Kd.R_below (Kd.R_elderB (zR HO313.out) gb316 (Nat.le_of_eq hg.symm)) hb); replace HB := zLB (zL3 HB.out (IsS102.ge HI0.out) GE269.out GE276.out) hb; have BK316 := Aside0.mk hbox; have GW316 := Aside0.mk (zgK (g := g) (zK2 HK.out GW269.out GW276.out) hg : w.heap.size ≤ gb316); have GE316 := Aside0.mk ((Nat.le_trans HW0.out (zgK (g := g) (zK2 HK.out GW269.out GW276.out) hg : w.heap.size ≤ gb316) : w0.heap.size ≤ gb316)); replace HK := zKB g (zK2 HK.out GW269.out GW276.out) hb; have NB269_316 := Aside0.mk (zN BK269.out hg : gb269 ≠ gb316); have NB316_269 := Aside0.mk (zM BK269.out hg : gb316 ≠ gb269); replace BK269 := zBB BK269 hb; have NB276_316 := Aside0.mk (zN BK276.out hg : gb276 ≠ gb316); have NB316_276 := Aside0.mk (zM BK276.out hg : gb316 ≠ gb276); replace BK276 := zBB BK276 hb; have NB0_316 := Aside0.mk ((zNI (IsS102.lt (zI2 HI0.out NB0_269.out NB0_276.out : IsS102 w0 _ g s0_0 t314 t315)) hg : g ≠ gb316)); have NB316_0 := Aside0.mk ((zMI (IsS102.lt (zI2 HI0.out NB0_269.out NB0_276.out : IsS102 w0 _ g s0_0 t314 t315)) hg : gb316 ≠ g)); replace HI0 := Aside0.mk (IsS102.below (zI2 HI0.out NB0_269.out NB0_276.out) hb); clear hb hbox hg; have hnb80 := NB316_269.out; have hnc80 := NB269_316.out; have hnb81 := NB316_276.out; have hnc81 := NB276_316.out; have hnb82 := NB316_0.out; have hnc82 := NB0_316.out; have hcz83 := zc5 BK316.out; have hfz83 := zf5 BK316.out; obtain ⟨Ao84, co84, eo84⟩ := Kd.R_slice HO313.out; subst eo84) | ((with_reducible refine gate_store (t := 29) (p := 7) rfl ?_); refine store_event (t := 29) (p := 7) (v := ?vo_w85) (w1 := (((((w79.setCell ⟨gb316, 0, none⟩ (.int .i64 t307)).setCell ⟨gb316, 1, none⟩ (.int .i64 t308)).setCell ⟨gb316, 2, none⟩ (.string t309)).setCell ⟨gb316, 3, none⟩ (.string t310)).setCell ⟨gb316, 4, none⟩ (.slice Ao84 t311.length co84))) ?hg ?ho ?hn ?hr ?_; (case ho => rfl); (case hg => rfl); (case hn => rfl); (case hr => first | (go_simp; done) | (go_simp; rfl)); intro w85 hw; have n0_ : Aside0 (Kd.R k29 29 w85 w.heap.size (fun k_ => some k_ ≠ (.slice Ao84 t311.length co84 : Value).ownBlock ∧ k_ ≠ gb269 ∧ k_ ≠ gb276 ∧ k_ ≠ gb316) u277004 x277004_4) := ⟨(by rw [hw]; exact (by (with_reducible repeat (first | apply Kd.R_alloc | apply Kd.R_drewN | apply Kd.R_drew)); exact Kd.R_mono (zRF5 (Kd.R_mono HO_277004.out (fun k_ hk => (⟨hk, hk.2⟩ : _ ∧ k_ ≠ gb316))) gb316 (fun _ hk => hk.2) (.int .i64 t307) (.int .i64 t308) (.string t309) (.string t310) (.slice Ao84 t311.length co84)) (fun _ hk => ⟨hk.1.1.2, ⟨hk.1.1.1.1, ⟨hk.1.1.1.2, hk.1.2⟩⟩⟩)))⟩; have n1_ : Aside0 (Kd.R k29 29 w85 w.heap.size (fun k_ => some k_ ≠ (u277004 : Value).ownBlock ∧ k_ ≠ gb269 ∧ k_ ≠ gb276 ∧ k_ ≠ gb316) (.slice Ao84 t311.length co84) t311) := ⟨(by rw [hw]; exact (by (with_reducible repeat (first | apply Kd.R_alloc | apply Kd.R_drewN | apply Kd.R_drew)); exact Kd.R_mono (zRF5 (Kd.R_mono HO313.out (fun k_ hk => (⟨hk, hk.2⟩ : _ ∧ k_ ≠ gb316))) gb316 (fun _ hk => hk.2) (.int .i64 t307) (.int .i64 t308) (.string t309) (.string t310) (.slice Ao84 t311.length co84)) (fun _ hk => ⟨hk.1.1.1.1.2, ⟨hk.1.1.1.2, ⟨hk.1.1.2, hk.1.2⟩⟩⟩)))⟩; have n2_ : Aside0 (w85.heap[gb269]? = some (.cells #[.int .i64 0, .int .i64 0, .string (⟨#[]⟩ : ByteArray), .string (⟨#[]⟩ : ByteArray), .slice none 0 0] 29 (0, 0))) := ⟨(by rw [hw]; exact (by refine zB ?_; refine zr5 ?_ NB269_316.out; exact zB BK269.out))⟩; have n3_ : Aside0 (w85.heap[gb276]? = some (.cells #[.int .i64 x277000_17, .int .i64 0, .string (⟨#[]⟩ : ByteArray), .string (⟨#[]⟩ : ByteArray), u277004] 29 (0, 0))) := ⟨(by rw [hw]; exact (by refine zB ?_; refine zr5 ?_ NB276_316.out; exact zB BK276.out))⟩; have n4_ : Aside0 (w85.heap[gb316]? = some (.cells #[.int .i64 t307, .int .i64 t308, .string t309, .string t310, .slice Ao84 t311.length co84] 29 (0, 0))) := ⟨(by rw [hw]; exact (by refine zB ?_; refine zp5 (cs := #[.int .i64 0, .int .i64 0, .string (⟨#[]⟩ : ByteArray), .string (⟨#[]⟩ : ByteArray), .slice none 0 0]) ?_; exact zB BK316.out))⟩; have n5_ : Aside0 (IsS102 w0 w85 g s0_0 t314 t315) := ⟨(by rw [hw]; exact (zI3 HI0.out NB0_269.out NB0_276.out NB0_316.out))⟩; have n6_ : Aside0 (KeepBut w w85 g none) := ⟨(by rw [hw]; exact (zK3 HK.out GW269.out GW276.out GW316.out))⟩; have n7_ : Aside0 (Below w0.heap.size w0 w85) := ⟨(by rw [hw]; exact (zL4 HB.out (IsS102.ge HI0.out) GE269.out GE276.out GE316.out))⟩; clear hw; clear HO_277004; clear HO313; clear BK269; clear BK276; clear BK316; clear HI0; clear HK; clear HB; have HO_277004 := n0_; have HO313 := n1_; have BK269 := n2_; have BK276 := n3_; have BK316 := n4_; have HI0 := n5_; have HK := n6_; have HB := n7_; clear n0_ n1_ n2_ n3_ n4_ n5_ n6_ n7_; have hnb86 := NB276_269.out; have hnc86 := NB269_276.out; have hnb87 := NB276_0.out; have hnc87 := NB0_276.out; have hcz88 := zc5 BK276.out; have hfz88 := zf5 BK276.out; have hcz89 := zc5 BK316.out; have hfz89 := zf5 BK316.out) | ((with_reducible refine gate_builtin (b := .append) (xs := #[.tmp 65, .tmp 67]) rfl ?_); at_builtin; refine Kd.R_append k29 w.heap.size rfl (.tmp 65) (.tmp 67) 27 29 (.agg #[(.int .i64 0), (.int .i64 0), (.string ⟨#[]⟩), (.string ⟨#[]⟩), (.slice none 0 0)]) 72 rfl Try.underlying27 info29 rfl (by decide) (by omega) u277004 x277004_4 (⟨t307, t308, t309, t310, t311⟩ : S29) [.int .i64 t307, .int .i64 t308, .string t309, .string t310, .slice Ao84 t311.length co84] (fun k_ => k_ ≠ gb269 ∧ k_ ≠ gb276 ∧ k_ ≠ gb316) (fun k_ => ((fun k_ => k_ ≠ gb269 ∧ k_ ≠ gb276 ∧ k_ ≠ gb316)) k_ ∧ some k_ ≠ (u277004 : Value).ownBlock) rfl rfl ?aP (fun _ hk => hk) ?aF ?aO (Below.refl _ _) ?aS ?aL ?_; (case aP => exact k29_mkM _ _ _ (⟨t307, t308, t309, t310, t311⟩ : S29) (Kd.R_mono (HO313.out) (fun k_ hk => ⟨⟨hk.2.1, ⟨hk.2.2.1, hk.2.2.2⟩⟩, hk.1⟩))); (case aF => exact (fun k_ hk => ⟨Kd.freshB (g := gb269) (o := .cells #[.int .i64 0, .int .i64 0, .string (⟨#[]⟩ : ByteArray), .string (⟨#[]⟩ : ByteArray), .slice none 0 0] 29 (0, 0)) (zB BK269.out) k_ hk, Kd.freshB (g := gb276) (o := .cells #[.int .i64 x277000_17, .int .i64 0, .string (⟨#[]⟩ : ByteArray), .string (⟨#[]⟩ : ByteArray), u277004] 29 (0, 0)) (zB BK276.out) k_ hk, Kd.freshB (g := gb316) (o := .cells #[.int .i64 t307, .int .i64 t308, .string t309, .string t310, .slice Ao84 t311.length co84] 29 (0, 0)) (zB BK316.out) k_ hk⟩)); (case aO => exact (zRm HO_277004.out (fun _ hk => ⟨hk.2.1, ⟨hk.2.2.1, hk.2.2.2⟩⟩))); (case aS => exact (keep_size (w := w) (g := g) (row := none) (zK3 HK.out GW269.out GW276.out GW316.out))); (case aL => have := LMc77.out; omega); intro v318 w90 ho hb hg hat; rw [← Ny317.out] at ho; replace BK269 := Aside0.mk (blk_grown (g := gb269) (o := .cells #[.int .i64 0, .int .i64 0, .string (⟨#[]⟩ : ByteArray), .string (⟨#[]⟩ : ByteArray), .slice none 0 0] 29 (0, 0)) (zB BK269.out) hg (Kd.R_away HO_277004.out (fun _ hk => hk.2.1))); replace BK276 := Aside0.mk (blk_grown (g := gb276) (o := .cells #[.int .i64 x277000_17, .int .i64 0, .string (⟨#[]⟩ : ByteArray), .string (⟨#[]⟩ : ByteArray), u277004] 29 (0, 0)) (zB BK276.out) hg (Kd.R_away HO_277004.out (fun _ hk => hk.2.2.1))); replace BK316 := Aside0.mk (blk_grown (g := gb316) (o := .cells #[.int .i64 t307, .int .i64 t308, .string t309, .string t310, .slice Ao84 t311.length co84] 29 (0, 0)) (zB BK316.out) hg (Kd.R_away HO_277004.out (fun _ hk => hk.2.2.2))); replace HB := Aside0.mk (below_weaken (zL4 HB.out (IsS102.ge HI0.out) GE269.out GE276.out GE316.out) HL.out hb); replace HI0 := Aside0.mk (IsS102.grown (zI3 HI0.out NB0_269.out NB0_276.out NB0_316.out) hg (IsS102.own_ne HI0.out HO_277004.out (by decide))); replace HK := Aside0.mk (KeepBut.trans (zK3 HK.out GW269.out GW276.out GW316.out) (KeepBut.of_grown hg g) (Kd.R_base2 HO_277004.out)); have HO319 := Aside0.mk (ho); clear HO_277004 HO313; clear ho hb hg hat; obtain ⟨Ao91, co91, eo91⟩ := Kd.R_slice HO319.out; subst eo91; have hcz92 := zc5 BK276.out; have hfz92 := zf5 BK276.out))
               go_roundg k4
               case measure => have := HJ3.out; have := HJ17.out; have := HJ66.out; have := HK4.out; omega
               case rel => exact ⟨(wrap64 (x6_4 - 1)), (t314), (t315), (y317), (.slice Ao91 y317.length co91), zV, H', ⟨by have := HJ3.out; have := HJ17.out; have := HJ66.out; have := HK4.out; omega⟩, ⟨by (with_reducible repeat (first | apply Kd.R_alloc | apply Kd.R_drewN | apply Kd.R_drew)); exact Kd.R_mono (Kd.R_far (p := ⟨gb276, 4, none⟩) (Kd.R_mono HO319.out (fun k_ hk => (⟨hk, hk.2.1⟩ : _ ∧ k_ ≠ gb276))) (fun _ hk => hk.2) (.slice Ao91 y317.length co91)) (fun _ hk => ⟨hk.1.1, hk.1.2.1⟩)⟩, ⟨by (with_reducible repeat (first | refine bN ?_ _ | refine bD ?_ | refine bA ?_ _)); refine blk_far ?_ NB269_276.out _; exact zB BK269.out⟩, ⟨by (with_reducible repeat (first | refine bN ?_ _ | refine bD ?_ | refine bA ?_ _)); refine blk_put (cs := #[.int .i64 x277000_17, .int .i64 0, .string (⟨#[]⟩ : ByteArray), .string (⟨#[]⟩ : ByteArray), u277004]) ?_ 4 _ rfl; exact zB BK276.out⟩, ⟨zI3 HI0.out NB0_269.out NB0_276.out NB0_316.out⟩, ⟨zK3 HK.out GW269.out GW276.out GW316.out⟩, ⟨zL4 HB.out (IsS102.ge HI0.out) GE269.out GE276.out GE316.out⟩⟩
              ·rw [if_neg c77] at H
               exact absurd H (by simp)
             ·rw [if_neg c75] at H
              have c75b0 := decide_eq_false c75
              clear c75
              simp only [Option.some.injEq, Prod.mk.injEq] at H
              obtain ⟨rfl, rfl, rfl, rfl, rfl, rfl, rfl⟩ := H
              have hnb93 := NB276_269.out
              have hnc93 := NB269_276.out
              have hnb94 := NB276_0.out
              have hnc94 := NB0_276.out
              have hcz95 := zc5 BK276.out
              have hfz95 := zf5 BK276.out
              have hnb96 := NB269_0.out
              have hnc96 := NB0_269.out
              have hcz97 := zc5 BK269.out
              have hfz97 := zf5 BK269.out
              obtain ⟨Ao98, co98, eo98⟩ := Kd.R_slice HO_277004.out
              subst eo98
              go_wp2
              refine bodyPost_ret (results_cell_row rfl _ _ gb269 29 #[.int .i64 x277000_17, .int .i64 0, .string (⟨#[]⟩ : ByteArray), .string (⟨#[]⟩ : ByteArray), .slice Ao98 x277004_4.length co98] (0, 0) _ rfl (by refine zB ?_; refine zp5 (cs := #[.int .i64 0, .int .i64 0, .string (⟨#[]⟩ : ByteArray), .string (⟨#[]⟩ : ByteArray), .slice none 0 0]) ?_; exact zB BK269.out) Try.underlying29 rfl (by kernel_rfl)) rfl ?_
              exact ⟨_, zW, by (with_reducible repeat (first | apply Kd.R_alloc | apply Kd.R_drewN | apply Kd.R_drew)); exact Kd.R_mono (zRF5 (Kd.R_mono HO_277004.out (fun k_ hk => (⟨hk, hk.1⟩ : _ ∧ k_ ≠ gb269))) gb269 (fun _ hk => hk.2) (.int .i64 x277000_17) (.int .i64 0) (.string (⟨#[]⟩ : ByteArray)) (.string (⟨#[]⟩ : ByteArray)) (.slice Ao98 x277004_4.length co98)) (fun _ hk => trivial), zI2 HI0.out NB0_269.out NB0_276.out, zL3 HB.out (IsS102.ge HI0.out) GE269.out GE276.out, zK2 HK.out GW269.out GW276.out⟩
          ·obtain rfl := Bool.eq_false_iff.mpr c72
           rw [if_neg zn] at H
           by_cases c99 : x277000_17 = 9
           ·rw [if_pos c99] at H
            obtain ⟨c99b0, c99b1⟩ := zt c99
            clear c99
            obtain ⟨⟨t320, t321, t322, t323, t324, t327, t328⟩, A100, H⟩ := zO H; try dsimp only at H
            by_cases c101 : ([] : List (S29)).length < 1954687338268
            ·rw [if_pos c101] at H
             have LMc101 := Aside0.mk c101
             clear c101
             generalize hy330 : (([] : List (S29)) ++ [(⟨t320, t321, t322, t323, t324⟩ : S29)]) = y330 at H; (try rw [Option.bind_some] at H); have Ny330 := Aside0.mk hy330.symm; clear hy330
             simp only [Option.some.injEq, Prod.mk.injEq] at H
             obtain ⟨rfl, rfl, rfl, rfl, rfl, rfl, rfl⟩ := H
             go_wp2_with (first | ((with_reducible refine gC 72 rfl ?_); refine gL 75 Try.func72 #[.pointer (some ⟨g, 0, none⟩), .int .i64 (wrap64 (a1 - 1))] ?_; (with_reducible refine (ih kj66 (by have := HJ3.out; have := HJ17.out; have := HJ66.out; omega) g s0_0 x1001_17 x1002_17 (wrap64 (a1 - 1)) t320 t321 t322 t323 t324 t327 t328 w0 _ ?side1 ?side2 A100.out).mono ?_); (case side1 => exact zI2 HI0.out NB0_269.out NB0_276.out); (case side2 => exact zL3 HB.out (IsS102.ge HI0.out) GE269.out GE276.out); rintro e w102 ⟨v325, rfl, ho0, hi, hb, hk⟩; refine ⟨_, rfl, ?_⟩; have HO326 := Aside0.mk (Kd.R_lower (Kd.R_newB (Kd.R_newB ho0 (g := gb269) (o := .cells #[.int .i64 0, .int .i64 0, .string (⟨#[]⟩ : ByteArray), .string (⟨#[]⟩ : ByteArray), .slice none 0 0] 29 (0, 0)) (zB BK269.out)) (g := gb276) (o := .cells #[.int .i64 x277000_17, .int .i64 0, .string (⟨#[]⟩ : ByteArray), .string (⟨#[]⟩ : ByteArray), .slice none 0 0] 29 (0, 0)) (zB BK276.out)) (keep_size (w := w) (g := g) (row := none) (zK2 HK.out GW269.out GW276.out))); replace BK269 := zBK hk BK269 NB269_0; replace BK276 := zBK hk BK276 NB276_0; replace HK := zKK (zK2 HK.out GW269.out GW276.out) hk; replace HB := Aside0.mk hb; replace HI0 := Aside0.mk hi; clear ho0 hi hb hk) | ((with_reducible refine gD 8 rfl ?_); refine bE 8 #[.int .i64 0, .int .i64 0, .string (⟨#[]⟩ : ByteArray), .string (⟨#[]⟩ : ByteArray), .slice none 0 0] 29 ?_; intro gb329 hg w103 hbox hb; replace HO326 := Aside0.mk (Kd.R_below (Kd.R_elderB (zR HO326.out) gb329 (Nat.le_of_eq hg.symm)) hb); replace HB := zLB (zL3 HB.out (IsS102.ge HI0.out) GE269.out GE276.out) hb; have BK329 := Aside0.mk hbox; have GW329 := Aside0.mk (zgK (g := g) (zK2 HK.out GW269.out GW276.out) hg : w.heap.size ≤ gb329); have GE329 := Aside0.mk ((Nat.le_trans HW0.out (zgK (g := g) (zK2 HK.out GW269.out GW276.out) hg : w.heap.size ≤ gb329) : w0.heap.size ≤ gb329)); replace HK := zKB g (zK2 HK.out GW269.out GW276.out) hb; have NB269_329 := Aside0.mk (zN BK269.out hg : gb269 ≠ gb329); have NB329_269 := Aside0.mk (zM BK269.out hg : gb329 ≠ gb269); replace BK269 := zBB BK269 hb; have NB276_329 := Aside0.mk (zN BK276.out hg : gb276 ≠ gb329); have NB329_276 := Aside0.mk (zM BK276.out hg : gb329 ≠ gb276); replace BK276 := zBB BK276 hb; have NB0_329 := Aside0.mk ((zNI (IsS102.lt (zI2 HI0.out NB0_269.out NB0_276.out : IsS102 w0 _ g s0_0 t327 t328)) hg : g ≠ gb329)); have NB329_0 := Aside0.mk ((zMI (IsS102.lt (zI2 HI0.out NB0_269.out NB0_276.out : IsS102 w0 _ g s0_0 t327 t328)) hg : gb329 ≠ g)); replace HI0 := Aside0.mk (IsS102.below (zI2 HI0.out NB0_269.out NB0_276.out) hb); clear hb hbox hg; have hnb104 := NB329_269.out; have hnc104 := NB269_329.out; have hnb105 := NB329_276.out; have hnc105 := NB276_329.out; have hnb106 := NB329_0.out; have hnc106 := NB0_329.out; have hcz107 := zc5 BK329.out; have hfz107 := zf5 BK329.out; obtain ⟨Ao108, co108, eo108⟩ := Kd.R_slice HO326.out; subst eo108) | ((with_reducible refine gate_store (t := 29) (p := 8) rfl ?_); refine store_event (t := 29) (p := 8) (v := ?vo_w109) (w1 := (((((w103.setCell ⟨gb329, 0, none⟩ (.int .i64 t320)).setCell ⟨gb329, 1, none⟩ (.int .i64 t321)).setCell ⟨gb329, 2, none⟩ (.string t322)).setCell ⟨gb329, 3, none⟩ (.string t323)).setCell ⟨gb329, 4, none⟩ (.slice Ao108 t324.length co108))) ?hg ?ho ?hn ?hr ?_; (case ho => rfl); (case hg => rfl); (case hn => rfl); (case hr => first | (go_simp; done) | (go_simp; rfl)); intro w109 hw; have n0_ : Aside0 (Kd.R k29 29 w109 w.heap.size (fun k_ => k_ ≠ gb269 ∧ k_ ≠ gb276 ∧ k_ ≠ gb329) (.slice Ao108 t324.length co108) t324) := ⟨(by rw [hw]; exact (by (with_reducible repeat (first | apply Kd.R_alloc | apply Kd.R_drewN | apply Kd.R_drew)); exact Kd.R_mono (zRF5 (Kd.R_mono HO326.out (fun k_ hk => (⟨hk, hk.2⟩ : _ ∧ k_ ≠ gb329))) gb329 (fun _ hk => hk.2) (.int .i64 t320) (.int .i64 t321) (.string t322) (.string t323) (.slice Ao108 t324.length co108)) (fun _ hk => ⟨hk.1.1.1.2, ⟨hk.1.1.2, hk.1.2⟩⟩)))⟩; have n1_ : Aside0 (w109.heap[gb269]? = some (.cells #[.int .i64 0, .int .i64 0, .string (⟨#[]⟩ : ByteArray), .string (⟨#[]⟩ : ByteArray), .slice none 0 0] 29 (0, 0))) := ⟨(by rw [hw]; exact (by refine zB ?_; refine zr5 ?_ NB269_329.out; exact zB BK269.out))⟩; have n2_ : Aside0 (w109.heap[gb276]? = some (.cells #[.int .i64 x277000_17, .int .i64 0, .string (⟨#[]⟩ : ByteArray), .string (⟨#[]⟩ : ByteArray), .slice none 0 0] 29 (0, 0))) := ⟨(by rw [hw]; exact (by refine zB ?_; refine zr5 ?_ NB276_329.out; exact zB BK276.out))⟩; have n3_ : Aside0 (w109.heap[gb329]? = some (.cells #[.int .i64 t320, .int .i64 t321, .string t322, .string t323, .slice Ao108 t324.length co108] 29 (0, 0))) := ⟨(by rw [hw]; exact (by refine zB ?_; refine zp5 (cs := #[.int .i64 0, .int .i64 0, .string (⟨#[]⟩ : ByteArray), .string (⟨#[]⟩ : ByteArray), .slice none 0 0]) ?_; exact zB BK329.out))⟩; have n4_ : Aside0 (IsS102 w0 w109 g s0_0 t327 t328) := ⟨(by rw [hw]; exact (zI3 HI0.out NB0_269.out NB0_276.out NB0_329.out))⟩; have n5_ : Aside0 (KeepBut w w109 g none) := ⟨(by rw [hw]; exact (zK3 HK.out GW269.out GW276.out GW329.out))⟩; have n6_ : Aside0 (Below w0.heap.size w0 w109) := ⟨(by rw [hw]; exact (zL4 HB.out (IsS102.ge HI0.out) GE269.out GE276.out GE329.out))⟩; clear hw; clear HO326; clear BK269; clear BK276; clear BK329; clear HI0; clear HK; clear HB; have HO326 := n0_; have BK269 := n1_; have BK276 := n2_; have BK329 := n3_; have HI0 := n4_; have HK := n5_; have HB := n6_; clear n0_ n1_ n2_ n3_ n4_ n5_ n6_; have hnb110 := NB276_269.out; have hnc110 := NB269_276.out; have hnb111 := NB276_0.out; have hnc111 := NB0_276.out; have hcz112 := zc5 BK276.out; have hfz112 := zf5 BK276.out; have hcz113 := zc5 BK329.out; have hfz113 := zf5 BK329.out) | ((with_reducible refine gate_builtin (b := .append) (xs := #[.tmp 77, .tmp 79]) rfl ?_); at_builtin; refine Kd.R_append k29 w.heap.size rfl (.tmp 77) (.tmp 79) 27 29 (.agg #[(.int .i64 0), (.int .i64 0), (.string ⟨#[]⟩), (.string ⟨#[]⟩), (.slice none 0 0)]) 72 rfl Try.underlying27 info29 rfl (by decide) (by omega) (.slice none 0 0) ([] : List (S29)) (⟨t320, t321, t322, t323, t324⟩ : S29) [.int .i64 t320, .int .i64 t321, .string t322, .string t323, .slice Ao108 t324.length co108] (fun k_ => k_ ≠ gb269 ∧ k_ ≠ gb276 ∧ k_ ≠ gb329) (fun k_ => ((fun k_ => k_ ≠ gb269 ∧ k_ ≠ gb276 ∧ k_ ≠ gb329)) k_ ∧ some k_ ≠ (.slice none 0 0 : Value).ownBlock) rfl rfl ?aP (fun _ hk => hk) ?aF ?aO (Below.refl _ _) ?aS ?aL ?_; (case aP => exact k29_mkM _ _ _ (⟨t320, t321, t322, t323, t324⟩ : S29) (Kd.R_mono (HO326.out) (fun k_ hk => ⟨⟨hk.1, ⟨hk.2.1, hk.2.2⟩⟩, (by simp [Value.ownBlock])⟩))); (case aF => exact (fun k_ hk => ⟨Kd.freshB (g := gb269) (o := .cells #[.int .i64 0, .int .i64 0, .string (⟨#[]⟩ : ByteArray), .string (⟨#[]⟩ : ByteArray), .slice none 0 0] 29 (0, 0)) (zB BK269.out) k_ hk, Kd.freshB (g := gb276) (o := .cells #[.int .i64 x277000_17, .int .i64 0, .string (⟨#[]⟩ : ByteArray), .string (⟨#[]⟩ : ByteArray), .slice none 0 0] 29 (0, 0)) (zB BK276.out) k_ hk, Kd.freshB (g := gb329) (o := .cells #[.int .i64 t320, .int .i64 t321, .string t322, .string t323, .slice Ao108 t324.length co108] 29 (0, 0)) (zB BK329.out) k_ hk⟩)); (case aO => exact ((Kd.R_nil _ _ _ _ (fun k_ => k_ ≠ gb269 ∧ k_ ≠ gb276 ∧ k_ ≠ gb329)))); (case aS => exact (keep_size (w := w) (g := g) (row := none) (zK3 HK.out GW269.out GW276.out GW329.out))); (case aL => have := LMc101.out; omega); intro v331 w114 ho hb hg hat; rw [← Ny330.out] at ho; replace BK269 := Aside0.mk (blk_grown (g := gb269) (o := .cells #[.int .i64 0, .int .i64 0, .string (⟨#[]⟩ : ByteArray), .string (⟨#[]⟩ : ByteArray), .slice none 0 0] 29 (0, 0)) (zB BK269.out) hg (by simp [Value.ownBlock])); replace BK276 := Aside0.mk (blk_grown (g := gb276) (o := .cells #[.int .i64 x277000_17, .int .i64 0, .string (⟨#[]⟩ : ByteArray), .string (⟨#[]⟩ : ByteArray), .slice none 0 0] 29 (0, 0)) (zB BK276.out) hg (by simp [Value.ownBlock])); replace BK329 := Aside0.mk (blk_grown (g := gb329) (o := .cells #[.int .i64 t320, .int .i64 t321, .string t322, .string t323, .slice Ao108 t324.length co108] 29 (0, 0)) (zB BK329.out) hg (by simp [Value.ownBlock])); replace HB := Aside0.mk (below_weaken (zL4 HB.out (IsS102.ge HI0.out) GE269.out GE276.out GE329.out) HL.out hb); replace HI0 := Aside0.mk (IsS102.grown (zI3 HI0.out NB0_269.out NB0_276.out NB0_329.out) hg (by simp [Value.ownBlock])); replace HK := Aside0.mk (KeepBut.trans (zK3 HK.out GW269.out GW276.out GW329.out) (KeepBut.of_grown hg g) (.inl (by simp [Value.ownBlock]))); have HO332 := Aside0.mk (ho); clear HO326; clear ho hb hg hat; obtain ⟨Ao115, co115, eo115⟩ := Kd.R_slice HO332.out; subst eo115; have hcz116 := zc5 BK276.out; have hfz116 := zf5 BK276.out; have hnb117 := NB269_0.out; have hnc117 := NB0_269.out; have hcz118 := zc5 BK269.out; have hfz118 := zf5 BK269.out))
             refine bodyPost_ret (results_cell_row rfl _ _ gb269 29 #[.int .i64 x277000_17, .int .i64 0, .string (⟨#[]⟩ : ByteArray), .string (⟨#[]⟩ : ByteArray), .slice Ao115 y330.length co115] (0, 0) _ rfl (by refine zB ?_; refine zp5 (cs := #[.int .i64 0, .int .i64 0, .string (⟨#[]⟩ : ByteArray), .string (⟨#[]⟩ : ByteArray), .slice none 0 0]) ?_; (with_reducible repeat (first | refine bN ?_ _ | refine bD ?_ | refine bA ?_ _)); refine blk_far ?_ NB269_276.out _; exact zB BK269.out) Try.underlying29 rfl (by kernel_rfl)) rfl ?_
             exact ⟨_, zW, by (with_reducible repeat (first | apply Kd.R_alloc | apply Kd.R_drewN | apply Kd.R_drew)); exact Kd.R_mono (zRF5 (Kd.R_far (p := ⟨gb276, 4, none⟩) (Kd.R_mono (Kd.R_mono HO332.out (fun k_ hk => (⟨hk, hk.2.1⟩ : _ ∧ k_ ≠ gb276))) (fun k_ hk => (⟨hk, hk.1.1⟩ : _ ∧ k_ ≠ gb269))) (fun _ hk => hk.1.2) (.slice Ao115 y330.length co115)) gb269 (fun _ hk => hk.2) (.int .i64 x277000_17) (.int .i64 0) (.string (⟨#[]⟩ : ByteArray)) (.string (⟨#[]⟩ : ByteArray)) (.slice Ao115 y330.length co115)) (fun _ hk => trivial), zI3 HI0.out NB0_269.out NB0_276.out NB0_329.out, zL4 HB.out (IsS102.ge HI0.out) GE269.out GE276.out GE329.out, zK3 HK.out GW269.out GW276.out GW329.out⟩
            ·rw [if_neg c101] at H
             exact absurd H (by simp)
           ·rw [if_neg c99] at H
            obtain ⟨c99b0, c99b1⟩ := zf c99
            simp only [Option.some.injEq, Prod.mk.injEq] at H
            obtain ⟨rfl, rfl, rfl, rfl, rfl, rfl, rfl⟩ := H
            have hnb119 := NB276_269.out
            have hnc119 := NB269_276.out
            have hnb120 := NB276_0.out
            have hnc120 := NB0_276.out
            have hcz121 := zc5 BK276.out
            have hfz121 := zf5 BK276.out
            have hnb122 := NB269_0.out
            have hnc122 := NB0_269.out
            have hcz123 := zc5 BK269.out
            have hfz123 := zf5 BK269.out
            go_wp2
            refine bodyPost_ret (results_cell_row rfl _ _ gb269 29 #[.int .i64 x277000_17, .int .i64 0, .string (⟨#[]⟩ : ByteArray), .string (⟨#[]⟩ : ByteArray), .slice none 0 0] (0, 0) _ rfl (by refine zB ?_; refine zp5 (cs := #[.int .i64 0, .int .i64 0, .string (⟨#[]⟩ : ByteArray), .string (⟨#[]⟩ : ByteArray), .slice none 0 0]) ?_; exact zB BK269.out) Try.underlying29 rfl (by kernel_rfl)) rfl ?_
            exact ⟨_, zW, by first | exact Kd.R_nil _ _ _ _ _ | exact Kd.N_nil _ _ _ _ _ | exact Kd.V_nil _ _ _ _ _ | exact Kd.Q_nil _ _ _ _ _ | exact Kd.S_nil _ _ _ _ _, zI2 HI0.out NB0_269.out NB0_276.out, zL3 HB.out (IsS102.ge HI0.out) GE269.out GE276.out, zK2 HK.out GW269.out GW276.out⟩

open Go.Proofs.YtfhblnbicnmndaaW.PrintWords renaming blk_drewN → bN, blk_drew → bD, blk_alloc → bA, blk_cell → bC, blk_below → bB, below_set → bS
/-! ### spec_l1Once: function 73 -/
def spec_l1Once.f (s0_0 : List Int) (s0_1 : Int) (s0_2 : Int) (a1 : Int) : Option (Bool × Int × Int) := (spec_l1Below.f s0_0 s0_1 s0_2 a1).bind fun bt333 => (some ((bt333.1 == 0), bt333.2.1, bt333.2.2))
set_option maxHeartbeats 8000000 in
set_option maxRecDepth 100000 in
theorem spec_l1Once.calls (g : Nat) (s0_0 : List Int) (s0_1 : Int) (s0_2 : Int) (a1 : Int) (r1 : Bool) (r2 : Int) (r3 : Int) (w0 w : World) (hI : IsS102 w0 w g s0_0 s0_1 s0_2) (hB : Below w0.heap.size w0 w) (h : spec_l1Once.f s0_0 s0_1 s0_2 a1 = some (r1, r2, r3)) :
  Calls Try.prog 73 #[.pointer (some ⟨g, 0, none⟩), .int .i64 a1] w fun e w' => e = .returned (.bool r1) ∧ IsS102 w0 w' g s0_0 r2 r3 ∧ Below w0.heap.size w0 w' ∧ KeepBut w w' g none := by
 have HI0 := Aside0.mk hI
 have HK := Aside0.mk (KeepBut.refl w g none)
 have HL := Aside0.mk hB.size
 clear hI
 have HW0 := Aside0.mk hB.size
 have HB := Aside0.mk hB
 clear hB
 unfold spec_l1Once.f at h; have H := h
 clear h
 obtain ⟨⟨t333, t334, t335⟩, A3, H⟩ := zO H; try dsimp only at H
 simp only [Option.some.injEq, Prod.mk.injEq] at H
 obtain ⟨rfl, rfl, rfl⟩ := H
 go_enter Try.func73, Try.ntmps73
 go_wp2_with (first | ((with_reducible refine gC 89 rfl ?_); refine gL 7 Try.func89 #[.pointer (some ⟨g, 0, none⟩), .int .i64 a1] ?_; (with_reducible refine (spec_l1Below.calls g s0_0 s0_1 s0_2 a1 t333 t334 t335 w0 _ ?side1 ?side2 A3.out).mono ?_); (case side1 => exact zI HI0.out); (case side2 => exact zL1 HB.out (IsS102.ge HI0.out)); rintro e w4 ⟨rfl, hi, hb, hk⟩; refine ⟨_, rfl, ?_⟩; replace HK := zKK (zK HK.out) hk; replace HB := Aside0.mk hb; replace HI0 := Aside0.mk hi; clear hi hb hk))
 go_ret
 exact ⟨zW, zI HI0.out, zL1 HB.out (IsS102.ge HI0.out), zK HK.out⟩

open Go.Proofs.YtfhblnbicnmndaaW.PrintWords renaming blk_drewN → bN, blk_drew → bD, blk_alloc → bA, blk_cell → bC, blk_below → bB, below_set → bS
/-! ### spec_l1Odd: function 109 -/
def spec_l1Odd.f (s0_0 : List Int) (s0_1 : Int) (s0_2 : Int) : Option (Int × Int × Int) := (spec_l1Int.f s0_0 s0_1 s0_2 (([(-1), 0, 1, 2, 255, 256, 65535, 2147483647, 2147483648, 4294967295, 4294967296, (-2147483648), 9223372036854775807, (-9223372036854775808)] : List Int))).bind fun bt339 => (some (bt339.1, bt339.2.1, bt339.2.2))
set_option maxHeartbeats 8000000 in
set_option maxRecDepth 100000 in
theorem spec_l1Odd.calls (g : Nat) (s0_0 : List Int) (s0_1 : Int) (s0_2 : Int) (r1 : Int) (r2 : Int) (r3 : Int) (w0 w : World) (hI : IsS102 w0 w g s0_0 s0_1 s0_2) (hB : Below w0.heap.size w0 w) (h : spec_l1Odd.f s0_0 s0_1 s0_2 = some (r1, r2, r3)) :
  Calls Try.prog 109 #[.pointer (some ⟨g, 0, none⟩)] w fun e w' => e = .returned (.int .i64 r1) ∧ IsS102 w0 w' g s0_0 r2 r3 ∧ Below w0.heap.size w0 w' ∧ KeepBut w w' g none := by
 have HI0 := Aside0.mk hI
 have HK := Aside0.mk (KeepBut.refl w g none)
 have HL := Aside0.mk hB.size
 clear hI
 have HW0 := Aside0.mk hB.size
 have HB := Aside0.mk hB
 clear hB
 unfold spec_l1Odd.f at h; have H := h
 clear h
 generalize hy336 : (([(-1), 0, 1, 2, 255, 256, 65535, 2147483647, 2147483648, 4294967295, 4294967296, (-2147483648), 9223372036854775807, (-9223372036854775808)] : List Int)) = y336 at H; (try rw [Option.bind_some] at H); have Ny336 := Aside0.mk hy336.symm; clear hy336
 obtain ⟨⟨t339, t340, t341⟩, A2, H⟩ := zO H; try dsimp only at H
 simp only [Option.some.injEq, Prod.mk.injEq] at H
 obtain ⟨rfl, rfl, rfl⟩ := H
 go_enter Try.func109, Try.ntmps109
 go_wp2_with (first | ((with_reducible refine gD 4 rfl ?_); refine Kd.R_lit (Kd.int .i64) _ 3 ?hg (N := 4) ?hd (xs := ([(-1), 0, 1, 2, 255, 256, 65535, 2147483647, 2147483648, 4294967295, 4294967296, (-2147483648), 9223372036854775807, (-9223372036854775808)] : List Int)) (inner := [.int .i64 (-1), .int .i64 0, .int .i64 1, .int .i64 2, .int .i64 255, .int .i64 256, .int .i64 65535, .int .i64 2147483647, .int .i64 2147483648, .int .i64 4294967295, .int .i64 4294967296, .int .i64 (-2147483648), .int .i64 9223372036854775807, .int .i64 (-9223372036854775808)]) (ok := fun _ => True) (okp := fun _ => True) ?hr ?hp (fun _ hk => hk) trivial (Below.refl _ _) (Nat.le_refl _) (by simp) ?_; (case hd => rfl); (case hg => rfl); (case hr => first | (go_simp; done) | (go_simp; rfl)); (case hp => exact zhp); intro v337 w3 ho4 hb hg_ hnew_; clear hg_ hnew_; (first | rw [← Ny336.out] at ho4 | (simp only [Int.reduceToNat] at ho4; rw [← Ny336.out] at ho4)); have HO338 := Aside0.mk (Kd.R_lower ho4 (keep_size (w := w) (g := g) (row := none) (zK HK.out))); replace HK := zKB g (zK HK.out) hb; replace HB := zLB (zL1 HB.out (IsS102.ge HI0.out)) hb; replace HI0 := Aside0.mk (IsS102.below (zI HI0.out) hb); clear hb ho4; obtain ⟨Ao5, co5, eo5⟩ := Kd.R_slice HO338.out; subst eo5) | ((with_reducible refine gC 77 rfl ?_); refine gL 5 Try.func77 #[.pointer (some ⟨g, 0, none⟩), .slice Ao5 y336.length co5] ?_; (with_reducible refine (spec_l1Int.calls g s0_0 s0_1 s0_2 _ _ y336 t339 t340 t341 w0 _ ?side1 ?side2 ?side3 ?side4 ?side5 A2.out).mono ?_); (case side1 => exact zI HI0.out); (case side2 => exact zL1 HB.out (IsS102.ge HI0.out)); (case side3 => exact zC (Kd.R_reads' HO338.out).2.2); (case side4 => exact (Kd.R_reads' HO338.out).2.1); (case side5 => exact far_slice (IsS102.own_ne HI0.out HO338.out (by decide))); rintro e w6 ⟨rfl, hi, hb, hk⟩; refine ⟨_, rfl, ?_⟩; replace HO338 := Aside0.mk (Kd.R_mono (Kd.R_keep (IsS102.apart (show IsS102 w0 _ g s0_0 s0_1 s0_2 from zI HI0.out) (zR HO338.out) (by decide)) hk (fun _ h => h.2)) (fun _ h => h.1)); replace HK := zKK (zK HK.out) hk; replace HB := Aside0.mk hb; replace HI0 := Aside0.mk hi; clear hi hb hk))
 go_ret
 exact ⟨zW, zI HI0.out, zL1 HB.out (IsS102.ge HI0.out), zK HK.out⟩

open Go.Proofs.YtfhblnbicnmndaaW.PrintWords renaming blk_drewN → bN, blk_drew → bD, blk_alloc → bA, blk_cell → bC, blk_below → bB, below_set → bS
/-! ### spec_l1Raw: function 92 -/
def spec_l1Raw.f (s0_0 : List Int) (s0_1 : Int) (s0_2 : Int) : Option (Int × Int × Int) := (spec_l1Once.f s0_0 s0_1 s0_2 2).bind fun bt342 => (if bt342.1 = true then ((spec_l1Odd.f s0_0 bt342.2.1 bt342.2.2).bind fun bt345 => (some (bt345.1, bt345.2.1, bt345.2.2))) else ((spec_l1Int.f s0_0 bt342.2.1 bt342.2.2 (([(-2147483648), (-3), (-1), 0, 1, 3, 7, 65536, 2147483647, 2147483648] : List Int))).bind fun bt351 => (some (bt351.1, bt351.2.1, bt351.2.2))))
set_option maxHeartbeats 8000000 in
set_option maxRecDepth 100000 in
theorem spec_l1Raw.calls (g : Nat) (s0_0 : List Int) (s0_1 : Int) (s0_2 : Int) (r1 : Int) (r2 : Int) (r3 : Int) (w0 w : World) (hI : IsS102 w0 w g s0_0 s0_1 s0_2) (hB : Below w0.heap.size w0 w) (h : spec_l1Raw.f s0_0 s0_1 s0_2 = some (r1, r2, r3)) :
  Calls Try.prog 92 #[.pointer (some ⟨g, 0, none⟩)] w fun e w' => e = .returned (.int .i64 r1) ∧ IsS102 w0 w' g s0_0 r2 r3 ∧ Below w0.heap.size w0 w' ∧ KeepBut w w' g none := by
 have HI0 := Aside0.mk hI
 have HK := Aside0.mk (KeepBut.refl w g none)
 have HL := Aside0.mk hB.size
 clear hI
 have HW0 := Aside0.mk hB.size
 have HB := Aside0.mk hB
 clear hB
 unfold spec_l1Raw.f at h; have H := h
 clear h
 obtain ⟨⟨t342, t343, t344⟩, A2, H⟩ := zO H; try dsimp only at H
 by_cases c3 : t342 = true
 ·subst c3
  rw [if_pos rfl] at H
  obtain ⟨⟨t345, t346, t347⟩, A4, H⟩ := zO H; try dsimp only at H
  simp only [Option.some.injEq, Prod.mk.injEq] at H
  obtain ⟨rfl, rfl, rfl⟩ := H
  go_enter Try.func92, Try.ntmps92
  go_wp2_with (first | ((with_reducible refine gC 73 rfl ?_); refine gL 4 Try.func73 #[.pointer (some ⟨g, 0, none⟩), .int .i64 2] ?_; (with_reducible refine (spec_l1Once.calls g s0_0 s0_1 s0_2 2 true t343 t344 w0 _ ?side1 ?side2 A2.out).mono ?_); (case side1 => exact zI HI0.out); (case side2 => exact zL1 HB.out (IsS102.ge HI0.out)); rintro e w5 ⟨rfl, hi, hb, hk⟩; refine ⟨_, rfl, ?_⟩; replace HK := zKK (zK HK.out) hk; replace HB := Aside0.mk hb; replace HI0 := Aside0.mk hi; clear hi hb hk) | ((with_reducible refine gC 109 rfl ?_); refine gL 6 Try.func109 #[.pointer (some ⟨g, 0, none⟩)] ?_; (with_reducible refine (spec_l1Odd.calls g s0_0 t343 t344 t345 t346 t347 w0 _ ?side1 ?side2 A4.out).mono ?_); (case side1 => exact zI HI0.out); (case side2 => exact zL1 HB.out (IsS102.ge HI0.out)); rintro e w6 ⟨rfl, hi, hb, hk⟩; refine ⟨_, rfl, ?_⟩; replace HK := zKK (zK HK.out) hk; replace HB := Aside0.mk hb; replace HI0 := Aside0.mk hi; clear hi hb hk))
  go_ret
  exact ⟨zW, zI HI0.out, zL1 HB.out (IsS102.ge HI0.out), zK HK.out⟩
 ·obtain rfl := Bool.eq_false_iff.mpr c3
  rw [if_neg zn] at H
  generalize hy348 : (([(-2147483648), (-3), (-1), 0, 1, 3, 7, 65536, 2147483647, 2147483648] : List Int)) = y348 at H; (try rw [Option.bind_some] at H); have Ny348 := Aside0.mk hy348.symm; clear hy348
  obtain ⟨⟨t351, t352, t353⟩, A7, H⟩ := zO H; try dsimp only at H
  simp only [Option.some.injEq, Prod.mk.injEq] at H
  obtain ⟨rfl, rfl, rfl⟩ := H
  go_enter Try.func92, Try.ntmps92
  go_wp2_with (first | ((with_reducible refine gC 73 rfl ?_); refine gL 4 Try.func73 #[.pointer (some ⟨g, 0, none⟩), .int .i64 2] ?_; (with_reducible refine (spec_l1Once.calls g s0_0 s0_1 s0_2 2 false t343 t344 w0 _ ?side1 ?side2 A2.out).mono ?_); (case side1 => exact zI HI0.out); (case side2 => exact zL1 HB.out (IsS102.ge HI0.out)); rintro e w8 ⟨rfl, hi, hb, hk⟩; refine ⟨_, rfl, ?_⟩; replace HK := zKK (zK HK.out) hk; replace HB := Aside0.mk hb; replace HI0 := Aside0.mk hi; clear hi hb hk) | ((with_reducible refine gD 8 rfl ?_); refine Kd.R_lit (Kd.int .i64) _ 3 ?hg (N := 8) ?hd (xs := ([(-2147483648), (-3), (-1), 0, 1, 3, 7, 65536, 2147483647, 2147483648] : List Int)) (inner := [.int .i64 (-2147483648), .int .i64 (-3), .int .i64 (-1), .int .i64 0, .int .i64 1, .int .i64 3, .int .i64 7, .int .i64 65536, .int .i64 2147483647, .int .i64 2147483648]) (ok := fun _ => True) (okp := fun _ => True) ?hr ?hp (fun _ hk => hk) trivial (Below.refl _ _) (Nat.le_refl _) (by simp) ?_; (case hd => rfl); (case hg => rfl); (case hr => first | (go_simp; done) | (go_simp; rfl)); (case hp => exact zhp); intro v349 w9 ho10 hb hg_ hnew_; clear hg_ hnew_; (first | rw [← Ny348.out] at ho10 | (simp only [Int.reduceToNat] at ho10; rw [← Ny348.out] at ho10)); have HO350 := Aside0.mk (Kd.R_lower ho10 (keep_size (w := w) (g := g) (row := none) (zK HK.out))); replace HK := zKB g (zK HK.out) hb; replace HB := zLB (zL1 HB.out (IsS102.ge HI0.out)) hb; replace HI0 := Aside0.mk (IsS102.below (zI HI0.out) hb); clear hb ho10; obtain ⟨Ao11, co11, eo11⟩ := Kd.R_slice HO350.out; subst eo11) | ((with_reducible refine gC 77 rfl ?_); refine gL 9 Try.func77 #[.pointer (some ⟨g, 0, none⟩), .slice Ao11 y348.length co11] ?_; (with_reducible refine (spec_l1Int.calls g s0_0 t343 t344 _ _ y348 t351 t352 t353 w0 _ ?side1 ?side2 ?side3 ?side4 ?side5 A7.out).mono ?_); (case side1 => exact zI HI0.out); (case side2 => exact zL1 HB.out (IsS102.ge HI0.out)); (case side3 => exact zC (Kd.R_reads' HO350.out).2.2); (case side4 => exact (Kd.R_reads' HO350.out).2.1); (case side5 => exact far_slice (IsS102.own_ne HI0.out HO350.out (by decide))); rintro e w12 ⟨rfl, hi, hb, hk⟩; refine ⟨_, rfl, ?_⟩; replace HO350 := Aside0.mk (Kd.R_mono (Kd.R_keep (IsS102.apart (show IsS102 w0 _ g s0_0 t343 t344 from zI HI0.out) (zR HO350.out) (by decide)) hk (fun _ h => h.2)) (fun _ h => h.1)); replace HK := zKK (zK HK.out) hk; replace HB := Aside0.mk hb; replace HI0 := Aside0.mk hi; clear hi hb hk))
  go_ret
  exact ⟨zW, zI HI0.out, zL1 HB.out (IsS102.ge HI0.out), zK HK.out⟩

open Go.Proofs.YtfhblnbicnmndaaW.PrintWords renaming blk_drewN → bN, blk_drew → bD, blk_alloc → bA, blk_cell → bC, blk_below → bB, below_set → bS
/-! ### spec_l1AnyName: function 93 -/
def spec_l1AnyName.f (s0_0 : List Int) (s0_1 : Int) (s0_2 : Int) : Option (ByteArray × Int × Int) := (spec_l1Once.f s0_0 s0_1 s0_2 2).bind fun bt354 => (if bt354.1 = true then ((spec_l1Names.f s0_0 bt354.2.1 bt354.2.2).bind fun bt357 => (some (bt357.1, bt357.2.1, bt357.2.2))) else ((spec_l1Str.f s0_0 bt354.2.1 bt354.2.2 (([(⟨#[]⟩ : ByteArray), (⟨#[75]⟩ : ByteArray), (⟨#[110, 105, 110, 101, 99, 104, 97, 114, 115]⟩ : ByteArray), (⟨#[101, 105, 103, 104, 116, 97, 98, 99]⟩ : ByteArray), (⟨#[97, 32, 98]⟩ : ByteArray), (⟨#[97, 49]⟩ : ByteArray), (⟨#[102, 97, 105, 108, 101, 100]⟩ : ByteArray), (⟨#[102, 97, 105, 108, 101, 100, 120]⟩ : ByteArray)] : List ByteArray))).bind fun bt363 => (some (bt363.1, bt363.2.1, bt363.2.2))))
set_option maxHeartbeats 8000000 in
set_option maxRecDepth 100000 in
theorem spec_l1AnyName.calls (g : Nat) (s0_0 : List Int) (s0_1 : Int) (s0_2 : Int) (r1 : ByteArray) (r2 : Int) (r3 : Int) (w0 w : World) (hI : IsS102 w0 w g s0_0 s0_1 s0_2) (hB : Below w0.heap.size w0 w) (h : spec_l1AnyName.f s0_0 s0_1 s0_2 = some (r1, r2, r3)) :
  Calls Try.prog 93 #[.pointer (some ⟨g, 0, none⟩)] w fun e w' => e = .returned (.string r1) ∧ IsS102 w0 w' g s0_0 r2 r3 ∧ Below w0.heap.size w0 w' ∧ KeepBut w w' g none := by
 have HI0 := Aside0.mk hI
 have HK := Aside0.mk (KeepBut.refl w g none)
 have HL := Aside0.mk hB.size
 clear hI
 have HW0 := Aside0.mk hB.size
 have HB := Aside0.mk hB
 clear hB
 unfold spec_l1AnyName.f at h; have H := h
 clear h
 obtain ⟨⟨t354, t355, t356⟩, A2, H⟩ := zO H; try dsimp only at H
 by_cases c3 : t354 = true
 ·subst c3
  rw [if_pos rfl] at H
  obtain ⟨⟨t357, t358, t359⟩, A4, H⟩ := zO H; try dsimp only at H
  simp only [Option.some.injEq, Prod.mk.injEq] at H
  obtain ⟨rfl, rfl, rfl⟩ := H
  go_enter Try.func93, Try.ntmps93
  go_wp2_with (first | ((with_reducible refine gC 73 rfl ?_); refine gL 4 Try.func73 #[.pointer (some ⟨g, 0, none⟩), .int .i64 2] ?_; (with_reducible refine (spec_l1Once.calls g s0_0 s0_1 s0_2 2 true t355 t356 w0 _ ?side1 ?side2 A2.out).mono ?_); (case side1 => exact zI HI0.out); (case side2 => exact zL1 HB.out (IsS102.ge HI0.out)); rintro e w5 ⟨rfl, hi, hb, hk⟩; refine ⟨_, rfl, ?_⟩; replace HK := zKK (zK HK.out) hk; replace HB := Aside0.mk hb; replace HI0 := Aside0.mk hi; clear hi hb hk) | ((with_reducible refine gC 90 rfl ?_); refine gL 6 Try.func90 #[.pointer (some ⟨g, 0, none⟩)] ?_; (with_reducible refine (spec_l1Names.calls g s0_0 t355 t356 t357 t358 t359 w0 _ ?side1 ?side2 A4.out).mono ?_); (case side1 => exact zI HI0.out); (case side2 => exact zL1 HB.out (IsS102.ge HI0.out)); rintro e w6 ⟨rfl, hi, hb, hk⟩; refine ⟨_, rfl, ?_⟩; replace HK := zKK (zK HK.out) hk; replace HB := Aside0.mk hb; replace HI0 := Aside0.mk hi; clear hi hb hk))
  go_ret
  exact ⟨zW, zI HI0.out, zL1 HB.out (IsS102.ge HI0.out), zK HK.out⟩
 ·obtain rfl := Bool.eq_false_iff.mpr c3
  rw [if_neg zn] at H
  generalize hy360 : (([(⟨#[]⟩ : ByteArray), (⟨#[75]⟩ : ByteArray), (⟨#[110, 105, 110, 101, 99, 104, 97, 114, 115]⟩ : ByteArray), (⟨#[101, 105, 103, 104, 116, 97, 98, 99]⟩ : ByteArray), (⟨#[97, 32, 98]⟩ : ByteArray), (⟨#[97, 49]⟩ : ByteArray), (⟨#[102, 97, 105, 108, 101, 100]⟩ : ByteArray), (⟨#[102, 97, 105, 108, 101, 100, 120]⟩ : ByteArray)] : List ByteArray)) = y360 at H; (try rw [Option.bind_some] at H); have Ny360 := Aside0.mk hy360.symm; clear hy360
  obtain ⟨⟨t363, t364, t365⟩, A7, H⟩ := zO H; try dsimp only at H
  simp only [Option.some.injEq, Prod.mk.injEq] at H
  obtain ⟨rfl, rfl, rfl⟩ := H
  go_enter Try.func93, Try.ntmps93
  go_wp2_with (first | ((with_reducible refine gC 73 rfl ?_); refine gL 4 Try.func73 #[.pointer (some ⟨g, 0, none⟩), .int .i64 2] ?_; (with_reducible refine (spec_l1Once.calls g s0_0 s0_1 s0_2 2 false t355 t356 w0 _ ?side1 ?side2 A2.out).mono ?_); (case side1 => exact zI HI0.out); (case side2 => exact zL1 HB.out (IsS102.ge HI0.out)); rintro e w8 ⟨rfl, hi, hb, hk⟩; refine ⟨_, rfl, ?_⟩; replace HK := zKK (zK HK.out) hk; replace HB := Aside0.mk hb; replace HI0 := Aside0.mk hi; clear hi hb hk) | ((with_reducible refine gD 8 rfl ?_); refine Kd.R_lit Kd.string _ 9 ?hg (N := 8) ?hd (xs := ([(⟨#[]⟩ : ByteArray), (⟨#[75]⟩ : ByteArray), (⟨#[110, 105, 110, 101, 99, 104, 97, 114, 115]⟩ : ByteArray), (⟨#[101, 105, 103, 104, 116, 97, 98, 99]⟩ : ByteArray), (⟨#[97, 32, 98]⟩ : ByteArray), (⟨#[97, 49]⟩ : ByteArray), (⟨#[102, 97, 105, 108, 101, 100]⟩ : ByteArray), (⟨#[102, 97, 105, 108, 101, 100, 120]⟩ : ByteArray)] : List ByteArray)) (inner := [.string (⟨#[]⟩ : ByteArray), .string (⟨#[75]⟩ : ByteArray), .string (⟨#[110, 105, 110, 101, 99, 104, 97, 114, 115]⟩ : ByteArray), .string (⟨#[101, 105, 103, 104, 116, 97, 98, 99]⟩ : ByteArray), .string (⟨#[97, 32, 98]⟩ : ByteArray), .string (⟨#[97, 49]⟩ : ByteArray), .string (⟨#[102, 97, 105, 108, 101, 100]⟩ : ByteArray), .string (⟨#[102, 97, 105, 108, 101, 100, 120]⟩ : ByteArray)]) (ok := fun _ => True) (okp := fun _ => True) ?hr ?hp (fun _ hk => hk) trivial (Below.refl _ _) (Nat.le_refl _) (by simp) ?_; (case hd => rfl); (case hg => rfl); (case hr => first | (go_simp; done) | (go_simp; rfl)); (case hp => exact zhp); intro v361 w9 ho10 hb hg_ hnew_; clear hg_ hnew_; (first | rw [← Ny360.out] at ho10 | (simp only [Int.reduceToNat] at ho10; rw [← Ny360.out] at ho10)); have HO362 := Aside0.mk (Kd.R_lower ho10 (keep_size (w := w) (g := g) (row := none) (zK HK.out))); replace HK := zKB g (zK HK.out) hb; replace HB := zLB (zL1 HB.out (IsS102.ge HI0.out)) hb; replace HI0 := Aside0.mk (IsS102.below (zI HI0.out) hb); clear hb ho10; obtain ⟨Ao11, co11, eo11⟩ := Kd.R_slice HO362.out; subst eo11) | ((with_reducible refine gC 91 rfl ?_); refine gL 9 Try.func91 #[.pointer (some ⟨g, 0, none⟩), .slice Ao11 y360.length co11] ?_; (with_reducible refine (spec_l1Str.calls g s0_0 t355 t356 _ _ y360 t363 t364 t365 w0 _ ?side1 ?side2 ?side3 ?side4 ?side5 A7.out).mono ?_); (case side1 => exact zI HI0.out); (case side2 => exact zL1 HB.out (IsS102.ge HI0.out)); (case side3 => exact zC (Kd.R_reads' HO362.out).2.2); (case side4 => exact (Kd.R_reads' HO362.out).2.1); (case side5 => exact far_slice (IsS102.own_ne HI0.out HO362.out (by decide))); rintro e w12 ⟨rfl, hi, hb, hk⟩; refine ⟨_, rfl, ?_⟩; replace HO362 := Aside0.mk (Kd.R_mono (Kd.R_keep (IsS102.apart (show IsS102 w0 _ g s0_0 t355 t356 from zI HI0.out) (zR HO362.out) (by decide)) hk (fun _ h => h.2)) (fun _ h => h.1)); replace HK := zKK (zK HK.out) hk; replace HB := Aside0.mk hb; replace HI0 := Aside0.mk hi; clear hi hb hk))
  go_ret
  exact ⟨zW, zI HI0.out, zL1 HB.out (IsS102.ge HI0.out), zK HK.out⟩

open Go.Proofs.YtfhblnbicnmndaaW.PrintWords renaming blk_drewN → bN, blk_drew → bD, blk_alloc → bA, blk_cell → bC, blk_below → bB, below_set → bS
/-! ### spec_l1Plain: function 94 -/
def spec_l1Plain.f (s0_0 : List Int) (s0_1 : Int) (s0_2 : Int) : Option (ByteArray × Int × Int) := (spec_l1Once.f s0_0 s0_1 s0_2 6).bind fun bt366 => (if bt366.1 = true then ((spec_l1Str.f s0_0 bt366.2.1 bt366.2.2 (([(⟨#[]⟩ : ByteArray), (⟨#[34]⟩ : ByteArray), (⟨#[127]⟩ : ByteArray), (⟨#[31]⟩ : ByteArray), (⟨#[116, 119, 101, 110, 116, 121, 32, 98, 121, 116, 101, 115, 32, 97, 114, 101, 32, 104, 101, 114, 101]⟩ : ByteArray), (⟨#[116, 119, 101, 110, 116, 121, 98, 121, 116, 101, 115, 97, 114, 101, 104, 101, 114, 101, 50, 48]⟩ : ByteArray), (⟨#[126, 32]⟩ : ByteArray)] : List ByteArray))).bind fun bt372 => (some (bt372.1, bt372.2.1, bt372.2.2))) else ((spec_l1Str.f s0_0 bt366.2.1 bt366.2.2 (([(⟨#[97]⟩ : ByteArray), (⟨#[98]⟩ : ByteArray), (⟨#[111, 107]⟩ : ByteArray), (⟨#[120, 32, 121]⟩ : ByteArray)] : List ByteArray))).bind fun bt378 => (some (bt378.1, bt378.2.1, bt378.2.2))))
set_option maxHeartbeats 8000000 in
set_option maxRecDepth 100000 in
theorem spec_l1Plain.calls (g : Nat) (s0_0 : List Int) (s0_1 : Int) (s0_2 : Int) (r1 : ByteArray) (r2 : Int) (r3 : Int) (w0 w : World) (hI : IsS102 w0 w g s0_0 s0_1 s0_2) (hB : Below w0.heap.size w0 w) (h : spec_l1Plain.f s0_0 s0_1 s0_2 = some (r1, r2, r3)) :
  Calls Try.prog 94 #[.pointer (some ⟨g, 0, none⟩)] w fun e w' => e = .returned (.string r1) ∧ IsS102 w0 w' g s0_0 r2 r3 ∧ Below w0.heap.size w0 w' ∧ KeepBut w w' g none := by
 have HI0 := Aside0.mk hI
 have HK := Aside0.mk (KeepBut.refl w g none)
 have HL := Aside0.mk hB.size
 clear hI
 have HW0 := Aside0.mk hB.size
 have HB := Aside0.mk hB
 clear hB
 unfold spec_l1Plain.f at h; have H := h
 clear h
 obtain ⟨⟨t366, t367, t368⟩, A2, H⟩ := zO H; try dsimp only at H
 by_cases c3 : t366 = true
 ·subst c3
  rw [if_pos rfl] at H
  generalize hy369 : (([(⟨#[]⟩ : ByteArray), (⟨#[34]⟩ : ByteArray), (⟨#[127]⟩ : ByteArray), (⟨#[31]⟩ : ByteArray), (⟨#[116, 119, 101, 110, 116, 121, 32, 98, 121, 116, 101, 115, 32, 97, 114, 101, 32, 104, 101, 114, 101]⟩ : ByteArray), (⟨#[116, 119, 101, 110, 116, 121, 98, 121, 116, 101, 115, 97, 114, 101, 104, 101, 114, 101, 50, 48]⟩ : ByteArray), (⟨#[126, 32]⟩ : ByteArray)] : List ByteArray)) = y369 at H; (try rw [Option.bind_some] at H); have Ny369 := Aside0.mk hy369.symm; clear hy369
  obtain ⟨⟨t372, t373, t374⟩, A4, H⟩ := zO H; try dsimp only at H
  simp only [Option.some.injEq, Prod.mk.injEq] at H
  obtain ⟨rfl, rfl, rfl⟩ := H
  go_enter Try.func94, Try.ntmps94
  go_wp2_with (first | ((with_reducible refine gC 73 rfl ?_); refine gL 4 Try.func73 #[.pointer (some ⟨g, 0, none⟩), .int .i64 6] ?_; (with_reducible refine (spec_l1Once.calls g s0_0 s0_1 s0_2 6 true t367 t368 w0 _ ?side1 ?side2 A2.out).mono ?_); (case side1 => exact zI HI0.out); (case side2 => exact zL1 HB.out (IsS102.ge HI0.out)); rintro e w5 ⟨rfl, hi, hb, hk⟩; refine ⟨_, rfl, ?_⟩; replace HK := zKK (zK HK.out) hk; replace HB := Aside0.mk hb; replace HI0 := Aside0.mk hi; clear hi hb hk) | ((with_reducible refine gD 6 rfl ?_); refine Kd.R_lit Kd.string _ 9 ?hg (N := 6) ?hd (xs := ([(⟨#[]⟩ : ByteArray), (⟨#[34]⟩ : ByteArray), (⟨#[127]⟩ : ByteArray), (⟨#[31]⟩ : ByteArray), (⟨#[116, 119, 101, 110, 116, 121, 32, 98, 121, 116, 101, 115, 32, 97, 114, 101, 32, 104, 101, 114, 101]⟩ : ByteArray), (⟨#[116, 119, 101, 110, 116, 121, 98, 121, 116, 101, 115, 97, 114, 101, 104, 101, 114, 101, 50, 48]⟩ : ByteArray), (⟨#[126, 32]⟩ : ByteArray)] : List ByteArray)) (inner := [.string (⟨#[]⟩ : ByteArray), .string (⟨#[34]⟩ : ByteArray), .string (⟨#[127]⟩ : ByteArray), .string (⟨#[31]⟩ : ByteArray), .string (⟨#[116, 119, 101, 110, 116, 121, 32, 98, 121, 116, 101, 115, 32, 97, 114, 101, 32, 104, 101, 114, 101]⟩ : ByteArray), .string (⟨#[116, 119, 101, 110, 116, 121, 98, 121, 116, 101, 115, 97, 114, 101, 104, 101, 114, 101, 50, 48]⟩ : ByteArray), .string (⟨#[126, 32]⟩ : ByteArray)]) (ok := fun _ => True) (okp := fun _ => True) ?hr ?hp (fun _ hk => hk) trivial (Below.refl _ _) (Nat.le_refl _) (by simp) ?_; (case hd => rfl); (case hg => rfl); (case hr => first | (go_simp; done) | (go_simp; rfl)); (case hp => exact zhp); intro v370 w6 ho7 hb hg_ hnew_; clear hg_ hnew_; (first | rw [← Ny369.out] at ho7 | (simp only [Int.reduceToNat] at ho7; rw [← Ny369.out] at ho7)); have HO371 := Aside0.mk (Kd.R_lower ho7 (keep_size (w := w) (g := g) (row := none) (zK HK.out))); replace HK := zKB g (zK HK.out) hb; replace HB := zLB (zL1 HB.out (IsS102.ge HI0.out)) hb; replace HI0 := Aside0.mk (IsS102.below (zI HI0.out) hb); clear hb ho7; obtain ⟨Ao8, co8, eo8⟩ := Kd.R_slice HO371.out; subst eo8) | ((with_reducible refine gC 91 rfl ?_); refine gL 7 Try.func91 #[.pointer (some ⟨g, 0, none⟩), .slice Ao8 y369.length co8] ?_; (with_reducible refine (spec_l1Str.calls g s0_0 t367 t368 _ _ y369 t372 t373 t374 w0 _ ?side1 ?side2 ?side3 ?side4 ?side5 A4.out).mono ?_); (case side1 => exact zI HI0.out); (case side2 => exact zL1 HB.out (IsS102.ge HI0.out)); (case side3 => exact zC (Kd.R_reads' HO371.out).2.2); (case side4 => exact (Kd.R_reads' HO371.out).2.1); (case side5 => exact far_slice (IsS102.own_ne HI0.out HO371.out (by decide))); rintro e w9 ⟨rfl, hi, hb, hk⟩; refine ⟨_, rfl, ?_⟩; replace HO371 := Aside0.mk (Kd.R_mono (Kd.R_keep (IsS102.apart (show IsS102 w0 _ g s0_0 t367 t368 from zI HI0.out) (zR HO371.out) (by decide)) hk (fun _ h => h.2)) (fun _ h => h.1)); replace HK := zKK (zK HK.out) hk; replace HB := Aside0.mk hb; replace HI0 := Aside0.mk hi; clear hi hb hk))
  go_ret
  exact ⟨zW, zI HI0.out, zL1 HB.out (IsS102.ge HI0.out), zK HK.out⟩
 ·obtain rfl := Bool.eq_false_iff.mpr c3
  rw [if_neg zn] at H
  generalize hy375 : (([(⟨#[97]⟩ : ByteArray), (⟨#[98]⟩ : ByteArray), (⟨#[111, 107]⟩ : ByteArray), (⟨#[120, 32, 121]⟩ : ByteArray)] : List ByteArray)) = y375 at H; (try rw [Option.bind_some] at H); have Ny375 := Aside0.mk hy375.symm; clear hy375
  obtain ⟨⟨t378, t379, t380⟩, A10, H⟩ := zO H; try dsimp only at H
  simp only [Option.some.injEq, Prod.mk.injEq] at H
  obtain ⟨rfl, rfl, rfl⟩ := H
  go_enter Try.func94, Try.ntmps94
  go_wp2_with (first | ((with_reducible refine gC 73 rfl ?_); refine gL 4 Try.func73 #[.pointer (some ⟨g, 0, none⟩), .int .i64 6] ?_; (with_reducible refine (spec_l1Once.calls g s0_0 s0_1 s0_2 6 false t367 t368 w0 _ ?side1 ?side2 A2.out).mono ?_); (case side1 => exact zI HI0.out); (case side2 => exact zL1 HB.out (IsS102.ge HI0.out)); rintro e w11 ⟨rfl, hi, hb, hk⟩; refine ⟨_, rfl, ?_⟩; replace HK := zKK (zK HK.out) hk; replace HB := Aside0.mk hb; replace HI0 := Aside0.mk hi; clear hi hb hk) | ((with_reducible refine gD 9 rfl ?_); refine Kd.R_lit Kd.string _ 9 ?hg (N := 9) ?hd (xs := ([(⟨#[97]⟩ : ByteArray), (⟨#[98]⟩ : ByteArray), (⟨#[111, 107]⟩ : ByteArray), (⟨#[120, 32, 121]⟩ : ByteArray)] : List ByteArray)) (inner := [.string (⟨#[97]⟩ : ByteArray), .string (⟨#[98]⟩ : ByteArray), .string (⟨#[111, 107]⟩ : ByteArray), .string (⟨#[120, 32, 121]⟩ : ByteArray)]) (ok := fun _ => True) (okp := fun _ => True) ?hr ?hp (fun _ hk => hk) trivial (Below.refl _ _) (Nat.le_refl _) (by simp) ?_; (case hd => rfl); (case hg => rfl); (case hr => first | (go_simp; done) | (go_simp; rfl)); (case hp => exact zhp); intro v376 w12 ho13 hb hg_ hnew_; clear hg_ hnew_; (first | rw [← Ny375.out] at ho13 | (simp only [Int.reduceToNat] at ho13; rw [← Ny375.out] at ho13)); have HO377 := Aside0.mk (Kd.R_lower ho13 (keep_size (w := w) (g := g) (row := none) (zK HK.out))); replace HK := zKB g (zK HK.out) hb; replace HB := zLB (zL1 HB.out (IsS102.ge HI0.out)) hb; replace HI0 := Aside0.mk (IsS102.below (zI HI0.out) hb); clear hb ho13; obtain ⟨Ao14, co14, eo14⟩ := Kd.R_slice HO377.out; subst eo14) | ((with_reducible refine gC 91 rfl ?_); refine gL 10 Try.func91 #[.pointer (some ⟨g, 0, none⟩), .slice Ao14 y375.length co14] ?_; (with_reducible refine (spec_l1Str.calls g s0_0 t367 t368 _ _ y375 t378 t379 t380 w0 _ ?side1 ?side2 ?side3 ?side4 ?side5 A10.out).mono ?_); (case side1 => exact zI HI0.out); (case side2 => exact zL1 HB.out (IsS102.ge HI0.out)); (case side3 => exact zC (Kd.R_reads' HO377.out).2.2); (case side4 => exact (Kd.R_reads' HO377.out).2.1); (case side5 => exact far_slice (IsS102.own_ne HI0.out HO377.out (by decide))); rintro e w15 ⟨rfl, hi, hb, hk⟩; refine ⟨_, rfl, ?_⟩; replace HO377 := Aside0.mk (Kd.R_mono (Kd.R_keep (IsS102.apart (show IsS102 w0 _ g s0_0 t367 t368 from zI HI0.out) (zR HO377.out) (by decide)) hk (fun _ h => h.2)) (fun _ h => h.1)); replace HK := zKK (zK HK.out) hk; replace HB := Aside0.mk hb; replace HI0 := Aside0.mk hi; clear hi hb hk))
  go_ret
  exact ⟨zW, zI HI0.out, zL1 HB.out (IsS102.ge HI0.out), zK HK.out⟩

end Go.Proofs.Ytfhblnbicnmndaa.QFnJudges
