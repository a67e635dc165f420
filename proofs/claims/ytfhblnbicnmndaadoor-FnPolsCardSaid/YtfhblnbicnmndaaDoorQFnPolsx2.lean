/- What the Go functions that the law FnPols reaches answer: each as a Lean function, with its walk. Written by a program of this session. Conditions: those that each theorem names. -/
import Derived.Test.YtfhblnbicnmndaaDoorQFnPolsx0
import Derived.Test.YtfhblnbicnmndaaDoorQFnPolsx1
namespace Go.Proofs.YtfhblnbicnmndaaDoor.QFnPols
open Go.RowKit Go.Proofs.YtfhblnbicnmndaaDoorW.PrintWords Go.Proofs.YtfhblnbicnmndaaDoorW.PrintLast Go.Proofs.YtfhblnbicnmndaaDoorW.PrintMore
attribute [local go_sem] max2_int min2_int max_two min_two max_three min_three max_four min_four   -- for this text's walks alone
set_option linter.unusedVariables false
set_option linter.unusedSimpArgs false

open Go.Proofs.YtfhblnbicnmndaaDoorW.PrintWords renaming blk_drewN → bN, blk_drew → bD, blk_alloc → bA, blk_cell → bC, blk_below → bB, below_set → bS
/-! ### spec_l5Draw: function 37 -/
mutual
def spec_l5Draw.j0 : Nat → Int → Bool → List Int → Int → Int → Int → Int → ByteArray → ByteArray → Option (Int × Int × ByteArray × ByteArray × (List (S26)) × Int × Int)
 | 0, _, _, _, _, _, _, _, _, _ => none
 | k + 1, x1, x19, x1000, x1001, x1002, x139000, x139001, x139002, x139003 => if x19 = true then ((spec_l1Below.f x1000 x1001 x1002 6).bind fun bt139 => (spec_l5Draw.j1 k x1 x1000 bt139.2.1 bt139.2.2 (wrap64 (1 + bt139.1)) x139001 x139002 x139003)) else (spec_l5Draw.j1 k x1 x1000 x1001 x1002 x139000 x139001 x139002 x139003)
def spec_l5Draw.j1 : Nat → Int → List Int → Int → Int → Int → Int → ByteArray → ByteArray → Option (Int × Int × ByteArray × ByteArray × (List (S26)) × Int × Int)
 | 0, _, _, _, _, _, _, _, _ => none
 | k + 1, x1, x1000, x1001, x1002, x139000, x139001, x139002, x139003 => if x139000 = 3 then ((spec_l1Int.f x1000 x1001 x1002 (([0, 1, 5, 20] : List Int))).bind fun bt145 => (some (x139000, bt145.1, x139002, x139003, ([] : List (S26)), bt145.2.1, bt145.2.2))) else (if x139000 = 4 then ((spec_l1Names.f x1000 x1001 x1002).bind fun bt148 => ((spec_l1Str.f x1000 bt148.2.1 bt148.2.2 (([(⟨#[97]⟩ : ByteArray), (⟨#[98]⟩ : ByteArray), (⟨#[111, 107]⟩ : ByteArray)] : List ByteArray))).bind fun bt154 => (some (x139000, x139001, bt148.1, bt154.1, ([] : List (S26)), bt154.2.1, bt154.2.2)))) else (if x139000 = 5 then ((spec_l1Names.f x1000 x1001 x1002).bind fun bt157 => ((spec_l1Int.f x1000 bt157.2.1 bt157.2.2 (([0, 1, 200, 500] : List Int))).bind fun bt163 => (some (x139000, bt163.1, bt157.1, x139003, ([] : List (S26)), bt163.2.1, bt163.2.2)))) else (if x139000 = 7 then (spec_l5Draw.j2 k x1 x139000 (x139000 == 7) x1000 x1001 x1002 x139000 x139001 x139002 x139003) else (spec_l5Draw.j2 k x1 x139000 (x139000 == 8) x1000 x1001 x1002 x139000 x139001 x139002 x139003))))
def spec_l5Draw.j2 : Nat → Int → Int → Bool → List Int → Int → Int → Int → Int → ByteArray → ByteArray → Option (Int × Int × ByteArray × ByteArray × (List (S26)) × Int × Int)
 | 0, _, _, _, _, _, _, _, _, _, _ => none
 | k + 1, x1, x25, x50, x1000, x1001, x1002, x139000, x139001, x139002, x139003 => if x50 = true then ((spec_l1Below.f x1000 x1001 x1002 2).bind fun bt166 => (spec_l5Draw.l0 k x1 (wrap64 (1 + bt166.1)) x1000 bt166.2.1 bt166.2.2 x139000 x139001 x139002 x139003 ([] : List (S26)))) else (if x25 = 9 then ((spec_l5Draw.f k x1000 x1001 x1002 (wrap64 (x1 - 1))).bind fun bt182 => (if ([] : List (S26)).length < 1954687338268 then (some (x139000, x139001, x139002, x139003, (([] : List (S26)) ++ [(⟨bt182.1, bt182.2.1, bt182.2.2.1, bt182.2.2.2.1, bt182.2.2.2.2.1⟩ : S26)]), bt182.2.2.2.2.2.1, bt182.2.2.2.2.2.2)) else (none))) else (some (x139000, x139001, x139002, x139003, ([] : List (S26)), x1001, x1002)))
def spec_l5Draw.l0 : Nat → Int → Int → List Int → Int → Int → Int → Int → ByteArray → ByteArray → List (S26) → Option (Int × Int × ByteArray × ByteArray × (List (S26)) × Int × Int)
 | 0, _, _, _, _, _, _, _, _, _, _ => none
 | k + 1, x1, x6, x1000, x1001, x1002, x139000, x139001, x139002, x139003, x139004 => if x6 > 0 then ((spec_l5Draw.f k x1000 x1001 x1002 (wrap64 (x1 - 1))).bind fun bt169 => (if x139004.length < 1954687338268 then (spec_l5Draw.l0 k x1 (wrap64 (x6 - 1)) x1000 bt169.2.2.2.2.2.1 bt169.2.2.2.2.2.2 x139000 x139001 x139002 x139003 (x139004 ++ [(⟨bt169.1, bt169.2.1, bt169.2.2.1, bt169.2.2.2.1, bt169.2.2.2.2.1⟩ : S26)])) else (none))) else (some (x139000, x139001, x139002, x139003, x139004, x1001, x1002))
def spec_l5Draw.f : Nat → List Int → Int → Int → Int → Option (Int × Int × ByteArray × ByteArray × (List (S26)) × Int × Int)
 | 0, _, _, _, _ => none
 | k + 1, s0_0, s0_1, s0_2, a1 => (spec_l1Int.f s0_0 s0_1 s0_2 (([1, 2, 3, 4, 5, 6, 6, 7, 8, 9] : List Int))).bind fun bt135 => (if a1 = 1 then (spec_l5Draw.j0 k a1 (decide (bt135.1 ≥ 7)) s0_0 bt135.2.1 bt135.2.2 bt135.1 0 (⟨#[]⟩ : ByteArray) (⟨#[]⟩ : ByteArray)) else (spec_l5Draw.j0 k a1 false s0_0 bt135.2.1 bt135.2.2 bt135.1 0 (⟨#[]⟩ : ByteArray) (⟨#[]⟩ : ByteArray)))
end
theorem spec_l5Draw.mono_l : ∀ k, (∀ y0 y1 y2 y3, LeO (spec_l5Draw.f k y0 y1 y2 y3) (spec_l5Draw.f (k + 1) y0 y1 y2 y3)) ∧ (∀ y0 y1 y2 y3 y4 y5 y6 y7 y8, LeO (spec_l5Draw.j0 k y0 y1 y2 y3 y4 y5 y6 y7 y8) (spec_l5Draw.j0 (k + 1) y0 y1 y2 y3 y4 y5 y6 y7 y8)) ∧ (∀ y0 y1 y2 y3 y4 y5 y6 y7, LeO (spec_l5Draw.j1 k y0 y1 y2 y3 y4 y5 y6 y7) (spec_l5Draw.j1 (k + 1) y0 y1 y2 y3 y4 y5 y6 y7)) ∧ (∀ y0 y1 y2 y3 y4 y5 y6 y7 y8 y9, LeO (spec_l5Draw.j2 k y0 y1 y2 y3 y4 y5 y6 y7 y8 y9) (spec_l5Draw.j2 (k + 1) y0 y1 y2 y3 y4 y5 y6 y7 y8 y9)) ∧ (∀ y0 y1 y2 y3 y4 y5 y6 y7 y8 y9, LeO (spec_l5Draw.l0 k y0 y1 y2 y3 y4 y5 y6 y7 y8 y9) (spec_l5Draw.l0 (k + 1) y0 y1 y2 y3 y4 y5 y6 y7 y8 y9))
 | 0 => ⟨fun _ _ _ _ r h => by simp [spec_l5Draw.f] at h, fun _ _ _ _ _ _ _ _ _ r h => by simp [spec_l5Draw.j0] at h, fun _ _ _ _ _ _ _ _ r h => by simp [spec_l5Draw.j1] at h, fun _ _ _ _ _ _ _ _ _ _ r h => by simp [spec_l5Draw.j2] at h, fun _ _ _ _ _ _ _ _ _ _ r h => by simp [spec_l5Draw.l0] at h⟩
 | k + 1 => by
  obtain ⟨ih0, ih1, ih2, ih3, ih4⟩ := spec_l5Draw.mono_l k
  refine ⟨?_, ?_, ?_, ?_, ?_⟩
  ·intro y0 y1 y2 y3
   unfold spec_l5Draw.f
   repeat' first
   | (with_reducible exact ih0 _ _ _ _)
   | (with_reducible exact ih1 _ _ _ _ _ _ _ _ _)
   | (with_reducible exact ih2 _ _ _ _ _ _ _ _)
   | (with_reducible exact ih3 _ _ _ _ _ _ _ _ _ _)
   | (with_reducible exact ih4 _ _ _ _ _ _ _ _ _ _)
   | (with_reducible exact LeO.refl _)
   | (with_reducible exact LeO.none _)
   | (with_reducible refine LeO.ite ?_ ?_)
   | (with_reducible refine LeO.bind ?_ (fun _ => ?_))
   | exact ih0 _ _ _ _
   | exact ih1 _ _ _ _ _ _ _ _ _
   | exact ih2 _ _ _ _ _ _ _ _
   | exact ih3 _ _ _ _ _ _ _ _ _ _
   | exact ih4 _ _ _ _ _ _ _ _ _ _
   | exact LeO.none _
   | refine LeO.ite ?_ ?_
   | refine LeO.bind ?_ (fun _ => ?_)
  ·intro y0 y1 y2 y3 y4 y5 y6 y7 y8
   unfold spec_l5Draw.j0
   repeat' first
   | (with_reducible exact ih0 _ _ _ _)
   | (with_reducible exact ih1 _ _ _ _ _ _ _ _ _)
   | (with_reducible exact ih2 _ _ _ _ _ _ _ _)
   | (with_reducible exact ih3 _ _ _ _ _ _ _ _ _ _)
   | (with_reducible exact ih4 _ _ _ _ _ _ _ _ _ _)
   | (with_reducible exact LeO.refl _)
   | (with_reducible exact LeO.none _)
   | (with_reducible refine LeO.ite ?_ ?_)
   | (with_reducible refine LeO.bind ?_ (fun _ => ?_))
   | exact ih0 _ _ _ _
   | exact ih1 _ _ _ _ _ _ _ _ _
   | exact ih2 _ _ _ _ _ _ _ _
   | exact ih3 _ _ _ _ _ _ _ _ _ _
   | exact ih4 _ _ _ _ _ _ _ _ _ _
   | exact LeO.none _
   | refine LeO.ite ?_ ?_
   | refine LeO.bind ?_ (fun _ => ?_)
  ·intro y0 y1 y2 y3 y4 y5 y6 y7
   unfold spec_l5Draw.j1
   repeat' first
   | (with_reducible exact ih0 _ _ _ _)
   | (with_reducible exact ih1 _ _ _ _ _ _ _ _ _)
   | (with_reducible exact ih2 _ _ _ _ _ _ _ _)
   | (with_reducible exact ih3 _ _ _ _ _ _ _ _ _ _)
   | (with_reducible exact ih4 _ _ _ _ _ _ _ _ _ _)
   | (with_reducible exact LeO.refl _)
   | (with_reducible exact LeO.none _)
   | (with_reducible refine LeO.ite ?_ ?_)
   | (with_reducible refine LeO.bind ?_ (fun _ => ?_))
   | exact ih0 _ _ _ _
   | exact ih1 _ _ _ _ _ _ _ _ _
   | exact ih2 _ _ _ _ _ _ _ _
   | exact ih3 _ _ _ _ _ _ _ _ _ _
   | exact ih4 _ _ _ _ _ _ _ _ _ _
   | exact LeO.none _
   | refine LeO.ite ?_ ?_
   | refine LeO.bind ?_ (fun _ => ?_)
  ·intro y0 y1 y2 y3 y4 y5 y6 y7 y8 y9
   unfold spec_l5Draw.j2
   repeat' first
   | (with_reducible exact ih0 _ _ _ _)
   | (with_reducible exact ih1 _ _ _ _ _ _ _ _ _)
   | (with_reducible exact ih2 _ _ _ _ _ _ _ _)
   | (with_reducible exact ih3 _ _ _ _ _ _ _ _ _ _)
   | (with_reducible exact ih4 _ _ _ _ _ _ _ _ _ _)
   | (with_reducible exact LeO.refl _)
   | (with_reducible exact LeO.none _)
   | (with_reducible refine LeO.ite ?_ ?_)
   | (with_reducible refine LeO.bind ?_ (fun _ => ?_))
   | exact ih0 _ _ _ _
   | exact ih1 _ _ _ _ _ _ _ _ _
   | exact ih2 _ _ _ _ _ _ _ _
   | exact ih3 _ _ _ _ _ _ _ _ _ _
   | exact ih4 _ _ _ _ _ _ _ _ _ _
   | exact LeO.none _
   | refine LeO.ite ?_ ?_
   | refine LeO.bind ?_ (fun _ => ?_)
  ·intro y0 y1 y2 y3 y4 y5 y6 y7 y8 y9
   unfold spec_l5Draw.l0
   repeat' first
   | (with_reducible exact ih0 _ _ _ _)
   | (with_reducible exact ih1 _ _ _ _ _ _ _ _ _)
   | (with_reducible exact ih2 _ _ _ _ _ _ _ _)
   | (with_reducible exact ih3 _ _ _ _ _ _ _ _ _ _)
   | (with_reducible exact ih4 _ _ _ _ _ _ _ _ _ _)
   | (with_reducible exact LeO.refl _)
   | (with_reducible exact LeO.none _)
   | (with_reducible refine LeO.ite ?_ ?_)
   | (with_reducible refine LeO.bind ?_ (fun _ => ?_))
   | exact ih0 _ _ _ _
   | exact ih1 _ _ _ _ _ _ _ _ _
   | exact ih2 _ _ _ _ _ _ _ _
   | exact ih3 _ _ _ _ _ _ _ _ _ _
   | exact ih4 _ _ _ _ _ _ _ _ _ _
   | exact LeO.none _
   | refine LeO.ite ?_ ?_
   | refine LeO.bind ?_ (fun _ => ?_)
theorem spec_l5Draw.mono : ∀ a0 a1 a2 a3 k, LeO (spec_l5Draw.f k a0 a1 a2 a3) (spec_l5Draw.f (k + 1) a0 a1 a2 a3) := by
 intro a0 a1 a2 a3 k
 obtain ⟨ih0, ih1, ih2, ih3, ih4⟩ := spec_l5Draw.mono_l k
 exact ih0 a0 a1 a2 a3
set_option maxHeartbeats 8000000 in
set_option maxRecDepth 100000 in
theorem spec_l5Draw.calls (k : Nat) : ∀ (g : Nat) (s0_0 : List Int) (s0_1 : Int) (s0_2 : Int) (a1 : Int) (r1 : Int) (r2 : Int) (r3 : ByteArray) (r4 : ByteArray) (r5 : List (S26)) (r6 : Int) (r7 : Int) (w0 w : World) (hI : IsS53 w0 w g s0_0 s0_1 s0_2) (hB : Below w0.heap.size w0 w) (h : spec_l5Draw.f k s0_0 s0_1 s0_2 a1 = some (r1, r2, r3, r4, r5, r6, r7)),
  Calls Tryd.prog 37 #[.pointer (some ⟨g, 0, none⟩), .int .i64 a1] w fun e w' => ∃ v4_ : Value, e = .returned (.agg #[.int .i64 r1, .int .i64 r2, .string r3, .string r4, v4_]) ∧ Kd.R k26 26 w' w.heap.size (fun _ => True) v4_ r5 ∧ IsS53 w0 w' g s0_0 r6 r7 ∧ Below w0.heap.size w0 w' ∧ KeepBut w w' g none := by
 induction k using Nat.strongRecOn with
 | _ k ih =>
 intro g s0_0 s0_1 s0_2 a1 r1 r2 r3 r4 r5 r6 r7 w0 w hI hB h
 cases k with
 | zero => exact absurd h (by simp [spec_l5Draw.f])
 | succ k =>
 simp only [spec_l5Draw.f] at h
 have hu26 := Tryd.underlying26
 have HI0 := Aside0.mk hI
 have HK := Aside0.mk (KeepBut.refl w g none)
 have HL := Aside0.mk hB.size
 clear hI
 have HW0 := Aside0.mk hB.size
 have HB := Aside0.mk hB
 clear hB
 have H : ((spec_l1Int.f s0_0 s0_1 s0_2 (([1, 2, 3, 4, 5, 6, 6, 7, 8, 9] : List Int))).bind fun bt135 => (if a1 = 1 then (spec_l5Draw.j0 k a1 (decide (bt135.1 ≥ 7)) s0_0 bt135.2.1 bt135.2.2 bt135.1 0 (⟨#[]⟩ : ByteArray) (⟨#[]⟩ : ByteArray)) else (spec_l5Draw.j0 k a1 false s0_0 bt135.2.1 bt135.2.2 bt135.1 0 (⟨#[]⟩ : ByteArray) (⟨#[]⟩ : ByteArray)))) = some (r1, r2, r3, r4, r5, r6, r7) := h
 clear h
 generalize hy132 : (([1, 2, 3, 4, 5, 6, 6, 7, 8, 9] : List Int)) = y132 at H; (try rw [Option.bind_some] at H); have Ny132 := Aside0.mk hy132.symm; clear hy132
 obtain ⟨⟨t135, t136, t137⟩, A3, H⟩ := zO H; try dsimp only at H
 have HC4 := Aside0.mk H
 clear H
 go_enter Tryd.func37, Tryd.ntmps37
 go_upto_region 2 with (first | ((with_reducible refine gD 4 rfl ?_); refine bE 4 #[.int .i64 0, .int .i64 0, .string (⟨#[]⟩ : ByteArray), .string (⟨#[]⟩ : ByteArray), .slice none 0 0] 26 ?_; intro gb131 hg w5 hbox hb; replace HB := zLB (zL1 HB.out (IsS53.ge HI0.out)) hb; have BK131 := Aside0.mk hbox; have GW131 := Aside0.mk (zgK (g := g) (zK HK.out) hg : w.heap.size ≤ gb131); have GE131 := Aside0.mk ((Nat.le_trans HW0.out (zgK (g := g) (zK HK.out) hg : w.heap.size ≤ gb131) : w0.heap.size ≤ gb131)); replace HK := zKB g (zK HK.out) hb; have NB0_131 := Aside0.mk ((zNI (IsS53.lt (zI HI0.out : IsS53 w0 _ g s0_0 s0_1 s0_2)) hg : g ≠ gb131)); have NB131_0 := Aside0.mk ((zMI (IsS53.lt (zI HI0.out : IsS53 w0 _ g s0_0 s0_1 s0_2)) hg : gb131 ≠ g)); replace HI0 := Aside0.mk (IsS53.below (zI HI0.out) hb); clear hb hbox hg) | ((with_reducible refine gD 10 rfl ?_); refine Kd.R_lit (Kd.int .i64) _ 3 ?hg (N := 10) ?hd (xs := ([1, 2, 3, 4, 5, 6, 6, 7, 8, 9] : List Int)) (inner := [.int .i64 1, .int .i64 2, .int .i64 3, .int .i64 4, .int .i64 5, .int .i64 6, .int .i64 6, .int .i64 7, .int .i64 8, .int .i64 9]) (ok := fun _ => True) (okp := fun _ => True) ?hr ?hp (fun _ hk => hk) trivial (Below.refl _ _) (Nat.le_refl _) (by simp) ?_; (case hd => rfl); (case hg => rfl); (case hr => first | (go_simp; done) | (go_simp; rfl)); (case hp => exact zhp); intro v133 w6 ho7 hb hg_ hnew_; clear hg_ hnew_; (first | rw [← Ny132.out] at ho7 | (simp only [Int.reduceToNat] at ho7; rw [← Ny132.out] at ho7)); have HO134 := Aside0.mk (Kd.R_lower ho7 (keep_size (w := w) (g := g) (row := none) (zK1 HK.out GW131.out))); replace BK131 := zBB BK131 hb; replace HK := zKB g (zK1 HK.out GW131.out) hb; replace HB := zLB (zL2 HB.out (IsS53.ge HI0.out) GE131.out) hb; replace HI0 := Aside0.mk (IsS53.below (zI1 HI0.out NB0_131.out) hb); clear hb ho7; obtain ⟨Ao8, co8, eo8⟩ := Kd.R_slice HO134.out; subst eo8) | ((with_reducible refine gC 39 rfl ?_); refine gL 11 Tryd.func39 #[.pointer (some ⟨g, 0, none⟩), .slice Ao8 y132.length co8] ?_; (with_reducible refine (spec_l1Int.calls g s0_0 s0_1 s0_2 _ _ y132 t135 t136 t137 w0 _ ?side1 ?side2 ?side3 ?side4 ?side5 A3.out).mono ?_); (case side1 => exact zI1 HI0.out NB0_131.out); (case side2 => exact zL2 HB.out (IsS53.ge HI0.out) GE131.out); (case side3 => exact zC (Kd.R_reads' HO134.out).2.2); (case side4 => exact (Kd.R_reads' HO134.out).2.1); (case side5 => exact far_slice (IsS53.own_ne HI0.out HO134.out (by decide))); rintro e w9 ⟨rfl, hi, hb, hk⟩; refine ⟨_, rfl, ?_⟩; replace BK131 := zBK hk BK131 NB131_0; replace HO134 := Aside0.mk (Kd.R_mono (Kd.R_keep (IsS53.apart (show IsS53 w0 _ g s0_0 s0_1 s0_2 from zI1 HI0.out NB0_131.out) (zR HO134.out) (by decide)) hk (fun _ h => h.2)) (fun _ h => h.1)); replace HK := zKK (zK1 HK.out GW131.out) hk; replace HB := Aside0.mk hb; replace HI0 := Aside0.mk hi; clear hi hb hk) | ((with_reducible refine gD 5 rfl ?_); refine bE 5 #[.int .i64 0, .int .i64 0, .string (⟨#[]⟩ : ByteArray), .string (⟨#[]⟩ : ByteArray), .slice none 0 0] 26 ?_; intro gb138 hg w10 hbox hb; replace HO134 := zRB HO134 hb; replace HB := zLB (zL2 HB.out (IsS53.ge HI0.out) GE131.out) hb; have BK138 := Aside0.mk hbox; have GW138 := Aside0.mk (zgK (g := g) (zK1 HK.out GW131.out) hg : w.heap.size ≤ gb138); have GE138 := Aside0.mk ((Nat.le_trans HW0.out (zgK (g := g) (zK1 HK.out GW131.out) hg : w.heap.size ≤ gb138) : w0.heap.size ≤ gb138)); replace HK := zKB g (zK1 HK.out GW131.out) hb; have NB131_138 := Aside0.mk (zN BK131.out hg : gb131 ≠ gb138); have NB138_131 := Aside0.mk (zM BK131.out hg : gb138 ≠ gb131); replace BK131 := zBB BK131 hb; have NB0_138 := Aside0.mk ((zNI (IsS53.lt (zI1 HI0.out NB0_131.out : IsS53 w0 _ g s0_0 t136 t137)) hg : g ≠ gb138)); have NB138_0 := Aside0.mk ((zMI (IsS53.lt (zI1 HI0.out NB0_131.out : IsS53 w0 _ g s0_0 t136 t137)) hg : gb138 ≠ g)); replace HI0 := Aside0.mk (IsS53.below (zI1 HI0.out NB0_131.out) hb); clear hb hbox hg; have hnb11 := NB138_131.out; have hnc11 := NB131_138.out; have hnb12 := NB138_0.out; have hnc12 := NB0_138.out; have hcz13 := zc5 BK138.out; have hfz13 := zf5 BK138.out))
 (try simp only [Act.put, List.setIfInBounds_toArray, List.set_cons_zero, List.set_cons_succ])
 go_cut [19] (fun v19 wc => ∃ (kq : Nat) (x19_3 : Bool), v19 = .bool x19_3 ∧ Aside0 (spec_l5Draw.j0 kq a1 x19_3 s0_0 t136 t137 t135 0 (⟨#[]⟩ : ByteArray) (⟨#[]⟩ : ByteArray) = some (r1, r2, r3, r4, r5, r6, r7)) ∧ Aside0 (kq ≤ k) ∧ Aside0 (wc.heap[gb131]? = some (.cells #[.int .i64 0, .int .i64 0, .string (⟨#[]⟩ : ByteArray), .string (⟨#[]⟩ : ByteArray), (.slice none 0 0)] 26 (0, 0))) ∧ Aside0 (wc.heap[gb138]? = some (.cells #[.int .i64 t135, .int .i64 0, .string (⟨#[]⟩ : ByteArray), .string (⟨#[]⟩ : ByteArray), (.slice none 0 0)] 26 (0, 0))) ∧ Aside0 (IsS53 w0 wc g s0_0 t136 t137) ∧ Aside0 (KeepBut w wc g none) ∧ Aside0 (Below w0.heap.size w0 wc))
 case first =>
  have H := HC4.out
  clear HC4
  by_cases c14 : a1 = 1
  ·rw [if_pos c14] at H
   obtain ⟨c14b0, c14b1⟩ := zt c14
   clear c14
   (first | rw [c14b0] | (simp only [i64_w, i32_w]; rw [c14b0]) | skip)
   have H' := Aside0.mk H
   clear H
   have hnb15 := NB138_131.out
   have hnc15 := NB131_138.out
   have hnb16 := NB138_0.out
   have hnc16 := NB0_138.out
   have hcz17 := zc5 BK138.out
   have hfz17 := zf5 BK138.out
   go_wp2
   go_meet
   case rel => exact ⟨_, (decide (t135 ≥ 7)), zV, H', ⟨by first | omega | exact Nat.le_refl _⟩, ⟨by refine zB ?_; refine zr5 ?_ NB131_138.out; exact zB BK131.out⟩, ⟨by refine zB ?_; refine zp5 (cs := #[.int .i64 0, .int .i64 0, .string (⟨#[]⟩ : ByteArray), .string (⟨#[]⟩ : ByteArray), .slice none 0 0]) ?_; exact zB BK138.out⟩, ⟨zI2 HI0.out NB0_131.out NB0_138.out⟩, ⟨zK2 HK.out GW131.out GW138.out⟩, ⟨zL3 HB.out (IsS53.ge HI0.out) GE131.out GE138.out⟩⟩
  ·rw [if_neg c14] at H
   obtain ⟨c14b0, c14b1⟩ := zf c14
   (first | rw [c14b0] | (simp only [i64_w, i32_w]; rw [c14b0]) | skip)
   have H' := Aside0.mk H
   clear H
   go_wp2
   go_meet
   case rel => exact ⟨_, (false), zV, H', ⟨by first | omega | exact Nat.le_refl _⟩, ⟨by refine zB ?_; refine zr5 ?_ NB131_138.out; exact zB BK131.out⟩, ⟨by refine zB ?_; refine zp5 (cs := #[.int .i64 0, .int .i64 0, .string (⟨#[]⟩ : ByteArray), .string (⟨#[]⟩ : ByteArray), .slice none 0 0]) ?_; exact zB BK138.out⟩, ⟨zI2 HI0.out NB0_131.out NB0_138.out⟩, ⟨zK2 HK.out GW131.out GW138.out⟩, ⟨zL3 HB.out (IsS53.ge HI0.out) GE131.out GE138.out⟩⟩
 case rest =>
  clear HC4
  try clear c1
  try clear p2
  try clear c3
  try clear c11
  try clear c12
  try clear c14
  try clear c14b0
  try clear c14b1
  try clear c15
  try clear c16
  try clear hcz13; try clear hcz17; try clear hfz13; try clear hfz17
  obtain ⟨kq, x19_3, rfl, HA, HJ3, BK131, BK138, HI0, HK, HB⟩ := hcut
  cases kq with
  | zero => exact absurd HA.out (by simp [spec_l5Draw.j0])
  | succ kj3 =>
   have H := HA.out
   clear HA
   simp only [spec_l5Draw.j0] at H
   have HC18 := Aside0.mk H
   clear H
   go_upto_if 19 with (fail)
   go_cut [] (fun wc => ∃ (kq : Nat) (x1001_17 : Int) (x1002_17 : Int) (x139000_17 : Int), Aside0 (spec_l5Draw.j1 kq a1 s0_0 x1001_17 x1002_17 x139000_17 0 (⟨#[]⟩ : ByteArray) (⟨#[]⟩ : ByteArray) = some (r1, r2, r3, r4, r5, r6, r7)) ∧ Aside0 (kq ≤ kj3) ∧ Aside0 (wc.heap[gb131]? = some (.cells #[.int .i64 0, .int .i64 0, .string (⟨#[]⟩ : ByteArray), .string (⟨#[]⟩ : ByteArray), (.slice none 0 0)] 26 (0, 0))) ∧ Aside0 (wc.heap[gb138]? = some (.cells #[.int .i64 x139000_17, .int .i64 0, .string (⟨#[]⟩ : ByteArray), .string (⟨#[]⟩ : ByteArray), (.slice none 0 0)] 26 (0, 0))) ∧ Aside0 (IsS53 w0 wc g s0_0 x1001_17 x1002_17) ∧ Aside0 (KeepBut w wc g none) ∧ Aside0 (Below w0.heap.size w0 wc))
   case first =>
    have H := HC18.out
    clear HC18
    by_cases c19 : x19_3 = true
    ·subst c19
     rw [if_pos rfl] at H
     obtain ⟨⟨t139, t140, t141⟩, A20, H⟩ := zO H; try dsimp only at H
     have H' := Aside0.mk H
     clear H
     go_wp2_with (first | ((with_reducible refine gC 38 rfl ?_); refine gL 21 Tryd.func38 #[.pointer (some ⟨g, 0, none⟩), .int .i64 6] ?_; (with_reducible refine (spec_l1Below.calls g s0_0 t136 t137 6 t139 t140 t141 w0 _ ?side1 ?side2 A20.out).mono ?_); (case side1 => exact zI2 HI0.out NB0_131.out NB0_138.out); (case side2 => exact zL3 HB.out (IsS53.ge HI0.out) GE131.out GE138.out); rintro e w21 ⟨rfl, hi, hb, hk⟩; refine ⟨_, rfl, ?_⟩; replace BK131 := zBK hk BK131 NB131_0; replace BK138 := zBK hk BK138 NB138_0; replace HK := zKK (zK2 HK.out GW131.out GW138.out) hk; replace HB := Aside0.mk hb; replace HI0 := Aside0.mk hi; clear hi hb hk; have hnb22 := NB138_131.out; have hnc22 := NB131_138.out; have hnb23 := NB138_0.out; have hnc23 := NB0_138.out; have hcz24 := zc5 BK138.out; have hfz24 := zf5 BK138.out))
     go_meet
     case rel => exact ⟨_, (t140), (t141), (wrap64 (1 + t139)), H', ⟨by have := HJ3.out; first | omega | exact Nat.le_refl _⟩, ⟨by (with_reducible repeat (first | refine bN ?_ _ | refine bD ?_ | refine bA ?_ _)); refine blk_far ?_ NB131_138.out _; exact zB BK131.out⟩, ⟨by (with_reducible repeat (first | refine bN ?_ _ | refine bD ?_ | refine bA ?_ _)); refine blk_put (cs := #[.int .i64 t135, .int .i64 0, .string (⟨#[]⟩ : ByteArray), .string (⟨#[]⟩ : ByteArray), .slice none 0 0]) ?_ 0 _ rfl; exact zB BK138.out⟩, ⟨zI2 HI0.out NB0_131.out NB0_138.out⟩, ⟨zK2 HK.out GW131.out GW138.out⟩, ⟨zL3 HB.out (IsS53.ge HI0.out) GE131.out GE138.out⟩⟩
    ·obtain rfl := Bool.eq_false_iff.mpr c19
     rw [if_neg zn] at H
     have H' := Aside0.mk H
     clear H
     go_wp2
     go_meet
     case rel => exact ⟨_, (t136), (t137), (t135), H', ⟨by have := HJ3.out; first | omega | exact Nat.le_refl _⟩, ⟨zB BK131.out⟩, ⟨zB BK138.out⟩, ⟨zI2 HI0.out NB0_131.out NB0_138.out⟩, ⟨zK2 HK.out GW131.out GW138.out⟩, ⟨zL3 HB.out (IsS53.ge HI0.out) GE131.out GE138.out⟩⟩
   case rest =>
    clear HC18
    try clear c1
    try clear c2
    try clear p2
    try clear c3
    try clear p6
    try clear c11
    try clear c12
    try clear c14
    try clear c14b0
    try clear c14b1
    try clear c15
    try clear c16
    try clear c19
    try clear c22
    try clear c23
    try clear hcz13; try clear hcz17; try clear hcz24; try clear hfz13; try clear hfz17; try clear hfz24
    try clear p2
    obtain ⟨kq, x1001_17, x1002_17, x139000_17, HA, HJ17, BK131, BK138, HI0, HK, HB⟩ := hcut
    cases kq with
    | zero => exact absurd HA.out (by simp [spec_l5Draw.j1])
    | succ kj17 =>
     have H := HA.out
     clear HA
     simp only [spec_l5Draw.j1] at H
     by_cases c25 : x139000_17 = 3
     ·rw [if_pos c25] at H
      obtain ⟨c25b0, c25b1⟩ := zt c25
      clear c25
      generalize hy142 : (([0, 1, 5, 20] : List Int)) = y142 at H; (try rw [Option.bind_some] at H); have Ny142 := Aside0.mk hy142.symm; clear hy142
      obtain ⟨⟨t145, t146, t147⟩, A26, H⟩ := zO H; try dsimp only at H
      simp only [Option.some.injEq, Prod.mk.injEq] at H
      obtain ⟨rfl, rfl, rfl, rfl, rfl, rfl, rfl⟩ := H
      have hnb27 := NB138_131.out
      have hnc27 := NB131_138.out
      have hnb28 := NB138_0.out
      have hnc28 := NB0_138.out
      have hcz29 := zc5 BK138.out
      have hfz29 := zf5 BK138.out
      go_wp2_with (first | ((with_reducible refine gD 29 rfl ?_); refine Kd.R_lit (Kd.int .i64) _ 3 ?hg (N := 29) ?hd (xs := ([0, 1, 5, 20] : List Int)) (inner := [.int .i64 0, .int .i64 1, .int .i64 5, .int .i64 20]) (ok := fun _ => True) (okp := fun _ => True) ?hr ?hp (fun _ hk => hk) trivial (Below.refl _ _) (Nat.le_refl _) (by simp) ?_; (case hd => rfl); (case hg => rfl); (case hr => first | (go_simp; done) | (go_simp; rfl)); (case hp => exact zhp); intro v143 w30 ho31 hb hg_ hnew_; clear hg_ hnew_; (first | rw [← Ny142.out] at ho31 | (simp only [Int.reduceToNat] at ho31; rw [← Ny142.out] at ho31)); have HO144 := Aside0.mk (Kd.R_lower ho31 (keep_size (w := w) (g := g) (row := none) (zK2 HK.out GW131.out GW138.out))); replace BK131 := zBB BK131 hb; replace BK138 := zBB BK138 hb; replace HK := zKB g (zK2 HK.out GW131.out GW138.out) hb; replace HB := zLB (zL3 HB.out (IsS53.ge HI0.out) GE131.out GE138.out) hb; replace HI0 := Aside0.mk (IsS53.below (zI2 HI0.out NB0_131.out NB0_138.out) hb); clear hb ho31; obtain ⟨Ao32, co32, eo32⟩ := Kd.R_slice HO144.out; subst eo32) | ((with_reducible refine gC 39 rfl ?_); refine gL 30 Tryd.func39 #[.pointer (some ⟨g, 0, none⟩), .slice Ao32 y142.length co32] ?_; (with_reducible refine (spec_l1Int.calls g s0_0 x1001_17 x1002_17 _ _ y142 t145 t146 t147 w0 _ ?side1 ?side2 ?side3 ?side4 ?side5 A26.out).mono ?_); (case side1 => exact zI2 HI0.out NB0_131.out NB0_138.out); (case side2 => exact zL3 HB.out (IsS53.ge HI0.out) GE131.out GE138.out); (case side3 => exact zC (Kd.R_reads' HO144.out).2.2); (case side4 => exact (Kd.R_reads' HO144.out).2.1); (case side5 => exact far_slice (IsS53.own_ne HI0.out HO144.out (by decide))); rintro e w33 ⟨rfl, hi, hb, hk⟩; refine ⟨_, rfl, ?_⟩; replace BK131 := zBK hk BK131 NB131_0; replace BK138 := zBK hk BK138 NB138_0; replace HO144 := Aside0.mk (Kd.R_mono (Kd.R_keep (IsS53.apart (show IsS53 w0 _ g s0_0 x1001_17 x1002_17 from zI2 HI0.out NB0_131.out NB0_138.out) (zR HO144.out) (by decide)) hk (fun _ h => h.2)) (fun _ h => h.1)); replace HK := zKK (zK2 HK.out GW131.out GW138.out) hk; replace HB := Aside0.mk hb; replace HI0 := Aside0.mk hi; clear hi hb hk; have hcz34 := zc5 BK138.out; have hfz34 := zf5 BK138.out; have hnb35 := NB131_0.out; have hnc35 := NB0_131.out; have hcz36 := zc5 BK131.out; have hfz36 := zf5 BK131.out))
      refine bodyPost_ret (results_cell_row rfl _ _ gb131 26 #[.int .i64 x139000_17, .int .i64 t145, .string (⟨#[]⟩ : ByteArray), .string (⟨#[]⟩ : ByteArray), .slice none 0 0] (0, 0) _ rfl (by refine zB ?_; refine zp5 (cs := #[.int .i64 0, .int .i64 0, .string (⟨#[]⟩ : ByteArray), .string (⟨#[]⟩ : ByteArray), .slice none 0 0]) ?_; (with_reducible repeat (first | refine bN ?_ _ | refine bD ?_ | refine bA ?_ _)); refine blk_far ?_ NB131_138.out _; exact zB BK131.out) Tryd.underlying26 rfl (by kernel_rfl)) rfl ?_
      exact ⟨_, zW, by first | exact Kd.R_nil _ _ _ _ _ | exact Kd.N_nil _ _ _ _ _ | exact Kd.V_nil _ _ _ _ _ | exact Kd.Q_nil _ _ _ _ _ | exact Kd.S_nil _ _ _ _ _, zI2 HI0.out NB0_131.out NB0_138.out, zL3 HB.out (IsS53.ge HI0.out) GE131.out GE138.out, zK2 HK.out GW131.out GW138.out⟩
     ·rw [if_neg c25] at H
      obtain ⟨c25b0, c25b1⟩ := zf c25
      by_cases c37 : x139000_17 = 4
      ·rw [if_pos c37] at H
       obtain ⟨c37b0, c37b1⟩ := zt c37
       clear c37
       obtain ⟨⟨t148, t149, t150⟩, A38, H⟩ := zO H; try dsimp only at H
       generalize hy151 : (([(⟨#[97]⟩ : ByteArray), (⟨#[98]⟩ : ByteArray), (⟨#[111, 107]⟩ : ByteArray)] : List ByteArray)) = y151 at H; (try rw [Option.bind_some] at H); have Ny151 := Aside0.mk hy151.symm; clear hy151
       obtain ⟨⟨t154, t155, t156⟩, A39, H⟩ := zO H; try dsimp only at H
       simp only [Option.some.injEq, Prod.mk.injEq] at H
       obtain ⟨rfl, rfl, rfl, rfl, rfl, rfl, rfl⟩ := H
       have hnb40 := NB138_131.out
       have hnc40 := NB131_138.out
       have hnb41 := NB138_0.out
       have hnc41 := NB0_138.out
       have hcz42 := zc5 BK138.out
       have hfz42 := zf5 BK138.out
       go_wp2_with (first | ((with_reducible refine gC 49 rfl ?_); refine gL 35 Tryd.func49 #[.pointer (some ⟨g, 0, none⟩)] ?_; (with_reducible refine (spec_l1Names.calls g s0_0 x1001_17 x1002_17 t148 t149 t150 w0 _ ?side1 ?side2 A38.out).mono ?_); (case side1 => exact zI2 HI0.out NB0_131.out NB0_138.out); (case side2 => exact zL3 HB.out (IsS53.ge HI0.out) GE131.out GE138.out); rintro e w43 ⟨rfl, hi, hb, hk⟩; refine ⟨_, rfl, ?_⟩; replace BK131 := zBK hk BK131 NB131_0; replace BK138 := zBK hk BK138 NB138_0; replace HK := zKK (zK2 HK.out GW131.out GW138.out) hk; replace HB := Aside0.mk hb; replace HI0 := Aside0.mk hi; clear hi hb hk; have hcz44 := zc5 BK138.out; have hfz44 := zf5 BK138.out) | ((with_reducible refine gD 38 rfl ?_); refine Kd.R_lit Kd.string _ 9 ?hg (N := 38) ?hd (xs := ([(⟨#[97]⟩ : ByteArray), (⟨#[98]⟩ : ByteArray), (⟨#[111, 107]⟩ : ByteArray)] : List ByteArray)) (inner := [.string (⟨#[97]⟩ : ByteArray), .string (⟨#[98]⟩ : ByteArray), .string (⟨#[111, 107]⟩ : ByteArray)]) (ok := fun _ => True) (okp := fun _ => True) ?hr ?hp (fun _ hk => hk) trivial (Below.refl _ _) (Nat.le_refl _) (by simp) ?_; (case hd => rfl); (case hg => rfl); (case hr => first | (go_simp; done) | (go_simp; rfl)); (case hp => exact zhp); intro v152 w45 ho46 hb hg_ hnew_; clear hg_ hnew_; (first | rw [← Ny151.out] at ho46 | (simp only [Int.reduceToNat] at ho46; rw [← Ny151.out] at ho46)); have HO153 := Aside0.mk (Kd.R_lower ho46 (keep_size (w := w) (g := g) (row := none) (zK2 HK.out GW131.out GW138.out))); replace BK131 := Aside0.mk (bB (g := gb131) (o := .cells #[.int .i64 0, .int .i64 0, .string (⟨#[]⟩ : ByteArray), .string (⟨#[]⟩ : ByteArray), .slice none 0 0] 26 (0, 0)) (by (with_reducible repeat (first | refine bN ?_ _ | refine bD ?_ | refine bA ?_ _)); refine blk_far ?_ NB131_138.out _; exact zB BK131.out) hb); replace BK138 := Aside0.mk (bB (g := gb138) (o := .cells #[.int .i64 x139000_17, .int .i64 0, .string t148, .string (⟨#[]⟩ : ByteArray), .slice none 0 0] 26 (0, 0)) (by (with_reducible repeat (first | refine bN ?_ _ | refine bD ?_ | refine bA ?_ _)); refine blk_put (cs := #[.int .i64 x139000_17, .int .i64 0, .string (⟨#[]⟩ : ByteArray), .string (⟨#[]⟩ : ByteArray), .slice none 0 0]) ?_ 2 _ rfl; exact zB BK138.out) hb); replace HK := zKB g (zK2 HK.out GW131.out GW138.out) hb; replace HB := zLB (zL3 HB.out (IsS53.ge HI0.out) GE131.out GE138.out) hb; replace HI0 := Aside0.mk (IsS53.below (show IsS53 w0 (w43.setCell ⟨gb138, 2, none⟩ (.string t148)) g s0_0 t149 t150 from zI2 HI0.out NB0_131.out NB0_138.out) hb); clear hb ho46; obtain ⟨Ao47, co47, eo47⟩ := Kd.R_slice HO153.out; subst eo47) | ((with_reducible refine gC 50 rfl ?_); refine gL 39 Tryd.func50 #[.pointer (some ⟨g, 0, none⟩), .slice Ao47 y151.length co47] ?_; (with_reducible refine (spec_l1Str.calls g s0_0 t149 t150 _ _ y151 t154 t155 t156 w0 _ ?side1 ?side2 ?side3 ?side4 ?side5 A39.out).mono ?_); (case side1 => exact zI2 HI0.out NB0_131.out NB0_138.out); (case side2 => exact zL3 HB.out (IsS53.ge HI0.out) GE131.out GE138.out); (case side3 => exact zC (Kd.R_reads' HO153.out).2.2); (case side4 => exact (Kd.R_reads' HO153.out).2.1); (case side5 => exact far_slice (IsS53.own_ne HI0.out HO153.out (by decide))); rintro e w48 ⟨rfl, hi, hb, hk⟩; refine ⟨_, rfl, ?_⟩; replace BK131 := zBK hk BK131 NB131_0; replace BK138 := zBK hk BK138 NB138_0; replace HO153 := Aside0.mk (Kd.R_mono (Kd.R_keep (IsS53.apart (show IsS53 w0 _ g s0_0 t149 t150 from zI2 HI0.out NB0_131.out NB0_138.out) (zR HO153.out) (by decide)) hk (fun _ h => h.2)) (fun _ h => h.1)); replace HK := zKK (zK2 HK.out GW131.out GW138.out) hk; replace HB := Aside0.mk hb; replace HI0 := Aside0.mk hi; clear hi hb hk; have hcz49 := zc5 BK138.out; have hfz49 := zf5 BK138.out; have hnb50 := NB131_0.out; have hnc50 := NB0_131.out; have hcz51 := zc5 BK131.out; have hfz51 := zf5 BK131.out))
       refine bodyPost_ret (results_cell_row rfl _ _ gb131 26 #[.int .i64 x139000_17, .int .i64 0, .string t148, .string t154, .slice none 0 0] (0, 0) _ rfl (by refine zB ?_; refine zp5 (cs := #[.int .i64 0, .int .i64 0, .string (⟨#[]⟩ : ByteArray), .string (⟨#[]⟩ : ByteArray), .slice none 0 0]) ?_; (with_reducible repeat (first | refine bN ?_ _ | refine bD ?_ | refine bA ?_ _)); refine blk_far ?_ NB131_138.out _; exact zB BK131.out) Tryd.underlying26 rfl (by kernel_rfl)) rfl ?_
       exact ⟨_, zW, by first | exact Kd.R_nil _ _ _ _ _ | exact Kd.N_nil _ _ _ _ _ | exact Kd.V_nil _ _ _ _ _ | exact Kd.Q_nil _ _ _ _ _ | exact Kd.S_nil _ _ _ _ _, zI2 HI0.out NB0_131.out NB0_138.out, zL3 HB.out (IsS53.ge HI0.out) GE131.out GE138.out, zK2 HK.out GW131.out GW138.out⟩
      ·rw [if_neg c37] at H
       obtain ⟨c37b0, c37b1⟩ := zf c37
       by_cases c52 : x139000_17 = 5
       ·rw [if_pos c52] at H
        obtain ⟨c52b0, c52b1⟩ := zt c52
        clear c52
        obtain ⟨⟨t157, t158, t159⟩, A53, H⟩ := zO H; try dsimp only at H
        generalize hy160 : (([0, 1, 200, 500] : List Int)) = y160 at H; (try rw [Option.bind_some] at H); have Ny160 := Aside0.mk hy160.symm; clear hy160
        obtain ⟨⟨t163, t164, t165⟩, A54, H⟩ := zO H; try dsimp only at H
        simp only [Option.some.injEq, Prod.mk.injEq] at H
        obtain ⟨rfl, rfl, rfl, rfl, rfl, rfl, rfl⟩ := H
        have hnb55 := NB138_131.out
        have hnc55 := NB131_138.out
        have hnb56 := NB138_0.out
        have hnc56 := NB0_138.out
        have hcz57 := zc5 BK138.out
        have hfz57 := zf5 BK138.out
        go_wp2_with (first | ((with_reducible refine gC 49 rfl ?_); refine gL 44 Tryd.func49 #[.pointer (some ⟨g, 0, none⟩)] ?_; (with_reducible refine (spec_l1Names.calls g s0_0 x1001_17 x1002_17 t157 t158 t159 w0 _ ?side1 ?side2 A53.out).mono ?_); (case side1 => exact zI2 HI0.out NB0_131.out NB0_138.out); (case side2 => exact zL3 HB.out (IsS53.ge HI0.out) GE131.out GE138.out); rintro e w58 ⟨rfl, hi, hb, hk⟩; refine ⟨_, rfl, ?_⟩; replace BK131 := zBK hk BK131 NB131_0; replace BK138 := zBK hk BK138 NB138_0; replace HK := zKK (zK2 HK.out GW131.out GW138.out) hk; replace HB := Aside0.mk hb; replace HI0 := Aside0.mk hi; clear hi hb hk; have hcz59 := zc5 BK138.out; have hfz59 := zf5 BK138.out) | ((with_reducible refine gD 47 rfl ?_); refine Kd.R_lit (Kd.int .i64) _ 3 ?hg (N := 47) ?hd (xs := ([0, 1, 200, 500] : List Int)) (inner := [.int .i64 0, .int .i64 1, .int .i64 200, .int .i64 500]) (ok := fun _ => True) (okp := fun _ => True) ?hr ?hp (fun _ hk => hk) trivial (Below.refl _ _) (Nat.le_refl _) (by simp) ?_; (case hd => rfl); (case hg => rfl); (case hr => first | (go_simp; done) | (go_simp; rfl)); (case hp => exact zhp); intro v161 w60 ho61 hb hg_ hnew_; clear hg_ hnew_; (first | rw [← Ny160.out] at ho61 | (simp only [Int.reduceToNat] at ho61; rw [← Ny160.out] at ho61)); have HO162 := Aside0.mk (Kd.R_lower ho61 (keep_size (w := w) (g := g) (row := none) (zK2 HK.out GW131.out GW138.out))); replace BK131 := Aside0.mk (bB (g := gb131) (o := .cells #[.int .i64 0, .int .i64 0, .string (⟨#[]⟩ : ByteArray), .string (⟨#[]⟩ : ByteArray), .slice none 0 0] 26 (0, 0)) (by (with_reducible repeat (first | refine bN ?_ _ | refine bD ?_ | refine bA ?_ _)); refine blk_far ?_ NB131_138.out _; exact zB BK131.out) hb); replace BK138 := Aside0.mk (bB (g := gb138) (o := .cells #[.int .i64 x139000_17, .int .i64 0, .string t157, .string (⟨#[]⟩ : ByteArray), .slice none 0 0] 26 (0, 0)) (by (with_reducible repeat (first | refine bN ?_ _ | refine bD ?_ | refine bA ?_ _)); refine blk_put (cs := #[.int .i64 x139000_17, .int .i64 0, .string (⟨#[]⟩ : ByteArray), .string (⟨#[]⟩ : ByteArray), .slice none 0 0]) ?_ 2 _ rfl; exact zB BK138.out) hb); replace HK := zKB g (zK2 HK.out GW131.out GW138.out) hb; replace HB := zLB (zL3 HB.out (IsS53.ge HI0.out) GE131.out GE138.out) hb; replace HI0 := Aside0.mk (IsS53.below (show IsS53 w0 (w58.setCell ⟨gb138, 2, none⟩ (.string t157)) g s0_0 t158 t159 from zI2 HI0.out NB0_131.out NB0_138.out) hb); clear hb ho61; obtain ⟨Ao62, co62, eo62⟩ := Kd.R_slice HO162.out; subst eo62) | ((with_reducible refine gC 39 rfl ?_); refine gL 48 Tryd.func39 #[.pointer (some ⟨g, 0, none⟩), .slice Ao62 y160.length co62] ?_; (with_reducible refine (spec_l1Int.calls g s0_0 t158 t159 _ _ y160 t163 t164 t165 w0 _ ?side1 ?side2 ?side3 ?side4 ?side5 A54.out).mono ?_); (case side1 => exact zI2 HI0.out NB0_131.out NB0_138.out); (case side2 => exact zL3 HB.out (IsS53.ge HI0.out) GE131.out GE138.out); (case side3 => exact zC (Kd.R_reads' HO162.out).2.2); (case side4 => exact (Kd.R_reads' HO162.out).2.1); (case side5 => exact far_slice (IsS53.own_ne HI0.out HO162.out (by decide))); rintro e w63 ⟨rfl, hi, hb, hk⟩; refine ⟨_, rfl, ?_⟩; replace BK131 := zBK hk BK131 NB131_0; replace BK138 := zBK hk BK138 NB138_0; replace HO162 := Aside0.mk (Kd.R_mono (Kd.R_keep (IsS53.apart (show IsS53 w0 _ g s0_0 t158 t159 from zI2 HI0.out NB0_131.out NB0_138.out) (zR HO162.out) (by decide)) hk (fun _ h => h.2)) (fun _ h => h.1)); replace HK := zKK (zK2 HK.out GW131.out GW138.out) hk; replace HB := Aside0.mk hb; replace HI0 := Aside0.mk hi; clear hi hb hk; have hcz64 := zc5 BK138.out; have hfz64 := zf5 BK138.out; have hnb65 := NB131_0.out; have hnc65 := NB0_131.out; have hcz66 := zc5 BK131.out; have hfz66 := zf5 BK131.out))
        refine bodyPost_ret (results_cell_row rfl _ _ gb131 26 #[.int .i64 x139000_17, .int .i64 t163, .string t157, .string (⟨#[]⟩ : ByteArray), .slice none 0 0] (0, 0) _ rfl (by refine zB ?_; refine zp5 (cs := #[.int .i64 0, .int .i64 0, .string (⟨#[]⟩ : ByteArray), .string (⟨#[]⟩ : ByteArray), .slice none 0 0]) ?_; (with_reducible repeat (first | refine bN ?_ _ | refine bD ?_ | refine bA ?_ _)); refine blk_far ?_ NB131_138.out _; exact zB BK131.out) Tryd.underlying26 rfl (by kernel_rfl)) rfl ?_
        exact ⟨_, zW, by first | exact Kd.R_nil _ _ _ _ _ | exact Kd.N_nil _ _ _ _ _ | exact Kd.V_nil _ _ _ _ _ | exact Kd.Q_nil _ _ _ _ _ | exact Kd.S_nil _ _ _ _ _, zI2 HI0.out NB0_131.out NB0_138.out, zL3 HB.out (IsS53.ge HI0.out) GE131.out GE138.out, zK2 HK.out GW131.out GW138.out⟩
       ·rw [if_neg c52] at H
        obtain ⟨c52b0, c52b1⟩ := zf c52
        have HC67 := Aside0.mk H
        clear H
        have hnb68 := NB138_131.out
        have hnc68 := NB131_138.out
        have hnb69 := NB138_0.out
        have hnc69 := NB0_138.out
        have hcz70 := zc5 BK138.out
        have hfz70 := zf5 BK138.out
        go_upto_if 50 with (fail)
        go_cut [50] (fun v50 wc => ∃ (kq : Nat) (x50_66 : Bool), v50 = .bool x50_66 ∧ Aside0 (spec_l5Draw.j2 kq a1 x139000_17 x50_66 s0_0 x1001_17 x1002_17 x139000_17 0 (⟨#[]⟩ : ByteArray) (⟨#[]⟩ : ByteArray) = some (r1, r2, r3, r4, r5, r6, r7)) ∧ Aside0 (kq ≤ kj17) ∧ Aside0 (wc.heap[gb131]? = some (.cells #[.int .i64 0, .int .i64 0, .string (⟨#[]⟩ : ByteArray), .string (⟨#[]⟩ : ByteArray), (.slice none 0 0)] 26 (0, 0))) ∧ Aside0 (wc.heap[gb138]? = some (.cells #[.int .i64 x139000_17, .int .i64 0, .string (⟨#[]⟩ : ByteArray), .string (⟨#[]⟩ : ByteArray), (.slice none 0 0)] 26 (0, 0))) ∧ Aside0 (IsS53 w0 wc g s0_0 x1001_17 x1002_17) ∧ Aside0 (KeepBut w wc g none) ∧ Aside0 (Below w0.heap.size w0 wc))
        case first =>
         have H := HC67.out
         clear HC67
         by_cases c71 : x139000_17 = 7
         ·rw [if_pos c71] at H
          obtain ⟨c71b0, c71b1⟩ := zt c71
          clear c71
          (first | rw [c71b0] | (simp only [i64_w, i32_w]; rw [c71b0]) | skip)
          have H' := Aside0.mk H
          clear H
          go_wp2
          go_meet
          case rel => exact ⟨_, ((x139000_17 == 7)), zV, H', ⟨by have := HJ3.out; have := HJ17.out; first | omega | exact Nat.le_refl _⟩, ⟨zB BK131.out⟩, ⟨zB BK138.out⟩, ⟨zI2 HI0.out NB0_131.out NB0_138.out⟩, ⟨zK2 HK.out GW131.out GW138.out⟩, ⟨zL3 HB.out (IsS53.ge HI0.out) GE131.out GE138.out⟩⟩
         ·rw [if_neg c71] at H
          obtain ⟨c71b0, c71b1⟩ := zf c71
          (first | rw [c71b0] | (simp only [i64_w, i32_w]; rw [c71b0]) | skip)
          have H' := Aside0.mk H
          clear H
          go_wp2
          go_meet
          case rel => exact ⟨_, ((x139000_17 == 8)), zV, H', ⟨by have := HJ3.out; have := HJ17.out; first | omega | exact Nat.le_refl _⟩, ⟨zB BK131.out⟩, ⟨zB BK138.out⟩, ⟨zI2 HI0.out NB0_131.out NB0_138.out⟩, ⟨zK2 HK.out GW131.out GW138.out⟩, ⟨zL3 HB.out (IsS53.ge HI0.out) GE131.out GE138.out⟩⟩
        case rest =>
         clear HC67
         try clear c1
         try clear c2
         try clear p2
         try clear c3
         try clear c4
         try clear c5
         try clear c6
         try clear p6
         try clear c7
         try clear c11
         try clear c12
         try clear c14
         try clear c14b0
         try clear c14b1
         try clear c15
         try clear c16
         try clear c19
         try clear c22
         try clear c23
         try clear c25
         try clear c25b0
         try clear c25b1
         try clear c27
         try clear c28
         try clear c35
         try clear c37
         try clear c37b0
         try clear c37b1
         try clear c38
         try clear c39
         try clear c40
         try clear c41
         try clear c49
         try clear c50
         try clear c52
         try clear c52b0
         try clear c52b1
         try clear c55
         try clear c56
         try clear p64
         try clear c65
         try clear c68
         try clear c69
         try clear c71
         try clear c71b0
         try clear c71b1
         try clear hcz13; try clear hcz17; try clear hcz24; try clear hcz29; try clear hcz34; try clear hcz36; try clear hcz42; try clear hcz44; try clear hcz49; try clear hcz51; try clear hcz57; try clear hcz59; try clear hcz64; try clear hcz66; try clear hcz70; try clear hfz13; try clear hfz17; try clear hfz24; try clear hfz29; try clear hfz34; try clear hfz36; try clear hfz42; try clear hfz44; try clear hfz49; try clear hfz51; try clear hfz57; try clear hfz59; try clear hfz64; try clear hfz66; try clear hfz70
         try clear p2
         try clear p6
         obtain ⟨kq, x50_66, rfl, HA, HJ66, BK131, BK138, HI0, HK, HB⟩ := hcut
         cases kq with
         | zero => exact absurd HA.out (by simp [spec_l5Draw.j2])
         | succ kj66 =>
          have H := HA.out
          clear HA
          simp only [spec_l5Draw.j2] at H
          by_cases c72 : x50_66 = true
          ·subst c72
           rw [if_pos rfl] at H
           obtain ⟨⟨t166, t167, t168⟩, A73, H⟩ := zO H; try dsimp only at H
           have H' := Aside0.mk H
           clear H
           go_wp2_with (first | ((with_reducible refine gC 38 rfl ?_); refine gL 54 Tryd.func38 #[.pointer (some ⟨g, 0, none⟩), .int .i64 2] ?_; (with_reducible refine (spec_l1Below.calls g s0_0 x1001_17 x1002_17 2 t166 t167 t168 w0 _ ?side1 ?side2 A73.out).mono ?_); (case side1 => exact zI2 HI0.out NB0_131.out NB0_138.out); (case side2 => exact zL3 HB.out (IsS53.ge HI0.out) GE131.out GE138.out); rintro e w74 ⟨rfl, hi, hb, hk⟩; refine ⟨_, rfl, ?_⟩; replace BK131 := zBK hk BK131 NB131_0; replace BK138 := zBK hk BK138 NB138_0; replace HK := zKK (zK2 HK.out GW131.out GW138.out) hk; replace HB := Aside0.mk hb; replace HI0 := Aside0.mk hi; clear hi hb hk))
           go_loopg [6] kj66 (fun kq v6 w' => ∃ (x6_4 : Int) (x1001_4 : Int) (x1002_4 : Int) (x139004_4 : List (S26)) (u139004 : Value), v6 = .int .i64 x6_4 ∧ Aside0 (spec_l5Draw.l0 kq a1 x6_4 s0_0 x1001_4 x1002_4 x139000_17 0 (⟨#[]⟩ : ByteArray) (⟨#[]⟩ : ByteArray) x139004_4 = some (r1, r2, r3, r4, r5, r6, r7)) ∧ Aside0 (kq ≤ kj66) ∧ Aside0 (Kd.R k26 26 w' w.heap.size (fun k_ => k_ ≠ gb131 ∧ k_ ≠ gb138) u139004 x139004_4) ∧ Aside0 (w'.heap[gb131]? = some (.cells #[.int .i64 0, .int .i64 0, .string (⟨#[]⟩ : ByteArray), .string (⟨#[]⟩ : ByteArray), (.slice none 0 0)] 26 (0, 0))) ∧ Aside0 (w'.heap[gb138]? = some (.cells #[.int .i64 x139000_17, .int .i64 0, .string (⟨#[]⟩ : ByteArray), .string (⟨#[]⟩ : ByteArray), u139004] 26 (0, 0))) ∧ Aside0 (IsS53 w0 w' g s0_0 x1001_4 x1002_4) ∧ Aside0 (KeepBut w w' g none) ∧ Aside0 (Below w0.heap.size w0 w'))
           case atStart => exact ⟨(wrap64 (1 + t166)), (t167), (t168), (([] : List (S26))), (.slice none 0 0), zV, H', ⟨Nat.le_refl _⟩, ⟨by first | exact Kd.R_nil _ _ _ _ _ | exact Kd.N_nil _ _ _ _ _ | exact Kd.V_nil _ _ _ _ _ | exact Kd.Q_nil _ _ _ _ _ | exact Kd.S_nil _ _ _ _ _⟩, ⟨zB BK131.out⟩, ⟨zB BK138.out⟩, ⟨zI2 HI0.out NB0_131.out NB0_138.out⟩, ⟨zK2 HK.out GW131.out GW138.out⟩, ⟨zL3 HB.out (IsS53.ge HI0.out) GE131.out GE138.out⟩⟩
           case round =>
            clear H'
            try clear c1
            try clear c2
            try clear p2
            try clear c3
            try clear c4
            try clear c5
            try clear c6
            try clear p6
            try clear c7
            try clear c11
            try clear c12
            try clear c14
            try clear c14b0
            try clear c14b1
            try clear c15
            try clear c16
            try clear c19
            try clear c22
            try clear c23
            try clear c25
            try clear c25b0
            try clear c25b1
            try clear c27
            try clear c28
            try clear c35
            try clear c37
            try clear c37b0
            try clear c37b1
            try clear c38
            try clear c39
            try clear c40
            try clear c41
            try clear c49
            try clear c50
            try clear c52
            try clear c52b0
            try clear c52b1
            try clear c55
            try clear c56
            try clear p64
            try clear c65
            try clear c68
            try clear c69
            try clear c71
            try clear c71b0
            try clear c71b1
            try clear c72
            try clear hcz13; try clear hcz17; try clear hcz24; try clear hcz29; try clear hcz34; try clear hcz36; try clear hcz42; try clear hcz44; try clear hcz49; try clear hcz51; try clear hcz57; try clear hcz59; try clear hcz64; try clear hcz66; try clear hcz70; try clear hfz13; try clear hfz17; try clear hfz24; try clear hfz29; try clear hfz34; try clear hfz36; try clear hfz42; try clear hfz44; try clear hfz49; try clear hfz51; try clear hfz57; try clear hfz59; try clear hfz64; try clear hfz66; try clear hfz70
            try clear p2
            try clear p6
            try clear p64
            try clear BK131; try clear BK138
            obtain ⟨x6_4, x1001_4, x1002_4, x139004_4, u139004, rfl, HA, HK4, HO_139004, BK131, BK138, HI0, HK, HB⟩ := hrel
            cases gk with
            | zero => exact absurd HA.out (by simp [spec_l5Draw.l0])
            | succ k4 =>
             have H := HA.out
             clear HA
             simp only [spec_l5Draw.l0] at H
             by_cases c75 : x6_4 > 0
             ·rw [if_pos c75] at H
              have c75b0 := decide_eq_true c75
              clear c75
              obtain ⟨⟨t169, t170, t171, t172, t173, t176, t177⟩, A76, H⟩ := zO H; try dsimp only at H
              by_cases c77 : x139004_4.length < 1954687338268
              ·rw [if_pos c77] at H
               have LMc77 := Aside0.mk c77
               clear c77
               generalize hy179 : (x139004_4 ++ [(⟨t169, t170, t171, t172, t173⟩ : S26)]) = y179 at H; (try rw [Option.bind_some] at H); have Ny179 := Aside0.mk hy179.symm; clear hy179
               have H' := Aside0.mk H
               clear H
               go_wp2_with (first | ((with_reducible refine gC 37 rfl ?_); refine gL 63 Tryd.func37 #[.pointer (some ⟨g, 0, none⟩), .int .i64 (wrap64 (a1 - 1))] ?_; (with_reducible refine (ih k4 (by have := HJ3.out; have := HJ17.out; have := HJ66.out; have := HK4.out; omega) g s0_0 x1001_4 x1002_4 (wrap64 (a1 - 1)) t169 t170 t171 t172 t173 t176 t177 w0 _ ?side1 ?side2 A76.out).mono ?_); (case side1 => exact zI2 HI0.out NB0_131.out NB0_138.out); (case side2 => exact zL3 HB.out (IsS53.ge HI0.out) GE131.out GE138.out); rintro e w78 ⟨v174, rfl, ho0, hi, hb, hk⟩; refine ⟨_, rfl, ?_⟩; have HO175 := Aside0.mk (Kd.R_lower (Kd.R_newB (Kd.R_newB (Kd.R_new' ho0 (Kd.R_lt (zR HO_139004.out))) (g := gb131) (o := .cells #[.int .i64 0, .int .i64 0, .string (⟨#[]⟩ : ByteArray), .string (⟨#[]⟩ : ByteArray), .slice none 0 0] 26 (0, 0)) (zB BK131.out)) (g := gb138) (o := .cells #[.int .i64 x139000_17, .int .i64 0, .string (⟨#[]⟩ : ByteArray), .string (⟨#[]⟩ : ByteArray), u139004] 26 (0, 0)) (zB BK138.out)) (keep_size (w := w) (g := g) (row := none) (zK2 HK.out GW131.out GW138.out))); replace HO_139004 := Aside0.mk (Kd.R_mono (Kd.R_told (Kd.R_oldK (IsS53.apart (show IsS53 w0 _ g s0_0 x1001_4 x1002_4 from zI2 HI0.out NB0_131.out NB0_138.out) (zR HO_139004.out) (by decide)) hk) (Kd.R_base ho0)) (fun _ h_ => h_.1)); replace BK131 := zBK hk BK131 NB131_0; replace BK138 := zBK hk BK138 NB138_0; replace HK := zKK (zK2 HK.out GW131.out GW138.out) hk; replace HB := Aside0.mk hb; replace HI0 := Aside0.mk hi; clear ho0 hi hb hk) | ((with_reducible refine gD 7 rfl ?_); refine bE 7 #[.int .i64 0, .int .i64 0, .string (⟨#[]⟩ : ByteArray), .string (⟨#[]⟩ : ByteArray), .slice none 0 0] 26 ?_; intro gb178 hg w79 hbox hb; replace HO_139004 := Aside0.mk (Kd.R_below (Kd.R_elderB (zR HO_139004.out) gb178 (Nat.le_of_eq hg.symm)) hb); replace HO175 := Aside0.mk (Kd.R_below (Kd.R_elderB (zR HO175.out) gb178 (Nat.le_of_eq hg.symm)) hb); replace HB := zLB (zL3 HB.out (IsS53.ge HI0.out) GE131.out GE138.out) hb; have BK178 := Aside0.mk hbox; have GW178 := Aside0.mk (zgK (g := g) (zK2 HK.out GW131.out GW138.out) hg : w.heap.size ≤ gb178); have GE178 := Aside0.mk ((Nat.le_trans HW0.out (zgK (g := g) (zK2 HK.out GW131.out GW138.out) hg : w.heap.size ≤ gb178) : w0.heap.size ≤ gb178)); replace HK := zKB g (zK2 HK.out GW131.out GW138.out) hb; have NB131_178 := Aside0.mk (zN BK131.out hg : gb131 ≠ gb178); have NB178_131 := Aside0.mk (zM BK131.out hg : gb178 ≠ gb131); replace BK131 := zBB BK131 hb; have NB138_178 := Aside0.mk (zN BK138.out hg : gb138 ≠ gb178); have NB178_138 := Aside0.mk (zM BK138.out hg : gb178 ≠ gb138); replace BK138 := zBB BK138 hb; have NB0_178 := Aside0.mk ((zNI (IsS53.lt (zI2 HI0.out NB0_131.out NB0_138.out : IsS53 w0 _ g s0_0 t176 t177)) hg : g ≠ gb178)); have NB178_0 := Aside0.mk ((zMI (IsS53.lt (zI2 HI0.out NB0_131.out NB0_138.out : IsS53 w0 _ g s0_0 t176 t177)) hg : gb178 ≠ g)); replace HI0 := Aside0.mk (IsS53.below (zI2 HI0.out NB0_131.out NB0_138.out) hb); clear hb hbox hg; have hnb80 := NB178_131.out; have hnc80 := NB131_178.out; have hnb81 := NB178_138.out; have hnc81 := NB138_178.out; have hnb82 := NB178_0.out; have hnc82 := NB0_178.out; have hcz83 := zc5 BK178.out; have hfz83 := zf5 BK178.out; obtain ⟨Ao84, co84, eo84⟩ := Kd.R_slice HO175.out; subst eo84) | ((with_reducible refine gate_store (t := 26) (p := 7) rfl ?_); refine store_event (t := 26) (p := 7) (v := ?vo_w85) (w1 := (((((w79.setCell ⟨gb178, 0, none⟩ (.int .i64 t169)).setCell ⟨gb178, 1, none⟩ (.int .i64 t170)).setCell ⟨gb178, 2, none⟩ (.string t171)).setCell ⟨gb178, 3, none⟩ (.string t172)).setCell ⟨gb178, 4, none⟩ (.slice Ao84 t173.length co84))) ?hg ?ho ?hn ?hr ?_; (case ho => rfl); (case hg => rfl); (case hn => rfl); (case hr => first | (go_simp; done) | (go_simp; rfl)); intro w85 hw; have n0_ : Aside0 (Kd.R k26 26 w85 w.heap.size (fun k_ => some k_ ≠ (.slice Ao84 t173.length co84 : Value).ownBlock ∧ k_ ≠ gb131 ∧ k_ ≠ gb138 ∧ k_ ≠ gb178) u139004 x139004_4) := ⟨(by rw [hw]; exact (by (with_reducible repeat (first | apply Kd.R_alloc | apply Kd.R_drewN | apply Kd.R_drew)); exact Kd.R_mono (zRF5 (Kd.R_mono HO_139004.out (fun k_ hk => (⟨hk, hk.2⟩ : _ ∧ k_ ≠ gb178))) gb178 (fun _ hk => hk.2) (.int .i64 t169) (.int .i64 t170) (.string t171) (.string t172) (.slice Ao84 t173.length co84)) (fun _ hk => ⟨hk.1.1.2, ⟨hk.1.1.1.1, ⟨hk.1.1.1.2, hk.1.2⟩⟩⟩)))⟩; have n1_ : Aside0 (Kd.R k26 26 w85 w.heap.size (fun k_ => some k_ ≠ (u139004 : Value).ownBlock ∧ k_ ≠ gb131 ∧ k_ ≠ gb138 ∧ k_ ≠ gb178) (.slice Ao84 t173.length co84) t173) := ⟨(by rw [hw]; exact (by (with_reducible repeat (first | apply Kd.R_alloc | apply Kd.R_drewN | apply Kd.R_drew)); exact Kd.R_mono (zRF5 (Kd.R_mono HO175.out (fun k_ hk => (⟨hk, hk.2⟩ : _ ∧ k_ ≠ gb178))) gb178 (fun _ hk => hk.2) (.int .i64 t169) (.int .i64 t170) (.string t171) (.string t172) (.slice Ao84 t173.length co84)) (fun _ hk => ⟨hk.1.1.1.1.2, ⟨hk.1.1.1.2, ⟨hk.1.1.2, hk.1.2⟩⟩⟩)))⟩; have n2_ : Aside0 (w85.heap[gb131]? = some (.cells #[.int .i64 0, .int .i64 0, .string (⟨#[]⟩ : ByteArray), .string (⟨#[]⟩ : ByteArray), .slice none 0 0] 26 (0, 0))) := ⟨(by rw [hw]; exact (by refine zB ?_; refine zr5 ?_ NB131_178.out; exact zB BK131.out))⟩; have n3_ : Aside0 (w85.heap[gb138]? = some (.cells #[.int .i64 x139000_17, .int .i64 0, .string (⟨#[]⟩ : ByteArray), .string (⟨#[]⟩ : ByteArray), u139004] 26 (0, 0))) := ⟨(by rw [hw]; exact (by refine zB ?_; refine zr5 ?_ NB138_178.out; exact zB BK138.out))⟩; have n4_ : Aside0 (w85.heap[gb178]? = some (.cells #[.int .i64 t169, .int .i64 t170, .string t171, .string t172, .slice Ao84 t173.length co84] 26 (0, 0))) := ⟨(by rw [hw]; exact (by refine zB ?_; refine zp5 (cs := #[.int .i64 0, .int .i64 0, .string (⟨#[]⟩ : ByteArray), .string (⟨#[]⟩ : ByteArray), .slice none 0 0]) ?_; exact zB BK178.out))⟩; have n5_ : Aside0 (IsS53 w0 w85 g s0_0 t176 t177) := ⟨(by rw [hw]; exact (zI3 HI0.out NB0_131.out NB0_138.out NB0_178.out))⟩; have n6_ : Aside0 (KeepBut w w85 g none) := ⟨(by rw [hw]; exact (zK3 HK.out GW131.out GW138.out GW178.out))⟩; have n7_ : Aside0 (Below w0.heap.size w0 w85) := ⟨(by rw [hw]; exact (zL4 HB.out (IsS53.ge HI0.out) GE131.out GE138.out GE178.out))⟩; clear hw; clear HO_139004; clear HO175; clear BK131; clear BK138; clear BK178; clear HI0; clear HK; clear HB; have HO_139004 := n0_; have HO175 := n1_; have BK131 := n2_; have BK138 := n3_; have BK178 := n4_; have HI0 := n5_; have HK := n6_; have HB := n7_; clear n0_ n1_ n2_ n3_ n4_ n5_ n6_ n7_; have hnb86 := NB138_131.out; have hnc86 := NB131_138.out; have hnb87 := NB138_0.out; have hnc87 := NB0_138.out; have hcz88 := zc5 BK138.out; have hfz88 := zf5 BK138.out; have hcz89 := zc5 BK178.out; have hfz89 := zf5 BK178.out) | ((with_reducible refine gate_builtin (b := .append) (xs := #[.tmp 65, .tmp 67]) rfl ?_); at_builtin; refine Kd.R_append k26 w.heap.size rfl (.tmp 65) (.tmp 67) 24 26 (.agg #[(.int .i64 0), (.int .i64 0), (.string ⟨#[]⟩), (.string ⟨#[]⟩), (.slice none 0 0)]) 72 rfl Tryd.underlying24 info26 rfl (by decide) (by omega) u139004 x139004_4 (⟨t169, t170, t171, t172, t173⟩ : S26) [.int .i64 t169, .int .i64 t170, .string t171, .string t172, .slice Ao84 t173.length co84] (fun k_ => k_ ≠ gb131 ∧ k_ ≠ gb138 ∧ k_ ≠ gb178) (fun k_ => ((fun k_ => k_ ≠ gb131 ∧ k_ ≠ gb138 ∧ k_ ≠ gb178)) k_ ∧ some k_ ≠ (u139004 : Value).ownBlock) rfl rfl ?aP (fun _ hk => hk) ?aF ?aO (Below.refl _ _) ?aS ?aL ?_; (case aP => exact k26_mkM _ _ _ (⟨t169, t170, t171, t172, t173⟩ : S26) (Kd.R_mono (HO175.out) (fun k_ hk => ⟨⟨hk.2.1, ⟨hk.2.2.1, hk.2.2.2⟩⟩, hk.1⟩))); (case aF => exact (fun k_ hk => ⟨Kd.freshB (g := gb131) (o := .cells #[.int .i64 0, .int .i64 0, .string (⟨#[]⟩ : ByteArray), .string (⟨#[]⟩ : ByteArray), .slice none 0 0] 26 (0, 0)) (zB BK131.out) k_ hk, Kd.freshB (g := gb138) (o := .cells #[.int .i64 x139000_17, .int .i64 0, .string (⟨#[]⟩ : ByteArray), .string (⟨#[]⟩ : ByteArray), u139004] 26 (0, 0)) (zB BK138.out) k_ hk, Kd.freshB (g := gb178) (o := .cells #[.int .i64 t169, .int .i64 t170, .string t171, .string t172, .slice Ao84 t173.length co84] 26 (0, 0)) (zB BK178.out) k_ hk⟩)); (case aO => exact (zRm HO_139004.out (fun _ hk => ⟨hk.2.1, ⟨hk.2.2.1, hk.2.2.2⟩⟩))); (case aS => exact (keep_size (w := w) (g := g) (row := none) (zK3 HK.out GW131.out GW138.out GW178.out))); (case aL => have := LMc77.out; omega); intro v180 w90 ho hb hg hat; rw [← Ny179.out] at ho; replace BK131 := Aside0.mk (blk_grown (g := gb131) (o := .cells #[.int .i64 0, .int .i64 0, .string (⟨#[]⟩ : ByteArray), .string (⟨#[]⟩ : ByteArray), .slice none 0 0] 26 (0, 0)) (zB BK131.out) hg (Kd.R_away HO_139004.out (fun _ hk => hk.2.1))); replace BK138 := Aside0.mk (blk_grown (g := gb138) (o := .cells #[.int .i64 x139000_17, .int .i64 0, .string (⟨#[]⟩ : ByteArray), .string (⟨#[]⟩ : ByteArray), u139004] 26 (0, 0)) (zB BK138.out) hg (Kd.R_away HO_139004.out (fun _ hk => hk.2.2.1))); replace BK178 := Aside0.mk (blk_grown (g := gb178) (o := .cells #[.int .i64 t169, .int .i64 t170, .string t171, .string t172, .slice Ao84 t173.length co84] 26 (0, 0)) (zB BK178.out) hg (Kd.R_away HO_139004.out (fun _ hk => hk.2.2.2))); replace HB := Aside0.mk (below_weaken (zL4 HB.out (IsS53.ge HI0.out) GE131.out GE138.out GE178.out) HL.out hb); replace HI0 := Aside0.mk (IsS53.grown (zI3 HI0.out NB0_131.out NB0_138.out NB0_178.out) hg (IsS53.own_ne HI0.out HO_139004.out (by decide))); replace HK := Aside0.mk (KeepBut.trans (zK3 HK.out GW131.out GW138.out GW178.out) (KeepBut.of_grown hg g) (Kd.R_base2 HO_139004.out)); have HO181 := Aside0.mk (ho); clear HO_139004 HO175; clear ho hb hg hat; obtain ⟨Ao91, co91, eo91⟩ := Kd.R_slice HO181.out; subst eo91; have hcz92 := zc5 BK138.out; have hfz92 := zf5 BK138.out))
               go_roundg k4
               case measure => have := HJ3.out; have := HJ17.out; have := HJ66.out; have := HK4.out; omega
               case rel => exact ⟨(wrap64 (x6_4 - 1)), (t176), (t177), (y179), (.slice Ao91 y179.length co91), zV, H', ⟨by have := HJ3.out; have := HJ17.out; have := HJ66.out; have := HK4.out; omega⟩, ⟨by (with_reducible repeat (first | apply Kd.R_alloc | apply Kd.R_drewN | apply Kd.R_drew)); exact Kd.R_mono (Kd.R_far (p := ⟨gb138, 4, none⟩) (Kd.R_mono HO181.out (fun k_ hk => (⟨hk, hk.2.1⟩ : _ ∧ k_ ≠ gb138))) (fun _ hk => hk.2) (.slice Ao91 y179.length co91)) (fun _ hk => ⟨hk.1.1, hk.1.2.1⟩)⟩, ⟨by (with_reducible repeat (first | refine bN ?_ _ | refine bD ?_ | refine bA ?_ _)); refine blk_far ?_ NB131_138.out _; exact zB BK131.out⟩, ⟨by (with_reducible repeat (first | refine bN ?_ _ | refine bD ?_ | refine bA ?_ _)); refine blk_put (cs := #[.int .i64 x139000_17, .int .i64 0, .string (⟨#[]⟩ : ByteArray), .string (⟨#[]⟩ : ByteArray), u139004]) ?_ 4 _ rfl; exact zB BK138.out⟩, ⟨zI3 HI0.out NB0_131.out NB0_138.out NB0_178.out⟩, ⟨zK3 HK.out GW131.out GW138.out GW178.out⟩, ⟨zL4 HB.out (IsS53.ge HI0.out) GE131.out GE138.out GE178.out⟩⟩
              ·rw [if_neg c77] at H
               exact absurd H (by simp)
             ·rw [if_neg c75] at H
              have c75b0 := decide_eq_false c75
              clear c75
              simp only [Option.some.injEq, Prod.mk.injEq] at H
              obtain ⟨rfl, rfl, rfl, rfl, rfl, rfl, rfl⟩ := H
              have hnb93 := NB138_131.out
              have hnc93 := NB131_138.out
              have hnb94 := NB138_0.out
              have hnc94 := NB0_138.out
              have hcz95 := zc5 BK138.out
              have hfz95 := zf5 BK138.out
              have hnb96 := NB131_0.out
              have hnc96 := NB0_131.out
              have hcz97 := zc5 BK131.out
              have hfz97 := zf5 BK131.out
              obtain ⟨Ao98, co98, eo98⟩ := Kd.R_slice HO_139004.out
              subst eo98
              go_wp2
              refine bodyPost_ret (results_cell_row rfl _ _ gb131 26 #[.int .i64 x139000_17, .int .i64 0, .string (⟨#[]⟩ : ByteArray), .string (⟨#[]⟩ : ByteArray), .slice Ao98 x139004_4.length co98] (0, 0) _ rfl (by refine zB ?_; refine zp5 (cs := #[.int .i64 0, .int .i64 0, .string (⟨#[]⟩ : ByteArray), .string (⟨#[]⟩ : ByteArray), .slice none 0 0]) ?_; exact zB BK131.out) Tryd.underlying26 rfl (by kernel_rfl)) rfl ?_
              exact ⟨_, zW, by (with_reducible repeat (first | apply Kd.R_alloc | apply Kd.R_drewN | apply Kd.R_drew)); exact Kd.R_mono (zRF5 (Kd.R_mono HO_139004.out (fun k_ hk => (⟨hk, hk.1⟩ : _ ∧ k_ ≠ gb131))) gb131 (fun _ hk => hk.2) (.int .i64 x139000_17) (.int .i64 0) (.string (⟨#[]⟩ : ByteArray)) (.string (⟨#[]⟩ : ByteArray)) (.slice Ao98 x139004_4.length co98)) (fun _ hk => trivial), zI2 HI0.out NB0_131.out NB0_138.out, zL3 HB.out (IsS53.ge HI0.out) GE131.out GE138.out, zK2 HK.out GW131.out GW138.out⟩
          ·obtain rfl := Bool.eq_false_iff.mpr c72
           rw [if_neg zn] at H
           by_cases c99 : x139000_17 = 9
           ·rw [if_pos c99] at H
            obtain ⟨c99b0, c99b1⟩ := zt c99
            clear c99
            obtain ⟨⟨t182, t183, t184, t185, t186, t189, t190⟩, A100, H⟩ := zO H; try dsimp only at H
            by_cases c101 : ([] : List (S26)).length < 1954687338268
            ·rw [if_pos c101] at H
             have LMc101 := Aside0.mk c101
             clear c101
             generalize hy192 : (([] : List (S26)) ++ [(⟨t182, t183, t184, t185, t186⟩ : S26)]) = y192 at H; (try rw [Option.bind_some] at H); have Ny192 := Aside0.mk hy192.symm; clear hy192
             simp only [Option.some.injEq, Prod.mk.injEq] at H
             obtain ⟨rfl, rfl, rfl, rfl, rfl, rfl, rfl⟩ := H
             go_wp2_with (first | ((with_reducible refine gC 37 rfl ?_); refine gL 75 Tryd.func37 #[.pointer (some ⟨g, 0, none⟩), .int .i64 (wrap64 (a1 - 1))] ?_; (with_reducible refine (ih kj66 (by have := HJ3.out; have := HJ17.out; have := HJ66.out; omega) g s0_0 x1001_17 x1002_17 (wrap64 (a1 - 1)) t182 t183 t184 t185 t186 t189 t190 w0 _ ?side1 ?side2 A100.out).mono ?_); (case side1 => exact zI2 HI0.out NB0_131.out NB0_138.out); (case side2 => exact zL3 HB.out (IsS53.ge HI0.out) GE131.out GE138.out); rintro e w102 ⟨v187, rfl, ho0, hi, hb, hk⟩; refine ⟨_, rfl, ?_⟩; have HO188 := Aside0.mk (Kd.R_lower (Kd.R_newB (Kd.R_newB ho0 (g := gb131) (o := .cells #[.int .i64 0, .int .i64 0, .string (⟨#[]⟩ : ByteArray), .string (⟨#[]⟩ : ByteArray), .slice none 0 0] 26 (0, 0)) (zB BK131.out)) (g := gb138) (o := .cells #[.int .i64 x139000_17, .int .i64 0, .string (⟨#[]⟩ : ByteArray), .string (⟨#[]⟩ : ByteArray), .slice none 0 0] 26 (0, 0)) (zB BK138.out)) (keep_size (w := w) (g := g) (row := none) (zK2 HK.out GW131.out GW138.out))); replace BK131 := zBK hk BK131 NB131_0; replace BK138 := zBK hk BK138 NB138_0; replace HK := zKK (zK2 HK.out GW131.out GW138.out) hk; replace HB := Aside0.mk hb; replace HI0 := Aside0.mk hi; clear ho0 hi hb hk) | ((with_reducible refine gD 8 rfl ?_); refine bE 8 #[.int .i64 0, .int .i64 0, .string (⟨#[]⟩ : ByteArray), .string (⟨#[]⟩ : ByteArray), .slice none 0 0] 26 ?_; intro gb191 hg w103 hbox hb; replace HO188 := Aside0.mk (Kd.R_below (Kd.R_elderB (zR HO188.out) gb191 (Nat.le_of_eq hg.symm)) hb); replace HB := zLB (zL3 HB.out (IsS53.ge HI0.out) GE131.out GE138.out) hb; have BK191 := Aside0.mk hbox; have GW191 := Aside0.mk (zgK (g := g) (zK2 HK.out GW131.out GW138.out) hg : w.heap.size ≤ gb191); have GE191 := Aside0.mk ((Nat.le_trans HW0.out (zgK (g := g) (zK2 HK.out GW131.out GW138.out) hg : w.heap.size ≤ gb191) : w0.heap.size ≤ gb191)); replace HK := zKB g (zK2 HK.out GW131.out GW138.out) hb; have NB131_191 := Aside0.mk (zN BK131.out hg : gb131 ≠ gb191); have NB191_131 := Aside0.mk (zM BK131.out hg : gb191 ≠ gb131); replace BK131 := zBB BK131 hb; have NB138_191 := Aside0.mk (zN BK138.out hg : gb138 ≠ gb191); have NB191_138 := Aside0.mk (zM BK138.out hg : gb191 ≠ gb138); replace BK138 := zBB BK138 hb; have NB0_191 := Aside0.mk ((zNI (IsS53.lt (zI2 HI0.out NB0_131.out NB0_138.out : IsS53 w0 _ g s0_0 t189 t190)) hg : g ≠ gb191)); have NB191_0 := Aside0.mk ((zMI (IsS53.lt (zI2 HI0.out NB0_131.out NB0_138.out : IsS53 w0 _ g s0_0 t189 t190)) hg : gb191 ≠ g)); replace HI0 := Aside0.mk (IsS53.below (zI2 HI0.out NB0_131.out NB0_138.out) hb); clear hb hbox hg; have hnb104 := NB191_131.out; have hnc104 := NB131_191.out; have hnb105 := NB191_138.out; have hnc105 := NB138_191.out; have hnb106 := NB191_0.out; have hnc106 := NB0_191.out; have hcz107 := zc5 BK191.out; have hfz107 := zf5 BK191.out; obtain ⟨Ao108, co108, eo108⟩ := Kd.R_slice HO188.out; subst eo108) | ((with_reducible refine gate_store (t := 26) (p := 8) rfl ?_); refine store_event (t := 26) (p := 8) (v := ?vo_w109) (w1 := (((((w103.setCell ⟨gb191, 0, none⟩ (.int .i64 t182)).setCell ⟨gb191, 1, none⟩ (.int .i64 t183)).setCell ⟨gb191, 2, none⟩ (.string t184)).setCell ⟨gb191, 3, none⟩ (.string t185)).setCell ⟨gb191, 4, none⟩ (.slice Ao108 t186.length co108))) ?hg ?ho ?hn ?hr ?_; (case ho => rfl); (case hg => rfl); (case hn => rfl); (case hr => first | (go_simp; done) | (go_simp; rfl)); intro w109 hw; have n0_ : Aside0 (Kd.R k26 26 w109 w.heap.size (fun k_ => k_ ≠ gb131 ∧ k_ ≠ gb138 ∧ k_ ≠ gb191) (.slice Ao108 t186.length co108) t186) := ⟨(by rw [hw]; exact (by (with_reducible repeat (first | apply Kd.R_alloc | apply Kd.R_drewN | apply Kd.R_drew)); exact Kd.R_mono (zRF5 (Kd.R_mono HO188.out (fun k_ hk => (⟨hk, hk.2⟩ : _ ∧ k_ ≠ gb191))) gb191 (fun _ hk => hk.2) (.int .i64 t182) (.int .i64 t183) (.string t184) (.string t185) (.slice Ao108 t186.length co108)) (fun _ hk => ⟨hk.1.1.1.2, ⟨hk.1.1.2, hk.1.2⟩⟩)))⟩; have n1_ : Aside0 (w109.heap[gb131]? = some (.cells #[.int .i64 0, .int .i64 0, .string (⟨#[]⟩ : ByteArray), .string (⟨#[]⟩ : ByteArray), .slice none 0 0] 26 (0, 0))) := ⟨(by rw [hw]; exact (by refine zB ?_; refine zr5 ?_ NB131_191.out; exact zB BK131.out))⟩; have n2_ : Aside0 (w109.heap[gb138]? = some (.cells #[.int .i64 x139000_17, .int .i64 0, .string (⟨#[]⟩ : ByteArray), .string (⟨#[]⟩ : ByteArray), .slice none 0 0] 26 (0, 0))) := ⟨(by rw [hw]; exact (by refine zB ?_; refine zr5 ?_ NB138_191.out; exact zB BK138.out))⟩; have n3_ : Aside0 (w109.heap[gb191]? = some (.cells #[.int .i64 t182, .int .i64 t183, .string t184, .string t185, .slice Ao108 t186.length co108] 26 (0, 0))) := ⟨(by rw [hw]; exact (by refine zB ?_; refine zp5 (cs := #[.int .i64 0, .int .i64 0, .string (⟨#[]⟩ : ByteArray), .string (⟨#[]⟩ : ByteArray), .slice none 0 0]) ?_; exact zB BK191.out))⟩; have n4_ : Aside0 (IsS53 w0 w109 g s0_0 t189 t190) := ⟨(by rw [hw]; exact (zI3 HI0.out NB0_131.out NB0_138.out NB0_191.out))⟩; have n5_ : Aside0 (KeepBut w w109 g none) := ⟨(by rw [hw]; exact (zK3 HK.out GW131.out GW138.out GW191.out))⟩; have n6_ : Aside0 (Below w0.heap.size w0 w109) := ⟨(by rw [hw]; exact (zL4 HB.out (IsS53.ge HI0.out) GE131.out GE138.out GE191.out))⟩; clear hw; clear HO188; clear BK131; clear BK138; clear BK191; clear HI0; clear HK; clear HB; have HO188 := n0_; have BK131 := n1_; have BK138 := n2_; have BK191 := n3_; have HI0 := n4_; have HK := n5_; have HB := n6_; clear n0_ n1_ n2_ n3_ n4_ n5_ n6_; have hnb110 := NB138_131.out; have hnc110 := NB131_138.out; have hnb111 := NB138_0.out; have hnc111 := NB0_138.out; have hcz112 := zc5 BK138.out; have hfz112 := zf5 BK138.out; have hcz113 := zc5 BK191.out; have hfz113 := zf5 BK191.out) | ((with_reducible refine gate_builtin (b := .append) (xs := #[.tmp 77, .tmp 79]) rfl ?_); at_builtin; refine Kd.R_append k26 w.heap.size rfl (.tmp 77) (.tmp 79) 24 26 (.agg #[(.int .i64 0), (.int .i64 0), (.string ⟨#[]⟩), (.string ⟨#[]⟩), (.slice none 0 0)]) 72 rfl Tryd.underlying24 info26 rfl (by decide) (by omega) (.slice none 0 0) ([] : List (S26)) (⟨t182, t183, t184, t185, t186⟩ : S26) [.int .i64 t182, .int .i64 t183, .string t184, .string t185, .slice Ao108 t186.length co108] (fun k_ => k_ ≠ gb131 ∧ k_ ≠ gb138 ∧ k_ ≠ gb191) (fun k_ => ((fun k_ => k_ ≠ gb131 ∧ k_ ≠ gb138 ∧ k_ ≠ gb191)) k_ ∧ some k_ ≠ (.slice none 0 0 : Value).ownBlock) rfl rfl ?aP (fun _ hk => hk) ?aF ?aO (Below.refl _ _) ?aS ?aL ?_; (case aP => exact k26_mkM _ _ _ (⟨t182, t183, t184, t185, t186⟩ : S26) (Kd.R_mono (HO188.out) (fun k_ hk => ⟨⟨hk.1, ⟨hk.2.1, hk.2.2⟩⟩, (by simp [Value.ownBlock])⟩))); (case aF => exact (fun k_ hk => ⟨Kd.freshB (g := gb131) (o := .cells #[.int .i64 0, .int .i64 0, .string (⟨#[]⟩ : ByteArray), .string (⟨#[]⟩ : ByteArray), .slice none 0 0] 26 (0, 0)) (zB BK131.out) k_ hk, Kd.freshB (g := gb138) (o := .cells #[.int .i64 x139000_17, .int .i64 0, .string (⟨#[]⟩ : ByteArray), .string (⟨#[]⟩ : ByteArray), .slice none 0 0] 26 (0, 0)) (zB BK138.out) k_ hk, Kd.freshB (g := gb191) (o := .cells #[.int .i64 t182, .int .i64 t183, .string t184, .string t185, .slice Ao108 t186.length co108] 26 (0, 0)) (zB BK191.out) k_ hk⟩)); (case aO => exact ((Kd.R_nil _ _ _ _ (fun k_ => k_ ≠ gb131 ∧ k_ ≠ gb138 ∧ k_ ≠ gb191)))); (case aS => exact (keep_size (w := w) (g := g) (row := none) (zK3 HK.out GW131.out GW138.out GW191.out))); (case aL => have := LMc101.out; omega); intro v193 w114 ho hb hg hat; rw [← Ny192.out] at ho; replace BK131 := Aside0.mk (blk_grown (g := gb131) (o := .cells #[.int .i64 0, .int .i64 0, .string (⟨#[]⟩ : ByteArray), .string (⟨#[]⟩ : ByteArray), .slice none 0 0] 26 (0, 0)) (zB BK131.out) hg (by simp [Value.ownBlock])); replace BK138 := Aside0.mk (blk_grown (g := gb138) (o := .cells #[.int .i64 x139000_17, .int .i64 0, .string (⟨#[]⟩ : ByteArray), .string (⟨#[]⟩ : ByteArray), .slice none 0 0] 26 (0, 0)) (zB BK138.out) hg (by simp [Value.ownBlock])); replace BK191 := Aside0.mk (blk_grown (g := gb191) (o := .cells #[.int .i64 t182, .int .i64 t183, .string t184, .string t185, .slice Ao108 t186.length co108] 26 (0, 0)) (zB BK191.out) hg (by simp [Value.ownBlock])); replace HB := Aside0.mk (below_weaken (zL4 HB.out (IsS53.ge HI0.out) GE131.out GE138.out GE191.out) HL.out hb); replace HI0 := Aside0.mk (IsS53.grown (zI3 HI0.out NB0_131.out NB0_138.out NB0_191.out) hg (by simp [Value.ownBlock])); replace HK := Aside0.mk (KeepBut.trans (zK3 HK.out GW131.out GW138.out GW191.out) (KeepBut.of_grown hg g) (.inl (by simp [Value.ownBlock]))); have HO194 := Aside0.mk (ho); clear HO188; clear ho hb hg hat; obtain ⟨Ao115, co115, eo115⟩ := Kd.R_slice HO194.out; subst eo115; have hcz116 := zc5 BK138.out; have hfz116 := zf5 BK138.out; have hnb117 := NB131_0.out; have hnc117 := NB0_131.out; have hcz118 := zc5 BK131.out; have hfz118 := zf5 BK131.out))
             refine bodyPost_ret (results_cell_row rfl _ _ gb131 26 #[.int .i64 x139000_17, .int .i64 0, .string (⟨#[]⟩ : ByteArray), .string (⟨#[]⟩ : ByteArray), .slice Ao115 y192.length co115] (0, 0) _ rfl (by refine zB ?_; refine zp5 (cs := #[.int .i64 0, .int .i64 0, .string (⟨#[]⟩ : ByteArray), .string (⟨#[]⟩ : ByteArray), .slice none 0 0]) ?_; (with_reducible repeat (first | refine bN ?_ _ | refine bD ?_ | refine bA ?_ _)); refine blk_far ?_ NB131_138.out _; exact zB BK131.out) Tryd.underlying26 rfl (by kernel_rfl)) rfl ?_
             exact ⟨_, zW, by (with_reducible repeat (first | apply Kd.R_alloc | apply Kd.R_drewN | apply Kd.R_drew)); exact Kd.R_mono (zRF5 (Kd.R_far (p := ⟨gb138, 4, none⟩) (Kd.R_mono (Kd.R_mono HO194.out (fun k_ hk => (⟨hk, hk.2.1⟩ : _ ∧ k_ ≠ gb138))) (fun k_ hk => (⟨hk, hk.1.1⟩ : _ ∧ k_ ≠ gb131))) (fun _ hk => hk.1.2) (.slice Ao115 y192.length co115)) gb131 (fun _ hk => hk.2) (.int .i64 x139000_17) (.int .i64 0) (.string (⟨#[]⟩ : ByteArray)) (.string (⟨#[]⟩ : ByteArray)) (.slice Ao115 y192.length co115)) (fun _ hk => trivial), zI3 HI0.out NB0_131.out NB0_138.out NB0_191.out, zL4 HB.out (IsS53.ge HI0.out) GE131.out GE138.out GE191.out, zK3 HK.out GW131.out GW138.out GW191.out⟩
            ·rw [if_neg c101] at H
             exact absurd H (by simp)
           ·rw [if_neg c99] at H
            obtain ⟨c99b0, c99b1⟩ := zf c99
            simp only [Option.some.injEq, Prod.mk.injEq] at H
            obtain ⟨rfl, rfl, rfl, rfl, rfl, rfl, rfl⟩ := H
            have hnb119 := NB138_131.out
            have hnc119 := NB131_138.out
            have hnb120 := NB138_0.out
            have hnc120 := NB0_138.out
            have hcz121 := zc5 BK138.out
            have hfz121 := zf5 BK138.out
            have hnb122 := NB131_0.out
            have hnc122 := NB0_131.out
            have hcz123 := zc5 BK131.out
            have hfz123 := zf5 BK131.out
            go_wp2
            refine bodyPost_ret (results_cell_row rfl _ _ gb131 26 #[.int .i64 x139000_17, .int .i64 0, .string (⟨#[]⟩ : ByteArray), .string (⟨#[]⟩ : ByteArray), .slice none 0 0] (0, 0) _ rfl (by refine zB ?_; refine zp5 (cs := #[.int .i64 0, .int .i64 0, .string (⟨#[]⟩ : ByteArray), .string (⟨#[]⟩ : ByteArray), .slice none 0 0]) ?_; exact zB BK131.out) Tryd.underlying26 rfl (by kernel_rfl)) rfl ?_
            exact ⟨_, zW, by first | exact Kd.R_nil _ _ _ _ _ | exact Kd.N_nil _ _ _ _ _ | exact Kd.V_nil _ _ _ _ _ | exact Kd.Q_nil _ _ _ _ _ | exact Kd.S_nil _ _ _ _ _, zI2 HI0.out NB0_131.out NB0_138.out, zL3 HB.out (IsS53.ge HI0.out) GE131.out GE138.out, zK2 HK.out GW131.out GW138.out⟩

open Go.Proofs.YtfhblnbicnmndaaDoorW.PrintWords renaming blk_drewN → bN, blk_drew → bD, blk_alloc → bA, blk_cell → bC, blk_below → bB, below_set → bS
/-! ### spec_l1Once: function 26 -/
def spec_l1Once.f (s0_0 : List Int) (s0_1 : Int) (s0_2 : Int) (a1 : Int) : Option (Bool × Int × Int) := (spec_l1Below.f s0_0 s0_1 s0_2 a1).bind fun bt195 => (some ((bt195.1 == 0), bt195.2.1, bt195.2.2))
set_option maxHeartbeats 8000000 in
set_option maxRecDepth 100000 in
theorem spec_l1Once.calls (g : Nat) (s0_0 : List Int) (s0_1 : Int) (s0_2 : Int) (a1 : Int) (r1 : Bool) (r2 : Int) (r3 : Int) (w0 w : World) (hI : IsS53 w0 w g s0_0 s0_1 s0_2) (hB : Below w0.heap.size w0 w) (h : spec_l1Once.f s0_0 s0_1 s0_2 a1 = some (r1, r2, r3)) :
  Calls Tryd.prog 26 #[.pointer (some ⟨g, 0, none⟩), .int .i64 a1] w fun e w' => e = .returned (.bool r1) ∧ IsS53 w0 w' g s0_0 r2 r3 ∧ Below w0.heap.size w0 w' ∧ KeepBut w w' g none := by
 have HI0 := Aside0.mk hI
 have HK := Aside0.mk (KeepBut.refl w g none)
 have HL := Aside0.mk hB.size
 clear hI
 have HW0 := Aside0.mk hB.size
 have HB := Aside0.mk hB
 clear hB
 unfold spec_l1Once.f at h; have H := h
 clear h
 obtain ⟨⟨t195, t196, t197⟩, A3, H⟩ := zO H; try dsimp only at H
 simp only [Option.some.injEq, Prod.mk.injEq] at H
 obtain ⟨rfl, rfl, rfl⟩ := H
 go_enter Tryd.func26, Tryd.ntmps26
 go_wp2_with (first | ((with_reducible refine gC 38 rfl ?_); refine gL 7 Tryd.func38 #[.pointer (some ⟨g, 0, none⟩), .int .i64 a1] ?_; (with_reducible refine (spec_l1Below.calls g s0_0 s0_1 s0_2 a1 t195 t196 t197 w0 _ ?side1 ?side2 A3.out).mono ?_); (case side1 => exact zI HI0.out); (case side2 => exact zL1 HB.out (IsS53.ge HI0.out)); rintro e w4 ⟨rfl, hi, hb, hk⟩; refine ⟨_, rfl, ?_⟩; replace HK := zKK (zK HK.out) hk; replace HB := Aside0.mk hb; replace HI0 := Aside0.mk hi; clear hi hb hk))
 go_ret
 exact ⟨zW, zI HI0.out, zL1 HB.out (IsS53.ge HI0.out), zK HK.out⟩

open Go.Proofs.YtfhblnbicnmndaaDoorW.PrintWords renaming blk_drewN → bN, blk_drew → bD, blk_alloc → bA, blk_cell → bC, blk_below → bB, below_set → bS
/-! ### spec_l1Odd: function 52 -/
def spec_l1Odd.f (s0_0 : List Int) (s0_1 : Int) (s0_2 : Int) : Option (Int × Int × Int) := (spec_l1Int.f s0_0 s0_1 s0_2 (([(-1), 0, 1, 2, 255, 256, 65535, 2147483647, 2147483648, 4294967295, 4294967296, (-2147483648), 9223372036854775807, (-9223372036854775808)] : List Int))).bind fun bt201 => (some (bt201.1, bt201.2.1, bt201.2.2))
set_option maxHeartbeats 8000000 in
set_option maxRecDepth 100000 in
theorem spec_l1Odd.calls (g : Nat) (s0_0 : List Int) (s0_1 : Int) (s0_2 : Int) (r1 : Int) (r2 : Int) (r3 : Int) (w0 w : World) (hI : IsS53 w0 w g s0_0 s0_1 s0_2) (hB : Below w0.heap.size w0 w) (h : spec_l1Odd.f s0_0 s0_1 s0_2 = some (r1, r2, r3)) :
  Calls Tryd.prog 52 #[.pointer (some ⟨g, 0, none⟩)] w fun e w' => e = .returned (.int .i64 r1) ∧ IsS53 w0 w' g s0_0 r2 r3 ∧ Below w0.heap.size w0 w' ∧ KeepBut w w' g none := by
 have HI0 := Aside0.mk hI
 have HK := Aside0.mk (KeepBut.refl w g none)
 have HL := Aside0.mk hB.size
 clear hI
 have HW0 := Aside0.mk hB.size
 have HB := Aside0.mk hB
 clear hB
 unfold spec_l1Odd.f at h; have H := h
 clear h
 generalize hy198 : (([(-1), 0, 1, 2, 255, 256, 65535, 2147483647, 2147483648, 4294967295, 4294967296, (-2147483648), 9223372036854775807, (-9223372036854775808)] : List Int)) = y198 at H; (try rw [Option.bind_some] at H); have Ny198 := Aside0.mk hy198.symm; clear hy198
 obtain ⟨⟨t201, t202, t203⟩, A2, H⟩ := zO H; try dsimp only at H
 simp only [Option.some.injEq, Prod.mk.injEq] at H
 obtain ⟨rfl, rfl, rfl⟩ := H
 go_enter Tryd.func52, Tryd.ntmps52
 go_wp2_with (first | ((with_reducible refine gD 4 rfl ?_); refine Kd.R_lit (Kd.int .i64) _ 3 ?hg (N := 4) ?hd (xs := ([(-1), 0, 1, 2, 255, 256, 65535, 2147483647, 2147483648, 4294967295, 4294967296, (-2147483648), 9223372036854775807, (-9223372036854775808)] : List Int)) (inner := [.int .i64 (-1), .int .i64 0, .int .i64 1, .int .i64 2, .int .i64 255, .int .i64 256, .int .i64 65535, .int .i64 2147483647, .int .i64 2147483648, .int .i64 4294967295, .int .i64 4294967296, .int .i64 (-2147483648), .int .i64 9223372036854775807, .int .i64 (-9223372036854775808)]) (ok := fun _ => True) (okp := fun _ => True) ?hr ?hp (fun _ hk => hk) trivial (Below.refl _ _) (Nat.le_refl _) (by simp) ?_; (case hd => rfl); (case hg => rfl); (case hr => first | (go_simp; done) | (go_simp; rfl)); (case hp => exact zhp); intro v199 w3 ho4 hb hg_ hnew_; clear hg_ hnew_; (first | rw [← Ny198.out] at ho4 | (simp only [Int.reduceToNat] at ho4; rw [← Ny198.out] at ho4)); have HO200 := Aside0.mk (Kd.R_lower ho4 (keep_size (w := w) (g := g) (row := none) (zK HK.out))); replace HK := zKB g (zK HK.out) hb; replace HB := zLB (zL1 HB.out (IsS53.ge HI0.out)) hb; replace HI0 := Aside0.mk (IsS53.below (zI HI0.out) hb); clear hb ho4; obtain ⟨Ao5, co5, eo5⟩ := Kd.R_slice HO200.out; subst eo5) | ((with_reducible refine gC 39 rfl ?_); refine gL 5 Tryd.func39 #[.pointer (some ⟨g, 0, none⟩), .slice Ao5 y198.length co5] ?_; (with_reducible refine (spec_l1Int.calls g s0_0 s0_1 s0_2 _ _ y198 t201 t202 t203 w0 _ ?side1 ?side2 ?side3 ?side4 ?side5 A2.out).mono ?_); (case side1 => exact zI HI0.out); (case side2 => exact zL1 HB.out (IsS53.ge HI0.out)); (case side3 => exact zC (Kd.R_reads' HO200.out).2.2); (case side4 => exact (Kd.R_reads' HO200.out).2.1); (case side5 => exact far_slice (IsS53.own_ne HI0.out HO200.out (by decide))); rintro e w6 ⟨rfl, hi, hb, hk⟩; refine ⟨_, rfl, ?_⟩; replace HO200 := Aside0.mk (Kd.R_mono (Kd.R_keep (IsS53.apart (show IsS53 w0 _ g s0_0 s0_1 s0_2 from zI HI0.out) (zR HO200.out) (by decide)) hk (fun _ h => h.2)) (fun _ h => h.1)); replace HK := zKK (zK HK.out) hk; replace HB := Aside0.mk hb; replace HI0 := Aside0.mk hi; clear hi hb hk))
 go_ret
 exact ⟨zW, zI HI0.out, zL1 HB.out (IsS53.ge HI0.out), zK HK.out⟩

open Go.Proofs.YtfhblnbicnmndaaDoorW.PrintWords renaming blk_drewN → bN, blk_drew → bD, blk_alloc → bA, blk_cell → bC, blk_below → bB, below_set → bS
/-! ### spec_l1Raw: function 40 -/
def spec_l1Raw.f (s0_0 : List Int) (s0_1 : Int) (s0_2 : Int) : Option (Int × Int × Int) := (spec_l1Once.f s0_0 s0_1 s0_2 2).bind fun bt204 => (if bt204.1 = true then ((spec_l1Odd.f s0_0 bt204.2.1 bt204.2.2).bind fun bt207 => (some (bt207.1, bt207.2.1, bt207.2.2))) else ((spec_l1Int.f s0_0 bt204.2.1 bt204.2.2 (([(-2147483648), (-3), (-1), 0, 1, 3, 7, 65536, 2147483647, 2147483648] : List Int))).bind fun bt213 => (some (bt213.1, bt213.2.1, bt213.2.2))))
set_option maxHeartbeats 8000000 in
set_option maxRecDepth 100000 in
theorem spec_l1Raw.calls (g : Nat) (s0_0 : List Int) (s0_1 : Int) (s0_2 : Int) (r1 : Int) (r2 : Int) (r3 : Int) (w0 w : World) (hI : IsS53 w0 w g s0_0 s0_1 s0_2) (hB : Below w0.heap.size w0 w) (h : spec_l1Raw.f s0_0 s0_1 s0_2 = some (r1, r2, r3)) :
  Calls Tryd.prog 40 #[.pointer (some ⟨g, 0, none⟩)] w fun e w' => e = .returned (.int .i64 r1) ∧ IsS53 w0 w' g s0_0 r2 r3 ∧ Below w0.heap.size w0 w' ∧ KeepBut w w' g none := by
 have HI0 := Aside0.mk hI
 have HK := Aside0.mk (KeepBut.refl w g none)
 have HL := Aside0.mk hB.size
 clear hI
 have HW0 := Aside0.mk hB.size
 have HB := Aside0.mk hB
 clear hB
 unfold spec_l1Raw.f at h; have H := h
 clear h
 obtain ⟨⟨t204, t205, t206⟩, A2, H⟩ := zO H; try dsimp only at H
 by_cases c3 : t204 = true
 ·subst c3
  rw [if_pos rfl] at H
  obtain ⟨⟨t207, t208, t209⟩, A4, H⟩ := zO H; try dsimp only at H
  simp only [Option.some.injEq, Prod.mk.injEq] at H
  obtain ⟨rfl, rfl, rfl⟩ := H
  go_enter Tryd.func40, Tryd.ntmps40
  go_wp2_with (first | ((with_reducible refine gC 26 rfl ?_); refine gL 4 Tryd.func26 #[.pointer (some ⟨g, 0, none⟩), .int .i64 2] ?_; (with_reducible refine (spec_l1Once.calls g s0_0 s0_1 s0_2 2 true t205 t206 w0 _ ?side1 ?side2 A2.out).mono ?_); (case side1 => exact zI HI0.out); (case side2 => exact zL1 HB.out (IsS53.ge HI0.out)); rintro e w5 ⟨rfl, hi, hb, hk⟩; refine ⟨_, rfl, ?_⟩; replace HK := zKK (zK HK.out) hk; replace HB := Aside0.mk hb; replace HI0 := Aside0.mk hi; clear hi hb hk) | ((with_reducible refine gC 52 rfl ?_); refine gL 6 Tryd.func52 #[.pointer (some ⟨g, 0, none⟩)] ?_; (with_reducible refine (spec_l1Odd.calls g s0_0 t205 t206 t207 t208 t209 w0 _ ?side1 ?side2 A4.out).mono ?_); (case side1 => exact zI HI0.out); (case side2 => exact zL1 HB.out (IsS53.ge HI0.out)); rintro e w6 ⟨rfl, hi, hb, hk⟩; refine ⟨_, rfl, ?_⟩; replace HK := zKK (zK HK.out) hk; replace HB := Aside0.mk hb; replace HI0 := Aside0.mk hi; clear hi hb hk))
  go_ret
  exact ⟨zW, zI HI0.out, zL1 HB.out (IsS53.ge HI0.out), zK HK.out⟩
 ·obtain rfl := Bool.eq_false_iff.mpr c3
  rw [if_neg zn] at H
  generalize hy210 : (([(-2147483648), (-3), (-1), 0, 1, 3, 7, 65536, 2147483647, 2147483648] : List Int)) = y210 at H; (try rw [Option.bind_some] at H); have Ny210 := Aside0.mk hy210.symm; clear hy210
  obtain ⟨⟨t213, t214, t215⟩, A7, H⟩ := zO H; try dsimp only at H
  simp only [Option.some.injEq, Prod.mk.injEq] at H
  obtain ⟨rfl, rfl, rfl⟩ := H
  go_enter Tryd.func40, Tryd.ntmps40
  go_wp2_with (first | ((with_reducible refine gC 26 rfl ?_); refine gL 4 Tryd.func26 #[.pointer (some ⟨g, 0, none⟩), .int .i64 2] ?_; (with_reducible refine (spec_l1Once.calls g s0_0 s0_1 s0_2 2 false t205 t206 w0 _ ?side1 ?side2 A2.out).mono ?_); (case side1 => exact zI HI0.out); (case side2 => exact zL1 HB.out (IsS53.ge HI0.out)); rintro e w8 ⟨rfl, hi, hb, hk⟩; refine ⟨_, rfl, ?_⟩; replace HK := zKK (zK HK.out) hk; replace HB := Aside0.mk hb; replace HI0 := Aside0.mk hi; clear hi hb hk) | ((with_reducible refine gD 8 rfl ?_); refine Kd.R_lit (Kd.int .i64) _ 3 ?hg (N := 8) ?hd (xs := ([(-2147483648), (-3), (-1), 0, 1, 3, 7, 65536, 2147483647, 2147483648] : List Int)) (inner := [.int .i64 (-2147483648), .int .i64 (-3), .int .i64 (-1), .int .i64 0, .int .i64 1, .int .i64 3, .int .i64 7, .int .i64 65536, .int .i64 2147483647, .int .i64 2147483648]) (ok := fun _ => True) (okp := fun _ => True) ?hr ?hp (fun _ hk => hk) trivial (Below.refl _ _) (Nat.le_refl _) (by simp) ?_; (case hd => rfl); (case hg => rfl); (case hr => first | (go_simp; done) | (go_simp; rfl)); (case hp => exact zhp); intro v211 w9 ho10 hb hg_ hnew_; clear hg_ hnew_; (first | rw [← Ny210.out] at ho10 | (simp only [Int.reduceToNat] at ho10; rw [← Ny210.out] at ho10)); have HO212 := Aside0.mk (Kd.R_lower ho10 (keep_size (w := w) (g := g) (row := none) (zK HK.out))); replace HK := zKB g (zK HK.out) hb; replace HB := zLB (zL1 HB.out (IsS53.ge HI0.out)) hb; replace HI0 := Aside0.mk (IsS53.below (zI HI0.out) hb); clear hb ho10; obtain ⟨Ao11, co11, eo11⟩ := Kd.R_slice HO212.out; subst eo11) | ((with_reducible refine gC 39 rfl ?_); refine gL 9 Tryd.func39 #[.pointer (some ⟨g, 0, none⟩), .slice Ao11 y210.length co11] ?_; (with_reducible refine (spec_l1Int.calls g s0_0 t205 t206 _ _ y210 t213 t214 t215 w0 _ ?side1 ?side2 ?side3 ?side4 ?side5 A7.out).mono ?_); (case side1 => exact zI HI0.out); (case side2 => exact zL1 HB.out (IsS53.ge HI0.out)); (case side3 => exact zC (Kd.R_reads' HO212.out).2.2); (case side4 => exact (Kd.R_reads' HO212.out).2.1); (case side5 => exact far_slice (IsS53.own_ne HI0.out HO212.out (by decide))); rintro e w12 ⟨rfl, hi, hb, hk⟩; refine ⟨_, rfl, ?_⟩; replace HO212 := Aside0.mk (Kd.R_mono (Kd.R_keep (IsS53.apart (show IsS53 w0 _ g s0_0 t205 t206 from zI HI0.out) (zR HO212.out) (by decide)) hk (fun _ h => h.2)) (fun _ h => h.1)); replace HK := zKK (zK HK.out) hk; replace HB := Aside0.mk hb; replace HI0 := Aside0.mk hi; clear hi hb hk))
  go_ret
  exact ⟨zW, zI HI0.out, zL1 HB.out (IsS53.ge HI0.out), zK HK.out⟩

open Go.Proofs.YtfhblnbicnmndaaDoorW.PrintWords renaming blk_drewN → bN, blk_drew → bD, blk_alloc → bA, blk_cell → bC, blk_below → bB, below_set → bS
/-! ### spec_l1AnyName: function 41 -/
def spec_l1AnyName.f (s0_0 : List Int) (s0_1 : Int) (s0_2 : Int) : Option (ByteArray × Int × Int) := (spec_l1Once.f s0_0 s0_1 s0_2 2).bind fun bt216 => (if bt216.1 = true then ((spec_l1Names.f s0_0 bt216.2.1 bt216.2.2).bind fun bt219 => (some (bt219.1, bt219.2.1, bt219.2.2))) else ((spec_l1Str.f s0_0 bt216.2.1 bt216.2.2 (([(⟨#[]⟩ : ByteArray), (⟨#[75]⟩ : ByteArray), (⟨#[110, 105, 110, 101, 99, 104, 97, 114, 115]⟩ : ByteArray), (⟨#[101, 105, 103, 104, 116, 97, 98, 99]⟩ : ByteArray), (⟨#[97, 32, 98]⟩ : ByteArray), (⟨#[97, 49]⟩ : ByteArray), (⟨#[102, 97, 105, 108, 101, 100]⟩ : ByteArray), (⟨#[102, 97, 105, 108, 101, 100, 120]⟩ : ByteArray)] : List ByteArray))).bind fun bt225 => (some (bt225.1, bt225.2.1, bt225.2.2))))
set_option maxHeartbeats 8000000 in
set_option maxRecDepth 100000 in
theorem spec_l1AnyName.calls (g : Nat) (s0_0 : List Int) (s0_1 : Int) (s0_2 : Int) (r1 : ByteArray) (r2 : Int) (r3 : Int) (w0 w : World) (hI : IsS53 w0 w g s0_0 s0_1 s0_2) (hB : Below w0.heap.size w0 w) (h : spec_l1AnyName.f s0_0 s0_1 s0_2 = some (r1, r2, r3)) :
  Calls Tryd.prog 41 #[.pointer (some ⟨g, 0, none⟩)] w fun e w' => e = .returned (.string r1) ∧ IsS53 w0 w' g s0_0 r2 r3 ∧ Below w0.heap.size w0 w' ∧ KeepBut w w' g none := by
 have HI0 := Aside0.mk hI
 have HK := Aside0.mk (KeepBut.refl w g none)
 have HL := Aside0.mk hB.size
 clear hI
 have HW0 := Aside0.mk hB.size
 have HB := Aside0.mk hB
 clear hB
 unfold spec_l1AnyName.f at h; have H := h
 clear h
 obtain ⟨⟨t216, t217, t218⟩, A2, H⟩ := zO H; try dsimp only at H
 by_cases c3 : t216 = true
 ·subst c3
  rw [if_pos rfl] at H
  obtain ⟨⟨t219, t220, t221⟩, A4, H⟩ := zO H; try dsimp only at H
  simp only [Option.some.injEq, Prod.mk.injEq] at H
  obtain ⟨rfl, rfl, rfl⟩ := H
  go_enter Tryd.func41, Tryd.ntmps41
  go_wp2_with (first | ((with_reducible refine gC 26 rfl ?_); refine gL 4 Tryd.func26 #[.pointer (some ⟨g, 0, none⟩), .int .i64 2] ?_; (with_reducible refine (spec_l1Once.calls g s0_0 s0_1 s0_2 2 true t217 t218 w0 _ ?side1 ?side2 A2.out).mono ?_); (case side1 => exact zI HI0.out); (case side2 => exact zL1 HB.out (IsS53.ge HI0.out)); rintro e w5 ⟨rfl, hi, hb, hk⟩; refine ⟨_, rfl, ?_⟩; replace HK := zKK (zK HK.out) hk; replace HB := Aside0.mk hb; replace HI0 := Aside0.mk hi; clear hi hb hk) | ((with_reducible refine gC 49 rfl ?_); refine gL 6 Tryd.func49 #[.pointer (some ⟨g, 0, none⟩)] ?_; (with_reducible refine (spec_l1Names.calls g s0_0 t217 t218 t219 t220 t221 w0 _ ?side1 ?side2 A4.out).mono ?_); (case side1 => exact zI HI0.out); (case side2 => exact zL1 HB.out (IsS53.ge HI0.out)); rintro e w6 ⟨rfl, hi, hb, hk⟩; refine ⟨_, rfl, ?_⟩; replace HK := zKK (zK HK.out) hk; replace HB := Aside0.mk hb; replace HI0 := Aside0.mk hi; clear hi hb hk))
  go_ret
  exact ⟨zW, zI HI0.out, zL1 HB.out (IsS53.ge HI0.out), zK HK.out⟩
 ·obtain rfl := Bool.eq_false_iff.mpr c3
  rw [if_neg zn] at H
  generalize hy222 : (([(⟨#[]⟩ : ByteArray), (⟨#[75]⟩ : ByteArray), (⟨#[110, 105, 110, 101, 99, 104, 97, 114, 115]⟩ : ByteArray), (⟨#[101, 105, 103, 104, 116, 97, 98, 99]⟩ : ByteArray), (⟨#[97, 32, 98]⟩ : ByteArray), (⟨#[97, 49]⟩ : ByteArray), (⟨#[102, 97, 105, 108, 101, 100]⟩ : ByteArray), (⟨#[102, 97, 105, 108, 101, 100, 120]⟩ : ByteArray)] : List ByteArray)) = y222 at H; (try rw [Option.bind_some] at H); have Ny222 := Aside0.mk hy222.symm; clear hy222
  obtain ⟨⟨t225, t226, t227⟩, A7, H⟩ := zO H; try dsimp only at H
  simp only [Option.some.injEq, Prod.mk.injEq] at H
  obtain ⟨rfl, rfl, rfl⟩ := H
  go_enter Tryd.func41, Tryd.ntmps41
  go_wp2_with (first | ((with_reducible refine gC 26 rfl ?_); refine gL 4 Tryd.func26 #[.pointer (some ⟨g, 0, none⟩), .int .i64 2] ?_; (with_reducible refine (spec_l1Once.calls g s0_0 s0_1 s0_2 2 false t217 t218 w0 _ ?side1 ?side2 A2.out).mono ?_); (case side1 => exact zI HI0.out); (case side2 => exact zL1 HB.out (IsS53.ge HI0.out)); rintro e w8 ⟨rfl, hi, hb, hk⟩; refine ⟨_, rfl, ?_⟩; replace HK := zKK (zK HK.out) hk; replace HB := Aside0.mk hb; replace HI0 := Aside0.mk hi; clear hi hb hk) | ((with_reducible refine gD 8 rfl ?_); refine Kd.R_lit Kd.string _ 9 ?hg (N := 8) ?hd (xs := ([(⟨#[]⟩ : ByteArray), (⟨#[75]⟩ : ByteArray), (⟨#[110, 105, 110, 101, 99, 104, 97, 114, 115]⟩ : ByteArray), (⟨#[101, 105, 103, 104, 116, 97, 98, 99]⟩ : ByteArray), (⟨#[97, 32, 98]⟩ : ByteArray), (⟨#[97, 49]⟩ : ByteArray), (⟨#[102, 97, 105, 108, 101, 100]⟩ : ByteArray), (⟨#[102, 97, 105, 108, 101, 100, 120]⟩ : ByteArray)] : List ByteArray)) (inner := [.string (⟨#[]⟩ : ByteArray), .string (⟨#[75]⟩ : ByteArray), .string (⟨#[110, 105, 110, 101, 99, 104, 97, 114, 115]⟩ : ByteArray), .string (⟨#[101, 105, 103, 104, 116, 97, 98, 99]⟩ : ByteArray), .string (⟨#[97, 32, 98]⟩ : ByteArray), .string (⟨#[97, 49]⟩ : ByteArray), .string (⟨#[102, 97, 105, 108, 101, 100]⟩ : ByteArray), .string (⟨#[102, 97, 105, 108, 101, 100, 120]⟩ : ByteArray)]) (ok := fun _ => True) (okp := fun _ => True) ?hr ?hp (fun _ hk => hk) trivial (Below.refl _ _) (Nat.le_refl _) (by simp) ?_; (case hd => rfl); (case hg => rfl); (case hr => first | (go_simp; done) | (go_simp; rfl)); (case hp => exact zhp); intro v223 w9 ho10 hb hg_ hnew_; clear hg_ hnew_; (first | rw [← Ny222.out] at ho10 | (simp only [Int.reduceToNat] at ho10; rw [← Ny222.out] at ho10)); have HO224 := Aside0.mk (Kd.R_lower ho10 (keep_size (w := w) (g := g) (row := none) (zK HK.out))); replace HK := zKB g (zK HK.out) hb; replace HB := zLB (zL1 HB.out (IsS53.ge HI0.out)) hb; replace HI0 := Aside0.mk (IsS53.below (zI HI0.out) hb); clear hb ho10; obtain ⟨Ao11, co11, eo11⟩ := Kd.R_slice HO224.out; subst eo11) | ((with_reducible refine gC 50 rfl ?_); refine gL 9 Tryd.func50 #[.pointer (some ⟨g, 0, none⟩), .slice Ao11 y222.length co11] ?_; (with_reducible refine (spec_l1Str.calls g s0_0 t217 t218 _ _ y222 t225 t226 t227 w0 _ ?side1 ?side2 ?side3 ?side4 ?side5 A7.out).mono ?_); (case side1 => exact zI HI0.out); (case side2 => exact zL1 HB.out (IsS53.ge HI0.out)); (case side3 => exact zC (Kd.R_reads' HO224.out).2.2); (case side4 => exact (Kd.R_reads' HO224.out).2.1); (case side5 => exact far_slice (IsS53.own_ne HI0.out HO224.out (by decide))); rintro e w12 ⟨rfl, hi, hb, hk⟩; refine ⟨_, rfl, ?_⟩; replace HO224 := Aside0.mk (Kd.R_mono (Kd.R_keep (IsS53.apart (show IsS53 w0 _ g s0_0 t217 t218 from zI HI0.out) (zR HO224.out) (by decide)) hk (fun _ h => h.2)) (fun _ h => h.1)); replace HK := zKK (zK HK.out) hk; replace HB := Aside0.mk hb; replace HI0 := Aside0.mk hi; clear hi hb hk))
  go_ret
  exact ⟨zW, zI HI0.out, zL1 HB.out (IsS53.ge HI0.out), zK HK.out⟩

open Go.Proofs.YtfhblnbicnmndaaDoorW.PrintWords renaming blk_drewN → bN, blk_drew → bD, blk_alloc → bA, blk_cell → bC, blk_below → bB, below_set → bS
/-! ### spec_l1Plain: function 42 -/
def spec_l1Plain.f (s0_0 : List Int) (s0_1 : Int) (s0_2 : Int) : Option (ByteArray × Int × Int) := (spec_l1Once.f s0_0 s0_1 s0_2 6).bind fun bt228 => (if bt228.1 = true then ((spec_l1Str.f s0_0 bt228.2.1 bt228.2.2 (([(⟨#[]⟩ : ByteArray), (⟨#[34]⟩ : ByteArray), (⟨#[127]⟩ : ByteArray), (⟨#[31]⟩ : ByteArray), (⟨#[116, 119, 101, 110, 116, 121, 32, 98, 121, 116, 101, 115, 32, 97, 114, 101, 32, 104, 101, 114, 101]⟩ : ByteArray), (⟨#[116, 119, 101, 110, 116, 121, 98, 121, 116, 101, 115, 97, 114, 101, 104, 101, 114, 101, 50, 48]⟩ : ByteArray), (⟨#[126, 32]⟩ : ByteArray)] : List ByteArray))).bind fun bt234 => (some (bt234.1, bt234.2.1, bt234.2.2))) else ((spec_l1Str.f s0_0 bt228.2.1 bt228.2.2 (([(⟨#[97]⟩ : ByteArray), (⟨#[98]⟩ : ByteArray), (⟨#[111, 107]⟩ : ByteArray), (⟨#[120, 32, 121]⟩ : ByteArray)] : List ByteArray))).bind fun bt240 => (some (bt240.1, bt240.2.1, bt240.2.2))))
set_option maxHeartbeats 8000000 in
set_option maxRecDepth 100000 in
theorem spec_l1Plain.calls (g : Nat) (s0_0 : List Int) (s0_1 : Int) (s0_2 : Int) (r1 : ByteArray) (r2 : Int) (r3 : Int) (w0 w : World) (hI : IsS53 w0 w g s0_0 s0_1 s0_2) (hB : Below w0.heap.size w0 w) (h : spec_l1Plain.f s0_0 s0_1 s0_2 = some (r1, r2, r3)) :
  Calls Tryd.prog 42 #[.pointer (some ⟨g, 0, none⟩)] w fun e w' => e = .returned (.string r1) ∧ IsS53 w0 w' g s0_0 r2 r3 ∧ Below w0.heap.size w0 w' ∧ KeepBut w w' g none := by
 have HI0 := Aside0.mk hI
 have HK := Aside0.mk (KeepBut.refl w g none)
 have HL := Aside0.mk hB.size
 clear hI
 have HW0 := Aside0.mk hB.size
 have HB := Aside0.mk hB
 clear hB
 unfold spec_l1Plain.f at h; have H := h
 clear h
 obtain ⟨⟨t228, t229, t230⟩, A2, H⟩ := zO H; try dsimp only at H
 by_cases c3 : t228 = true
 ·subst c3
  rw [if_pos rfl] at H
  generalize hy231 : (([(⟨#[]⟩ : ByteArray), (⟨#[34]⟩ : ByteArray), (⟨#[127]⟩ : ByteArray), (⟨#[31]⟩ : ByteArray), (⟨#[116, 119, 101, 110, 116, 121, 32, 98, 121, 116, 101, 115, 32, 97, 114, 101, 32, 104, 101, 114, 101]⟩ : ByteArray), (⟨#[116, 119, 101, 110, 116, 121, 98, 121, 116, 101, 115, 97, 114, 101, 104, 101, 114, 101, 50, 48]⟩ : ByteArray), (⟨#[126, 32]⟩ : ByteArray)] : List ByteArray)) = y231 at H; (try rw [Option.bind_some] at H); have Ny231 := Aside0.mk hy231.symm; clear hy231
  obtain ⟨⟨t234, t235, t236⟩, A4, H⟩ := zO H; try dsimp only at H
  simp only [Option.some.injEq, Prod.mk.injEq] at H
  obtain ⟨rfl, rfl, rfl⟩ := H
  go_enter Tryd.func42, Tryd.ntmps42
  go_wp2_with (first | ((with_reducible refine gC 26 rfl ?_); refine gL 4 Tryd.func26 #[.pointer (some ⟨g, 0, none⟩), .int .i64 6] ?_; (with_reducible refine (spec_l1Once.calls g s0_0 s0_1 s0_2 6 true t229 t230 w0 _ ?side1 ?side2 A2.out).mono ?_); (case side1 => exact zI HI0.out); (case side2 => exact zL1 HB.out (IsS53.ge HI0.out)); rintro e w5 ⟨rfl, hi, hb, hk⟩; refine ⟨_, rfl, ?_⟩; replace HK := zKK (zK HK.out) hk; replace HB := Aside0.mk hb; replace HI0 := Aside0.mk hi; clear hi hb hk) | ((with_reducible refine gD 6 rfl ?_); refine Kd.R_lit Kd.string _ 9 ?hg (N := 6) ?hd (xs := ([(⟨#[]⟩ : ByteArray), (⟨#[34]⟩ : ByteArray), (⟨#[127]⟩ : ByteArray), (⟨#[31]⟩ : ByteArray), (⟨#[116, 119, 101, 110, 116, 121, 32, 98, 121, 116, 101, 115, 32, 97, 114, 101, 32, 104, 101, 114, 101]⟩ : ByteArray), (⟨#[116, 119, 101, 110, 116, 121, 98, 121, 116, 101, 115, 97, 114, 101, 104, 101, 114, 101, 50, 48]⟩ : ByteArray), (⟨#[126, 32]⟩ : ByteArray)] : List ByteArray)) (inner := [.string (⟨#[]⟩ : ByteArray), .string (⟨#[34]⟩ : ByteArray), .string (⟨#[127]⟩ : ByteArray), .string (⟨#[31]⟩ : ByteArray), .string (⟨#[116, 119, 101, 110, 116, 121, 32, 98, 121, 116, 101, 115, 32, 97, 114, 101, 32, 104, 101, 114, 101]⟩ : ByteArray), .string (⟨#[116, 119, 101, 110, 116, 121, 98, 121, 116, 101, 115, 97, 114, 101, 104, 101, 114, 101, 50, 48]⟩ : ByteArray), .string (⟨#[126, 32]⟩ : ByteArray)]) (ok := fun _ => True) (okp := fun _ => True) ?hr ?hp (fun _ hk => hk) trivial (Below.refl _ _) (Nat.le_refl _) (by simp) ?_; (case hd => rfl); (case hg => rfl); (case hr => first | (go_simp; done) | (go_simp; rfl)); (case hp => exact zhp); intro v232 w6 ho7 hb hg_ hnew_; clear hg_ hnew_; (first | rw [← Ny231.out] at ho7 | (simp only [Int.reduceToNat] at ho7; rw [← Ny231.out] at ho7)); have HO233 := Aside0.mk (Kd.R_lower ho7 (keep_size (w := w) (g := g) (row := none) (zK HK.out))); replace HK := zKB g (zK HK.out) hb; replace HB := zLB (zL1 HB.out (IsS53.ge HI0.out)) hb; replace HI0 := Aside0.mk (IsS53.below (zI HI0.out) hb); clear hb ho7; obtain ⟨Ao8, co8, eo8⟩ := Kd.R_slice HO233.out; subst eo8) | ((with_reducible refine gC 50 rfl ?_); refine gL 7 Tryd.func50 #[.pointer (some ⟨g, 0, none⟩), .slice Ao8 y231.length co8] ?_; (with_reducible refine (spec_l1Str.calls g s0_0 t229 t230 _ _ y231 t234 t235 t236 w0 _ ?side1 ?side2 ?side3 ?side4 ?side5 A4.out).mono ?_); (case side1 => exact zI HI0.out); (case side2 => exact zL1 HB.out (IsS53.ge HI0.out)); (case side3 => exact zC (Kd.R_reads' HO233.out).2.2); (case side4 => exact (Kd.R_reads' HO233.out).2.1); (case side5 => exact far_slice (IsS53.own_ne HI0.out HO233.out (by decide))); rintro e w9 ⟨rfl, hi, hb, hk⟩; refine ⟨_, rfl, ?_⟩; replace HO233 := Aside0.mk (Kd.R_mono (Kd.R_keep (IsS53.apart (show IsS53 w0 _ g s0_0 t229 t230 from zI HI0.out) (zR HO233.out) (by decide)) hk (fun _ h => h.2)) (fun _ h => h.1)); replace HK := zKK (zK HK.out) hk; replace HB := Aside0.mk hb; replace HI0 := Aside0.mk hi; clear hi hb hk))
  go_ret
  exact ⟨zW, zI HI0.out, zL1 HB.out (IsS53.ge HI0.out), zK HK.out⟩
 ·obtain rfl := Bool.eq_false_iff.mpr c3
  rw [if_neg zn] at H
  generalize hy237 : (([(⟨#[97]⟩ : ByteArray), (⟨#[98]⟩ : ByteArray), (⟨#[111, 107]⟩ : ByteArray), (⟨#[120, 32, 121]⟩ : ByteArray)] : List ByteArray)) = y237 at H; (try rw [Option.bind_some] at H); have Ny237 := Aside0.mk hy237.symm; clear hy237
  obtain ⟨⟨t240, t241, t242⟩, A10, H⟩ := zO H; try dsimp only at H
  simp only [Option.some.injEq, Prod.mk.injEq] at H
  obtain ⟨rfl, rfl, rfl⟩ := H
  go_enter Tryd.func42, Tryd.ntmps42
  go_wp2_with (first | ((with_reducible refine gC 26 rfl ?_); refine gL 4 Tryd.func26 #[.pointer (some ⟨g, 0, none⟩), .int .i64 6] ?_; (with_reducible refine (spec_l1Once.calls g s0_0 s0_1 s0_2 6 false t229 t230 w0 _ ?side1 ?side2 A2.out).mono ?_); (case side1 => exact zI HI0.out); (case side2 => exact zL1 HB.out (IsS53.ge HI0.out)); rintro e w11 ⟨rfl, hi, hb, hk⟩; refine ⟨_, rfl, ?_⟩; replace HK := zKK (zK HK.out) hk; replace HB := Aside0.mk hb; replace HI0 := Aside0.mk hi; clear hi hb hk) | ((with_reducible refine gD 9 rfl ?_); refine Kd.R_lit Kd.string _ 9 ?hg (N := 9) ?hd (xs := ([(⟨#[97]⟩ : ByteArray), (⟨#[98]⟩ : ByteArray), (⟨#[111, 107]⟩ : ByteArray), (⟨#[120, 32, 121]⟩ : ByteArray)] : List ByteArray)) (inner := [.string (⟨#[97]⟩ : ByteArray), .string (⟨#[98]⟩ : ByteArray), .string (⟨#[111, 107]⟩ : ByteArray), .string (⟨#[120, 32, 121]⟩ : ByteArray)]) (ok := fun _ => True) (okp := fun _ => True) ?hr ?hp (fun _ hk => hk) trivial (Below.refl _ _) (Nat.le_refl _) (by simp) ?_; (case hd => rfl); (case hg => rfl); (case hr => first | (go_simp; done) | (go_simp; rfl)); (case hp => exact zhp); intro v238 w12 ho13 hb hg_ hnew_; clear hg_ hnew_; (first | rw [← Ny237.out] at ho13 | (simp only [Int.reduceToNat] at ho13; rw [← Ny237.out] at ho13)); have HO239 := Aside0.mk (Kd.R_lower ho13 (keep_size (w := w) (g := g) (row := none) (zK HK.out))); replace HK := zKB g (zK HK.out) hb; replace HB := zLB (zL1 HB.out (IsS53.ge HI0.out)) hb; replace HI0 := Aside0.mk (IsS53.below (zI HI0.out) hb); clear hb ho13; obtain ⟨Ao14, co14, eo14⟩ := Kd.R_slice HO239.out; subst eo14) | ((with_reducible refine gC 50 rfl ?_); refine gL 10 Tryd.func50 #[.pointer (some ⟨g, 0, none⟩), .slice Ao14 y237.length co14] ?_; (with_reducible refine (spec_l1Str.calls g s0_0 t229 t230 _ _ y237 t240 t241 t242 w0 _ ?side1 ?side2 ?side3 ?side4 ?side5 A10.out).mono ?_); (case side1 => exact zI HI0.out); (case side2 => exact zL1 HB.out (IsS53.ge HI0.out)); (case side3 => exact zC (Kd.R_reads' HO239.out).2.2); (case side4 => exact (Kd.R_reads' HO239.out).2.1); (case side5 => exact far_slice (IsS53.own_ne HI0.out HO239.out (by decide))); rintro e w15 ⟨rfl, hi, hb, hk⟩; refine ⟨_, rfl, ?_⟩; replace HO239 := Aside0.mk (Kd.R_mono (Kd.R_keep (IsS53.apart (show IsS53 w0 _ g s0_0 t229 t230 from zI HI0.out) (zR HO239.out) (by decide)) hk (fun _ h => h.2)) (fun _ h => h.1)); replace HK := zKK (zK HK.out) hk; replace HB := Aside0.mk hb; replace HI0 := Aside0.mk hi; clear hi hb hk))
  go_ret
  exact ⟨zW, zI HI0.out, zL1 HB.out (IsS53.ge HI0.out), zK HK.out⟩

end Go.Proofs.YtfhblnbicnmndaaDoor.QFnPols
