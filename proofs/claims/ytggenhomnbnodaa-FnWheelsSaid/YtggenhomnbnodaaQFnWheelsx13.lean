/- What functions that the law reaches answer, with their walks. Conditions: those that each theorem names. -/
import Derived.Test.YtggenhomnbnodaaQFnWheelsx0
import Derived.Test.YtggenhomnbnodaaQFnWheelsx12
namespace Go.Proofs.Ytggenhomnbnodaa.QFnWheels
open Go.RowKit Go.Proofs.YtggenhomnbnodaaW.PrintWords Go.Proofs.YtggenhomnbnodaaW.PrintLast Go.Proofs.YtggenhomnbnodaaW.PrintMore
attribute [local go_sem] max2_int min2_int max_two min_two max_three min_three max_four min_four
set_option linter.unusedVariables false
set_option linter.unusedSimpArgs false

open Go.Proofs.YtggenhomnbnodaaW.PrintWords renaming blk_drewN → bN, blk_drew → bD, blk_alloc → bA, blk_cell → bC, blk_below → bB, below_set → bS
def spec_l8Any.f (k : Nat) (s0_0 : List Int) (s0_1 : Int) (s0_2 : Int) : Option (Int × (List (List (S46))) × (List (List (S46))) × (List (S46)) × Int × Int) := (spec_l8Draw.f k s0_0 s0_1 s0_2).bind fun btC => ((spec_l1Below.f s0_0 btC.2.2.2.2.1 btC.2.2.2.2.2 12).bind fun btL => (if btL.1 = 0 then ((spec_l1Int.f s0_0 btL.2.1 btL.2.2 (([(-1), 1, 8] : List Int))).bind fun btA6 => (some (wrap64 (btC.1 + btA6.1), btC.2.1, btC.2.2.1, btC.2.2.2.1, btA6.2.1, btA6.2.2))) else (if btL.1 = 1 then ((spec_l1Below.f s0_0 btL.2.1 btL.2.2 8).bind fun btN => ((spec_l8Timer.f s0_0 btN.2.1 btN.2.2 btC.1 9).bind fun btA4 => (if 0 ≤ btN.1 then (if btN.1 < (btC.2.1.length : Int) then (some (btC.1, (btC.2.1.set (btN.1 : Int).toNat (([(⟨btA4.1, btA4.2.1, btA4.2.2.1⟩ : S46)] : List (S46)))), btC.2.2.1, btC.2.2.2.1, btA4.2.2.2.1, btA4.2.2.2.2)) else (none)) else (none)))) else (if btL.1 = 2 then ((spec_l1Below.f s0_0 btL.2.1 btL.2.2 8).bind fun btO => ((spec_l8Timer.f s0_0 btO.2.1 btO.2.2 btC.1 9).bind fun btA5 => (if 0 ≤ btO.1 then (if btO.1 < (btC.2.2.1.length : Int) then (some (btC.1, btC.2.1, (btC.2.2.1.set (btO.1 : Int).toNat (([(⟨btA5.1, btA5.2.1, btA5.2.2.1⟩ : S46)] : List (S46)))), btC.2.2.2.1, btA5.2.2.2.1, btA5.2.2.2.2)) else (none)) else (none)))) else (if btL.1 = 3 then ((spec_l1Int.f s0_0 btL.2.1 btL.2.2 (([0, 1, 9] : List Int))).bind fun btB5 => ((spec_l8Timer.f s0_0 btB5.2.1 btB5.2.2 btC.1 btB5.1).bind fun btA8 => (if btC.2.2.2.1.length < 5864062014805 then (some (btC.1, btC.2.1, btC.2.2.1, (btC.2.2.2.1 ++ [(⟨btA8.1, btA8.2.1, btA8.2.2.1⟩ : S46)]), btA8.2.2.2.1, btA8.2.2.2.2)) else (none)))) else (if btL.1 = 4 then (if 7 ≤ (btC.2.1.length : Int) then (some (btC.1, (btC.2.1.take (7 : Int).toNat), btC.2.2.1, btC.2.2.2.1, btL.2.1, btL.2.2)) else (none)) else (some (btC.1, btC.2.1, btC.2.2.1, btC.2.2.2.1, btL.2.1, btL.2.2))))))))
def spec_l8Any.T4 : Bool × List (List Nat × List Nat) := (true, [([], []), ([0], [0]), ([], []), ([], []), ([2, 3], [2, 3]), ([1, 4], [1, 4]), ([0, 1, 2, 3, 4, 5], []), ([6, 5, 4, 0, 1, 2, 3, 4, 5], [5, 6])])
def spec_l8Any.B4 : List Nat := [0, 1, 0, 0, 12, 31, 63, 127]
theorem spec_l8Any.tab4 : rtab .any (opsOf Try.f81 4) = spec_l8Any.T4 := by kernel_rfl
theorem spec_l8Any.bits4 : waitsOk spec_l8Any.T4.2 spec_l8Any.B4 = true := by kernel_rfl
def spec_l8Any.T6 : Bool × List (List Nat × List Nat) := (true, [([], []), ([0], [0]), ([], []), ([2], [2]), ([], []), ([], []), ([5], [5]), ([4, 6, 3], [4, 6]), ([7], [7]), ([1, 3, 0, 1, 2, 3, 4, 5, 6, 7, 8], [1, 3]), ([9, 8, 7, 0, 1, 2, 3, 4, 5, 6, 7, 8], [8, 9])])
def spec_l8Any.B6 : List Nat := [0, 1, 0, 4, 0, 0, 32, 124, 252, 511, 1023]
theorem spec_l8Any.tab6 : rtab .any (opsOf Try.f81 6) = spec_l8Any.T6 := by kernel_rfl
theorem spec_l8Any.bits6 : waitsOk spec_l8Any.T6.2 spec_l8Any.B6 = true := by kernel_rfl
def spec_l8Any.T8 : Bool × List (List Nat × List Nat) := (true, [([], []), ([0], [0]), ([], []), ([2], [2]), ([], []), ([], []), ([5], [5]), ([4, 6, 3], [4, 6]), ([7], [7]), ([1, 3, 0, 1, 2, 3, 4, 5, 6, 7, 8], [1, 3]), ([9, 8, 7, 0, 1, 2, 3, 4, 5, 6, 7, 8], [8, 9])])
def spec_l8Any.B8 : List Nat := [0, 1, 0, 4, 0, 0, 32, 124, 252, 511, 1023]
theorem spec_l8Any.tab8 : rtab .any (opsOf Try.f81 8) = spec_l8Any.T8 := by kernel_rfl
theorem spec_l8Any.bits8 : waitsOk spec_l8Any.T8.2 spec_l8Any.B8 = true := by kernel_rfl
def spec_l8Any.T10 : Bool × List (List Nat × List Nat) := (true, [([], []), ([0], [0]), ([], []), ([], []), ([3], [3]), ([], []), ([], []), ([5, 6], [5, 6]), ([2, 4, 7, 7], [2, 4, 7]), ([8], [8]), ([1, 9, 8], [1, 9]), ([0, 1, 2, 3, 4, 5, 6, 7, 8, 9, 10], []), ([11, 10, 10, 0, 1, 2, 3, 4, 5, 6, 7, 8, 9, 10], [10, 11])])
def spec_l8Any.B10 : List Nat := [0, 1, 0, 0, 8, 0, 0, 96, 252, 508, 1023, 2047, 4095]
theorem spec_l8Any.tab10 : rtab .any (opsOf Try.f81 10) = spec_l8Any.T10 := by kernel_rfl
theorem spec_l8Any.bits10 : waitsOk spec_l8Any.T10.2 spec_l8Any.B10 = true := by kernel_rfl
theorem fk13_of {w : World} {base : Nat} {ok : Nat → Prop} {v : Value} {l : List S46} (h : Kd.R k46 46 w base ok v l) : (Kd.slice 46 k46).FK w ok l [v] := by
 obtain ⟨A, c, rfl⟩ := Kd.R_slice h
 exact Kd.FK_slice_mk (Kd.R_reads' h).2.1 (Kd.R_F h)
theorem fk13_ofo {x n m : Nat} {A : Option Addr} {c d : Nat} (h : some x ≠ (Value.slice A n c).ownBlock) : some x ≠ (Value.slice A m d).ownBlock := by cases A <;> exact h
set_option maxHeartbeats 8000000 in
set_option maxRecDepth 100000 in
theorem spec_l8Any.calls (k : Nat) (g : Nat) (s0_0 : List Int) (s0_1 : Int) (s0_2 : Int) (r1 : Int) (r2 : List (List (S46))) (r3 : List (List (S46))) (r4 : List (S46)) (r5 : Int) (r6 : Int) (w0 w : World) (hI : IsS98 w0 w g s0_0 s0_1 s0_2) (hB : Below w0.heap.size w0 w) (h : spec_l8Any.f k s0_0 s0_1 s0_2 = some (r1, r2, r3, r4, r5, r6)) :
  Calls Try.prog 81 #[.pointer (some ⟨g, 0, none⟩)] w fun e w' => ∃ v1_ v2_ v3_ : Value, e = .returned (.agg #[.int .i64 r1, v1_, v2_, v3_]) ∧ Kd.N (Kd.slice 46 k46) 23 w' w.heap.size (fun k_ => (w.heap.size ≤ k_) ∧ some k_ ≠ (v2_ : Value).ownBlock ∧ some k_ ≠ (v3_ : Value).ownBlock) v1_ r2 ∧ Kd.N (Kd.slice 46 k46) 23 w' w.heap.size (fun k_ => (w.heap.size ≤ k_) ∧ some k_ ≠ (v1_ : Value).ownBlock ∧ some k_ ≠ (v3_ : Value).ownBlock) v2_ r3 ∧ Kd.R k46 46 w' w.heap.size (fun k_ => (w.heap.size ≤ k_)) v3_ r4 ∧ IsS98 w0 w' g s0_0 r5 r6 ∧ Below w0.heap.size w0 w' ∧ KeepBut w w' g none := by
 have hu25 := Try.underlying25
 have HI0 := aM hI
 have HK := aM (KeepBut.refl w g none)
 have HL := aM hB.size
 clear hI
 have HW0 := aM hB.size
 have HB := aM hB
 clear hB
 unfold spec_l8Any.f at h; have H := h
 clear h
 obtain ⟨⟨tC, tF, tG, tD, tJ, tK⟩, A2, H⟩ := zO H; try dsimp only at H
 obtain ⟨⟨tL, tZ, tA0⟩, A3, H⟩ := zO H; try dsimp only at H
 by_cases c4 : tL = 0
 ·rw [if_pos c4] at H
  obtain ⟨c4b0, c4b1⟩ := zt c4
  clear c4
  generalize hyB1 : (([(-1), 1, 8] : List Int)) = yB1 at H; (try rw [Option.bind_some] at H); have NyB1 := aM hyB1.symm; clear hyB1
  obtain ⟨⟨tA6, tF0, tF1⟩, A5, H⟩ := zO H; try dsimp only at H
  simp only [Option.some.injEq, Prod.mk.injEq] at H
  obtain ⟨rfl, rfl, rfl, rfl, rfl, rfl⟩ := H
  go_enter Try.func81, Try.ntmps81
  try go_wp2_with (first | ((with_reducible refine gD 2 rfl ?_); refine bE 2 #[.int .i64 0, .slice none 0 0, .slice none 0 0, .slice none 0 0] 25 ?_; intro gbA hg w6 hbox hb; replace HB := zLB (zL1 HB.o (IsS98.ge HI0.o)) hb; have BKA := aM hbox; have GWA := aM (zgK (g := g) (zK HK.o) hg : w.heap.size ≤ gbA); have GEA := aM ((Nat.le_trans HW0.o (zgK (g := g) (zK HK.o) hg : w.heap.size ≤ gbA) : w0.heap.size ≤ gbA)); replace HK := zKB g (zK HK.o) hb; have NB0_A := aM ((zNI (IsS98.lt (zI HI0.o : IsS98 w0 _ g s0_0 s0_1 s0_2)) hg : g ≠ gbA)); have NBA_0 := aM ((zMI (IsS98.lt (zI HI0.o : IsS98 w0 _ g s0_0 s0_1 s0_2)) hg : gbA ≠ g)); replace HI0 := aM (IsS98.below (zI HI0.o) hb); clear hb hbox hg) | ((with_reducible refine gC 86 rfl ?_); refine gL 5 Try.func86 #[.pointer (some ⟨g, 0, none⟩)] ?_; (with_reducible refine (spec_l8Draw.calls k g s0_0 s0_1 s0_2 tC tF tG tD tJ tK w0 _ ?side1 ?side2 A2.o).mono ?_); (case side1 => exact zI1 HI0.o NB0_A.o); (case side2 => exact zL2 HB.o (IsS98.ge HI0.o) GEA.o); rintro e w7 ⟨vA9, vB0, vY, rfl, ho0, ho1, ho2, hi, hb, hk⟩; refine ⟨_, rfl, ?_⟩; have HOE := aM (Kd.N_lower (Kd.N_mono (ok' := fun k_ => (w.heap.size ≤ k_) ∧ some k_ ≠ (vB0 : Value).ownBlock ∧ some k_ ≠ (vY : Value).ownBlock ∧ k_ ≠ gbA ∧ k_ ≠ g) (Kd.S_N (Kd.S_bound ho0)) (fun k_ hk_ => ⟨(Nat.le_trans (keep_size (w := w) (g := g) (row := none) (zK1 HK.o GWA.o)) hk_.2.1), hk_.1.1, hk_.1.2, (Kd.freshB (g := gbA) (o := .cells #[.int .i64 0, .slice none 0 0, .slice none 0 0, .slice none 0 0] 25 (0, 0)) (zB BKA.o) k_ hk_.2.1), (IsS98.fresh (zI1 HI0.o NB0_A.o) k_ hk_.2.1)⟩)) (keep_size (w := w) (g := g) (row := none) (zK1 HK.o GWA.o))); have HOH := aM (Kd.N_lower (Kd.N_mono (ok' := fun k_ => (w.heap.size ≤ k_) ∧ some k_ ≠ (vA9 : Value).ownBlock ∧ some k_ ≠ (vY : Value).ownBlock ∧ k_ ≠ gbA ∧ k_ ≠ g) (Kd.S_N (Kd.S_bound ho1)) (fun k_ hk_ => ⟨(Nat.le_trans (keep_size (w := w) (g := g) (row := none) (zK1 HK.o GWA.o)) hk_.2.1), hk_.1.1, hk_.1.2, (Kd.freshB (g := gbA) (o := .cells #[.int .i64 0, .slice none 0 0, .slice none 0 0, .slice none 0 0] 25 (0, 0)) (zB BKA.o) k_ hk_.2.1), (IsS98.fresh (zI1 HI0.o NB0_A.o) k_ hk_.2.1)⟩)) (keep_size (w := w) (g := g) (row := none) (zK1 HK.o GWA.o))); replace BKA := zBK hk BKA NBA_0; have HOI := aM (Kd.R_lower (Kd.R_newM (M := fun k_ => (w.heap.size ≤ k_)) ho2 (keep_size (w := w) (g := g) (row := none) (zK1 HK.o GWA.o)) (fun k_ h_ => h_)) (keep_size (w := w) (g := g) (row := none) (zK1 HK.o GWA.o))); replace HK := zKK (zK1 HK.o GWA.o) hk; replace HB := aM hb; replace HI0 := aM hi; clear ho0 hi hb hk; (try clear ho1); (try clear ho2)) | ((with_reducible refine gD 3 rfl ?_); refine bE 3 #[.int .i64 0, .slice none 0 0, .slice none 0 0, .slice none 0 0] 25 ?_; intro gbB hg w8 hbox hb; replace HOE := aM (Kd.N_below (Kd.N_elderB (zX HOE.o) gbB (Nat.le_of_eq hg.symm)) hb); replace HOH := aM (Kd.N_below (Kd.N_elderB (zX HOH.o) gbB (Nat.le_of_eq hg.symm)) hb); replace HOI := zRB HOI hb; replace HB := zLB (zL2 HB.o (IsS98.ge HI0.o) GEA.o) hb; have BKB := aM hbox; have GWB := aM (zgK (g := g) (zK1 HK.o GWA.o) hg : w.heap.size ≤ gbB); have GEB := aM ((Nat.le_trans HW0.o (zgK (g := g) (zK1 HK.o GWA.o) hg : w.heap.size ≤ gbB) : w0.heap.size ≤ gbB)); replace HK := zKB g (zK1 HK.o GWA.o) hb; have NBA_B := aM (zN BKA.o hg : gbA ≠ gbB); have NBB_A := aM (zM BKA.o hg : gbB ≠ gbA); replace BKA := zBB BKA hb; have NB0_B := aM ((zNI (IsS98.lt (zI1 HI0.o NB0_A.o : IsS98 w0 _ g s0_0 tJ tK)) hg : g ≠ gbB)); have NBB_0 := aM ((zMI (IsS98.lt (zI1 HI0.o NB0_A.o : IsS98 w0 _ g s0_0 tJ tK)) hg : gbB ≠ g)); replace HI0 := aM (IsS98.below (zI1 HI0.o NB0_A.o) hb); clear hb hbox hg; have hnb9 := NBB_A.o; have hnc9 := NBA_B.o; have hnb10 := NBB_0.o; have hnc10 := NB0_B.o; have hcz11 := zc4 BKB.o; have hfz11 := zf4 BKB.o; obtain ⟨Ao12, co12, eo12⟩ := Kd.N_slice HOE.o; subst eo12; obtain ⟨Ao13, co13, eo13⟩ := Kd.N_slice HOH.o; subst eo13; obtain ⟨Ao14, co14, eo14⟩ := Kd.R_slice HOI.o; subst eo14) | ((with_reducible refine gC 83 rfl ?_); refine gL 7 Try.func83 #[.pointer (some ⟨g, 0, none⟩), .int .i64 12] ?_; (with_reducible refine (spec_l1Below.calls g s0_0 tJ tK 12 tL tZ tA0 w0 _ ?side1 ?side2 A3.o).mono ?_); (case side1 => exact zI2 HI0.o NB0_A.o NB0_B.o); (case side2 => exact zL3 HB.o (IsS98.ge HI0.o) GEA.o GEB.o); rintro e w15 ⟨rfl, hi, hb, hk⟩; refine ⟨_, rfl, ?_⟩; replace BKA := aM (zQ2 (.cells #[.int .i64 0, .slice none 0 0, .slice none 0 0, .slice none 0 0] 25 (0, 0)) hk (by refine zB ?_; refine zr4 ?_ NBA_B.o; exact zB BKA.o) NBA_0.o (by simp)); replace HOE := aM (Kd.N_mono (Kd.N_keep (Kd.N_mono (ok := fun k_ => ((((w.heap.size ≤ k_)) ∧ (some k_ ≠ (.slice Ao13 tG.length co13 : Value).ownBlock ∧ (some k_ ≠ (.slice Ao14 tD.length co14 : Value).ownBlock ∧ (k_ ≠ gbA ∧ k_ ≠ g)))) ∧ k_ ≠ gbB)) (by refine zX ?_; exact (Kd.N_mono (zNF4 (Kd.N_mono HOE.o (fun k_ hk => (⟨hk, hk.2⟩ : _ ∧ k_ ≠ gbB))) gbB (fun _ hk => hk.2) (.int .i64 tC) (.slice Ao12 tF.length co12) (.slice Ao13 tG.length co13) (.slice Ao14 tD.length co14)) (fun _ h_ => h_.1))) (fun k_ hk_ => (⟨hk_, hk_.1.2.2.2.2⟩ : _ ∧ k_ ≠ g))) hk (fun _ h => h.2)) (fun _ h => h.1)); replace HOH := aM (Kd.N_mono (Kd.N_keep (Kd.N_mono (ok := fun k_ => ((((w.heap.size ≤ k_)) ∧ (some k_ ≠ (.slice Ao12 tF.length co12 : Value).ownBlock ∧ (some k_ ≠ (.slice Ao14 tD.length co14 : Value).ownBlock ∧ (k_ ≠ gbA ∧ k_ ≠ g)))) ∧ k_ ≠ gbB)) (by refine zX ?_; exact (Kd.N_mono (zNF4 (Kd.N_mono HOH.o (fun k_ hk => (⟨hk, hk.2⟩ : _ ∧ k_ ≠ gbB))) gbB (fun _ hk => hk.2) (.int .i64 tC) (.slice Ao12 tF.length co12) (.slice Ao13 tG.length co13) (.slice Ao14 tD.length co14)) (fun _ h_ => h_.1))) (fun k_ hk_ => (⟨hk_, hk_.1.2.2.2.2⟩ : _ ∧ k_ ≠ g))) hk (fun _ h => h.2)) (fun _ h => h.1)); replace HOI := aM (Kd.R_mono (Kd.R_keep (IsS98.apart (show IsS98 w0 _ g s0_0 tJ tK from zI2 HI0.o NB0_A.o NB0_B.o) (by refine zR ?_; exact (Kd.R_mono (zRF4 (Kd.R_types HOI.o BKB.o (by decide)) gbB (fun _ hk => hk.2) (.int .i64 tC) (.slice Ao12 tF.length co12) (.slice Ao13 tG.length co13) (.slice Ao14 tD.length co14)) (fun _ h_ => h_.1))) (by decide)) hk (fun _ h => h.2)) (fun _ h => h.1)); replace BKB := aM (zQ2 (.cells #[.int .i64 tC, .slice Ao12 tF.length co12, .slice Ao13 tG.length co13, .slice Ao14 tD.length co14] 25 (0, 0)) hk (by refine zB ?_; refine zp4 (cs := #[.int .i64 0, .slice none 0 0, .slice none 0 0, .slice none 0 0]) ?_; exact zB BKB.o) NBB_0.o (by simp)); replace HK := zKK (zK2 HK.o GWA.o GWB.o) hk; replace HB := aM hb; replace HI0 := aM hi; clear hi hb hk))
  replace HOE := zXD HOE; replace HOH := zXD HOH; replace HOI := zRD HOI; replace BKA := zBD BKA; replace BKB := zBD BKB; replace HI0 := aM (IsS98.drew HI0.o); replace HK := aM (keep_drew HK.o); replace HB := zLD HB
  refine start_ (n := 8) (S := fun w' => zs4 w' gbB (.int .i64 tC) (.slice Ao12 tF.length co12) (.slice Ao13 tG.length co13) (.slice Ao14 tD.length co14)) (ds := [7]) (fB 8 0) (by kernel_rfl) rfl rfl (zc4 BKB.o) (fun hHeld => ?_); refine with_tabW spec_l8Any.tab4 spec_l8Any.bits4 (fun HT_ HW_ => ?_)
  generalize w15.drew = w16 at HOE HOH HOI BKA BKB HI0 HK HB hHeld ⊢
  refine pY 0 10 (fB 8 1) HT_.o ?_
  refine pY 2 12 (fB 8 5) HT_.o ?_
  refine tY 1 11 (fB 8 7) HT_.o HW_.o hHeld ?_
  refine oN 3 13 (fB 8 15) HT_.o fun K hK => ?_
  refine Kd.R_lit_step (Kd.int .i64) _ 3 ?hg (N := 13) ?hd (xs := ([(-1), 1, 8] : List Int)) (inner := [.int .i64 (-1), .int .i64 1, .int .i64 8]) (ok := fun _ => True) (okp := fun _ => True) ?hr ?hp (fun _ hk => hk) trivial (Below.refl _ _) (Nat.le_refl _) (by simp) ?_; (case hd => rfl); (case hg => rfl); (case hr => first | (go_simp; done) | (go_simp; rfl)); (case hp => exact zhp)
  intro vH8 w17 ho18 hb hg_ hnew_
  clear hg_ hnew_
  (first | rw [← NyB1.o] at ho18 | (simp only [Int.reduceToNat] at ho18; rw [← NyB1.o] at ho18))
  replace HOE := aM (Kd.N_elder' (zX HOE.o) (Kd.R_base ho18) hb); replace HOH := aM (Kd.N_elder' (zX HOH.o) (Kd.R_base ho18) hb); replace HOI := zRB HOI hb; have HOC1 := aM (Kd.R_lower (Kd.R_newM (M := fun k_ => (w.heap.size ≤ k_)) ho18 (keep_size (w := w) (g := g) (row := none) (zK2 HK.o GWA.o GWB.o)) (fun k_ h_ => h_)) (keep_size (w := w) (g := g) (row := none) (zK2 HK.o GWA.o GWB.o))); replace BKA := zBB BKA hb; replace BKB := zBB BKB hb; replace HK := zKB g (zK2 HK.o GWA.o GWB.o) hb; replace HB := zLB (zL3 HB.o (IsS98.ge HI0.o) GEA.o GEB.o) hb; replace HI0 := aM (IsS98.below (zI2 HI0.o NB0_A.o NB0_B.o) hb)
  clear hb ho18
  obtain ⟨Ao19, co19, eo19⟩ := Kd.R_slice HOC1.o
  (first | subst eo19 | (injection eo19 with f1_ f2_ f3_; have f4_ := f1_.symm; have f5_ := f3_.symm; clear f1_ f2_ f3_; subst f4_; subst f5_))
  refine hK.out _ _ (zc4 BKB.o) fun hHeld => ?_; clear hK K
  refine nZ 13 ?_
  refine oN 4 14 (fB 8 31) HT_.o fun K hK => ?_
  refine gS Try.func85 #[.pointer (some ⟨g, 0, none⟩), .slice Ao19 yB1.length co19] ?_
  with_reducible refine (spec_l1Int.calls g s0_0 tZ tA0 _ _ yB1 tA6 tF0 tF1 w0 _ ?side1 ?side2 ?side3 ?side4 ?side5 A5.o).mono ?_
  (case side1 => exact zI2 HI0.o NB0_A.o NB0_B.o)
  (case side2 => exact zL3 HB.o (IsS98.ge HI0.o) GEA.o GEB.o)
  (case side3 => exact zC (Kd.R_reads' HOC1.o).2.2)
  (case side4 => exact (Kd.R_reads' HOC1.o).2.1)
  (case side5 => exact far_slice (IsS98.own_ne HI0.o HOC1.o (by decide)))
  rintro e w20 ⟨rfl, hi, hb, hk⟩
  refine ⟨_, rfl, ?_⟩
  replace BKA := zBK hk BKA NBA_0; replace HOE := aM (Kd.N_mono (Kd.N_keep (Kd.N_mono (ok := fun k_ => (((((w.heap.size ≤ k_)) ∧ (some k_ ≠ (.slice Ao13 tG.length co13 : Value).ownBlock ∧ (some k_ ≠ (.slice Ao14 tD.length co14 : Value).ownBlock ∧ (k_ ≠ gbA ∧ k_ ≠ g)))) ∧ k_ ≠ gbB) ∧ some k_ ≠ (.slice Ao19 yB1.length co19 : Value).ownBlock)) (zX HOE.o) (fun k_ hk_ => (⟨hk_, hk_.1.1.2.2.2.2⟩ : _ ∧ k_ ≠ g))) hk (fun _ h => h.2)) (fun _ h => h.1)); replace HOH := aM (Kd.N_mono (Kd.N_keep (Kd.N_mono (ok := fun k_ => (((((w.heap.size ≤ k_)) ∧ (some k_ ≠ (.slice Ao12 tF.length co12 : Value).ownBlock ∧ (some k_ ≠ (.slice Ao14 tD.length co14 : Value).ownBlock ∧ (k_ ≠ gbA ∧ k_ ≠ g)))) ∧ k_ ≠ gbB) ∧ some k_ ≠ (.slice Ao19 yB1.length co19 : Value).ownBlock)) (zX HOH.o) (fun k_ hk_ => (⟨hk_, hk_.1.1.2.2.2.2⟩ : _ ∧ k_ ≠ g))) hk (fun _ h => h.2)) (fun _ h => h.1)); replace HOI := aM (Kd.R_mono (Kd.R_keep (IsS98.apart (show IsS98 w0 _ g s0_0 tZ tA0 from zI2 HI0.o NB0_A.o NB0_B.o) (zR HOI.o) (by decide)) hk (fun _ h => h.2)) (fun _ h => h.1)); replace BKB := zBK hk BKB NBB_0; replace HOC1 := aM (Kd.R_mono (Kd.R_keep (IsS98.apart (show IsS98 w0 _ g s0_0 tZ tA0 from zI2 HI0.o NB0_A.o NB0_B.o) (zR HOC1.o) (by decide)) hk (fun _ h => h.2)) (fun _ h => h.1)); replace HK := zKK (zK2 HK.o GWA.o GWB.o) hk; replace HB := aM hb; replace HI0 := aM hi
  clear hi hb hk
  refine hK.out _ _ (zc4 BKB.o) fun hHeld => ?_; clear hK K
  refine nZ 14 ?_
  refine pY 5 15 (fB 8 63) HT_.o ?_
  refine pY 6 16 (fB 8 127) HT_.o ?_
  refine last_ (i := 7) (N := none) #[true, true, true, true, true, true, true, true] rfl rfl (one_of HT_.o (by kernel_rfl)) (by decide) (fun K hK => ?_)
  have hs21 : w20.cell? ⟨gbB, 0, none⟩ = some (.int .i64 tC) := (bC BKB.o 0).trans rfl
  have hfs21 := blk_frozen BKB.o 0
  have hns21_0 := NBA_B.o
  have hms21_0 := NBB_A.o
  refine skip_ (w1 := ?_) (by rfl) rfl ?_ ?_
  rotate_left
  ·go_simp
   rfl
  refine hK.out _ _ ?_
  clear hK K
  refine done_ (done_of HT_.o (by kernel_rfl)) ?_
  have hcz22 := zc4 BKB.o
  have hfz22 := zf4 BKB.o
  have hnb23 := NBA_0.o
  have hnc23 := NB0_A.o
  have hcz24 := zc4 BKA.o
  have hfz24 := zf4 BKA.o
  try go_wp2
  refine bodyPost_ret (results_cell_row rfl _ _ gbA 25 #[.int .i64 (wrap64 (tC + tA6)), .slice Ao12 tF.length co12, .slice Ao13 tG.length co13, .slice Ao14 tD.length co14] (0, 0) _ rfl (by refine zB ?_; refine zp4 (cs := #[.int .i64 0, .slice none 0 0, .slice none 0 0, .slice none 0 0]) ?_; refine zB ?_; refine blk_far ?_ NBA_B.o _; exact zB BKA.o) Try.underlying25 rfl (by kernel_rfl)) rfl ?_
  exact ⟨_, _, _, zW, by refine zX ?_; exact Kd.N_mono (zNF4 (Kd.N_far (p := ⟨gbB, 0, none⟩) (Kd.N_mono (Kd.N_mono HOE.o (fun k_ hk => (⟨hk, hk.1.2⟩ : _ ∧ k_ ≠ gbB))) (fun k_ hk => (⟨hk, hk.1.1.1.2.2.2.1⟩ : _ ∧ k_ ≠ gbA))) (fun _ hk => hk.1.2) (.int .i64 (wrap64 (tC + tA6)))) gbA (fun _ hk => hk.2) (.int .i64 (wrap64 (tC + tA6))) (.slice Ao12 tF.length co12) (.slice Ao13 tG.length co13) (.slice Ao14 tD.length co14)) (fun _ hk => ⟨hk.1.1.1.1.1, ⟨hk.1.1.1.1.2.1, hk.1.1.1.1.2.2.1⟩⟩), by refine zX ?_; exact Kd.N_mono (zNF4 (Kd.N_far (p := ⟨gbB, 0, none⟩) (Kd.N_mono (Kd.N_mono HOH.o (fun k_ hk => (⟨hk, hk.1.2⟩ : _ ∧ k_ ≠ gbB))) (fun k_ hk => (⟨hk, hk.1.1.1.2.2.2.1⟩ : _ ∧ k_ ≠ gbA))) (fun _ hk => hk.1.2) (.int .i64 (wrap64 (tC + tA6)))) gbA (fun _ hk => hk.2) (.int .i64 (wrap64 (tC + tA6))) (.slice Ao12 tF.length co12) (.slice Ao13 tG.length co13) (.slice Ao14 tD.length co14)) (fun _ hk => ⟨hk.1.1.1.1.1, ⟨hk.1.1.1.1.2.1, hk.1.1.1.1.2.2.1⟩⟩), by refine zR ?_; exact Kd.R_mono (zRF4 (Kd.R_far (p := ⟨gbB, 0, none⟩) (Kd.R_types (Kd.R_types HOI.o BKB.o (by decide)) BKA.o (by decide)) (fun _ hk => hk.1.2) (.int .i64 (wrap64 (tC + tA6)))) gbA (fun _ hk => hk.2) (.int .i64 (wrap64 (tC + tA6))) (.slice Ao12 tF.length co12) (.slice Ao13 tG.length co13) (.slice Ao14 tD.length co14)) (fun _ hk => hk.1.1.1), zI2 HI0.o NB0_A.o NB0_B.o, zL3 HB.o (IsS98.ge HI0.o) GEA.o GEB.o, zK2 HK.o GWA.o GWB.o⟩
 ·rw [if_neg c4] at H
  obtain ⟨c4b0, c4b1⟩ := zf c4
  by_cases c25 : tL = 1
  ·rw [if_pos c25] at H
   obtain ⟨c25b0, c25b1⟩ := zt c25
   clear c25
   obtain ⟨⟨tN, tD8, tD9⟩, A26, H⟩ := zO H; try dsimp only at H
   obtain ⟨⟨tA4, tB6, tB7, tE3, tE4⟩, A27, H⟩ := zO H; try dsimp only at H
   generalize hyW : (([(⟨tA4, tB6, tB7⟩ : S46)] : List (S46))) = yW at H; (try rw [Option.bind_some] at H); have NyW := aM hyW.symm; clear hyW
   by_cases c28 : 0 ≤ tN
   ·rw [if_pos c28] at H
    have c28b0 := dT c28
    clear c28
    by_cases c29 : tN < (tF.length : Int)
    ·rw [if_pos c29] at H
     have c29b0 := dT c29
     clear c29
     generalize hyC2 : (tF.set (tN : Int).toNat yW) = yC2 at H; (try rw [Option.bind_some] at H); have NyC2 := aM hyC2.symm; clear hyC2
     simp only [Option.some.injEq, Prod.mk.injEq] at H
     obtain ⟨rfl, rfl, rfl, rfl, rfl, rfl⟩ := H
     go_enter Try.func81, Try.ntmps81
     try go_wp2_with (first | ((with_reducible refine gD 2 rfl ?_); refine bE 2 #[.int .i64 0, .slice none 0 0, .slice none 0 0, .slice none 0 0] 25 ?_; intro gbA hg w31 hbox hb; replace HB := zLB (zL1 HB.o (IsS98.ge HI0.o)) hb; have BKA := aM hbox; have GWA := aM (zgK (g := g) (zK HK.o) hg : w.heap.size ≤ gbA); have GEA := aM ((Nat.le_trans HW0.o (zgK (g := g) (zK HK.o) hg : w.heap.size ≤ gbA) : w0.heap.size ≤ gbA)); replace HK := zKB g (zK HK.o) hb; have NB0_A := aM ((zNI (IsS98.lt (zI HI0.o : IsS98 w0 _ g s0_0 s0_1 s0_2)) hg : g ≠ gbA)); have NBA_0 := aM ((zMI (IsS98.lt (zI HI0.o : IsS98 w0 _ g s0_0 s0_1 s0_2)) hg : gbA ≠ g)); replace HI0 := aM (IsS98.below (zI HI0.o) hb); clear hb hbox hg) | ((with_reducible refine gC 86 rfl ?_); refine gL 5 Try.func86 #[.pointer (some ⟨g, 0, none⟩)] ?_; (with_reducible refine (spec_l8Draw.calls k g s0_0 s0_1 s0_2 tC tF tG tD tJ tK w0 _ ?side1 ?side2 A2.o).mono ?_); (case side1 => exact zI1 HI0.o NB0_A.o); (case side2 => exact zL2 HB.o (IsS98.ge HI0.o) GEA.o); rintro e w32 ⟨vA9, vB0, vY, rfl, ho0, ho1, ho2, hi, hb, hk⟩; refine ⟨_, rfl, ?_⟩; have HOE := aM (Kd.N_lower (Kd.N_mono (ok' := fun k_ => (w.heap.size ≤ k_) ∧ some k_ ≠ (vB0 : Value).ownBlock ∧ some k_ ≠ (vY : Value).ownBlock ∧ k_ ≠ gbA ∧ k_ ≠ g) (Kd.S_N (Kd.S_bound ho0)) (fun k_ hk_ => ⟨(Nat.le_trans (keep_size (w := w) (g := g) (row := none) (zK1 HK.o GWA.o)) hk_.2.1), hk_.1.1, hk_.1.2, (Kd.freshB (g := gbA) (o := .cells #[.int .i64 0, .slice none 0 0, .slice none 0 0, .slice none 0 0] 25 (0, 0)) (zB BKA.o) k_ hk_.2.1), (IsS98.fresh (zI1 HI0.o NB0_A.o) k_ hk_.2.1)⟩)) (keep_size (w := w) (g := g) (row := none) (zK1 HK.o GWA.o))); have HOH := aM (Kd.N_lower (Kd.N_mono (ok' := fun k_ => (w.heap.size ≤ k_) ∧ some k_ ≠ (vA9 : Value).ownBlock ∧ some k_ ≠ (vY : Value).ownBlock ∧ k_ ≠ gbA ∧ k_ ≠ g) (Kd.S_N (Kd.S_bound ho1)) (fun k_ hk_ => ⟨(Nat.le_trans (keep_size (w := w) (g := g) (row := none) (zK1 HK.o GWA.o)) hk_.2.1), hk_.1.1, hk_.1.2, (Kd.freshB (g := gbA) (o := .cells #[.int .i64 0, .slice none 0 0, .slice none 0 0, .slice none 0 0] 25 (0, 0)) (zB BKA.o) k_ hk_.2.1), (IsS98.fresh (zI1 HI0.o NB0_A.o) k_ hk_.2.1)⟩)) (keep_size (w := w) (g := g) (row := none) (zK1 HK.o GWA.o))); replace BKA := zBK hk BKA NBA_0; have HOI := aM (Kd.R_lower (Kd.R_newM (M := fun k_ => (w.heap.size ≤ k_)) ho2 (keep_size (w := w) (g := g) (row := none) (zK1 HK.o GWA.o)) (fun k_ h_ => h_)) (keep_size (w := w) (g := g) (row := none) (zK1 HK.o GWA.o))); replace HK := zKK (zK1 HK.o GWA.o) hk; replace HB := aM hb; replace HI0 := aM hi; clear ho0 hi hb hk; (try clear ho1); (try clear ho2)) | ((with_reducible refine gD 3 rfl ?_); refine bE 3 #[.int .i64 0, .slice none 0 0, .slice none 0 0, .slice none 0 0] 25 ?_; intro gbB hg w33 hbox hb; replace HOE := aM (Kd.N_below (Kd.N_elderB (zX HOE.o) gbB (Nat.le_of_eq hg.symm)) hb); replace HOH := aM (Kd.N_below (Kd.N_elderB (zX HOH.o) gbB (Nat.le_of_eq hg.symm)) hb); replace HOI := zRB HOI hb; replace HB := zLB (zL2 HB.o (IsS98.ge HI0.o) GEA.o) hb; have BKB := aM hbox; have GWB := aM (zgK (g := g) (zK1 HK.o GWA.o) hg : w.heap.size ≤ gbB); have GEB := aM ((Nat.le_trans HW0.o (zgK (g := g) (zK1 HK.o GWA.o) hg : w.heap.size ≤ gbB) : w0.heap.size ≤ gbB)); replace HK := zKB g (zK1 HK.o GWA.o) hb; have NBA_B := aM (zN BKA.o hg : gbA ≠ gbB); have NBB_A := aM (zM BKA.o hg : gbB ≠ gbA); replace BKA := zBB BKA hb; have NB0_B := aM ((zNI (IsS98.lt (zI1 HI0.o NB0_A.o : IsS98 w0 _ g s0_0 tJ tK)) hg : g ≠ gbB)); have NBB_0 := aM ((zMI (IsS98.lt (zI1 HI0.o NB0_A.o : IsS98 w0 _ g s0_0 tJ tK)) hg : gbB ≠ g)); replace HI0 := aM (IsS98.below (zI1 HI0.o NB0_A.o) hb); clear hb hbox hg; have hnb34 := NBB_A.o; have hnc34 := NBA_B.o; have hnb35 := NBB_0.o; have hnc35 := NB0_B.o; have hcz36 := zc4 BKB.o; have hfz36 := zf4 BKB.o; obtain ⟨Ao37, co37, eo37⟩ := Kd.N_slice HOE.o; subst eo37; obtain ⟨Ao38, co38, eo38⟩ := Kd.N_slice HOH.o; subst eo38; obtain ⟨Ao39, co39, eo39⟩ := Kd.R_slice HOI.o; subst eo39) | ((with_reducible refine gC 83 rfl ?_); refine gL 7 Try.func83 #[.pointer (some ⟨g, 0, none⟩), .int .i64 12] ?_; (with_reducible refine (spec_l1Below.calls g s0_0 tJ tK 12 tL tZ tA0 w0 _ ?side1 ?side2 A3.o).mono ?_); (case side1 => exact zI2 HI0.o NB0_A.o NB0_B.o); (case side2 => exact zL3 HB.o (IsS98.ge HI0.o) GEA.o GEB.o); rintro e w40 ⟨rfl, hi, hb, hk⟩; refine ⟨_, rfl, ?_⟩; replace BKA := aM (zQ2 (.cells #[.int .i64 0, .slice none 0 0, .slice none 0 0, .slice none 0 0] 25 (0, 0)) hk (by refine zB ?_; refine zr4 ?_ NBA_B.o; exact zB BKA.o) NBA_0.o (by simp)); replace HOE := aM (Kd.N_mono (Kd.N_keep (Kd.N_mono (ok := fun k_ => ((((w.heap.size ≤ k_)) ∧ (some k_ ≠ (.slice Ao38 tG.length co38 : Value).ownBlock ∧ (some k_ ≠ (.slice Ao39 tD.length co39 : Value).ownBlock ∧ (k_ ≠ gbA ∧ k_ ≠ g)))) ∧ k_ ≠ gbB)) (by refine zX ?_; exact (Kd.N_mono (zNF4 (Kd.N_mono HOE.o (fun k_ hk => (⟨hk, hk.2⟩ : _ ∧ k_ ≠ gbB))) gbB (fun _ hk => hk.2) (.int .i64 tC) (.slice Ao37 tF.length co37) (.slice Ao38 tG.length co38) (.slice Ao39 tD.length co39)) (fun _ h_ => h_.1))) (fun k_ hk_ => (⟨hk_, hk_.1.2.2.2.2⟩ : _ ∧ k_ ≠ g))) hk (fun _ h => h.2)) (fun _ h => h.1)); replace HOH := aM (Kd.N_mono (Kd.N_keep (Kd.N_mono (ok := fun k_ => ((((w.heap.size ≤ k_)) ∧ (some k_ ≠ (.slice Ao37 tF.length co37 : Value).ownBlock ∧ (some k_ ≠ (.slice Ao39 tD.length co39 : Value).ownBlock ∧ (k_ ≠ gbA ∧ k_ ≠ g)))) ∧ k_ ≠ gbB)) (by refine zX ?_; exact (Kd.N_mono (zNF4 (Kd.N_mono HOH.o (fun k_ hk => (⟨hk, hk.2⟩ : _ ∧ k_ ≠ gbB))) gbB (fun _ hk => hk.2) (.int .i64 tC) (.slice Ao37 tF.length co37) (.slice Ao38 tG.length co38) (.slice Ao39 tD.length co39)) (fun _ h_ => h_.1))) (fun k_ hk_ => (⟨hk_, hk_.1.2.2.2.2⟩ : _ ∧ k_ ≠ g))) hk (fun _ h => h.2)) (fun _ h => h.1)); replace HOI := aM (Kd.R_mono (Kd.R_keep (IsS98.apart (show IsS98 w0 _ g s0_0 tJ tK from zI2 HI0.o NB0_A.o NB0_B.o) (by refine zR ?_; exact (Kd.R_mono (zRF4 (Kd.R_types HOI.o BKB.o (by decide)) gbB (fun _ hk => hk.2) (.int .i64 tC) (.slice Ao37 tF.length co37) (.slice Ao38 tG.length co38) (.slice Ao39 tD.length co39)) (fun _ h_ => h_.1))) (by decide)) hk (fun _ h => h.2)) (fun _ h => h.1)); replace BKB := aM (zQ2 (.cells #[.int .i64 tC, .slice Ao37 tF.length co37, .slice Ao38 tG.length co38, .slice Ao39 tD.length co39] 25 (0, 0)) hk (by refine zB ?_; refine zp4 (cs := #[.int .i64 0, .slice none 0 0, .slice none 0 0, .slice none 0 0]) ?_; exact zB BKB.o) NBB_0.o (by simp)); replace HK := zKK (zK2 HK.o GWA.o GWB.o) hk; replace HB := aM hb; replace HI0 := aM hi; clear hi hb hk))
     replace HOE := zXD HOE; replace HOH := zXD HOH; replace HOI := zRD HOI; replace BKA := zBD BKA; replace BKB := zBD BKB; replace HI0 := aM (IsS98.drew HI0.o); replace HK := aM (keep_drew HK.o); replace HB := zLD HB
     refine start_ (n := 11) (S := fun w' => zs4 w' gbB (.int .i64 tC) (.slice Ao37 tF.length co37) (.slice Ao38 tG.length co38) (.slice Ao39 tD.length co39)) (ds := [10]) (fB 11 0) (by kernel_rfl) rfl rfl (zc4 BKB.o) (fun hHeld => ?_); refine with_tabW spec_l8Any.tab6 spec_l8Any.bits6 (fun HT_ HW_ => ?_)
     generalize w40.drew = w41 at HOE HOH HOI BKA BKB HI0 HK HB hHeld ⊢
     refine pY 0 19 (fB 11 1) HT_.o ?_
     refine pY 2 21 (fB 11 5) HT_.o ?_
     refine pY 4 23 (fB 11 21) HT_.o ?_
     refine pY 5 24 (fB 11 53) HT_.o ?_
     refine tY 1 20 (fB 11 55) HT_.o HW_.o hHeld ?_
     refine tY 6 25 (fB 11 119) HT_.o HW_.o hHeld ?_
     refine oN 3 22 (fB 11 127) HT_.o fun K hK => ?_
     refine gS Try.func83 #[.pointer (some ⟨g, 0, none⟩), .int .i64 8] ?_
     with_reducible refine (spec_l1Below.calls g s0_0 tZ tA0 8 tN tD8 tD9 w0 _ ?side1 ?side2 A26.o).mono ?_
     (case side1 => exact zI2 HI0.o NB0_A.o NB0_B.o)
     (case side2 => exact zL3 HB.o (IsS98.ge HI0.o) GEA.o GEB.o)
     rintro e w42 ⟨rfl, hi, hb, hk⟩
     refine ⟨_, rfl, ?_⟩
     replace BKA := zBK hk BKA NBA_0; replace HOE := aM (Kd.N_mono (Kd.N_keep (Kd.N_mono (ok := fun k_ => ((((w.heap.size ≤ k_)) ∧ (some k_ ≠ (.slice Ao38 tG.length co38 : Value).ownBlock ∧ (some k_ ≠ (.slice Ao39 tD.length co39 : Value).ownBlock ∧ (k_ ≠ gbA ∧ k_ ≠ g)))) ∧ k_ ≠ gbB)) (zX HOE.o) (fun k_ hk_ => (⟨hk_, hk_.1.2.2.2.2⟩ : _ ∧ k_ ≠ g))) hk (fun _ h => h.2)) (fun _ h => h.1)); replace HOH := aM (Kd.N_mono (Kd.N_keep (Kd.N_mono (ok := fun k_ => ((((w.heap.size ≤ k_)) ∧ (some k_ ≠ (.slice Ao37 tF.length co37 : Value).ownBlock ∧ (some k_ ≠ (.slice Ao39 tD.length co39 : Value).ownBlock ∧ (k_ ≠ gbA ∧ k_ ≠ g)))) ∧ k_ ≠ gbB)) (zX HOH.o) (fun k_ hk_ => (⟨hk_, hk_.1.2.2.2.2⟩ : _ ∧ k_ ≠ g))) hk (fun _ h => h.2)) (fun _ h => h.1)); replace HOI := aM (Kd.R_mono (Kd.R_keep (IsS98.apart (show IsS98 w0 _ g s0_0 tZ tA0 from zI2 HI0.o NB0_A.o NB0_B.o) (zR HOI.o) (by decide)) hk (fun _ h => h.2)) (fun _ h => h.1)); replace BKB := zBK hk BKB NBB_0; replace HK := zKK (zK2 HK.o GWA.o GWB.o) hk; replace HB := aM hb; replace HI0 := aM hi
     clear hi hb hk
     refine hK.out _ _ (zc4 BKB.o) fun hHeld => ?_; clear hK K
     refine nZ 22 ?_
     refine oN 7 26 (fB 11 255) HT_.o fun K hK => ?_
     refine gS Try.func82 #[.pointer (some ⟨g, 0, none⟩), .int .i64 tC, .int .i64 9] ?_
     with_reducible refine (spec_l8Timer.calls g s0_0 tD8 tD9 tC 9 tA4 tB6 tB7 tE3 tE4 w0 _ ?side1 ?side2 A27.o).mono ?_
     (case side1 => exact zI2 HI0.o NB0_A.o NB0_B.o)
     (case side2 => exact zL3 HB.o (IsS98.ge HI0.o) GEA.o GEB.o)
     rintro e w43 ⟨rfl, hi, hb, hk⟩
     refine ⟨_, rfl, ?_⟩
     replace BKA := zBK hk BKA NBA_0; replace HOE := aM (Kd.N_mono (Kd.N_keep (Kd.N_mono (ok := fun k_ => ((((w.heap.size ≤ k_)) ∧ (some k_ ≠ (.slice Ao38 tG.length co38 : Value).ownBlock ∧ (some k_ ≠ (.slice Ao39 tD.length co39 : Value).ownBlock ∧ (k_ ≠ gbA ∧ k_ ≠ g)))) ∧ k_ ≠ gbB)) (zX HOE.o) (fun k_ hk_ => (⟨hk_, hk_.1.2.2.2.2⟩ : _ ∧ k_ ≠ g))) hk (fun _ h => h.2)) (fun _ h => h.1)); replace HOH := aM (Kd.N_mono (Kd.N_keep (Kd.N_mono (ok := fun k_ => ((((w.heap.size ≤ k_)) ∧ (some k_ ≠ (.slice Ao37 tF.length co37 : Value).ownBlock ∧ (some k_ ≠ (.slice Ao39 tD.length co39 : Value).ownBlock ∧ (k_ ≠ gbA ∧ k_ ≠ g)))) ∧ k_ ≠ gbB)) (zX HOH.o) (fun k_ hk_ => (⟨hk_, hk_.1.2.2.2.2⟩ : _ ∧ k_ ≠ g))) hk (fun _ h => h.2)) (fun _ h => h.1)); replace HOI := aM (Kd.R_mono (Kd.R_keep (IsS98.apart (show IsS98 w0 _ g s0_0 tD8 tD9 from zI2 HI0.o NB0_A.o NB0_B.o) (zR HOI.o) (by decide)) hk (fun _ h => h.2)) (fun _ h => h.1)); replace BKB := zBK hk BKB NBB_0; replace HK := zKK (zK2 HK.o GWA.o GWB.o) hk; replace HB := aM hb; replace HI0 := aM hi
     clear hi hb hk
     refine hK.out _ _ (zc4 BKB.o) fun hHeld => ?_; clear hK K
     refine nZ 26 ?_
     refine oN 8 27 (fB 11 511) HT_.o fun K hK => ?_
     refine Kd.R_lit_step k46 _ 46 ?hg (N := 27) ?hd (xs := ([(⟨tA4, tB6, tB7⟩ : S46)] : List (S46))) (inner := [.int .i64 tA4, .int .i64 tB6, .int .i64 tB7]) (ok := fun _ => True) (okp := fun _ => True) ?hr ?hp (fun _ hk => hk) trivial (Below.refl _ _) (Nat.le_refl _) (by simp) ?_; (case hd => rfl); (case hg => rfl); (case hr => first | (go_simp; done) | (go_simp; rfl)); (case hp => exact (Reps.c3 (show Kd.M k46 _ _ _ (⟨tA4, tB6, tB7⟩ : S46) [.int .i64 tA4, .int .i64 tB6, .int .i64 tB7] from (k46_mkM _ _ _ (⟨tA4, tB6, tB7⟩ : S46) )) (Reps.none _ _)))
     intro vP w44 ho45 hb hg_ hnew_
     clear hg_ hnew_
     (first | rw [← NyW.o] at ho45 | (simp only [Int.reduceToNat] at ho45; rw [← NyW.o] at ho45))
     replace HOE := aM (Kd.N_elder' (zX HOE.o) (Kd.R_base ho45) hb); replace HOH := aM (Kd.N_elder' (zX HOH.o) (Kd.R_base ho45) hb); have HOE5 := aM (Kd.R_lower (Kd.R_new' (Kd.R_newM (M := fun k_ => (w.heap.size ≤ k_)) ho45 (keep_size (w := w) (g := g) (row := none) (zK2 HK.o GWA.o GWB.o)) (fun k_ h_ => h_)) (Kd.R_lt (zR HOI.o))) (keep_size (w := w) (g := g) (row := none) (zK2 HK.o GWA.o GWB.o))); replace HOI := aM (Kd.R_elder' (zR HOI.o) (Kd.R_base ho45) hb); replace BKA := zBB BKA hb; replace BKB := zBB BKB hb; replace HK := zKB g (zK2 HK.o GWA.o GWB.o) hb; replace HB := zLB (zL3 HB.o (IsS98.ge HI0.o) GEA.o GEB.o) hb; replace HI0 := aM (IsS98.below (zI2 HI0.o NB0_A.o NB0_B.o) hb)
     clear hb ho45
     have p30 : 0 ≤ (tN : Int) := zD
     have q30 : (tN : Int) < ((tF.length : Int) : Int) := zD
     obtain ⟨go30, co30, eo30, gb30, gl30, cl30, HG30⟩ := Kd.N_form HOE.o (by omega)
     (first | cases eo30 | (injection eo30 with ea_ en_ ec_; (first | subst ea_ | (injection ea_ with ea_; subst ea_)); subst ec_; clear en_))
     have GB30 := aM gb30
     have GG30 := aM HG30
     clear gb30 gl30 HG30
     obtain ⟨ce30, hcl30, hM30, hcc30, hfr30⟩ := Kd.N_elem HOE.o [] (tN : Int) p30 q30
     obtain ⟨ua30_0, uc30_0, rfl, ul30_0, ge30_0⟩ := Kd.FK_slice_open hM30
     have hx30_0 := hcc30 0 _ rfl
     have hf30_0 := hfr30 0
     (try simp only [show ((Kd.slice 46 k46)).sz = 1 from rfl, Nat.mul_one, Nat.add_zero] at hx30_0)
     (try simp only [show ((Kd.slice 46 k46)).sz = 1 from rfl, Nat.mul_one, Nat.add_zero] at hf30_0)
     clear hcl30 hcc30 hfr30; (try clear hM30)
     replace p30 := eq_true p30
     replace q30 := eq_true q30
     have HN0_go30 := aM (show g ≠ go30 from by have h_ := IsS98.own_neN HI0.o HOE.o (by decide); intro e_; exact h_ (by rw [e_]; rfl))
     have HX46 := aM (show Kd.N (Kd.slice 46 k46) 23 _ w.heap.size (fun k_ => (w.heap.size ≤ k_) ∧ some k_ ≠ (.slice Ao38 tG.length co38 : Value).ownBlock ∧ some k_ ≠ (.slice Ao39 tD.length co39 : Value).ownBlock ∧ some k_ ≠ (vP : Value).ownBlock ∧ k_ ≠ gbA ∧ k_ ≠ gbB ∧ k_ ≠ g) (.slice (some ⟨go30, 0, none⟩) tF.length co37) tF from (Kd.N_mono (HOE.o) (fun k_ hk => ⟨hk.1.1.1, ⟨hk.1.1.2.1, ⟨hk.1.1.2.2.1, ⟨hk.2, ⟨hk.1.1.2.2.2.1, ⟨hk.1.2, hk.1.1.2.2.2.2⟩⟩⟩⟩⟩⟩)))
     replace HX46 := aM (show Kd.N (Kd.slice 46 k46) 23 _ w.heap.size (fun k_ => (w.heap.size ≤ k_) ∧ some k_ ≠ (.slice Ao38 tG.length co38 : Value).ownBlock ∧ some k_ ≠ (.slice Ao39 tD.length co39 : Value).ownBlock ∧ k_ ≠ gbA ∧ k_ ≠ gbB ∧ k_ ≠ g) (.slice (some ⟨go30, 0, none⟩) tF.length co37) tF from Kd.N_mono HX46.o (fun k_ hk => ⟨hk.1, ⟨hk.2.1, ⟨hk.2.2.1, ⟨hk.2.2.2.2.1, ⟨hk.2.2.2.2.2.1, hk.2.2.2.2.2.2⟩⟩⟩⟩⟩))
     obtain ⟨ce46, hcl46, hM46, hcc46, hfr46⟩ := Kd.N_elem HX46.o [] (tN : Int) (zD) (by have h_ : (tN : Int) < ((tF.length : Int) : Int) := zD; first | exact h_ | (have e_ := (Kd.N_reads' HOE.o).1; omega) | simpa using h_)
     obtain ⟨ua46_0, uc46_0, rfl, ul46_0, ge46_0⟩ := Kd.FK_slice_open hM46
     obtain ⟨AvP, cvP, ev_⟩ := Kd.R_slice HOE5.o
     subst ev_
     have HEHP46_ := (IsS98.apart HI0.o (Kd.R_types (Kd.R_types (Kd.R_apart' (Kd.R_apart' (HOE5.o) (Kd.N_typed HOH.o) (by decide)) (Kd.N_typed HOE.o) (by decide)) BKA.o (by decide)) BKB.o (by decide)) (by decide))
     have HRHP46_ := Kd.R_mono (ok' := (fun k_ => ((fun k_ => (w.heap.size ≤ k_) ∧ some k_ ≠ (.slice Ao38 tG.length co38 : Value).ownBlock ∧ some k_ ≠ (.slice Ao39 tD.length co39 : Value).ownBlock ∧ k_ ≠ gbA ∧ k_ ≠ gbB ∧ k_ ≠ g)) k_ ∧ k_ ≠ go30)) HEHP46_ (fun k_ hk => ⟨⟨hk.1.1.1.1.1.1.1, ⟨hk.1.1.1.1.2, ⟨hk.1.1.1.1.1.2, ⟨hk.1.1.2, ⟨hk.1.2, hk.2⟩⟩⟩⟩⟩, fun e_ => (hk.1.1.1.2) (by rw [e_]; rfl)⟩)
     have HP46 := (Kd.N_seg HX46.o (tN : Int) (zD) (by have h_ : (tN : Int) < ((tF.length : Int) : Int) := zD; first | exact h_ | (have e_ := (Kd.N_reads' HOE.o).1; omega) | simpa using h_) (seg := [(.slice AvP yW.length cvP)]) (j := 0) hcl46 hcc46 (show 1 ≤ 1 from by decide) (x' := yW) (fk13_of HRHP46_) (fun _ hk => hk)).1
     (try simp only [show ((Kd.slice 46 k46)).sz = 1 from rfl, Nat.mul_one, Nat.add_zero] at HP46)
     rw [← NyC2.o] at HP46
     have HQ46 := aM HP46
     clear hcl46 hcc46 hfr46 HP46; (try clear hM46)
     refine hK.out _ _ (zc4 BKB.o) fun hHeld => ?_; clear hK K
     refine nZ 27 ?_
     refine pY 9 28 (fB 11 1023) HT_.o ?_
     refine last_ (i := 10) (N := none) #[true, true, true, true, true, true, true, true, true, true, true] rfl rfl (one_of HT_.o (by kernel_rfl)) (by decide) (fun K hK => ?_)
     refine skip_ (w1 := ?_) (by rfl) rfl ?_ ?_
     rotate_left
     ·go_simp
      rfl
     refine hK.out _ _ ?_
     clear hK K
     refine done_ (done_of HT_.o (by kernel_rfl)) ?_
     have n0_ : Aside0 (Kd.N (Kd.slice 46 k46) 23 (w44.setCell ⟨go30, (tN : Int).toNat, none⟩ ((.slice AvP yW.length cvP))) w.heap.size (fun k_ => (w.heap.size ≤ k_) ∧ some k_ ≠ (.slice Ao38 tG.length co38 : Value).ownBlock ∧ some k_ ≠ (.slice Ao39 tD.length co39 : Value).ownBlock ∧ k_ ≠ gbA ∧ k_ ≠ g ∧ k_ ≠ gbB) (.slice (some ⟨go30, 0, none⟩) tF.length co37) yC2) := ⟨by refine zX ?_; exact Kd.N_mono HQ46.o (fun _ hk => ⟨hk.1, ⟨hk.2.1, ⟨hk.2.2.1, ⟨hk.2.2.2.1, ⟨hk.2.2.2.2.2, hk.2.2.2.2.1⟩⟩⟩⟩⟩)⟩
     have n1_ : Aside0 (Kd.N (Kd.slice 46 k46) 23 (w44.setCell ⟨go30, (tN : Int).toNat, none⟩ ((.slice AvP yW.length cvP))) w.heap.size (fun k_ => (w.heap.size ≤ k_) ∧ some k_ ≠ (.slice (some ⟨go30, 0, none⟩) tF.length co37 : Value).ownBlock ∧ some k_ ≠ (.slice Ao39 tD.length co39 : Value).ownBlock ∧ k_ ≠ gbA ∧ k_ ≠ g ∧ k_ ≠ gbB) (.slice Ao38 tG.length co38) tG) := ⟨by refine zX ?_; exact Kd.N_mono (Kd.N_far (p := ⟨go30, (tN : Int).toNat, none⟩) (Kd.N_mono HOH.o (fun k_ hk => (⟨hk, fun e_ => hk.1.1.2.1 (by rw [e_]; rfl)⟩ : _ ∧ k_ ≠ go30))) (fun _ hk => hk.2) ((.slice AvP yW.length cvP))) (fun _ hk => ⟨hk.1.1.1.1, ⟨hk.1.1.1.2.1, ⟨hk.1.1.1.2.2.1, ⟨hk.1.1.1.2.2.2.1, ⟨hk.1.1.1.2.2.2.2, hk.1.1.2⟩⟩⟩⟩⟩)⟩
     have n2_ : Aside0 (Kd.R k46 46 (w44.setCell ⟨go30, (tN : Int).toNat, none⟩ ((.slice AvP yW.length cvP))) w.heap.size (fun k_ => (w.heap.size ≤ k_)) (.slice Ao39 tD.length co39) tD) := ⟨by refine zR ?_; exact Kd.R_mono (Kd.R_far (p := ⟨go30, (tN : Int).toNat, none⟩) (Kd.R_types HOI.o GG30.o (by decide)) (fun _ hk => hk.2) ((.slice AvP yW.length cvP))) (fun _ hk => hk.1.1.1)⟩
     have n3_ : Aside0 ((w44.setCell ⟨go30, (tN : Int).toNat, none⟩ ((.slice AvP yW.length cvP))).heap[gbA]? = some (.cells #[.int .i64 0, .slice none 0 0, .slice none 0 0, .slice none 0 0] 25 (0, 0))) := ⟨by refine zB ?_; refine blk_far ?_ (by have h_ := Kd.N_away HOE.o (fun k_ hk => (show k_ ≠ gbA from by first | exact hk.2.2.2.1 | exact hk.1.2.2.2.1 | (obtain ⟨⟨⟨a1_, a2_, a3_, a4_, a5_⟩, a6_⟩, a7_⟩ := hk; assumption))); intro e_; exact h_ (by rw [e_]; rfl)) _; exact zB BKA.o⟩
     have n4_ : Aside0 ((w44.setCell ⟨go30, (tN : Int).toNat, none⟩ ((.slice AvP yW.length cvP))).heap[gbB]? = some (.cells #[.int .i64 tC, .slice (some ⟨go30, 0, none⟩) tF.length co37, .slice Ao38 tG.length co38, .slice Ao39 tD.length co39] 25 (0, 0))) := ⟨by refine zB ?_; refine blk_far ?_ (by have h_ := Kd.N_away HOE.o (fun k_ hk => (show k_ ≠ gbB from by first | exact hk.2.2.2.2.1 | exact hk.1.2.2.2.2.1 | (obtain ⟨⟨⟨a1_, a2_, a3_, a4_, a5_⟩, a6_⟩, a7_⟩ := hk; assumption))); intro e_; exact h_ (by rw [e_]; rfl)) _; exact zB BKB.o⟩
     have n5_ : Aside0 (IsS98 w0 (w44.setCell ⟨go30, (tN : Int).toNat, none⟩ ((.slice AvP yW.length cvP))) g s0_0 tE3 tE4) := ⟨by repeat (first | (with_reducible first | exact HI0.o | apply IsS98.alloc | apply IsS98.drewN | apply IsS98.drew | apply IsS98.set_1 | apply IsS98.set_2 | refine IsS98.far ?_ HN0_go30.o _ | refine IsS98.far ?_ NB0_A.o _ | refine IsS98.far ?_ NB0_B.o _) | exact HI0.o)⟩
     have n6_ : Aside0 (KeepBut w (w44.setCell ⟨go30, (tN : Int).toNat, none⟩ ((.slice AvP yW.length cvP))) g none) := ⟨by repeat (first | (with_reducible first | exact HK.o | apply KeepBut.set_ | apply keep_drewN | apply keep_drew | apply keep_alloc | refine keep_far ?_ GB30.o _ | refine keep_far ?_ GWA.o _ | refine keep_far ?_ GWB.o _) | exact HK.o)⟩
     have n7_ : Aside0 (Below w0.heap.size w0 (w44.setCell ⟨go30, (tN : Int).toNat, none⟩ ((.slice AvP yW.length cvP)))) := ⟨by repeat (first | (with_reducible first | exact HB.o | apply below_alloc | apply pw_below_drewN | apply below_drew1 | refine bS ?_ (Nat.le_trans HL.o GB30.o) | refine bS ?_ (IsS98.ge HI0.o) | refine bS ?_ GEA.o | refine bS ?_ GEB.o) | exact HB.o)⟩
     (try clear HOE)
     (try clear HOH)
     (try clear HOI)
     (try clear BKA)
     (try clear BKB)
     (try clear HI0)
     (try clear HK)
     (try clear HB)
     generalize (w44.setCell ⟨go30, (tN : Int).toNat, none⟩ ((.slice AvP yW.length cvP))) = w47 at n0_ n1_ n2_ n3_ n4_ n5_ n6_ n7_ ⊢
     have HOE := n0_
     have HOH := n1_
     have HOI := n2_
     have BKA := n3_
     have BKB := n4_
     have HI0 := n5_
     have HK := n6_
     have HB := n7_
     clear n0_ n1_ n2_ n3_ n4_ n5_ n6_ n7_
     have hcz48 := zc4 BKB.o
     have hfz48 := zf4 BKB.o
     have hnb49 := NBA_0.o
     have hnc49 := NB0_A.o
     have hcz50 := zc4 BKA.o
     have hfz50 := zf4 BKA.o
     try go_wp2
     refine bodyPost_ret (results_cell_row rfl _ _ gbA 25 #[.int .i64 tC, .slice (some ⟨go30, 0, none⟩) tF.length co37, .slice Ao38 tG.length co38, .slice Ao39 tD.length co39] (0, 0) _ rfl (by refine zB ?_; refine zp4 (cs := #[.int .i64 0, .slice none 0 0, .slice none 0 0, .slice none 0 0]) ?_; exact zB BKA.o) Try.underlying25 rfl (by kernel_rfl)) rfl ?_
     exact ⟨_, _, _, zW, by refine zX ?_; exact Kd.N_mono (zNF4 (Kd.N_mono HOE.o (fun k_ hk => (⟨hk, hk.2.2.2.1⟩ : _ ∧ k_ ≠ gbA))) gbA (fun _ hk => hk.2) (.int .i64 tC) (.slice (some ⟨go30, 0, none⟩) tF.length co37) (.slice Ao38 tG.length co38) (.slice Ao39 tD.length co39)) (fun _ hk => ⟨hk.1.1, ⟨hk.1.2.1, hk.1.2.2.1⟩⟩), by refine zX ?_; exact Kd.N_mono (zNF4 (Kd.N_mono HOH.o (fun k_ hk => (⟨hk, hk.2.2.2.1⟩ : _ ∧ k_ ≠ gbA))) gbA (fun _ hk => hk.2) (.int .i64 tC) (.slice (some ⟨go30, 0, none⟩) tF.length co37) (.slice Ao38 tG.length co38) (.slice Ao39 tD.length co39)) (fun _ hk => ⟨hk.1.1, ⟨hk.1.2.1, hk.1.2.2.1⟩⟩), by refine zR ?_; exact Kd.R_mono (zRF4 (Kd.R_types HOI.o BKA.o (by decide)) gbA (fun _ hk => hk.2) (.int .i64 tC) (.slice (some ⟨go30, 0, none⟩) tF.length co37) (.slice Ao38 tG.length co38) (.slice Ao39 tD.length co39)) (fun _ hk => hk.1), zI2 HI0.o NB0_A.o NB0_B.o, zL3 HB.o (IsS98.ge HI0.o) GEA.o GEB.o, zK2 HK.o GWA.o GWB.o⟩
    ·rw [if_neg c29] at H
     exact absurd H (by simp)
   ·rw [if_neg c28] at H
    exact absurd H (by simp)
  ·rw [if_neg c25] at H
   obtain ⟨c25b0, c25b1⟩ := zf c25
   by_cases c51 : tL = 2
   ·rw [if_pos c51] at H
    obtain ⟨c51b0, c51b1⟩ := zt c51
    clear c51
    obtain ⟨⟨tO, tE0, tE1⟩, A52, H⟩ := zO H; try dsimp only at H
    obtain ⟨⟨tA5, tB8, tB9, tE6, tE7⟩, A53, H⟩ := zO H; try dsimp only at H
    generalize hyX : (([(⟨tA5, tB8, tB9⟩ : S46)] : List (S46))) = yX at H; (try rw [Option.bind_some] at H); have NyX := aM hyX.symm; clear hyX
    by_cases c54 : 0 ≤ tO
    ·rw [if_pos c54] at H
     have c54b0 := dT c54
     clear c54
     by_cases c55 : tO < (tG.length : Int)
     ·rw [if_pos c55] at H
      have c55b0 := dT c55
      clear c55
      generalize hyC3 : (tG.set (tO : Int).toNat yX) = yC3 at H; (try rw [Option.bind_some] at H); have NyC3 := aM hyC3.symm; clear hyC3
      simp only [Option.some.injEq, Prod.mk.injEq] at H
      obtain ⟨rfl, rfl, rfl, rfl, rfl, rfl⟩ := H
      go_enter Try.func81, Try.ntmps81
      try go_wp2_with (first | ((with_reducible refine gD 2 rfl ?_); refine bE 2 #[.int .i64 0, .slice none 0 0, .slice none 0 0, .slice none 0 0] 25 ?_; intro gbA hg w57 hbox hb; replace HB := zLB (zL1 HB.o (IsS98.ge HI0.o)) hb; have BKA := aM hbox; have GWA := aM (zgK (g := g) (zK HK.o) hg : w.heap.size ≤ gbA); have GEA := aM ((Nat.le_trans HW0.o (zgK (g := g) (zK HK.o) hg : w.heap.size ≤ gbA) : w0.heap.size ≤ gbA)); replace HK := zKB g (zK HK.o) hb; have NB0_A := aM ((zNI (IsS98.lt (zI HI0.o : IsS98 w0 _ g s0_0 s0_1 s0_2)) hg : g ≠ gbA)); have NBA_0 := aM ((zMI (IsS98.lt (zI HI0.o : IsS98 w0 _ g s0_0 s0_1 s0_2)) hg : gbA ≠ g)); replace HI0 := aM (IsS98.below (zI HI0.o) hb); clear hb hbox hg) | ((with_reducible refine gC 86 rfl ?_); refine gL 5 Try.func86 #[.pointer (some ⟨g, 0, none⟩)] ?_; (with_reducible refine (spec_l8Draw.calls k g s0_0 s0_1 s0_2 tC tF tG tD tJ tK w0 _ ?side1 ?side2 A2.o).mono ?_); (case side1 => exact zI1 HI0.o NB0_A.o); (case side2 => exact zL2 HB.o (IsS98.ge HI0.o) GEA.o); rintro e w58 ⟨vA9, vB0, vY, rfl, ho0, ho1, ho2, hi, hb, hk⟩; refine ⟨_, rfl, ?_⟩; have HOE := aM (Kd.N_lower (Kd.N_mono (ok' := fun k_ => (w.heap.size ≤ k_) ∧ some k_ ≠ (vB0 : Value).ownBlock ∧ some k_ ≠ (vY : Value).ownBlock ∧ k_ ≠ gbA ∧ k_ ≠ g) (Kd.S_N (Kd.S_bound ho0)) (fun k_ hk_ => ⟨(Nat.le_trans (keep_size (w := w) (g := g) (row := none) (zK1 HK.o GWA.o)) hk_.2.1), hk_.1.1, hk_.1.2, (Kd.freshB (g := gbA) (o := .cells #[.int .i64 0, .slice none 0 0, .slice none 0 0, .slice none 0 0] 25 (0, 0)) (zB BKA.o) k_ hk_.2.1), (IsS98.fresh (zI1 HI0.o NB0_A.o) k_ hk_.2.1)⟩)) (keep_size (w := w) (g := g) (row := none) (zK1 HK.o GWA.o))); have HOH := aM (Kd.N_lower (Kd.N_mono (ok' := fun k_ => (w.heap.size ≤ k_) ∧ some k_ ≠ (vA9 : Value).ownBlock ∧ some k_ ≠ (vY : Value).ownBlock ∧ k_ ≠ gbA ∧ k_ ≠ g) (Kd.S_N (Kd.S_bound ho1)) (fun k_ hk_ => ⟨(Nat.le_trans (keep_size (w := w) (g := g) (row := none) (zK1 HK.o GWA.o)) hk_.2.1), hk_.1.1, hk_.1.2, (Kd.freshB (g := gbA) (o := .cells #[.int .i64 0, .slice none 0 0, .slice none 0 0, .slice none 0 0] 25 (0, 0)) (zB BKA.o) k_ hk_.2.1), (IsS98.fresh (zI1 HI0.o NB0_A.o) k_ hk_.2.1)⟩)) (keep_size (w := w) (g := g) (row := none) (zK1 HK.o GWA.o))); replace BKA := zBK hk BKA NBA_0; have HOI := aM (Kd.R_lower (Kd.R_newM (M := fun k_ => (w.heap.size ≤ k_)) ho2 (keep_size (w := w) (g := g) (row := none) (zK1 HK.o GWA.o)) (fun k_ h_ => h_)) (keep_size (w := w) (g := g) (row := none) (zK1 HK.o GWA.o))); replace HK := zKK (zK1 HK.o GWA.o) hk; replace HB := aM hb; replace HI0 := aM hi; clear ho0 hi hb hk; (try clear ho1); (try clear ho2)) | ((with_reducible refine gD 3 rfl ?_); refine bE 3 #[.int .i64 0, .slice none 0 0, .slice none 0 0, .slice none 0 0] 25 ?_; intro gbB hg w59 hbox hb; replace HOE := aM (Kd.N_below (Kd.N_elderB (zX HOE.o) gbB (Nat.le_of_eq hg.symm)) hb); replace HOH := aM (Kd.N_below (Kd.N_elderB (zX HOH.o) gbB (Nat.le_of_eq hg.symm)) hb); replace HOI := zRB HOI hb; replace HB := zLB (zL2 HB.o (IsS98.ge HI0.o) GEA.o) hb; have BKB := aM hbox; have GWB := aM (zgK (g := g) (zK1 HK.o GWA.o) hg : w.heap.size ≤ gbB); have GEB := aM ((Nat.le_trans HW0.o (zgK (g := g) (zK1 HK.o GWA.o) hg : w.heap.size ≤ gbB) : w0.heap.size ≤ gbB)); replace HK := zKB g (zK1 HK.o GWA.o) hb; have NBA_B := aM (zN BKA.o hg : gbA ≠ gbB); have NBB_A := aM (zM BKA.o hg : gbB ≠ gbA); replace BKA := zBB BKA hb; have NB0_B := aM ((zNI (IsS98.lt (zI1 HI0.o NB0_A.o : IsS98 w0 _ g s0_0 tJ tK)) hg : g ≠ gbB)); have NBB_0 := aM ((zMI (IsS98.lt (zI1 HI0.o NB0_A.o : IsS98 w0 _ g s0_0 tJ tK)) hg : gbB ≠ g)); replace HI0 := aM (IsS98.below (zI1 HI0.o NB0_A.o) hb); clear hb hbox hg; have hnb60 := NBB_A.o; have hnc60 := NBA_B.o; have hnb61 := NBB_0.o; have hnc61 := NB0_B.o; have hcz62 := zc4 BKB.o; have hfz62 := zf4 BKB.o; obtain ⟨Ao63, co63, eo63⟩ := Kd.N_slice HOE.o; subst eo63; obtain ⟨Ao64, co64, eo64⟩ := Kd.N_slice HOH.o; subst eo64; obtain ⟨Ao65, co65, eo65⟩ := Kd.R_slice HOI.o; subst eo65) | ((with_reducible refine gC 83 rfl ?_); refine gL 7 Try.func83 #[.pointer (some ⟨g, 0, none⟩), .int .i64 12] ?_; (with_reducible refine (spec_l1Below.calls g s0_0 tJ tK 12 tL tZ tA0 w0 _ ?side1 ?side2 A3.o).mono ?_); (case side1 => exact zI2 HI0.o NB0_A.o NB0_B.o); (case side2 => exact zL3 HB.o (IsS98.ge HI0.o) GEA.o GEB.o); rintro e w66 ⟨rfl, hi, hb, hk⟩; refine ⟨_, rfl, ?_⟩; replace BKA := aM (zQ2 (.cells #[.int .i64 0, .slice none 0 0, .slice none 0 0, .slice none 0 0] 25 (0, 0)) hk (by refine zB ?_; refine zr4 ?_ NBA_B.o; exact zB BKA.o) NBA_0.o (by simp)); replace HOE := aM (Kd.N_mono (Kd.N_keep (Kd.N_mono (ok := fun k_ => ((((w.heap.size ≤ k_)) ∧ (some k_ ≠ (.slice Ao64 tG.length co64 : Value).ownBlock ∧ (some k_ ≠ (.slice Ao65 tD.length co65 : Value).ownBlock ∧ (k_ ≠ gbA ∧ k_ ≠ g)))) ∧ k_ ≠ gbB)) (by refine zX ?_; exact (Kd.N_mono (zNF4 (Kd.N_mono HOE.o (fun k_ hk => (⟨hk, hk.2⟩ : _ ∧ k_ ≠ gbB))) gbB (fun _ hk => hk.2) (.int .i64 tC) (.slice Ao63 tF.length co63) (.slice Ao64 tG.length co64) (.slice Ao65 tD.length co65)) (fun _ h_ => h_.1))) (fun k_ hk_ => (⟨hk_, hk_.1.2.2.2.2⟩ : _ ∧ k_ ≠ g))) hk (fun _ h => h.2)) (fun _ h => h.1)); replace HOH := aM (Kd.N_mono (Kd.N_keep (Kd.N_mono (ok := fun k_ => ((((w.heap.size ≤ k_)) ∧ (some k_ ≠ (.slice Ao63 tF.length co63 : Value).ownBlock ∧ (some k_ ≠ (.slice Ao65 tD.length co65 : Value).ownBlock ∧ (k_ ≠ gbA ∧ k_ ≠ g)))) ∧ k_ ≠ gbB)) (by refine zX ?_; exact (Kd.N_mono (zNF4 (Kd.N_mono HOH.o (fun k_ hk => (⟨hk, hk.2⟩ : _ ∧ k_ ≠ gbB))) gbB (fun _ hk => hk.2) (.int .i64 tC) (.slice Ao63 tF.length co63) (.slice Ao64 tG.length co64) (.slice Ao65 tD.length co65)) (fun _ h_ => h_.1))) (fun k_ hk_ => (⟨hk_, hk_.1.2.2.2.2⟩ : _ ∧ k_ ≠ g))) hk (fun _ h => h.2)) (fun _ h => h.1)); replace HOI := aM (Kd.R_mono (Kd.R_keep (IsS98.apart (show IsS98 w0 _ g s0_0 tJ tK from zI2 HI0.o NB0_A.o NB0_B.o) (by refine zR ?_; exact (Kd.R_mono (zRF4 (Kd.R_types HOI.o BKB.o (by decide)) gbB (fun _ hk => hk.2) (.int .i64 tC) (.slice Ao63 tF.length co63) (.slice Ao64 tG.length co64) (.slice Ao65 tD.length co65)) (fun _ h_ => h_.1))) (by decide)) hk (fun _ h => h.2)) (fun _ h => h.1)); replace BKB := aM (zQ2 (.cells #[.int .i64 tC, .slice Ao63 tF.length co63, .slice Ao64 tG.length co64, .slice Ao65 tD.length co65] 25 (0, 0)) hk (by refine zB ?_; refine zp4 (cs := #[.int .i64 0, .slice none 0 0, .slice none 0 0, .slice none 0 0]) ?_; exact zB BKB.o) NBB_0.o (by simp)); replace HK := zKK (zK2 HK.o GWA.o GWB.o) hk; replace HB := aM hb; replace HI0 := aM hi; clear hi hb hk))
      replace HOE := zXD HOE; replace HOH := zXD HOH; replace HOI := zRD HOI; replace BKA := zBD BKA; replace BKB := zBD BKB; replace HI0 := aM (IsS98.drew HI0.o); replace HK := aM (keep_drew HK.o); replace HB := zLD HB
      refine start_ (n := 11) (S := fun w' => zs4 w' gbB (.int .i64 tC) (.slice Ao63 tF.length co63) (.slice Ao64 tG.length co64) (.slice Ao65 tD.length co65)) (ds := [10]) (fB 11 0) (by kernel_rfl) rfl rfl (zc4 BKB.o) (fun hHeld => ?_); refine with_tabW spec_l8Any.tab8 spec_l8Any.bits8 (fun HT_ HW_ => ?_)
      generalize w66.drew = w67 at HOE HOH HOI BKA BKB HI0 HK HB hHeld ⊢
      refine pY 0 31 (fB 11 1) HT_.o ?_
      refine pY 2 33 (fB 11 5) HT_.o ?_
      refine pY 4 35 (fB 11 21) HT_.o ?_
      refine pY 5 36 (fB 11 53) HT_.o ?_
      refine tY 1 32 (fB 11 55) HT_.o HW_.o hHeld ?_
      refine tY 6 37 (fB 11 119) HT_.o HW_.o hHeld ?_
      refine oN 3 34 (fB 11 127) HT_.o fun K hK => ?_
      refine gS Try.func83 #[.pointer (some ⟨g, 0, none⟩), .int .i64 8] ?_
      with_reducible refine (spec_l1Below.calls g s0_0 tZ tA0 8 tO tE0 tE1 w0 _ ?side1 ?side2 A52.o).mono ?_
      (case side1 => exact zI2 HI0.o NB0_A.o NB0_B.o)
      (case side2 => exact zL3 HB.o (IsS98.ge HI0.o) GEA.o GEB.o)
      rintro e w68 ⟨rfl, hi, hb, hk⟩
      refine ⟨_, rfl, ?_⟩
      replace BKA := zBK hk BKA NBA_0; replace HOE := aM (Kd.N_mono (Kd.N_keep (Kd.N_mono (ok := fun k_ => ((((w.heap.size ≤ k_)) ∧ (some k_ ≠ (.slice Ao64 tG.length co64 : Value).ownBlock ∧ (some k_ ≠ (.slice Ao65 tD.length co65 : Value).ownBlock ∧ (k_ ≠ gbA ∧ k_ ≠ g)))) ∧ k_ ≠ gbB)) (zX HOE.o) (fun k_ hk_ => (⟨hk_, hk_.1.2.2.2.2⟩ : _ ∧ k_ ≠ g))) hk (fun _ h => h.2)) (fun _ h => h.1)); replace HOH := aM (Kd.N_mono (Kd.N_keep (Kd.N_mono (ok := fun k_ => ((((w.heap.size ≤ k_)) ∧ (some k_ ≠ (.slice Ao63 tF.length co63 : Value).ownBlock ∧ (some k_ ≠ (.slice Ao65 tD.length co65 : Value).ownBlock ∧ (k_ ≠ gbA ∧ k_ ≠ g)))) ∧ k_ ≠ gbB)) (zX HOH.o) (fun k_ hk_ => (⟨hk_, hk_.1.2.2.2.2⟩ : _ ∧ k_ ≠ g))) hk (fun _ h => h.2)) (fun _ h => h.1)); replace HOI := aM (Kd.R_mono (Kd.R_keep (IsS98.apart (show IsS98 w0 _ g s0_0 tZ tA0 from zI2 HI0.o NB0_A.o NB0_B.o) (zR HOI.o) (by decide)) hk (fun _ h => h.2)) (fun _ h => h.1)); replace BKB := zBK hk BKB NBB_0; replace HK := zKK (zK2 HK.o GWA.o GWB.o) hk; replace HB := aM hb; replace HI0 := aM hi
      clear hi hb hk
      refine hK.out _ _ (zc4 BKB.o) fun hHeld => ?_; clear hK K
      refine nZ 34 ?_
      refine oN 7 38 (fB 11 255) HT_.o fun K hK => ?_
      refine gS Try.func82 #[.pointer (some ⟨g, 0, none⟩), .int .i64 tC, .int .i64 9] ?_
      with_reducible refine (spec_l8Timer.calls g s0_0 tE0 tE1 tC 9 tA5 tB8 tB9 tE6 tE7 w0 _ ?side1 ?side2 A53.o).mono ?_
      (case side1 => exact zI2 HI0.o NB0_A.o NB0_B.o)
      (case side2 => exact zL3 HB.o (IsS98.ge HI0.o) GEA.o GEB.o)
      rintro e w69 ⟨rfl, hi, hb, hk⟩
      refine ⟨_, rfl, ?_⟩
      replace BKA := zBK hk BKA NBA_0; replace HOE := aM (Kd.N_mono (Kd.N_keep (Kd.N_mono (ok := fun k_ => ((((w.heap.size ≤ k_)) ∧ (some k_ ≠ (.slice Ao64 tG.length co64 : Value).ownBlock ∧ (some k_ ≠ (.slice Ao65 tD.length co65 : Value).ownBlock ∧ (k_ ≠ gbA ∧ k_ ≠ g)))) ∧ k_ ≠ gbB)) (zX HOE.o) (fun k_ hk_ => (⟨hk_, hk_.1.2.2.2.2⟩ : _ ∧ k_ ≠ g))) hk (fun _ h => h.2)) (fun _ h => h.1)); replace HOH := aM (Kd.N_mono (Kd.N_keep (Kd.N_mono (ok := fun k_ => ((((w.heap.size ≤ k_)) ∧ (some k_ ≠ (.slice Ao63 tF.length co63 : Value).ownBlock ∧ (some k_ ≠ (.slice Ao65 tD.length co65 : Value).ownBlock ∧ (k_ ≠ gbA ∧ k_ ≠ g)))) ∧ k_ ≠ gbB)) (zX HOH.o) (fun k_ hk_ => (⟨hk_, hk_.1.2.2.2.2⟩ : _ ∧ k_ ≠ g))) hk (fun _ h => h.2)) (fun _ h => h.1)); replace HOI := aM (Kd.R_mono (Kd.R_keep (IsS98.apart (show IsS98 w0 _ g s0_0 tE0 tE1 from zI2 HI0.o NB0_A.o NB0_B.o) (zR HOI.o) (by decide)) hk (fun _ h => h.2)) (fun _ h => h.1)); replace BKB := zBK hk BKB NBB_0; replace HK := zKK (zK2 HK.o GWA.o GWB.o) hk; replace HB := aM hb; replace HI0 := aM hi
      clear hi hb hk
      refine hK.out _ _ (zc4 BKB.o) fun hHeld => ?_; clear hK K
      refine nZ 38 ?_
      refine oN 8 39 (fB 11 511) HT_.o fun K hK => ?_
      refine Kd.R_lit_step k46 _ 46 ?hg (N := 39) ?hd (xs := ([(⟨tA5, tB8, tB9⟩ : S46)] : List (S46))) (inner := [.int .i64 tA5, .int .i64 tB8, .int .i64 tB9]) (ok := fun _ => True) (okp := fun _ => True) ?hr ?hp (fun _ hk => hk) trivial (Below.refl _ _) (Nat.le_refl _) (by simp) ?_; (case hd => rfl); (case hg => rfl); (case hr => first | (go_simp; done) | (go_simp; rfl)); (case hp => exact (Reps.c3 (show Kd.M k46 _ _ _ (⟨tA5, tB8, tB9⟩ : S46) [.int .i64 tA5, .int .i64 tB8, .int .i64 tB9] from (k46_mkM _ _ _ (⟨tA5, tB8, tB9⟩ : S46) )) (Reps.none _ _)))
      intro vQ w70 ho71 hb hg_ hnew_
      clear hg_ hnew_
      (first | rw [← NyX.o] at ho71 | (simp only [Int.reduceToNat] at ho71; rw [← NyX.o] at ho71))
      replace HOE := aM (Kd.N_elder' (zX HOE.o) (Kd.R_base ho71) hb); replace HOH := aM (Kd.N_elder' (zX HOH.o) (Kd.R_base ho71) hb); have HOE8 := aM (Kd.R_lower (Kd.R_new' (Kd.R_newM (M := fun k_ => (w.heap.size ≤ k_)) ho71 (keep_size (w := w) (g := g) (row := none) (zK2 HK.o GWA.o GWB.o)) (fun k_ h_ => h_)) (Kd.R_lt (zR HOI.o))) (keep_size (w := w) (g := g) (row := none) (zK2 HK.o GWA.o GWB.o))); replace HOI := aM (Kd.R_elder' (zR HOI.o) (Kd.R_base ho71) hb); replace BKA := zBB BKA hb; replace BKB := zBB BKB hb; replace HK := zKB g (zK2 HK.o GWA.o GWB.o) hb; replace HB := zLB (zL3 HB.o (IsS98.ge HI0.o) GEA.o GEB.o) hb; replace HI0 := aM (IsS98.below (zI2 HI0.o NB0_A.o NB0_B.o) hb)
      clear hb ho71
      have p56 : 0 ≤ (tO : Int) := zD
      have q56 : (tO : Int) < ((tG.length : Int) : Int) := zD
      obtain ⟨go56, co56, eo56, gb56, gl56, cl56, HG56⟩ := Kd.N_form HOH.o (by omega)
      (first | cases eo56 | (injection eo56 with ea_ en_ ec_; (first | subst ea_ | (injection ea_ with ea_; subst ea_)); subst ec_; clear en_))
      have GB56 := aM gb56
      have GG56 := aM HG56
      clear gb56 gl56 HG56
      obtain ⟨ce56, hcl56, hM56, hcc56, hfr56⟩ := Kd.N_elem HOH.o [] (tO : Int) p56 q56
      obtain ⟨ua56_0, uc56_0, rfl, ul56_0, ge56_0⟩ := Kd.FK_slice_open hM56
      have hx56_0 := hcc56 0 _ rfl
      have hf56_0 := hfr56 0
      (try simp only [show ((Kd.slice 46 k46)).sz = 1 from rfl, Nat.mul_one, Nat.add_zero] at hx56_0)
      (try simp only [show ((Kd.slice 46 k46)).sz = 1 from rfl, Nat.mul_one, Nat.add_zero] at hf56_0)
      clear hcl56 hcc56 hfr56; (try clear hM56)
      replace p56 := eq_true p56
      replace q56 := eq_true q56
      have HN0_go56 := aM (show g ≠ go56 from by have h_ := IsS98.own_neN HI0.o HOH.o (by decide); intro e_; exact h_ (by rw [e_]; rfl))
      have HX72 := aM (show Kd.N (Kd.slice 46 k46) 23 _ w.heap.size (fun k_ => (w.heap.size ≤ k_) ∧ some k_ ≠ (.slice Ao63 tF.length co63 : Value).ownBlock ∧ some k_ ≠ (.slice Ao65 tD.length co65 : Value).ownBlock ∧ some k_ ≠ (vQ : Value).ownBlock ∧ k_ ≠ gbA ∧ k_ ≠ gbB ∧ k_ ≠ g) (.slice (some ⟨go56, 0, none⟩) tG.length co64) tG from (Kd.N_mono (HOH.o) (fun k_ hk => ⟨hk.1.1.1, ⟨hk.1.1.2.1, ⟨hk.1.1.2.2.1, ⟨hk.2, ⟨hk.1.1.2.2.2.1, ⟨hk.1.2, hk.1.1.2.2.2.2⟩⟩⟩⟩⟩⟩)))
      replace HX72 := aM (show Kd.N (Kd.slice 46 k46) 23 _ w.heap.size (fun k_ => (w.heap.size ≤ k_) ∧ some k_ ≠ (.slice Ao63 tF.length co63 : Value).ownBlock ∧ some k_ ≠ (.slice Ao65 tD.length co65 : Value).ownBlock ∧ k_ ≠ gbA ∧ k_ ≠ gbB ∧ k_ ≠ g) (.slice (some ⟨go56, 0, none⟩) tG.length co64) tG from Kd.N_mono HX72.o (fun k_ hk => ⟨hk.1, ⟨hk.2.1, ⟨hk.2.2.1, ⟨hk.2.2.2.2.1, ⟨hk.2.2.2.2.2.1, hk.2.2.2.2.2.2⟩⟩⟩⟩⟩))
      obtain ⟨ce72, hcl72, hM72, hcc72, hfr72⟩ := Kd.N_elem HX72.o [] (tO : Int) (zD) (by have h_ : (tO : Int) < ((tG.length : Int) : Int) := zD; first | exact h_ | (have e_ := (Kd.N_reads' HOH.o).1; omega) | simpa using h_)
      obtain ⟨ua72_0, uc72_0, rfl, ul72_0, ge72_0⟩ := Kd.FK_slice_open hM72
      obtain ⟨AvQ, cvQ, ev_⟩ := Kd.R_slice HOE8.o
      subst ev_
      have HEHP72_ := (IsS98.apart HI0.o (Kd.R_types (Kd.R_types (Kd.R_apart' (Kd.R_apart' (HOE8.o) (Kd.N_typed HOE.o) (by decide)) (Kd.N_typed HOH.o) (by decide)) BKA.o (by decide)) BKB.o (by decide)) (by decide))
      have HRHP72_ := Kd.R_mono (ok' := (fun k_ => ((fun k_ => (w.heap.size ≤ k_) ∧ some k_ ≠ (.slice Ao63 tF.length co63 : Value).ownBlock ∧ some k_ ≠ (.slice Ao65 tD.length co65 : Value).ownBlock ∧ k_ ≠ gbA ∧ k_ ≠ gbB ∧ k_ ≠ g)) k_ ∧ k_ ≠ go56)) HEHP72_ (fun k_ hk => ⟨⟨hk.1.1.1.1.1.1.1, ⟨hk.1.1.1.1.2, ⟨hk.1.1.1.1.1.2, ⟨hk.1.1.2, ⟨hk.1.2, hk.2⟩⟩⟩⟩⟩, fun e_ => (hk.1.1.1.2) (by rw [e_]; rfl)⟩)
      have HP72 := (Kd.N_seg HX72.o (tO : Int) (zD) (by have h_ : (tO : Int) < ((tG.length : Int) : Int) := zD; first | exact h_ | (have e_ := (Kd.N_reads' HOH.o).1; omega) | simpa using h_) (seg := [(.slice AvQ yX.length cvQ)]) (j := 0) hcl72 hcc72 (show 1 ≤ 1 from by decide) (x' := yX) (fk13_of HRHP72_) (fun _ hk => hk)).1
      (try simp only [show ((Kd.slice 46 k46)).sz = 1 from rfl, Nat.mul_one, Nat.add_zero] at HP72)
      rw [← NyC3.o] at HP72
      have HQ72 := aM HP72
      clear hcl72 hcc72 hfr72 HP72; (try clear hM72)
      refine hK.out _ _ (zc4 BKB.o) fun hHeld => ?_; clear hK K
      refine nZ 39 ?_
      refine pY 9 40 (fB 11 1023) HT_.o ?_
      refine last_ (i := 10) (N := none) #[true, true, true, true, true, true, true, true, true, true, true] rfl rfl (one_of HT_.o (by kernel_rfl)) (by decide) (fun K hK => ?_)
      refine skip_ (w1 := ?_) (by rfl) rfl ?_ ?_
      rotate_left
      ·go_simp
       rfl
      refine hK.out _ _ ?_
      clear hK K
      refine done_ (done_of HT_.o (by kernel_rfl)) ?_
      have n0_ : Aside0 (Kd.N (Kd.slice 46 k46) 23 (w70.setCell ⟨go56, (tO : Int).toNat, none⟩ ((.slice AvQ yX.length cvQ))) w.heap.size (fun k_ => (w.heap.size ≤ k_) ∧ some k_ ≠ (.slice (some ⟨go56, 0, none⟩) tG.length co64 : Value).ownBlock ∧ some k_ ≠ (.slice Ao65 tD.length co65 : Value).ownBlock ∧ k_ ≠ gbA ∧ k_ ≠ g ∧ k_ ≠ gbB) (.slice Ao63 tF.length co63) tF) := ⟨by refine zX ?_; exact Kd.N_mono (Kd.N_far (p := ⟨go56, (tO : Int).toNat, none⟩) (Kd.N_mono HOE.o (fun k_ hk => (⟨hk, fun e_ => hk.1.1.2.1 (by rw [e_]; rfl)⟩ : _ ∧ k_ ≠ go56))) (fun _ hk => hk.2) ((.slice AvQ yX.length cvQ))) (fun _ hk => ⟨hk.1.1.1.1, ⟨hk.1.1.1.2.1, ⟨hk.1.1.1.2.2.1, ⟨hk.1.1.1.2.2.2.1, ⟨hk.1.1.1.2.2.2.2, hk.1.1.2⟩⟩⟩⟩⟩)⟩
      have n1_ : Aside0 (Kd.N (Kd.slice 46 k46) 23 (w70.setCell ⟨go56, (tO : Int).toNat, none⟩ ((.slice AvQ yX.length cvQ))) w.heap.size (fun k_ => (w.heap.size ≤ k_) ∧ some k_ ≠ (.slice Ao63 tF.length co63 : Value).ownBlock ∧ some k_ ≠ (.slice Ao65 tD.length co65 : Value).ownBlock ∧ k_ ≠ gbA ∧ k_ ≠ g ∧ k_ ≠ gbB) (.slice (some ⟨go56, 0, none⟩) tG.length co64) yC3) := ⟨by refine zX ?_; exact Kd.N_mono HQ72.o (fun _ hk => ⟨hk.1, ⟨hk.2.1, ⟨hk.2.2.1, ⟨hk.2.2.2.1, ⟨hk.2.2.2.2.2, hk.2.2.2.2.1⟩⟩⟩⟩⟩)⟩
      have n2_ : Aside0 (Kd.R k46 46 (w70.setCell ⟨go56, (tO : Int).toNat, none⟩ ((.slice AvQ yX.length cvQ))) w.heap.size (fun k_ => (w.heap.size ≤ k_)) (.slice Ao65 tD.length co65) tD) := ⟨by refine zR ?_; exact Kd.R_mono (Kd.R_far (p := ⟨go56, (tO : Int).toNat, none⟩) (Kd.R_types HOI.o GG56.o (by decide)) (fun _ hk => hk.2) ((.slice AvQ yX.length cvQ))) (fun _ hk => hk.1.1.1)⟩
      have n3_ : Aside0 ((w70.setCell ⟨go56, (tO : Int).toNat, none⟩ ((.slice AvQ yX.length cvQ))).heap[gbA]? = some (.cells #[.int .i64 0, .slice none 0 0, .slice none 0 0, .slice none 0 0] 25 (0, 0))) := ⟨by refine zB ?_; refine blk_far ?_ (by have h_ := Kd.N_away HOH.o (fun k_ hk => (show k_ ≠ gbA from by first | exact hk.2.2.2.1 | exact hk.1.2.2.2.1 | (obtain ⟨⟨⟨a1_, a2_, a3_, a4_, a5_⟩, a6_⟩, a7_⟩ := hk; assumption))); intro e_; exact h_ (by rw [e_]; rfl)) _; exact zB BKA.o⟩
      have n4_ : Aside0 ((w70.setCell ⟨go56, (tO : Int).toNat, none⟩ ((.slice AvQ yX.length cvQ))).heap[gbB]? = some (.cells #[.int .i64 tC, .slice Ao63 tF.length co63, .slice (some ⟨go56, 0, none⟩) tG.length co64, .slice Ao65 tD.length co65] 25 (0, 0))) := ⟨by refine zB ?_; refine blk_far ?_ (by have h_ := Kd.N_away HOH.o (fun k_ hk => (show k_ ≠ gbB from by first | exact hk.2.2.2.2.1 | exact hk.1.2.2.2.2.1 | (obtain ⟨⟨⟨a1_, a2_, a3_, a4_, a5_⟩, a6_⟩, a7_⟩ := hk; assumption))); intro e_; exact h_ (by rw [e_]; rfl)) _; exact zB BKB.o⟩
      have n5_ : Aside0 (IsS98 w0 (w70.setCell ⟨go56, (tO : Int).toNat, none⟩ ((.slice AvQ yX.length cvQ))) g s0_0 tE6 tE7) := ⟨by repeat (first | (with_reducible first | exact HI0.o | apply IsS98.alloc | apply IsS98.drewN | apply IsS98.drew | apply IsS98.set_1 | apply IsS98.set_2 | refine IsS98.far ?_ HN0_go56.o _ | refine IsS98.far ?_ NB0_A.o _ | refine IsS98.far ?_ NB0_B.o _) | exact HI0.o)⟩
      have n6_ : Aside0 (KeepBut w (w70.setCell ⟨go56, (tO : Int).toNat, none⟩ ((.slice AvQ yX.length cvQ))) g none) := ⟨by repeat (first | (with_reducible first | exact HK.o | apply KeepBut.set_ | apply keep_drewN | apply keep_drew | apply keep_alloc | refine keep_far ?_ GB56.o _ | refine keep_far ?_ GWA.o _ | refine keep_far ?_ GWB.o _) | exact HK.o)⟩
      have n7_ : Aside0 (Below w0.heap.size w0 (w70.setCell ⟨go56, (tO : Int).toNat, none⟩ ((.slice AvQ yX.length cvQ)))) := ⟨by repeat (first | (with_reducible first | exact HB.o | apply below_alloc | apply pw_below_drewN | apply below_drew1 | refine bS ?_ (Nat.le_trans HL.o GB56.o) | refine bS ?_ (IsS98.ge HI0.o) | refine bS ?_ GEA.o | refine bS ?_ GEB.o) | exact HB.o)⟩
      (try clear HOE)
      (try clear HOH)
      (try clear HOI)
      (try clear BKA)
      (try clear BKB)
      (try clear HI0)
      (try clear HK)
      (try clear HB)
      generalize (w70.setCell ⟨go56, (tO : Int).toNat, none⟩ ((.slice AvQ yX.length cvQ))) = w73 at n0_ n1_ n2_ n3_ n4_ n5_ n6_ n7_ ⊢
      have HOE := n0_
      have HOH := n1_
      have HOI := n2_
      have BKA := n3_
      have BKB := n4_
      have HI0 := n5_
      have HK := n6_
      have HB := n7_
      clear n0_ n1_ n2_ n3_ n4_ n5_ n6_ n7_
      have hcz74 := zc4 BKB.o
      have hfz74 := zf4 BKB.o
      have hnb75 := NBA_0.o
      have hnc75 := NB0_A.o
      have hcz76 := zc4 BKA.o
      have hfz76 := zf4 BKA.o
      try go_wp2
      refine bodyPost_ret (results_cell_row rfl _ _ gbA 25 #[.int .i64 tC, .slice Ao63 tF.length co63, .slice (some ⟨go56, 0, none⟩) tG.length co64, .slice Ao65 tD.length co65] (0, 0) _ rfl (by refine zB ?_; refine zp4 (cs := #[.int .i64 0, .slice none 0 0, .slice none 0 0, .slice none 0 0]) ?_; exact zB BKA.o) Try.underlying25 rfl (by kernel_rfl)) rfl ?_
      exact ⟨_, _, _, zW, by refine zX ?_; exact Kd.N_mono (zNF4 (Kd.N_mono HOE.o (fun k_ hk => (⟨hk, hk.2.2.2.1⟩ : _ ∧ k_ ≠ gbA))) gbA (fun _ hk => hk.2) (.int .i64 tC) (.slice Ao63 tF.length co63) (.slice (some ⟨go56, 0, none⟩) tG.length co64) (.slice Ao65 tD.length co65)) (fun _ hk => ⟨hk.1.1, ⟨hk.1.2.1, hk.1.2.2.1⟩⟩), by refine zX ?_; exact Kd.N_mono (zNF4 (Kd.N_mono HOH.o (fun k_ hk => (⟨hk, hk.2.2.2.1⟩ : _ ∧ k_ ≠ gbA))) gbA (fun _ hk => hk.2) (.int .i64 tC) (.slice Ao63 tF.length co63) (.slice (some ⟨go56, 0, none⟩) tG.length co64) (.slice Ao65 tD.length co65)) (fun _ hk => ⟨hk.1.1, ⟨hk.1.2.1, hk.1.2.2.1⟩⟩), by refine zR ?_; exact Kd.R_mono (zRF4 (Kd.R_types HOI.o BKA.o (by decide)) gbA (fun _ hk => hk.2) (.int .i64 tC) (.slice Ao63 tF.length co63) (.slice (some ⟨go56, 0, none⟩) tG.length co64) (.slice Ao65 tD.length co65)) (fun _ hk => hk.1), zI2 HI0.o NB0_A.o NB0_B.o, zL3 HB.o (IsS98.ge HI0.o) GEA.o GEB.o, zK2 HK.o GWA.o GWB.o⟩
     ·rw [if_neg c55] at H
      exact absurd H (by simp)
    ·rw [if_neg c54] at H
     exact absurd H (by simp)
   ·rw [if_neg c51] at H
    obtain ⟨c51b0, c51b1⟩ := zf c51
    by_cases c77 : tL = 3
    ·rw [if_pos c77] at H
     obtain ⟨c77b0, c77b1⟩ := zt c77
     clear c77
     generalize hyA2 : (([0, 1, 9] : List Int)) = yA2 at H; (try rw [Option.bind_some] at H); have NyA2 := aM hyA2.symm; clear hyA2
     obtain ⟨⟨tB5, tD6, tD7⟩, A78, H⟩ := zO H; try dsimp only at H
     obtain ⟨⟨tA8, tC6, tC7, tF2, tF3⟩, A79, H⟩ := zO H; try dsimp only at H
     by_cases c80 : tD.length < 5864062014805
     ·rw [if_pos c80] at H
      have LMc80 := aM c80
      clear c80
      generalize hyA7 : (tD ++ [(⟨tA8, tC6, tC7⟩ : S46)]) = yA7 at H; (try rw [Option.bind_some] at H); have NyA7 := aM hyA7.symm; clear hyA7
      simp only [Option.some.injEq, Prod.mk.injEq] at H
      obtain ⟨rfl, rfl, rfl, rfl, rfl, rfl⟩ := H
      go_enter Try.func81, Try.ntmps81
      try go_wp2_with (first | ((with_reducible refine gD 2 rfl ?_); refine bE 2 #[.int .i64 0, .slice none 0 0, .slice none 0 0, .slice none 0 0] 25 ?_; intro gbA hg w81 hbox hb; replace HB := zLB (zL1 HB.o (IsS98.ge HI0.o)) hb; have BKA := aM hbox; have GWA := aM (zgK (g := g) (zK HK.o) hg : w.heap.size ≤ gbA); have GEA := aM ((Nat.le_trans HW0.o (zgK (g := g) (zK HK.o) hg : w.heap.size ≤ gbA) : w0.heap.size ≤ gbA)); replace HK := zKB g (zK HK.o) hb; have NB0_A := aM ((zNI (IsS98.lt (zI HI0.o : IsS98 w0 _ g s0_0 s0_1 s0_2)) hg : g ≠ gbA)); have NBA_0 := aM ((zMI (IsS98.lt (zI HI0.o : IsS98 w0 _ g s0_0 s0_1 s0_2)) hg : gbA ≠ g)); replace HI0 := aM (IsS98.below (zI HI0.o) hb); clear hb hbox hg) | ((with_reducible refine gC 86 rfl ?_); refine gL 5 Try.func86 #[.pointer (some ⟨g, 0, none⟩)] ?_; (with_reducible refine (spec_l8Draw.calls k g s0_0 s0_1 s0_2 tC tF tG tD tJ tK w0 _ ?side1 ?side2 A2.o).mono ?_); (case side1 => exact zI1 HI0.o NB0_A.o); (case side2 => exact zL2 HB.o (IsS98.ge HI0.o) GEA.o); rintro e w82 ⟨vA9, vB0, vY, rfl, ho0, ho1, ho2, hi, hb, hk⟩; refine ⟨_, rfl, ?_⟩; have HOE := aM (Kd.N_lower (Kd.N_mono (ok' := fun k_ => (w.heap.size ≤ k_) ∧ some k_ ≠ (vB0 : Value).ownBlock ∧ some k_ ≠ (vY : Value).ownBlock ∧ k_ ≠ gbA ∧ k_ ≠ g) (Kd.S_N (Kd.S_bound ho0)) (fun k_ hk_ => ⟨(Nat.le_trans (keep_size (w := w) (g := g) (row := none) (zK1 HK.o GWA.o)) hk_.2.1), hk_.1.1, hk_.1.2, (Kd.freshB (g := gbA) (o := .cells #[.int .i64 0, .slice none 0 0, .slice none 0 0, .slice none 0 0] 25 (0, 0)) (zB BKA.o) k_ hk_.2.1), (IsS98.fresh (zI1 HI0.o NB0_A.o) k_ hk_.2.1)⟩)) (keep_size (w := w) (g := g) (row := none) (zK1 HK.o GWA.o))); have HOH := aM (Kd.N_lower (Kd.N_mono (ok' := fun k_ => (w.heap.size ≤ k_) ∧ some k_ ≠ (vA9 : Value).ownBlock ∧ some k_ ≠ (vY : Value).ownBlock ∧ k_ ≠ gbA ∧ k_ ≠ g) (Kd.S_N (Kd.S_bound ho1)) (fun k_ hk_ => ⟨(Nat.le_trans (keep_size (w := w) (g := g) (row := none) (zK1 HK.o GWA.o)) hk_.2.1), hk_.1.1, hk_.1.2, (Kd.freshB (g := gbA) (o := .cells #[.int .i64 0, .slice none 0 0, .slice none 0 0, .slice none 0 0] 25 (0, 0)) (zB BKA.o) k_ hk_.2.1), (IsS98.fresh (zI1 HI0.o NB0_A.o) k_ hk_.2.1)⟩)) (keep_size (w := w) (g := g) (row := none) (zK1 HK.o GWA.o))); replace BKA := zBK hk BKA NBA_0; have HOI := aM (Kd.R_lower (Kd.R_newM (M := fun k_ => (w.heap.size ≤ k_)) ho2 (keep_size (w := w) (g := g) (row := none) (zK1 HK.o GWA.o)) (fun k_ h_ => h_)) (keep_size (w := w) (g := g) (row := none) (zK1 HK.o GWA.o))); replace HK := zKK (zK1 HK.o GWA.o) hk; replace HB := aM hb; replace HI0 := aM hi; clear ho0 hi hb hk; (try clear ho1); (try clear ho2)) | ((with_reducible refine gD 3 rfl ?_); refine bE 3 #[.int .i64 0, .slice none 0 0, .slice none 0 0, .slice none 0 0] 25 ?_; intro gbB hg w83 hbox hb; replace HOE := aM (Kd.N_below (Kd.N_elderB (zX HOE.o) gbB (Nat.le_of_eq hg.symm)) hb); replace HOH := aM (Kd.N_below (Kd.N_elderB (zX HOH.o) gbB (Nat.le_of_eq hg.symm)) hb); replace HOI := zRB HOI hb; replace HB := zLB (zL2 HB.o (IsS98.ge HI0.o) GEA.o) hb; have BKB := aM hbox; have GWB := aM (zgK (g := g) (zK1 HK.o GWA.o) hg : w.heap.size ≤ gbB); have GEB := aM ((Nat.le_trans HW0.o (zgK (g := g) (zK1 HK.o GWA.o) hg : w.heap.size ≤ gbB) : w0.heap.size ≤ gbB)); replace HK := zKB g (zK1 HK.o GWA.o) hb; have NBA_B := aM (zN BKA.o hg : gbA ≠ gbB); have NBB_A := aM (zM BKA.o hg : gbB ≠ gbA); replace BKA := zBB BKA hb; have NB0_B := aM ((zNI (IsS98.lt (zI1 HI0.o NB0_A.o : IsS98 w0 _ g s0_0 tJ tK)) hg : g ≠ gbB)); have NBB_0 := aM ((zMI (IsS98.lt (zI1 HI0.o NB0_A.o : IsS98 w0 _ g s0_0 tJ tK)) hg : gbB ≠ g)); replace HI0 := aM (IsS98.below (zI1 HI0.o NB0_A.o) hb); clear hb hbox hg; have hnb84 := NBB_A.o; have hnc84 := NBA_B.o; have hnb85 := NBB_0.o; have hnc85 := NB0_B.o; have hcz86 := zc4 BKB.o; have hfz86 := zf4 BKB.o; obtain ⟨Ao87, co87, eo87⟩ := Kd.N_slice HOE.o; subst eo87; obtain ⟨Ao88, co88, eo88⟩ := Kd.N_slice HOH.o; subst eo88; obtain ⟨Ao89, co89, eo89⟩ := Kd.R_slice HOI.o; subst eo89) | ((with_reducible refine gC 83 rfl ?_); refine gL 7 Try.func83 #[.pointer (some ⟨g, 0, none⟩), .int .i64 12] ?_; (with_reducible refine (spec_l1Below.calls g s0_0 tJ tK 12 tL tZ tA0 w0 _ ?side1 ?side2 A3.o).mono ?_); (case side1 => exact zI2 HI0.o NB0_A.o NB0_B.o); (case side2 => exact zL3 HB.o (IsS98.ge HI0.o) GEA.o GEB.o); rintro e w90 ⟨rfl, hi, hb, hk⟩; refine ⟨_, rfl, ?_⟩; replace BKA := aM (zQ2 (.cells #[.int .i64 0, .slice none 0 0, .slice none 0 0, .slice none 0 0] 25 (0, 0)) hk (by refine zB ?_; refine zr4 ?_ NBA_B.o; exact zB BKA.o) NBA_0.o (by simp)); replace HOE := aM (Kd.N_mono (Kd.N_keep (Kd.N_mono (ok := fun k_ => ((((w.heap.size ≤ k_)) ∧ (some k_ ≠ (.slice Ao88 tG.length co88 : Value).ownBlock ∧ (some k_ ≠ (.slice Ao89 tD.length co89 : Value).ownBlock ∧ (k_ ≠ gbA ∧ k_ ≠ g)))) ∧ k_ ≠ gbB)) (by refine zX ?_; exact (Kd.N_mono (zNF4 (Kd.N_mono HOE.o (fun k_ hk => (⟨hk, hk.2⟩ : _ ∧ k_ ≠ gbB))) gbB (fun _ hk => hk.2) (.int .i64 tC) (.slice Ao87 tF.length co87) (.slice Ao88 tG.length co88) (.slice Ao89 tD.length co89)) (fun _ h_ => h_.1))) (fun k_ hk_ => (⟨hk_, hk_.1.2.2.2.2⟩ : _ ∧ k_ ≠ g))) hk (fun _ h => h.2)) (fun _ h => h.1)); replace HOH := aM (Kd.N_mono (Kd.N_keep (Kd.N_mono (ok := fun k_ => ((((w.heap.size ≤ k_)) ∧ (some k_ ≠ (.slice Ao87 tF.length co87 : Value).ownBlock ∧ (some k_ ≠ (.slice Ao89 tD.length co89 : Value).ownBlock ∧ (k_ ≠ gbA ∧ k_ ≠ g)))) ∧ k_ ≠ gbB)) (by refine zX ?_; exact (Kd.N_mono (zNF4 (Kd.N_mono HOH.o (fun k_ hk => (⟨hk, hk.2⟩ : _ ∧ k_ ≠ gbB))) gbB (fun _ hk => hk.2) (.int .i64 tC) (.slice Ao87 tF.length co87) (.slice Ao88 tG.length co88) (.slice Ao89 tD.length co89)) (fun _ h_ => h_.1))) (fun k_ hk_ => (⟨hk_, hk_.1.2.2.2.2⟩ : _ ∧ k_ ≠ g))) hk (fun _ h => h.2)) (fun _ h => h.1)); replace HOI := aM (Kd.R_mono (Kd.R_keep (IsS98.apart (show IsS98 w0 _ g s0_0 tJ tK from zI2 HI0.o NB0_A.o NB0_B.o) (by refine zR ?_; exact (Kd.R_mono (zRF4 (Kd.R_types HOI.o BKB.o (by decide)) gbB (fun _ hk => hk.2) (.int .i64 tC) (.slice Ao87 tF.length co87) (.slice Ao88 tG.length co88) (.slice Ao89 tD.length co89)) (fun _ h_ => h_.1))) (by decide)) hk (fun _ h => h.2)) (fun _ h => h.1)); replace BKB := aM (zQ2 (.cells #[.int .i64 tC, .slice Ao87 tF.length co87, .slice Ao88 tG.length co88, .slice Ao89 tD.length co89] 25 (0, 0)) hk (by refine zB ?_; refine zp4 (cs := #[.int .i64 0, .slice none 0 0, .slice none 0 0, .slice none 0 0]) ?_; exact zB BKB.o) NBB_0.o (by simp)); replace HK := zKK (zK2 HK.o GWA.o GWB.o) hk; replace HB := aM hb; replace HI0 := aM hi; clear hi hb hk))
      replace HOE := zXD HOE; replace HOH := zXD HOH; replace HOI := zRD HOI; replace BKA := zBD BKA; replace BKB := zBD BKB; replace HI0 := aM (IsS98.drew HI0.o); replace HK := aM (keep_drew HK.o); replace HB := zLD HB
      refine start_ (n := 13) (S := fun w' => zs4 w' gbB (.int .i64 tC) (.slice Ao87 tF.length co87) (.slice Ao88 tG.length co88) (.slice Ao89 tD.length co89)) (ds := [12]) (fB 13 0) (by kernel_rfl) rfl rfl (zc4 BKB.o) (fun hHeld => ?_); refine with_tabW spec_l8Any.tab10 spec_l8Any.bits10 (fun HT_ HW_ => ?_)
      generalize w90.drew = w91 at HOE HOH HOI BKA BKB HI0 HK HB hHeld ⊢
      refine pY 0 43 (fB 13 1) HT_.o ?_
      refine pY 2 45 (fB 13 5) HT_.o ?_
      refine pY 3 46 (fB 13 13) HT_.o ?_
      refine pY 5 48 (fB 13 45) HT_.o ?_
      refine tY 1 44 (fB 13 47) HT_.o HW_.o hHeld ?_
      refine tY 4 47 (fB 13 63) HT_.o HW_.o hHeld ?_
      refine oN 6 49 (fB 13 127) HT_.o fun K hK => ?_
      refine Kd.R_lit_step (Kd.int .i64) _ 3 ?hg (N := 49) ?hd (xs := ([0, 1, 9] : List Int)) (inner := [.int .i64 0, .int .i64 1, .int .i64 9]) (ok := fun _ => True) (okp := fun _ => True) ?hr ?hp (fun _ hk => hk) trivial (Below.refl _ _) (Nat.le_refl _) (by simp) ?_; (case hd => rfl); (case hg => rfl); (case hr => first | (go_simp; done) | (go_simp; rfl)); (case hp => exact zhp)
      intro vH9 w92 ho93 hb hg_ hnew_
      clear hg_ hnew_
      (first | rw [← NyA2.o] at ho93 | (simp only [Int.reduceToNat] at ho93; rw [← NyA2.o] at ho93))
      replace HOE := aM (Kd.N_elder' (zX HOE.o) (Kd.R_base ho93) hb); replace HOH := aM (Kd.N_elder' (zX HOH.o) (Kd.R_base ho93) hb); replace HOI := zRB HOI hb; have HOB2 := aM (Kd.R_lower (Kd.R_newM (M := fun k_ => (w.heap.size ≤ k_)) ho93 (keep_size (w := w) (g := g) (row := none) (zK2 HK.o GWA.o GWB.o)) (fun k_ h_ => h_)) (keep_size (w := w) (g := g) (row := none) (zK2 HK.o GWA.o GWB.o))); replace BKA := zBB BKA hb; replace BKB := zBB BKB hb; replace HK := zKB g (zK2 HK.o GWA.o GWB.o) hb; replace HB := zLB (zL3 HB.o (IsS98.ge HI0.o) GEA.o GEB.o) hb; replace HI0 := aM (IsS98.below (zI2 HI0.o NB0_A.o NB0_B.o) hb)
      clear hb ho93
      obtain ⟨Ao94, co94, eo94⟩ := Kd.R_slice HOB2.o
      (first | subst eo94 | (injection eo94 with f1_ f2_ f3_; have f4_ := f1_.symm; have f5_ := f3_.symm; clear f1_ f2_ f3_; subst f4_; subst f5_))
      refine hK.out _ _ (zc4 BKB.o) fun hHeld => ?_; clear hK K
      refine nZ 49 ?_
      refine oN 7 50 (fB 13 255) HT_.o fun K hK => ?_
      refine gS Try.func85 #[.pointer (some ⟨g, 0, none⟩), .slice Ao94 yA2.length co94] ?_
      with_reducible refine (spec_l1Int.calls g s0_0 tZ tA0 _ _ yA2 tB5 tD6 tD7 w0 _ ?side1 ?side2 ?side3 ?side4 ?side5 A78.o).mono ?_
      (case side1 => exact zI2 HI0.o NB0_A.o NB0_B.o)
      (case side2 => exact zL3 HB.o (IsS98.ge HI0.o) GEA.o GEB.o)
      (case side3 => exact zC (Kd.R_reads' HOB2.o).2.2)
      (case side4 => exact (Kd.R_reads' HOB2.o).2.1)
      (case side5 => exact far_slice (IsS98.own_ne HI0.o HOB2.o (by decide)))
      rintro e w95 ⟨rfl, hi, hb, hk⟩
      refine ⟨_, rfl, ?_⟩
      replace BKA := zBK hk BKA NBA_0; replace HOE := aM (Kd.N_mono (Kd.N_keep (Kd.N_mono (ok := fun k_ => (((((w.heap.size ≤ k_)) ∧ (some k_ ≠ (.slice Ao88 tG.length co88 : Value).ownBlock ∧ (some k_ ≠ (.slice Ao89 tD.length co89 : Value).ownBlock ∧ (k_ ≠ gbA ∧ k_ ≠ g)))) ∧ k_ ≠ gbB) ∧ some k_ ≠ (.slice Ao94 yA2.length co94 : Value).ownBlock)) (zX HOE.o) (fun k_ hk_ => (⟨hk_, hk_.1.1.2.2.2.2⟩ : _ ∧ k_ ≠ g))) hk (fun _ h => h.2)) (fun _ h => h.1)); replace HOH := aM (Kd.N_mono (Kd.N_keep (Kd.N_mono (ok := fun k_ => (((((w.heap.size ≤ k_)) ∧ (some k_ ≠ (.slice Ao87 tF.length co87 : Value).ownBlock ∧ (some k_ ≠ (.slice Ao89 tD.length co89 : Value).ownBlock ∧ (k_ ≠ gbA ∧ k_ ≠ g)))) ∧ k_ ≠ gbB) ∧ some k_ ≠ (.slice Ao94 yA2.length co94 : Value).ownBlock)) (zX HOH.o) (fun k_ hk_ => (⟨hk_, hk_.1.1.2.2.2.2⟩ : _ ∧ k_ ≠ g))) hk (fun _ h => h.2)) (fun _ h => h.1)); replace HOI := aM (Kd.R_mono (Kd.R_keep (IsS98.apart (show IsS98 w0 _ g s0_0 tZ tA0 from zI2 HI0.o NB0_A.o NB0_B.o) (zR HOI.o) (by decide)) hk (fun _ h => h.2)) (fun _ h => h.1)); replace BKB := zBK hk BKB NBB_0; replace HOB2 := aM (Kd.R_mono (Kd.R_keep (IsS98.apart (show IsS98 w0 _ g s0_0 tZ tA0 from zI2 HI0.o NB0_A.o NB0_B.o) (zR HOB2.o) (by decide)) hk (fun _ h => h.2)) (fun _ h => h.1)); replace HK := zKK (zK2 HK.o GWA.o GWB.o) hk; replace HB := aM hb; replace HI0 := aM hi
      clear hi hb hk
      refine hK.out _ _ (zc4 BKB.o) fun hHeld => ?_; clear hK K
      refine nZ 50 ?_
      refine oN 8 51 (fB 13 511) HT_.o fun K hK => ?_
      refine gS Try.func82 #[.pointer (some ⟨g, 0, none⟩), .int .i64 tC, .int .i64 tB5] ?_
      with_reducible refine (spec_l8Timer.calls g s0_0 tD6 tD7 tC tB5 tA8 tC6 tC7 tF2 tF3 w0 _ ?side1 ?side2 A79.o).mono ?_
      (case side1 => exact zI2 HI0.o NB0_A.o NB0_B.o)
      (case side2 => exact zL3 HB.o (IsS98.ge HI0.o) GEA.o GEB.o)
      rintro e w96 ⟨rfl, hi, hb, hk⟩
      refine ⟨_, rfl, ?_⟩
      replace BKA := zBK hk BKA NBA_0; replace HOE := aM (Kd.N_mono (Kd.N_keep (Kd.N_mono (ok := fun k_ => (((((w.heap.size ≤ k_)) ∧ (some k_ ≠ (.slice Ao88 tG.length co88 : Value).ownBlock ∧ (some k_ ≠ (.slice Ao89 tD.length co89 : Value).ownBlock ∧ (k_ ≠ gbA ∧ k_ ≠ g)))) ∧ k_ ≠ gbB) ∧ some k_ ≠ (.slice Ao94 yA2.length co94 : Value).ownBlock)) (zX HOE.o) (fun k_ hk_ => (⟨hk_, hk_.1.1.2.2.2.2⟩ : _ ∧ k_ ≠ g))) hk (fun _ h => h.2)) (fun _ h => h.1)); replace HOH := aM (Kd.N_mono (Kd.N_keep (Kd.N_mono (ok := fun k_ => (((((w.heap.size ≤ k_)) ∧ (some k_ ≠ (.slice Ao87 tF.length co87 : Value).ownBlock ∧ (some k_ ≠ (.slice Ao89 tD.length co89 : Value).ownBlock ∧ (k_ ≠ gbA ∧ k_ ≠ g)))) ∧ k_ ≠ gbB) ∧ some k_ ≠ (.slice Ao94 yA2.length co94 : Value).ownBlock)) (zX HOH.o) (fun k_ hk_ => (⟨hk_, hk_.1.1.2.2.2.2⟩ : _ ∧ k_ ≠ g))) hk (fun _ h => h.2)) (fun _ h => h.1)); replace HOI := aM (Kd.R_mono (Kd.R_keep (IsS98.apart (show IsS98 w0 _ g s0_0 tD6 tD7 from zI2 HI0.o NB0_A.o NB0_B.o) (zR HOI.o) (by decide)) hk (fun _ h => h.2)) (fun _ h => h.1)); replace BKB := zBK hk BKB NBB_0; replace HOB2 := aM (Kd.R_mono (Kd.R_keep (IsS98.apart (show IsS98 w0 _ g s0_0 tD6 tD7 from zI2 HI0.o NB0_A.o NB0_B.o) (zR HOB2.o) (by decide)) hk (fun _ h => h.2)) (fun _ h => h.1)); replace HK := zKK (zK2 HK.o GWA.o GWB.o) hk; replace HB := aM hb; replace HI0 := aM hi
      clear hi hb hk
      refine hK.out _ _ (zc4 BKB.o) fun hHeld => ?_; clear hK K
      refine nZ 51 ?_
      refine oN 9 52 (fB 13 1023) HT_.o fun K hK => ?_
      refine value_ (w1 := ?_) (v := ?_) (by rfl) rfl ?_ ?_
      rotate_left 2
      ·go_simp
       constructor
       ·rfl
       ·rfl
      refine hK.out _ _ ⟨(bC (bA BKB.o _) 0).trans rfl, (bC (bA BKB.o _) 1).trans rfl, (bC (bA BKB.o _) 2).trans rfl, (bC (bA BKB.o _) 3).trans rfl⟩ fun hHeld => ?_; clear hK K
      refine nZ 52 ?_
      refine oN 10 53 (fB 13 2047) HT_.o fun K hK => ?_
      refine Kd.R_append_step k46 w.heap.size (by rfl) (.tmp 44) (.tmp 52) 23 46 (.agg #[(.int .i64 0), (.int .i64 0), (.int .i64 0)]) 24 rfl Try.underlying23 info46 rfl (by decide) (by omega) (.slice Ao89 tD.length co89) tD (⟨tA8, tC6, tC7⟩ : S46) [.int .i64 tA8, .int .i64 tC6, .int .i64 tC7] (fun k_ => (w.heap.size ≤ k_)) (fun _ => False) rfl rfl ?aP (fun _ hk => hk.elim) ?aF ?aO (Below.refl _ _) ?aS ?aL ?_
      (case aP => exact k46_mkM _ _ _ (⟨tA8, tC6, tC7⟩ : S46))
      (case aF => exact (fun k_ hk => (Nat.le_trans (keep_size (w := w) (g := g) (row := none) (zK2 HK.o GWA.o GWB.o)) hk)))
      (case aO => exact (zRm HOI.o (fun _ hk => hk.1)))
      (case aS => exact (keep_size (w := w) (g := g) (row := none) (zK2 HK.o GWA.o GWB.o)))
      (case aL => have := LMc80.o; omega)
      intro vI0 w97 ho hb hg hat
      rw [← NyA7.o] at ho
      replace BKA := aM (blk_grown (g := gbA) (o := .cells #[.int .i64 0, .slice none 0 0, .slice none 0 0, .slice none 0 0] 25 (0, 0)) (zB BKA.o) hg (Kd.R_ne HOI.o BKA.o (by decide))); replace HOE := aM (Kd.N_afterv (ok := (fun k_ => (w.heap.size ≤ k_) ∧ some k_ ≠ (.slice Ao88 tG.length co88 : Value).ownBlock ∧ some k_ ≠ (.slice Ao94 yA2.length co94 : Value).ownBlock ∧ k_ ≠ gbA ∧ k_ ≠ g ∧ k_ ≠ gbB)) (zXm HOE.o (fun _ hk => ⟨⟨hk.1.1.1, ⟨hk.1.1.2.1, ⟨hk.2, ⟨hk.1.1.2.2.2.1, ⟨hk.1.1.2.2.2.2, hk.1.2⟩⟩⟩⟩⟩, hk.1.1.2.2.1⟩)) hg hat); replace HOH := aM (Kd.N_afterv (ok := (fun k_ => (w.heap.size ≤ k_) ∧ some k_ ≠ (.slice Ao87 tF.length co87 : Value).ownBlock ∧ some k_ ≠ (.slice Ao94 yA2.length co94 : Value).ownBlock ∧ k_ ≠ gbA ∧ k_ ≠ g ∧ k_ ≠ gbB)) (zXm HOH.o (fun _ hk => ⟨⟨hk.1.1.1, ⟨hk.1.1.2.1, ⟨hk.2, ⟨hk.1.1.2.2.2.1, ⟨hk.1.1.2.2.2.2, hk.1.2⟩⟩⟩⟩⟩, hk.1.1.2.2.1⟩)) hg hat); replace BKB := aM (blk_grown (g := gbB) (o := .cells #[.int .i64 tC, .slice Ao87 tF.length co87, .slice Ao88 tG.length co88, .slice Ao89 tD.length co89] 25 (0, 0)) (zB BKB.o) hg (Kd.R_ne HOI.o BKB.o (by decide))); replace HOB2 := aM (Kd.R_over' (zR HOB2.o) (Kd.R_typed (zR HOI.o)) (by decide) hg); replace HB := aM (below_weaken (zL3 HB.o (IsS98.ge HI0.o) GEA.o GEB.o) HL.o hb); replace HI0 := aM (IsS98.grown (zI2 HI0.o NB0_A.o NB0_B.o) hg (IsS98.own_ne HI0.o HOI.o (by decide))); replace HK := aM (KeepBut.trans (zK2 HK.o GWA.o GWB.o) (KeepBut.of_grown hg g) (Kd.R_base2 HOI.o)); have HOE9 := aM (ho); clear HOI
      clear ho hb hg hat
      obtain ⟨Ao98, co98, eo98⟩ := Kd.R_slice HOE9.o
      (first | subst eo98 | (injection eo98 with f1_ f2_ f3_; have f4_ := f1_.symm; have f5_ := f3_.symm; clear f1_ f2_ f3_; subst f4_; subst f5_))
      refine hK.out _ _ (zc4 BKB.o) fun hHeld => ?_; clear hK K
      refine nZ 53 ?_
      refine pY 11 54 (fB 13 4095) HT_.o ?_
      refine last_ (i := 12) (N := none) #[true, true, true, true, true, true, true, true, true, true, true, true, true] rfl rfl (one_of HT_.o (by kernel_rfl)) (by decide) (fun K hK => ?_)
      have hs99 : w97.cell? ⟨gbB, 3, none⟩ = some (.slice Ao89 tD.length co89) := (bC BKB.o 3).trans rfl
      have hfs99 := blk_frozen BKB.o 3
      have hns99_0 := NBA_B.o
      have hms99_0 := NBB_A.o
      refine skip_ (w1 := ?_) (by rfl) rfl ?_ ?_
      rotate_left
      ·go_simp
       rfl
      refine hK.out _ _ ?_
      clear hK K
      refine done_ (done_of HT_.o (by kernel_rfl)) ?_
      have hczF4 := zc4 BKB.o
      have hfzF4 := zf4 BKB.o
      have hnbF5 := NBA_0.o
      have hncF5 := NB0_A.o
      have hczF6 := zc4 BKA.o
      have hfzF6 := zf4 BKA.o
      try go_wp2
      refine bodyPost_ret (results_cell_row rfl _ _ gbA 25 #[.int .i64 tC, .slice Ao87 tF.length co87, .slice Ao88 tG.length co88, .slice Ao98 yA7.length co98] (0, 0) _ rfl (by refine zB ?_; refine zp4 (cs := #[.int .i64 0, .slice none 0 0, .slice none 0 0, .slice none 0 0]) ?_; refine zB ?_; refine blk_far ?_ NBA_B.o _; exact zB BKA.o) Try.underlying25 rfl (by kernel_rfl)) rfl ?_
      exact ⟨_, _, _, zW, by refine zX ?_; exact Kd.N_mono (zNF4 (Kd.N_far (p := ⟨gbB, 3, none⟩) (Kd.N_mono (Kd.N_mono HOE.o (fun k_ hk => (⟨hk, hk.1.2.2.2.2.2⟩ : _ ∧ k_ ≠ gbB))) (fun k_ hk => (⟨hk, hk.1.1.2.2.2.1⟩ : _ ∧ k_ ≠ gbA))) (fun _ hk => hk.1.2) (.slice Ao98 yA7.length co98)) gbA (fun _ hk => hk.2) (.int .i64 tC) (.slice Ao87 tF.length co87) (.slice Ao88 tG.length co88) (.slice Ao98 yA7.length co98)) (fun _ hk => ⟨hk.1.1.1.1, ⟨hk.1.1.1.2.1, hk.1.1.2⟩⟩), by refine zX ?_; exact Kd.N_mono (zNF4 (Kd.N_far (p := ⟨gbB, 3, none⟩) (Kd.N_mono (Kd.N_mono HOH.o (fun k_ hk => (⟨hk, hk.1.2.2.2.2.2⟩ : _ ∧ k_ ≠ gbB))) (fun k_ hk => (⟨hk, hk.1.1.2.2.2.1⟩ : _ ∧ k_ ≠ gbA))) (fun _ hk => hk.1.2) (.slice Ao98 yA7.length co98)) gbA (fun _ hk => hk.2) (.int .i64 tC) (.slice Ao87 tF.length co87) (.slice Ao88 tG.length co88) (.slice Ao98 yA7.length co98)) (fun _ hk => ⟨hk.1.1.1.1, ⟨hk.1.1.1.2.1, hk.1.1.2⟩⟩), by refine zR ?_; exact Kd.R_mono (zRF4 (Kd.R_far (p := ⟨gbB, 3, none⟩) (Kd.R_types (Kd.R_types HOE9.o BKB.o (by decide)) BKA.o (by decide)) (fun _ hk => hk.1.2) (.slice Ao98 yA7.length co98)) gbA (fun _ hk => hk.2) (.int .i64 tC) (.slice Ao87 tF.length co87) (.slice Ao88 tG.length co88) (.slice Ao98 yA7.length co98)) (fun _ hk => hk.1.1), zI2 HI0.o NB0_A.o NB0_B.o, zL3 HB.o (IsS98.ge HI0.o) GEA.o GEB.o, zK2 HK.o GWA.o GWB.o⟩
     ·rw [if_neg c80] at H
      exact absurd H (by simp)
    ·rw [if_neg c77] at H
     obtain ⟨c77b0, c77b1⟩ := zf c77
     by_cases cC8 : tL = 4
     ·rw [if_pos cC8] at H
      obtain ⟨c103b0, c103b1⟩ := zt cC8
      clear cC8
      by_cases cC9 : 7 ≤ (tF.length : Int)
      ·rw [if_pos cC9] at H
       have c104b0 := eq_true cC9
       have c104b1 := dT cC9
       clear cC9
       generalize hyA3 : (tF.take (7 : Int).toNat) = yA3 at H; (try rw [Option.bind_some] at H); have NyA3 := aM hyA3.symm; clear hyA3
       simp only [Option.some.injEq, Prod.mk.injEq] at H
       obtain ⟨rfl, rfl, rfl, rfl, rfl, rfl⟩ := H
       go_enter Try.func81, Try.ntmps81
       go_wp2_with (first | ((with_reducible refine gD 2 rfl ?_); refine bE 2 #[.int .i64 0, .slice none 0 0, .slice none 0 0, .slice none 0 0] 25 ?_; intro gbA hg wI1 hbox hb; replace HB := zLB (zL1 HB.o (IsS98.ge HI0.o)) hb; have BKA := aM hbox; have GWA := aM (zgK (g := g) (zK HK.o) hg : w.heap.size ≤ gbA); have GEA := aM ((Nat.le_trans HW0.o (zgK (g := g) (zK HK.o) hg : w.heap.size ≤ gbA) : w0.heap.size ≤ gbA)); replace HK := zKB g (zK HK.o) hb; have NB0_A := aM ((zNI (IsS98.lt (zI HI0.o : IsS98 w0 _ g s0_0 s0_1 s0_2)) hg : g ≠ gbA)); have NBA_0 := aM ((zMI (IsS98.lt (zI HI0.o : IsS98 w0 _ g s0_0 s0_1 s0_2)) hg : gbA ≠ g)); replace HI0 := aM (IsS98.below (zI HI0.o) hb); clear hb hbox hg) | ((with_reducible refine gC 86 rfl ?_); refine gL 5 Try.func86 #[.pointer (some ⟨g, 0, none⟩)] ?_; (with_reducible refine (spec_l8Draw.calls k g s0_0 s0_1 s0_2 tC tF tG tD tJ tK w0 _ ?side1 ?side2 A2.o).mono ?_); (case side1 => exact zI1 HI0.o NB0_A.o); (case side2 => exact zL2 HB.o (IsS98.ge HI0.o) GEA.o); rintro e wI2 ⟨vA9, vB0, vY, rfl, ho0, ho1, ho2, hi, hb, hk⟩; refine ⟨_, rfl, ?_⟩; have HOE := aM (Kd.N_lower (Kd.N_mono (ok' := fun k_ => (w.heap.size ≤ k_) ∧ some k_ ≠ (vB0 : Value).ownBlock ∧ some k_ ≠ (vY : Value).ownBlock ∧ k_ ≠ gbA ∧ k_ ≠ g) (Kd.S_N (Kd.S_bound ho0)) (fun k_ hk_ => ⟨(Nat.le_trans (keep_size (w := w) (g := g) (row := none) (zK1 HK.o GWA.o)) hk_.2.1), hk_.1.1, hk_.1.2, (Kd.freshB (g := gbA) (o := .cells #[.int .i64 0, .slice none 0 0, .slice none 0 0, .slice none 0 0] 25 (0, 0)) (zB BKA.o) k_ hk_.2.1), (IsS98.fresh (zI1 HI0.o NB0_A.o) k_ hk_.2.1)⟩)) (keep_size (w := w) (g := g) (row := none) (zK1 HK.o GWA.o))); have HOH := aM (Kd.N_lower (Kd.N_mono (ok' := fun k_ => (w.heap.size ≤ k_) ∧ some k_ ≠ (vA9 : Value).ownBlock ∧ some k_ ≠ (vY : Value).ownBlock ∧ k_ ≠ gbA ∧ k_ ≠ g) (Kd.S_N (Kd.S_bound ho1)) (fun k_ hk_ => ⟨(Nat.le_trans (keep_size (w := w) (g := g) (row := none) (zK1 HK.o GWA.o)) hk_.2.1), hk_.1.1, hk_.1.2, (Kd.freshB (g := gbA) (o := .cells #[.int .i64 0, .slice none 0 0, .slice none 0 0, .slice none 0 0] 25 (0, 0)) (zB BKA.o) k_ hk_.2.1), (IsS98.fresh (zI1 HI0.o NB0_A.o) k_ hk_.2.1)⟩)) (keep_size (w := w) (g := g) (row := none) (zK1 HK.o GWA.o))); replace BKA := zBK hk BKA NBA_0; have HOI := aM (Kd.R_lower (Kd.R_newM (M := fun k_ => (w.heap.size ≤ k_)) ho2 (keep_size (w := w) (g := g) (row := none) (zK1 HK.o GWA.o)) (fun k_ h_ => h_)) (keep_size (w := w) (g := g) (row := none) (zK1 HK.o GWA.o))); replace HK := zKK (zK1 HK.o GWA.o) hk; replace HB := aM hb; replace HI0 := aM hi; clear ho0 hi hb hk; (try clear ho1); (try clear ho2)) | ((with_reducible refine gD 3 rfl ?_); refine bE 3 #[.int .i64 0, .slice none 0 0, .slice none 0 0, .slice none 0 0] 25 ?_; intro gbB hg wI3 hbox hb; replace HOE := aM (Kd.N_below (Kd.N_elderB (zX HOE.o) gbB (Nat.le_of_eq hg.symm)) hb); replace HOH := aM (Kd.N_below (Kd.N_elderB (zX HOH.o) gbB (Nat.le_of_eq hg.symm)) hb); replace HOI := zRB HOI hb; replace HB := zLB (zL2 HB.o (IsS98.ge HI0.o) GEA.o) hb; have BKB := aM hbox; have GWB := aM (zgK (g := g) (zK1 HK.o GWA.o) hg : w.heap.size ≤ gbB); have GEB := aM ((Nat.le_trans HW0.o (zgK (g := g) (zK1 HK.o GWA.o) hg : w.heap.size ≤ gbB) : w0.heap.size ≤ gbB)); replace HK := zKB g (zK1 HK.o GWA.o) hb; have NBA_B := aM (zN BKA.o hg : gbA ≠ gbB); have NBB_A := aM (zM BKA.o hg : gbB ≠ gbA); replace BKA := zBB BKA hb; have NB0_B := aM ((zNI (IsS98.lt (zI1 HI0.o NB0_A.o : IsS98 w0 _ g s0_0 tJ tK)) hg : g ≠ gbB)); have NBB_0 := aM ((zMI (IsS98.lt (zI1 HI0.o NB0_A.o : IsS98 w0 _ g s0_0 tJ tK)) hg : gbB ≠ g)); replace HI0 := aM (IsS98.below (zI1 HI0.o NB0_A.o) hb); clear hb hbox hg; have hnbF7 := NBB_A.o; have hncF7 := NBA_B.o; have hnbF8 := NBB_0.o; have hncF8 := NB0_B.o; have hczF9 := zc4 BKB.o; have hfzF9 := zf4 BKB.o; obtain ⟨AoM, coM, eoM⟩ := Kd.N_slice HOE.o; subst eoM; obtain ⟨AoT, coT, eoT⟩ := Kd.N_slice HOH.o; subst eoT; obtain ⟨AoR, coR, eoR⟩ := Kd.R_slice HOI.o; subst eoR) | ((with_reducible refine gC 83 rfl ?_); refine gL 7 Try.func83 #[.pointer (some ⟨g, 0, none⟩), .int .i64 12] ?_; (with_reducible refine (spec_l1Below.calls g s0_0 tJ tK 12 tL tZ tA0 w0 _ ?side1 ?side2 A3.o).mono ?_); (case side1 => exact zI2 HI0.o NB0_A.o NB0_B.o); (case side2 => exact zL3 HB.o (IsS98.ge HI0.o) GEA.o GEB.o); rintro e wI4 ⟨rfl, hi, hb, hk⟩; refine ⟨_, rfl, ?_⟩; replace BKA := aM (zQ2 (.cells #[.int .i64 0, .slice none 0 0, .slice none 0 0, .slice none 0 0] 25 (0, 0)) hk (by refine zB ?_; refine zr4 ?_ NBA_B.o; exact zB BKA.o) NBA_0.o (by simp)); replace HOE := aM (Kd.N_mono (Kd.N_keep (Kd.N_mono (ok := fun k_ => ((((w.heap.size ≤ k_)) ∧ (some k_ ≠ (.slice AoT tG.length coT : Value).ownBlock ∧ (some k_ ≠ (.slice AoR tD.length coR : Value).ownBlock ∧ (k_ ≠ gbA ∧ k_ ≠ g)))) ∧ k_ ≠ gbB)) (by refine zX ?_; exact (Kd.N_mono (zNF4 (Kd.N_mono HOE.o (fun k_ hk => (⟨hk, hk.2⟩ : _ ∧ k_ ≠ gbB))) gbB (fun _ hk => hk.2) (.int .i64 tC) (.slice AoM tF.length coM) (.slice AoT tG.length coT) (.slice AoR tD.length coR)) (fun _ h_ => h_.1))) (fun k_ hk_ => (⟨hk_, hk_.1.2.2.2.2⟩ : _ ∧ k_ ≠ g))) hk (fun _ h => h.2)) (fun _ h => h.1)); replace HOH := aM (Kd.N_mono (Kd.N_keep (Kd.N_mono (ok := fun k_ => ((((w.heap.size ≤ k_)) ∧ (some k_ ≠ (.slice AoM tF.length coM : Value).ownBlock ∧ (some k_ ≠ (.slice AoR tD.length coR : Value).ownBlock ∧ (k_ ≠ gbA ∧ k_ ≠ g)))) ∧ k_ ≠ gbB)) (by refine zX ?_; exact (Kd.N_mono (zNF4 (Kd.N_mono HOH.o (fun k_ hk => (⟨hk, hk.2⟩ : _ ∧ k_ ≠ gbB))) gbB (fun _ hk => hk.2) (.int .i64 tC) (.slice AoM tF.length coM) (.slice AoT tG.length coT) (.slice AoR tD.length coR)) (fun _ h_ => h_.1))) (fun k_ hk_ => (⟨hk_, hk_.1.2.2.2.2⟩ : _ ∧ k_ ≠ g))) hk (fun _ h => h.2)) (fun _ h => h.1)); replace HOI := aM (Kd.R_mono (Kd.R_keep (IsS98.apart (show IsS98 w0 _ g s0_0 tJ tK from zI2 HI0.o NB0_A.o NB0_B.o) (by refine zR ?_; exact (Kd.R_mono (zRF4 (Kd.R_types HOI.o BKB.o (by decide)) gbB (fun _ hk => hk.2) (.int .i64 tC) (.slice AoM tF.length coM) (.slice AoT tG.length coT) (.slice AoR tD.length coR)) (fun _ h_ => h_.1))) (by decide)) hk (fun _ h => h.2)) (fun _ h => h.1)); replace BKB := aM (zQ2 (.cells #[.int .i64 tC, .slice AoM tF.length coM, .slice AoT tG.length coT, .slice AoR tD.length coR] 25 (0, 0)) hk (by refine zB ?_; refine zp4 (cs := #[.int .i64 0, .slice none 0 0, .slice none 0 0, .slice none 0 0]) ?_; exact zB BKB.o) NBB_0.o (by simp)); replace HK := zKK (zK2 HK.o GWA.o GWB.o) hk; replace HB := aM hb; replace HI0 := aM hi; clear hi hb hk; have hczG0 := zc4 BKB.o; have hfzG0 := zf4 BKB.o; have qA1 : (7 : Int) ≤ ((tF.length : Int) : Int) := zD; obtain ⟨iE2, hiE2, _, hszA1, _⟩ := info_parts info23; have hcutA1 := cut_to (P := Try.prog) 22 23 .i64 Try.underlying22 hiE2 AoM tF.length coM 7 (by omega) qA1 (Kd.N_reads' HOE.o).2.1; have hrA1 := Kd.N_take (m := (7 : Int).toNat) HOE.o (by omega); have hyA1 : yA3.length = (7 : Int).toNat := (by rw [NyA3.o, List.length_take]; omega); rw [← NyA3.o] at hrA1; rw [← hyA1] at hrA1 hcutA1; clear hyA1 hiE2 hszA1 HOE; have HOG1 := aM hrA1; clear hrA1; replace qA1 := eq_true qA1; have hnbG2 := NBA_0.o; have hncG2 := NB0_A.o; have hczG3 := zc4 BKA.o; have hfzG3 := zf4 BKA.o))
       refine bodyPost_ret (results_cell_row rfl _ _ gbA 25 #[.int .i64 tC, .slice AoM yA3.length coM, .slice AoT tG.length coT, .slice AoR tD.length coR] (0, 0) _ rfl (by refine zB ?_; refine zp4 (cs := #[.int .i64 0, .slice none 0 0, .slice none 0 0, .slice none 0 0]) ?_; refine zB ?_; refine blk_far ?_ NBA_B.o _; exact zB BKA.o) Try.underlying25 rfl (by kernel_rfl)) rfl ?_
       exact ⟨_, _, _, zW, by refine zX ?_; exact Kd.N_mono (zNF4 (Kd.N_far (p := ⟨gbB, 1, none⟩) (Kd.N_mono (Kd.N_mono HOG1.o (fun k_ hk => (⟨hk, hk.2⟩ : _ ∧ k_ ≠ gbB))) (fun k_ hk => (⟨hk, hk.1.1.2.2.2.1⟩ : _ ∧ k_ ≠ gbA))) (fun _ hk => hk.1.2) (.slice AoM yA3.length coM)) gbA (fun _ hk => hk.2) (.int .i64 tC) (.slice AoM yA3.length coM) (.slice AoT tG.length coT) (.slice AoR tD.length coR)) (fun _ hk => ⟨hk.1.1.1.1, ⟨by first | exact hk.1.1.1.2.1 | exact fk13_ofo hk.1.1.1.2.1, hk.1.1.1.2.2.1⟩⟩), by refine zX ?_; exact Kd.N_mono (zNF4 (Kd.N_far (p := ⟨gbB, 1, none⟩) (Kd.N_mono (Kd.N_mono HOH.o (fun k_ hk => (⟨hk, hk.2⟩ : _ ∧ k_ ≠ gbB))) (fun k_ hk => (⟨hk, hk.1.1.2.2.2.1⟩ : _ ∧ k_ ≠ gbA))) (fun _ hk => hk.1.2) (.slice AoM yA3.length coM)) gbA (fun _ hk => hk.2) (.int .i64 tC) (.slice AoM yA3.length coM) (.slice AoT tG.length coT) (.slice AoR tD.length coR)) (fun _ hk => ⟨hk.1.1.1.1, ⟨by first | exact hk.1.1.1.2.1 | exact fk13_ofo hk.1.1.1.2.1, hk.1.1.1.2.2.1⟩⟩), by refine zR ?_; exact Kd.R_mono (zRF4 (Kd.R_far (p := ⟨gbB, 1, none⟩) (Kd.R_types (Kd.R_types HOI.o BKB.o (by decide)) BKA.o (by decide)) (fun _ hk => hk.1.2) (.slice AoM yA3.length coM)) gbA (fun _ hk => hk.2) (.int .i64 tC) (.slice AoM yA3.length coM) (.slice AoT tG.length coT) (.slice AoR tD.length coR)) (fun _ hk => hk.1.1.1), zI2 HI0.o NB0_A.o NB0_B.o, zL3 HB.o (IsS98.ge HI0.o) GEA.o GEB.o, zK2 HK.o GWA.o GWB.o⟩
      ·rw [if_neg cC9] at H
       exact absurd H (by simp)
     ·rw [if_neg cC8] at H
      obtain ⟨c103b0, c103b1⟩ := zf cC8
      simp only [Option.some.injEq, Prod.mk.injEq] at H
      obtain ⟨rfl, rfl, rfl, rfl, rfl, rfl⟩ := H
      go_enter Try.func81, Try.ntmps81
      go_wp2_with (first | ((with_reducible refine gD 2 rfl ?_); refine bE 2 #[.int .i64 0, .slice none 0 0, .slice none 0 0, .slice none 0 0] 25 ?_; intro gbA hg wI5 hbox hb; replace HB := zLB (zL1 HB.o (IsS98.ge HI0.o)) hb; have BKA := aM hbox; have GWA := aM (zgK (g := g) (zK HK.o) hg : w.heap.size ≤ gbA); have GEA := aM ((Nat.le_trans HW0.o (zgK (g := g) (zK HK.o) hg : w.heap.size ≤ gbA) : w0.heap.size ≤ gbA)); replace HK := zKB g (zK HK.o) hb; have NB0_A := aM ((zNI (IsS98.lt (zI HI0.o : IsS98 w0 _ g s0_0 s0_1 s0_2)) hg : g ≠ gbA)); have NBA_0 := aM ((zMI (IsS98.lt (zI HI0.o : IsS98 w0 _ g s0_0 s0_1 s0_2)) hg : gbA ≠ g)); replace HI0 := aM (IsS98.below (zI HI0.o) hb); clear hb hbox hg) | ((with_reducible refine gC 86 rfl ?_); refine gL 5 Try.func86 #[.pointer (some ⟨g, 0, none⟩)] ?_; (with_reducible refine (spec_l8Draw.calls k g s0_0 s0_1 s0_2 tC tF tG tD tJ tK w0 _ ?side1 ?side2 A2.o).mono ?_); (case side1 => exact zI1 HI0.o NB0_A.o); (case side2 => exact zL2 HB.o (IsS98.ge HI0.o) GEA.o); rintro e wI6 ⟨vA9, vB0, vY, rfl, ho0, ho1, ho2, hi, hb, hk⟩; refine ⟨_, rfl, ?_⟩; have HOE := aM (Kd.N_lower (Kd.N_mono (ok' := fun k_ => (w.heap.size ≤ k_) ∧ some k_ ≠ (vB0 : Value).ownBlock ∧ some k_ ≠ (vY : Value).ownBlock ∧ k_ ≠ gbA ∧ k_ ≠ g) (Kd.S_N (Kd.S_bound ho0)) (fun k_ hk_ => ⟨(Nat.le_trans (keep_size (w := w) (g := g) (row := none) (zK1 HK.o GWA.o)) hk_.2.1), hk_.1.1, hk_.1.2, (Kd.freshB (g := gbA) (o := .cells #[.int .i64 0, .slice none 0 0, .slice none 0 0, .slice none 0 0] 25 (0, 0)) (zB BKA.o) k_ hk_.2.1), (IsS98.fresh (zI1 HI0.o NB0_A.o) k_ hk_.2.1)⟩)) (keep_size (w := w) (g := g) (row := none) (zK1 HK.o GWA.o))); have HOH := aM (Kd.N_lower (Kd.N_mono (ok' := fun k_ => (w.heap.size ≤ k_) ∧ some k_ ≠ (vA9 : Value).ownBlock ∧ some k_ ≠ (vY : Value).ownBlock ∧ k_ ≠ gbA ∧ k_ ≠ g) (Kd.S_N (Kd.S_bound ho1)) (fun k_ hk_ => ⟨(Nat.le_trans (keep_size (w := w) (g := g) (row := none) (zK1 HK.o GWA.o)) hk_.2.1), hk_.1.1, hk_.1.2, (Kd.freshB (g := gbA) (o := .cells #[.int .i64 0, .slice none 0 0, .slice none 0 0, .slice none 0 0] 25 (0, 0)) (zB BKA.o) k_ hk_.2.1), (IsS98.fresh (zI1 HI0.o NB0_A.o) k_ hk_.2.1)⟩)) (keep_size (w := w) (g := g) (row := none) (zK1 HK.o GWA.o))); replace BKA := zBK hk BKA NBA_0; have HOI := aM (Kd.R_lower (Kd.R_newM (M := fun k_ => (w.heap.size ≤ k_)) ho2 (keep_size (w := w) (g := g) (row := none) (zK1 HK.o GWA.o)) (fun k_ h_ => h_)) (keep_size (w := w) (g := g) (row := none) (zK1 HK.o GWA.o))); replace HK := zKK (zK1 HK.o GWA.o) hk; replace HB := aM hb; replace HI0 := aM hi; clear ho0 hi hb hk; (try clear ho1); (try clear ho2)) | ((with_reducible refine gD 3 rfl ?_); refine bE 3 #[.int .i64 0, .slice none 0 0, .slice none 0 0, .slice none 0 0] 25 ?_; intro gbB hg wI7 hbox hb; replace HOE := aM (Kd.N_below (Kd.N_elderB (zX HOE.o) gbB (Nat.le_of_eq hg.symm)) hb); replace HOH := aM (Kd.N_below (Kd.N_elderB (zX HOH.o) gbB (Nat.le_of_eq hg.symm)) hb); replace HOI := zRB HOI hb; replace HB := zLB (zL2 HB.o (IsS98.ge HI0.o) GEA.o) hb; have BKB := aM hbox; have GWB := aM (zgK (g := g) (zK1 HK.o GWA.o) hg : w.heap.size ≤ gbB); have GEB := aM ((Nat.le_trans HW0.o (zgK (g := g) (zK1 HK.o GWA.o) hg : w.heap.size ≤ gbB) : w0.heap.size ≤ gbB)); replace HK := zKB g (zK1 HK.o GWA.o) hb; have NBA_B := aM (zN BKA.o hg : gbA ≠ gbB); have NBB_A := aM (zM BKA.o hg : gbB ≠ gbA); replace BKA := zBB BKA hb; have NB0_B := aM ((zNI (IsS98.lt (zI1 HI0.o NB0_A.o : IsS98 w0 _ g s0_0 tJ tK)) hg : g ≠ gbB)); have NBB_0 := aM ((zMI (IsS98.lt (zI1 HI0.o NB0_A.o : IsS98 w0 _ g s0_0 tJ tK)) hg : gbB ≠ g)); replace HI0 := aM (IsS98.below (zI1 HI0.o NB0_A.o) hb); clear hb hbox hg; have hnbG4 := NBB_A.o; have hncG4 := NBA_B.o; have hnbG5 := NBB_0.o; have hncG5 := NB0_B.o; have hczG6 := zc4 BKB.o; have hfzG6 := zf4 BKB.o; obtain ⟨AoU, coU, eoU⟩ := Kd.N_slice HOE.o; subst eoU; obtain ⟨AoV, coV, eoV⟩ := Kd.N_slice HOH.o; subst eoV; obtain ⟨AoS, coS, eoS⟩ := Kd.R_slice HOI.o; subst eoS) | ((with_reducible refine gC 83 rfl ?_); refine gL 7 Try.func83 #[.pointer (some ⟨g, 0, none⟩), .int .i64 12] ?_; (with_reducible refine (spec_l1Below.calls g s0_0 tJ tK 12 tL tZ tA0 w0 _ ?side1 ?side2 A3.o).mono ?_); (case side1 => exact zI2 HI0.o NB0_A.o NB0_B.o); (case side2 => exact zL3 HB.o (IsS98.ge HI0.o) GEA.o GEB.o); rintro e wI8 ⟨rfl, hi, hb, hk⟩; refine ⟨_, rfl, ?_⟩; replace BKA := aM (zQ2 (.cells #[.int .i64 0, .slice none 0 0, .slice none 0 0, .slice none 0 0] 25 (0, 0)) hk (by refine zB ?_; refine zr4 ?_ NBA_B.o; exact zB BKA.o) NBA_0.o (by simp)); replace HOE := aM (Kd.N_mono (Kd.N_keep (Kd.N_mono (ok := fun k_ => ((((w.heap.size ≤ k_)) ∧ (some k_ ≠ (.slice AoV tG.length coV : Value).ownBlock ∧ (some k_ ≠ (.slice AoS tD.length coS : Value).ownBlock ∧ (k_ ≠ gbA ∧ k_ ≠ g)))) ∧ k_ ≠ gbB)) (by refine zX ?_; exact (Kd.N_mono (zNF4 (Kd.N_mono HOE.o (fun k_ hk => (⟨hk, hk.2⟩ : _ ∧ k_ ≠ gbB))) gbB (fun _ hk => hk.2) (.int .i64 tC) (.slice AoU tF.length coU) (.slice AoV tG.length coV) (.slice AoS tD.length coS)) (fun _ h_ => h_.1))) (fun k_ hk_ => (⟨hk_, hk_.1.2.2.2.2⟩ : _ ∧ k_ ≠ g))) hk (fun _ h => h.2)) (fun _ h => h.1)); replace HOH := aM (Kd.N_mono (Kd.N_keep (Kd.N_mono (ok := fun k_ => ((((w.heap.size ≤ k_)) ∧ (some k_ ≠ (.slice AoU tF.length coU : Value).ownBlock ∧ (some k_ ≠ (.slice AoS tD.length coS : Value).ownBlock ∧ (k_ ≠ gbA ∧ k_ ≠ g)))) ∧ k_ ≠ gbB)) (by refine zX ?_; exact (Kd.N_mono (zNF4 (Kd.N_mono HOH.o (fun k_ hk => (⟨hk, hk.2⟩ : _ ∧ k_ ≠ gbB))) gbB (fun _ hk => hk.2) (.int .i64 tC) (.slice AoU tF.length coU) (.slice AoV tG.length coV) (.slice AoS tD.length coS)) (fun _ h_ => h_.1))) (fun k_ hk_ => (⟨hk_, hk_.1.2.2.2.2⟩ : _ ∧ k_ ≠ g))) hk (fun _ h => h.2)) (fun _ h => h.1)); replace HOI := aM (Kd.R_mono (Kd.R_keep (IsS98.apart (show IsS98 w0 _ g s0_0 tJ tK from zI2 HI0.o NB0_A.o NB0_B.o) (by refine zR ?_; exact (Kd.R_mono (zRF4 (Kd.R_types HOI.o BKB.o (by decide)) gbB (fun _ hk => hk.2) (.int .i64 tC) (.slice AoU tF.length coU) (.slice AoV tG.length coV) (.slice AoS tD.length coS)) (fun _ h_ => h_.1))) (by decide)) hk (fun _ h => h.2)) (fun _ h => h.1)); replace BKB := aM (zQ2 (.cells #[.int .i64 tC, .slice AoU tF.length coU, .slice AoV tG.length coV, .slice AoS tD.length coS] 25 (0, 0)) hk (by refine zB ?_; refine zp4 (cs := #[.int .i64 0, .slice none 0 0, .slice none 0 0, .slice none 0 0]) ?_; exact zB BKB.o) NBB_0.o (by simp)); replace HK := zKK (zK2 HK.o GWA.o GWB.o) hk; replace HB := aM hb; replace HI0 := aM hi; clear hi hb hk; have hczG7 := zc4 BKB.o; have hfzG7 := zf4 BKB.o; have hnbG8 := NBA_0.o; have hncG8 := NB0_A.o; have hczG9 := zc4 BKA.o; have hfzG9 := zf4 BKA.o))
      refine bodyPost_ret (results_cell_row rfl _ _ gbA 25 #[.int .i64 tC, .slice AoU tF.length coU, .slice AoV tG.length coV, .slice AoS tD.length coS] (0, 0) _ rfl (by refine zB ?_; refine zp4 (cs := #[.int .i64 0, .slice none 0 0, .slice none 0 0, .slice none 0 0]) ?_; exact zB BKA.o) Try.underlying25 rfl (by kernel_rfl)) rfl ?_
      exact ⟨_, _, _, zW, by refine zX ?_; exact Kd.N_mono (zNF4 (Kd.N_mono HOE.o (fun k_ hk => (⟨hk, hk.1.2.2.2.1⟩ : _ ∧ k_ ≠ gbA))) gbA (fun _ hk => hk.2) (.int .i64 tC) (.slice AoU tF.length coU) (.slice AoV tG.length coV) (.slice AoS tD.length coS)) (fun _ hk => ⟨hk.1.1.1, ⟨hk.1.1.2.1, hk.1.1.2.2.1⟩⟩), by refine zX ?_; exact Kd.N_mono (zNF4 (Kd.N_mono HOH.o (fun k_ hk => (⟨hk, hk.1.2.2.2.1⟩ : _ ∧ k_ ≠ gbA))) gbA (fun _ hk => hk.2) (.int .i64 tC) (.slice AoU tF.length coU) (.slice AoV tG.length coV) (.slice AoS tD.length coS)) (fun _ hk => ⟨hk.1.1.1, ⟨hk.1.1.2.1, hk.1.1.2.2.1⟩⟩), by refine zR ?_; exact Kd.R_mono (zRF4 (Kd.R_types HOI.o BKA.o (by decide)) gbA (fun _ hk => hk.2) (.int .i64 tC) (.slice AoU tF.length coU) (.slice AoV tG.length coV) (.slice AoS tD.length coS)) (fun _ hk => hk.1.1), zI2 HI0.o NB0_A.o NB0_B.o, zL3 HB.o (IsS98.ge HI0.o) GEA.o GEB.o, zK2 HK.o GWA.o GWB.o⟩

open Go.Proofs.YtggenhomnbnodaaW.PrintWords renaming blk_drewN → bN, blk_drew → bD, blk_alloc → bA, blk_cell → bC, blk_below → bB, below_set → bS
def spec_l1Once.f (s0_0 : List Int) (s0_1 : Int) (s0_2 : Int) (a1 : Int) : Option (Bool × Int × Int) := (spec_l1Below.f s0_0 s0_1 s0_2 a1).bind fun btD0 => (some ((btD0.1 == 0), btD0.2.1, btD0.2.2))
set_option maxHeartbeats 8000000 in
set_option maxRecDepth 100000 in
theorem spec_l1Once.calls (g : Nat) (s0_0 : List Int) (s0_1 : Int) (s0_2 : Int) (a1 : Int) (r1 : Bool) (r2 : Int) (r3 : Int) (w0 w : World) (hI : IsS98 w0 w g s0_0 s0_1 s0_2) (hB : Below w0.heap.size w0 w) (h : spec_l1Once.f s0_0 s0_1 s0_2 a1 = some (r1, r2, r3)) :
  Calls Try.prog 87 #[.pointer (some ⟨g, 0, none⟩), .int .i64 a1] w fun e w' => e = .returned (.bool r1) ∧ IsS98 w0 w' g s0_0 r2 r3 ∧ Below w0.heap.size w0 w' ∧ KeepBut w w' g none := by
 have HI0 := aM hI
 have HK := aM (KeepBut.refl w g none)
 have HL := aM hB.size
 clear hI
 have HW0 := aM hB.size
 have HB := aM hB
 clear hB
 unfold spec_l1Once.f at h; have H := h
 clear h
 obtain ⟨⟨tD0, tH0, tH1⟩, A3, H⟩ := zO H; try dsimp only at H
 simp only [Option.some.injEq, Prod.mk.injEq] at H
 obtain ⟨rfl, rfl, rfl⟩ := H
 go_enter Try.func87, Try.ntmps87
 go_wp2_with (first | ((with_reducible refine gC 83 rfl ?_); refine gL 7 Try.func83 #[.pointer (some ⟨g, 0, none⟩), .int .i64 a1] ?_; (with_reducible refine (spec_l1Below.calls g s0_0 s0_1 s0_2 a1 tD0 tH0 tH1 w0 _ ?side1 ?side2 A3.o).mono ?_); (case side1 => exact zI HI0.o); (case side2 => exact zL1 HB.o (IsS98.ge HI0.o)); rintro e w4 ⟨rfl, hi, hb, hk⟩; refine ⟨_, rfl, ?_⟩; replace HK := zKK (zK HK.o) hk; replace HB := aM hb; replace HI0 := aM hi; clear hi hb hk))
 go_ret
 exact ⟨zW, zI HI0.o, zL1 HB.o (IsS98.ge HI0.o), zK HK.o⟩

open Go.Proofs.YtggenhomnbnodaaW.PrintWords renaming blk_drewN → bN, blk_drew → bD, blk_alloc → bA, blk_cell → bC, blk_below → bB, below_set → bS
def spec_l1Odd.f (s0_0 : List Int) (s0_1 : Int) (s0_2 : Int) : Option (Int × Int × Int) := (spec_l1Int.f s0_0 s0_1 s0_2 (([(-1), 0, 1, 2, 255, 256, 65535, 2147483647, 2147483648, 4294967295, 4294967296, (-2147483648), 9223372036854775807, (-9223372036854775808)] : List Int))).bind fun btD1 => (some (btD1.1, btD1.2.1, btD1.2.2))
set_option maxHeartbeats 8000000 in
set_option maxRecDepth 100000 in
theorem spec_l1Odd.calls (g : Nat) (s0_0 : List Int) (s0_1 : Int) (s0_2 : Int) (r1 : Int) (r2 : Int) (r3 : Int) (w0 w : World) (hI : IsS98 w0 w g s0_0 s0_1 s0_2) (hB : Below w0.heap.size w0 w) (h : spec_l1Odd.f s0_0 s0_1 s0_2 = some (r1, r2, r3)) :
  Calls Try.prog 96 #[.pointer (some ⟨g, 0, none⟩)] w fun e w' => e = .returned (.int .i64 r1) ∧ IsS98 w0 w' g s0_0 r2 r3 ∧ Below w0.heap.size w0 w' ∧ KeepBut w w' g none := by
 have HI0 := aM hI
 have HK := aM (KeepBut.refl w g none)
 have HL := aM hB.size
 clear hI
 have HW0 := aM hB.size
 have HB := aM hB
 clear hB
 unfold spec_l1Odd.f at h; have H := h
 clear h
 generalize hyB3 : (([(-1), 0, 1, 2, 255, 256, 65535, 2147483647, 2147483648, 4294967295, 4294967296, (-2147483648), 9223372036854775807, (-9223372036854775808)] : List Int)) = yB3 at H; (try rw [Option.bind_some] at H); have NyB3 := aM hyB3.symm; clear hyB3
 obtain ⟨⟨tD1, tH2, tH3⟩, A2, H⟩ := zO H; try dsimp only at H
 simp only [Option.some.injEq, Prod.mk.injEq] at H
 obtain ⟨rfl, rfl, rfl⟩ := H
 go_enter Try.func96, Try.ntmps96
 go_wp2_with (first | ((with_reducible refine gD 4 rfl ?_); refine Kd.R_lit (Kd.int .i64) _ 3 ?hg (N := 4) ?hd (xs := ([(-1), 0, 1, 2, 255, 256, 65535, 2147483647, 2147483648, 4294967295, 4294967296, (-2147483648), 9223372036854775807, (-9223372036854775808)] : List Int)) (inner := [.int .i64 (-1), .int .i64 0, .int .i64 1, .int .i64 2, .int .i64 255, .int .i64 256, .int .i64 65535, .int .i64 2147483647, .int .i64 2147483648, .int .i64 4294967295, .int .i64 4294967296, .int .i64 (-2147483648), .int .i64 9223372036854775807, .int .i64 (-9223372036854775808)]) (ok := fun _ => True) (okp := fun _ => True) ?hr ?hp (fun _ hk => hk) trivial (Below.refl _ _) (Nat.le_refl _) (by simp) ?_; (case hd => rfl); (case hg => rfl); (case hr => first | (go_simp; done) | (go_simp; rfl)); (case hp => exact zhp); intro vI9 w3 ho4 hb hg_ hnew_; clear hg_ hnew_; (first | rw [← NyB3.o] at ho4 | (simp only [Int.reduceToNat] at ho4; rw [← NyB3.o] at ho4)); have HOC4 := aM (Kd.R_lower ho4 (keep_size (w := w) (g := g) (row := none) (zK HK.o))); replace HK := zKB g (zK HK.o) hb; replace HB := zLB (zL1 HB.o (IsS98.ge HI0.o)) hb; replace HI0 := aM (IsS98.below (zI HI0.o) hb); clear hb ho4; obtain ⟨Ao5, co5, eo5⟩ := Kd.R_slice HOC4.o; subst eo5) | ((with_reducible refine gC 85 rfl ?_); refine gL 5 Try.func85 #[.pointer (some ⟨g, 0, none⟩), .slice Ao5 yB3.length co5] ?_; (with_reducible refine (spec_l1Int.calls g s0_0 s0_1 s0_2 _ _ yB3 tD1 tH2 tH3 w0 _ ?side1 ?side2 ?side3 ?side4 ?side5 A2.o).mono ?_); (case side1 => exact zI HI0.o); (case side2 => exact zL1 HB.o (IsS98.ge HI0.o)); (case side3 => exact zC (Kd.R_reads' HOC4.o).2.2); (case side4 => exact (Kd.R_reads' HOC4.o).2.1); (case side5 => exact far_slice (IsS98.own_ne HI0.o HOC4.o (by decide))); rintro e w6 ⟨rfl, hi, hb, hk⟩; refine ⟨_, rfl, ?_⟩; replace HOC4 := aM (Kd.R_mono (Kd.R_keep (IsS98.apart (show IsS98 w0 _ g s0_0 s0_1 s0_2 from zI HI0.o) (zR HOC4.o) (by decide)) hk (fun _ h => h.2)) (fun _ h => h.1)); replace HK := zKK (zK HK.o) hk; replace HB := aM hb; replace HI0 := aM hi; clear hi hb hk))
 go_ret
 exact ⟨zW, zI HI0.o, zL1 HB.o (IsS98.ge HI0.o), zK HK.o⟩

open Go.Proofs.YtggenhomnbnodaaW.PrintWords renaming blk_drewN → bN, blk_drew → bD, blk_alloc → bA, blk_cell → bC, blk_below → bB, below_set → bS
def spec_l1Raw.f (s0_0 : List Int) (s0_1 : Int) (s0_2 : Int) : Option (Int × Int × Int) := (spec_l1Once.f s0_0 s0_1 s0_2 2).bind fun btC0 => (if btC0.1 = true then ((spec_l1Odd.f s0_0 btC0.2.1 btC0.2.2).bind fun btD2 => (some (btD2.1, btD2.2.1, btD2.2.2))) else ((spec_l1Int.f s0_0 btC0.2.1 btC0.2.2 (([(-2147483648), (-3), (-1), 0, 1, 3, 7, 65536, 2147483647, 2147483648] : List Int))).bind fun btD3 => (some (btD3.1, btD3.2.1, btD3.2.2))))
set_option maxHeartbeats 8000000 in
set_option maxRecDepth 100000 in
theorem spec_l1Raw.calls (g : Nat) (s0_0 : List Int) (s0_1 : Int) (s0_2 : Int) (r1 : Int) (r2 : Int) (r3 : Int) (w0 w : World) (hI : IsS98 w0 w g s0_0 s0_1 s0_2) (hB : Below w0.heap.size w0 w) (h : spec_l1Raw.f s0_0 s0_1 s0_2 = some (r1, r2, r3)) :
  Calls Try.prog 84 #[.pointer (some ⟨g, 0, none⟩)] w fun e w' => e = .returned (.int .i64 r1) ∧ IsS98 w0 w' g s0_0 r2 r3 ∧ Below w0.heap.size w0 w' ∧ KeepBut w w' g none := by
 have HI0 := aM hI
 have HK := aM (KeepBut.refl w g none)
 have HL := aM hB.size
 clear hI
 have HW0 := aM hB.size
 have HB := aM hB
 clear hB
 unfold spec_l1Raw.f at h; have H := h
 clear h
 obtain ⟨⟨tC0, tD4, tD5⟩, A2, H⟩ := zO H; try dsimp only at H
 by_cases c3 : tC0 = true
 ·subst c3
  rw [if_pos rfl] at H
  obtain ⟨⟨tD2, tH4, tH5⟩, A4, H⟩ := zO H; try dsimp only at H
  simp only [Option.some.injEq, Prod.mk.injEq] at H
  obtain ⟨rfl, rfl, rfl⟩ := H
  go_enter Try.func84, Try.ntmps84
  go_wp2_with (first | ((with_reducible refine gC 87 rfl ?_); refine gL 4 Try.func87 #[.pointer (some ⟨g, 0, none⟩), .int .i64 2] ?_; (with_reducible refine (spec_l1Once.calls g s0_0 s0_1 s0_2 2 true tD4 tD5 w0 _ ?side1 ?side2 A2.o).mono ?_); (case side1 => exact zI HI0.o); (case side2 => exact zL1 HB.o (IsS98.ge HI0.o)); rintro e w5 ⟨rfl, hi, hb, hk⟩; refine ⟨_, rfl, ?_⟩; replace HK := zKK (zK HK.o) hk; replace HB := aM hb; replace HI0 := aM hi; clear hi hb hk) | ((with_reducible refine gC 96 rfl ?_); refine gL 6 Try.func96 #[.pointer (some ⟨g, 0, none⟩)] ?_; (with_reducible refine (spec_l1Odd.calls g s0_0 tD4 tD5 tD2 tH4 tH5 w0 _ ?side1 ?side2 A4.o).mono ?_); (case side1 => exact zI HI0.o); (case side2 => exact zL1 HB.o (IsS98.ge HI0.o)); rintro e w6 ⟨rfl, hi, hb, hk⟩; refine ⟨_, rfl, ?_⟩; replace HK := zKK (zK HK.o) hk; replace HB := aM hb; replace HI0 := aM hi; clear hi hb hk))
  go_ret
  exact ⟨zW, zI HI0.o, zL1 HB.o (IsS98.ge HI0.o), zK HK.o⟩
 ·obtain rfl := Bool.eq_false_iff.mpr c3
  rw [if_neg zn] at H
  generalize hyB4 : (([(-2147483648), (-3), (-1), 0, 1, 3, 7, 65536, 2147483647, 2147483648] : List Int)) = yB4 at H; (try rw [Option.bind_some] at H); have NyB4 := aM hyB4.symm; clear hyB4
  obtain ⟨⟨tD3, tH6, tH7⟩, A7, H⟩ := zO H; try dsimp only at H
  simp only [Option.some.injEq, Prod.mk.injEq] at H
  obtain ⟨rfl, rfl, rfl⟩ := H
  go_enter Try.func84, Try.ntmps84
  go_wp2_with (first | ((with_reducible refine gC 87 rfl ?_); refine gL 4 Try.func87 #[.pointer (some ⟨g, 0, none⟩), .int .i64 2] ?_; (with_reducible refine (spec_l1Once.calls g s0_0 s0_1 s0_2 2 false tD4 tD5 w0 _ ?side1 ?side2 A2.o).mono ?_); (case side1 => exact zI HI0.o); (case side2 => exact zL1 HB.o (IsS98.ge HI0.o)); rintro e w8 ⟨rfl, hi, hb, hk⟩; refine ⟨_, rfl, ?_⟩; replace HK := zKK (zK HK.o) hk; replace HB := aM hb; replace HI0 := aM hi; clear hi hb hk) | ((with_reducible refine gD 8 rfl ?_); refine Kd.R_lit (Kd.int .i64) _ 3 ?hg (N := 8) ?hd (xs := ([(-2147483648), (-3), (-1), 0, 1, 3, 7, 65536, 2147483647, 2147483648] : List Int)) (inner := [.int .i64 (-2147483648), .int .i64 (-3), .int .i64 (-1), .int .i64 0, .int .i64 1, .int .i64 3, .int .i64 7, .int .i64 65536, .int .i64 2147483647, .int .i64 2147483648]) (ok := fun _ => True) (okp := fun _ => True) ?hr ?hp (fun _ hk => hk) trivial (Below.refl _ _) (Nat.le_refl _) (by simp) ?_; (case hd => rfl); (case hg => rfl); (case hr => first | (go_simp; done) | (go_simp; rfl)); (case hp => exact zhp); intro vJ0 w9 ho10 hb hg_ hnew_; clear hg_ hnew_; (first | rw [← NyB4.o] at ho10 | (simp only [Int.reduceToNat] at ho10; rw [← NyB4.o] at ho10)); have HOC5 := aM (Kd.R_lower ho10 (keep_size (w := w) (g := g) (row := none) (zK HK.o))); replace HK := zKB g (zK HK.o) hb; replace HB := zLB (zL1 HB.o (IsS98.ge HI0.o)) hb; replace HI0 := aM (IsS98.below (zI HI0.o) hb); clear hb ho10; obtain ⟨Ao11, co11, eo11⟩ := Kd.R_slice HOC5.o; subst eo11) | ((with_reducible refine gC 85 rfl ?_); refine gL 9 Try.func85 #[.pointer (some ⟨g, 0, none⟩), .slice Ao11 yB4.length co11] ?_; (with_reducible refine (spec_l1Int.calls g s0_0 tD4 tD5 _ _ yB4 tD3 tH6 tH7 w0 _ ?side1 ?side2 ?side3 ?side4 ?side5 A7.o).mono ?_); (case side1 => exact zI HI0.o); (case side2 => exact zL1 HB.o (IsS98.ge HI0.o)); (case side3 => exact zC (Kd.R_reads' HOC5.o).2.2); (case side4 => exact (Kd.R_reads' HOC5.o).2.1); (case side5 => exact far_slice (IsS98.own_ne HI0.o HOC5.o (by decide))); rintro e w12 ⟨rfl, hi, hb, hk⟩; refine ⟨_, rfl, ?_⟩; replace HOC5 := aM (Kd.R_mono (Kd.R_keep (IsS98.apart (show IsS98 w0 _ g s0_0 tD4 tD5 from zI HI0.o) (zR HOC5.o) (by decide)) hk (fun _ h => h.2)) (fun _ h => h.1)); replace HK := zKK (zK HK.o) hk; replace HB := aM hb; replace HI0 := aM hi; clear hi hb hk))
  go_ret
  exact ⟨zW, zI HI0.o, zL1 HB.o (IsS98.ge HI0.o), zK HK.o⟩

end Go.Proofs.Ytggenhomnbnodaa.QFnWheels
