/- What the Go functions that the law FnSpans reaches answer: each as a Lean function, with its walk. Written by a program of this session. Conditions: those that each theorem names. -/
import Derived.Test.YtkhbhdchakbmhaaDoorQFnSpansx0
import Derived.Test.YtkhbhdchakbmhaaDoorQFnSpansx8
import Derived.Test.YtkhbhdchakbmhaaDoorQFnSpansx9
namespace Go.Proofs.YtkhbhdchakbmhaaDoor.QFnSpans
open Go.RowKit Go.Proofs.YtkhbhdchakbmhaaDoorW.PrintWords Go.Proofs.YtkhbhdchakbmhaaDoorW.PrintLast Go.Proofs.YtkhbhdchakbmhaaDoorW.PrintMore
attribute [local go_sem] max2_int min2_int max_two min_two max_three min_three max_four min_four   -- for this text's walks alone
set_option linter.unusedVariables false
set_option linter.unusedSimpArgs false

open Go.Proofs.YtkhbhdchakbmhaaDoorW.PrintWords renaming blk_drewN → bN, blk_drew → bD, blk_alloc → bA, blk_cell → bC, blk_below → bB, below_set → bS
/-! ### spec_DrawSameSpan: function 36 -/
def spec_DrawSameSpan.f (k : Nat) (l0 : List Int) : Option (Int × Int × Int × Int × Bool × (List (S28)) × Int × Int × Int × Int × Bool × (List (S28))) := (spec_l1New.f k l0).bind fun bt455 => ((spec_l3Any.f k bt455.1 bt455.2.1 bt455.2.2).bind fun bt459 => ((spec_l1Once.f bt455.1 bt459.2.2.2.2.2.2.1 bt459.2.2.2.2.2.2.2 2).bind fun bt470 => (if bt470.1 = true then ((spec_l3Copy.f bt459.1 bt459.2.1 bt459.2.2.1 bt459.2.2.2.1 bt459.2.2.2.2.1 bt459.2.2.2.2.2.1).bind fun bt473 => (some (bt459.1, bt459.2.1, bt459.2.2.1, bt459.2.2.2.1, bt459.2.2.2.2.1, bt459.2.2.2.2.2.1, bt473.1, bt473.2.1, bt473.2.2.1, bt473.2.2.2.1, bt473.2.2.2.2.1, bt473.2.2.2.2.2))) else ((spec_l3Any.f k bt455.1 bt470.2.1 bt470.2.2).bind fun bt481 => (some (bt459.1, bt459.2.1, bt459.2.2.1, bt459.2.2.2.1, bt459.2.2.2.2.1, bt459.2.2.2.2.2.1, bt481.1, bt481.2.1, bt481.2.2.1, bt481.2.2.2.1, bt481.2.2.2.2.1, bt481.2.2.2.2.2.1))))))
theorem spec_DrawSameSpan.mono : ∀ a0 k, LeO (spec_DrawSameSpan.f k a0) (spec_DrawSameSpan.f (k + 1) a0) := by
 intro a0 k
 unfold spec_DrawSameSpan.f
 repeat' first
   | (with_reducible apply spec_l1New.mono)
   | (with_reducible apply spec_l3Any.mono)
   | (with_reducible exact LeO.refl _)
   | (with_reducible exact LeO.none _)
   | (with_reducible refine LeO.ite ?_ ?_)
   | (with_reducible refine LeO.bind ?_ (fun _ => ?_))
   | apply spec_l1New.mono
   | apply spec_l3Any.mono
   | exact LeO.none _
   | refine LeO.ite ?_ ?_
   | refine LeO.bind ?_ (fun _ => ?_)
set_option maxHeartbeats 8000000 in
set_option maxRecDepth 100000 in
theorem spec_DrawSameSpan.calls (k : Nat) (A0 : Option Addr) (c0 : Nat) (l0 : List Int) (r1 : Int) (r2 : Int) (r3 : Int) (r4 : Int) (r5 : Bool) (r6 : List (S28)) (r7 : Int) (r8 : Int) (r9 : Int) (r10 : Int) (r11 : Bool) (r12 : List (S28)) (w : World) (hr0 : Kd.C (Kd.int .u8) w A0 l0.length l0) (hc0 : l0.length ≤ c0) (h : spec_DrawSameSpan.f k l0 = some (r1, r2, r3, r4, r5, r6, r7, r8, r9, r10, r11, r12)) :
  Calls Tryd.prog 36 #[.slice A0 l0.length c0] w fun e w' => ∃ v5_ v11_ : Value, e = .returned (.tuple #[.agg #[.int .i64 r1, .int .i64 r2, .int .i64 r3, .int .i64 r4, .bool r5, v5_], .agg #[.int .i64 r7, .int .i64 r8, .int .i64 r9, .int .i64 r10, .bool r11, v11_]]) ∧ Kd.R k28 28 w' w.heap.size (fun k_ => some k_ ≠ (v11_ : Value).ownBlock) v5_ r6 ∧ Kd.R k28 28 w' w.heap.size (fun k_ => some k_ ≠ (v5_ : Value).ownBlock) v11_ r12 ∧ Below w.heap.size w w' := by
 have hu38 := Tryd.underlying38
 have HR0 := Aside0.mk hr0
 have HC0 := Aside0.mk hc0
 clear hr0 hc0
 have HB := Aside0.mk (Below.refl w.heap.size w)
 unfold spec_DrawSameSpan.f at h; have H := h
 clear h
 obtain ⟨⟨t455, t456, t457⟩, A2, H⟩ := zO H; try dsimp only at H
 obtain ⟨⟨t459, t460, t461, t462, t463, t464, t467, t468⟩, A3, H⟩ := zO H; try dsimp only at H
 obtain ⟨⟨t470, t471, t472⟩, A4, H⟩ := zO H; try dsimp only at H
 by_cases c5 : t470 = true
 ·subst c5
  rw [if_pos rfl] at H
  obtain ⟨⟨t473, t474, t475, t476, t477, t478⟩, A6, H⟩ := zO H; try dsimp only at H
  simp only [Option.some.injEq, Prod.mk.injEq] at H
  obtain ⟨rfl, rfl, rfl, rfl, rfl, rfl, rfl, rfl, rfl, rfl, rfl, rfl⟩ := H
  go_enter Tryd.func36, Tryd.ntmps36
  try go_wp2_with (first | ((with_reducible refine gD 2 rfl ?_); refine bE 2 #[.int .i64 0, .int .i64 0, .int .i64 0, .int .i64 0, .bool false, .slice none 0 0] 38 ?_; intro gb453 hg w7 hbox hb; have BK453 := Aside0.mk hbox; have GW453 := Aside0.mk (zg (zL HB.out) hg : w.heap.size ≤ gb453); have GE453 := GW453; replace HB := zLB (zL HB.out) hb; clear hb hbox hg) | ((with_reducible refine gD 3 rfl ?_); refine bE 3 #[.int .i64 0, .int .i64 0, .int .i64 0, .int .i64 0, .bool false, .slice none 0 0] 38 ?_; intro gb454 hg w8 hbox hb; have BK454 := Aside0.mk hbox; have GW454 := Aside0.mk (zg (zL1 HB.out GE453.out) hg : w.heap.size ≤ gb454); have GE454 := GW454; replace HB := zLB (zL1 HB.out GE453.out) hb; have NB453_454 := Aside0.mk (zN BK453.out hg : gb453 ≠ gb454); have NB454_453 := Aside0.mk (zM BK453.out hg : gb454 ≠ gb453); replace BK453 := zBB BK453 hb; clear hb hbox hg) | ((with_reducible refine gC 64 rfl ?_); refine gL 7 Tryd.func64 #[.slice A0 l0.length c0] ?_; (with_reducible refine (spec_l1New.calls k _ _ l0 t455 t456 t457 w _ ?side1 ?side2 ?side3 A2.out).mono ?_); (case side1 => exact zL2 HB.out GE453.out GE454.out); (case side2 => exact HR0.out); (case side3 => exact HC0.out); rintro e w9 ⟨g458, rfl, hi, hb, hb2⟩; refine ⟨_, rfl, ?_⟩; replace HB := Aside0.mk hb; have HI458 := Aside0.mk hi; have NB458_453 := Aside0.mk (IsS91.ne_blk hi (bB (g := gb453) (o := .cells #[.int .i64 0, .int .i64 0, .int .i64 0, .int .i64 0, .bool false, .slice none 0 0] 38 (0, 0)) (zB BK453.out) hb2) (by decide)); have NB453_458 := Aside0.mk (Ne.symm (IsS91.ne_blk hi (bB (g := gb453) (o := .cells #[.int .i64 0, .int .i64 0, .int .i64 0, .int .i64 0, .bool false, .slice none 0 0] 38 (0, 0)) (zB BK453.out) hb2) (by decide))); replace BK453 := zBB BK453 hb2; have NB458_454 := Aside0.mk (IsS91.ne_blk hi (bB (g := gb454) (o := .cells #[.int .i64 0, .int .i64 0, .int .i64 0, .int .i64 0, .bool false, .slice none 0 0] 38 (0, 0)) (zB BK454.out) hb2) (by decide)); have NB454_458 := Aside0.mk (Ne.symm (IsS91.ne_blk hi (bB (g := gb454) (o := .cells #[.int .i64 0, .int .i64 0, .int .i64 0, .int .i64 0, .bool false, .slice none 0 0] 38 (0, 0)) (zB BK454.out) hb2) (by decide))); replace BK454 := zBB BK454 hb2; clear hi hb hb2) | ((with_reducible refine gC 68 rfl ?_); refine gL 9 Tryd.func68 #[.pointer (some ⟨g458, 0, none⟩)] ?_; (with_reducible refine (spec_l3Any.calls k g458 t455 t456 t457 t459 t460 t461 t462 t463 t464 t467 t468 w _ ?side1 ?side2 A3.out).mono ?_); (case side1 => exact zI2 HI458.out NB458_453.out NB458_454.out); (case side2 => exact zL3 HB.out (IsS91.ge HI458.out) GE453.out GE454.out); rintro e w10 ⟨v465, rfl, ho0, hi, hb, hk⟩; refine ⟨_, rfl, ?_⟩; replace BK453 := zBK hk BK453 NB453_458; replace BK454 := zBK hk BK454 NB454_458; have HO466 := Aside0.mk (Kd.R_lower ho0 (below_size (zL3 HB.out (IsS91.ge HI458.out) GE453.out GE454.out))); replace HB := Aside0.mk hb; replace HI458 := Aside0.mk hi; clear ho0 hi hb hk) | ((with_reducible refine gD 5 rfl ?_); refine bE 5 #[.int .i64 0, .int .i64 0, .int .i64 0, .int .i64 0, .bool false, .slice none 0 0] 38 ?_; intro gb469 hg w11 hbox hb; replace HO466 := zRB HO466 hb; have BK469 := Aside0.mk hbox; have GW469 := Aside0.mk ((zg (zL3 HB.out (IsS91.ge HI458.out) GE453.out GE454.out) hg : w.heap.size ≤ gb469)); have GE469 := GW469; replace HB := zLB (zL3 HB.out (IsS91.ge HI458.out) GE453.out GE454.out) hb; have NB453_469 := Aside0.mk (zN BK453.out hg : gb453 ≠ gb469); have NB469_453 := Aside0.mk (zM BK453.out hg : gb469 ≠ gb453); replace BK453 := zBB BK453 hb; have NB454_469 := Aside0.mk (zN BK454.out hg : gb454 ≠ gb469); have NB469_454 := Aside0.mk (zM BK454.out hg : gb469 ≠ gb454); replace BK454 := zBB BK454 hb; have NB458_469 := Aside0.mk ((zNI (IsS91.lt (zI2 HI458.out NB458_453.out NB458_454.out : IsS91 w _ g458 t455 t467 t468)) hg : g458 ≠ gb469)); have NB469_458 := Aside0.mk ((zMI (IsS91.lt (zI2 HI458.out NB458_453.out NB458_454.out : IsS91 w _ g458 t455 t467 t468)) hg : gb469 ≠ g458)); replace HI458 := Aside0.mk (IsS91.below (zI2 HI458.out NB458_453.out NB458_454.out) hb); clear hb hbox hg; have hnb12 := NB469_453.out; have hnc12 := NB453_469.out; have hnb13 := NB469_454.out; have hnc13 := NB454_469.out; have hnb14 := NB469_458.out; have hnc14 := NB458_469.out; have hcz15 := zc6 BK469.out; have hfz15 := zf6 BK469.out; obtain ⟨Ao16, co16, eo16⟩ := Kd.R_slice HO466.out; subst eo16) | ((with_reducible refine gC 69 rfl ?_); refine gL 11 Tryd.func69 #[.pointer (some ⟨g458, 0, none⟩), .int .i64 2] ?_; (with_reducible refine (spec_l1Once.calls g458 t455 t467 t468 2 true t471 t472 w _ ?side1 ?side2 A4.out).mono ?_); (case side1 => exact zI3 HI458.out NB458_453.out NB458_454.out NB458_469.out); (case side2 => exact zL4 HB.out (IsS91.ge HI458.out) GE453.out GE454.out GE469.out); rintro e w17 ⟨rfl, hi, hb, hk⟩; refine ⟨_, rfl, ?_⟩; replace BK453 := Aside0.mk (zQ2 (.cells #[.int .i64 0, .int .i64 0, .int .i64 0, .int .i64 0, .bool false, .slice none 0 0] 38 (0, 0)) hk (by refine zB ?_; refine zr6 ?_ NB453_469.out; exact zB BK453.out) NB453_458.out (by simp)); replace BK454 := Aside0.mk (zQ2 (.cells #[.int .i64 0, .int .i64 0, .int .i64 0, .int .i64 0, .bool false, .slice none 0 0] 38 (0, 0)) hk (by refine zB ?_; refine zr6 ?_ NB454_469.out; exact zB BK454.out) NB454_458.out (by simp)); replace HO466 := Aside0.mk (Kd.R_mono (Kd.R_keep (IsS91.apart (show IsS91 w _ g458 t455 t467 t468 from zI3 HI458.out NB458_453.out NB458_454.out NB458_469.out) (by (with_reducible repeat (first | apply Kd.R_alloc | apply Kd.R_drewN | apply Kd.R_drew)); exact (Kd.R_mono (zRF6 (Kd.R_types HO466.out BK469.out (by decide)) gb469 (fun _ hk => hk.2) (.int .i64 t459) (.int .i64 t460) (.int .i64 t461) (.int .i64 t462) (.bool t463) (.slice Ao16 t464.length co16)) (fun _ h_ => h_.1))) (by decide)) hk (fun _ h => h.2)) (fun _ h => h.1)); replace BK469 := Aside0.mk (zQ2 (.cells #[.int .i64 t459, .int .i64 t460, .int .i64 t461, .int .i64 t462, .bool t463, .slice Ao16 t464.length co16] 38 (0, 0)) hk (by refine zB ?_; refine zp6 (cs := #[.int .i64 0, .int .i64 0, .int .i64 0, .int .i64 0, .bool false, .slice none 0 0]) ?_; exact zB BK469.out) NB469_458.out (by simp)); replace HB := Aside0.mk hb; replace HI458 := Aside0.mk hi; clear hi hb hk))
  replace HO466 := zRD HO466; replace BK453 := zBD BK453; replace BK454 := zBD BK454; replace BK469 := zBD BK469; replace HI458 := Aside0.mk (IsS91.drew HI458.out); replace HB := zLD HB
  refine start_ (n := 5) (S := fun w' => zs6 w' gb469 (.int .i64 t459) (.int .i64 t460) (.int .i64 t461) (.int .i64 t462) (.bool t463) (.slice Ao16 t464.length co16)) (ds := []) (fB 5 0) (by kernel_rfl) rfl rfl (zc6 BK469.out) (fun hHeld => ?_)
  generalize w17.drew = w18 at HO466 BK453 BK454 BK469 HI458 HB hHeld ⊢
  refine take_ (i := 0) (N := some 12) (v := ?_) (a' := ?_) (fB 5 1) rfl rfl (by kernel_rfl) (fun _ _ _ h => h) (Or.inl ⟨by rfl, ?_⟩) hHeld ?_ ?_
  rotate_left
  ·rintro w' ⟨s0, s1, s2, s3, s4, s5⟩; go_simp; with_reducible rfl
  rotate_left
  ·exact zP
  refine take_ (i := 1) (N := some 13) (v := ?_) (a' := ?_) (fB 5 3) rfl rfl (by kernel_rfl) (fun _ _ _ h => h) (Or.inl ⟨by rfl, ?_⟩) hHeld ?_ ?_
  rotate_left
  ·rintro w' ⟨s0, s1, s2, s3, s4, s5⟩; go_simp; with_reducible rfl
  rotate_left
  ·exact zP
  refine one_ (i := 2) (N := some 14) (fB 5 7) rfl rfl (by kernel_rfl) (by decide) (fun K hK => ?_)
  refine gS Tryd.func70 #[.agg #[.int .i64 t459, .int .i64 t460, .int .i64 t461, .int .i64 t462, .bool t463, .slice Ao16 t464.length co16]] ?_
  with_reducible refine (spec_l3Copy.calls t459 t460 t461 t462 t463 _ _ t464 t473 t474 t475 t476 t477 t478 _ ?side1 ?side2 A6.out).mono ?_
  (case side1 => exact zC (Kd.R_reads' HO466.out).2.2)
  (case side2 => exact (Kd.R_reads' HO466.out).2.1)
  rintro e w19 ⟨v479, rfl, ho0, hb⟩
  refine ⟨_, rfl, ?_⟩
  have HO480 := Aside0.mk (Kd.R_lower (Kd.R_new' ho0 (Kd.R_lt (zR HO466.out))) (below_size (zL4 HB.out (IsS91.ge HI458.out) GE453.out GE454.out GE469.out))); replace HO466 := Aside0.mk (Kd.R_elder' (zR HO466.out) (Kd.R_base ho0) hb); replace BK453 := zBB BK453 hb; replace BK454 := zBB BK454 hb; replace BK469 := zBB BK469 hb; replace HB := zLB (zL4 HB.out (IsS91.ge HI458.out) GE453.out GE454.out GE469.out) hb; replace HI458 := Aside0.mk (IsS91.below (zI3 HI458.out NB458_453.out NB458_454.out NB458_469.out) hb)
  clear ho0 hb
  (try clear ho0)
  obtain ⟨Ao31, co31, eo31⟩ := Kd.R_slice HO480.out
  (first | subst eo31 | (injection eo31 with f1_ f2_ f3_; have f4_ := f1_.symm; have f5_ := f3_.symm; clear f1_ f2_ f3_; subst f4_; subst f5_))
  refine hK.out _ _ (zc6 BK469.out) fun hHeld => ?_; clear hK K
  refine nZ 14 ?_
  refine one_ (i := 3) (N := none) (fB 5 15) rfl rfl (by kernel_rfl) (by decide) (fun K hK => ?_)
  have hs20 : w19.cell? ⟨gb453, 0, none⟩ = some (.int .i64 0) := (bC BK453.out 0).trans rfl
  have hfs20 := blk_frozen BK453.out 0
  have hns20_1 := NB454_453.out
  have hns20_2 := NB469_453.out
  have hms20_1 := NB453_454.out
  have hms20_2 := NB453_469.out
  have hs21 : w19.cell? ⟨gb453, 1, none⟩ = some (.int .i64 0) := (bC BK453.out 1).trans rfl
  have hfs21 := blk_frozen BK453.out 1
  have hns21_1 := NB454_453.out
  have hns21_2 := NB469_453.out
  have hms21_1 := NB453_454.out
  have hms21_2 := NB453_469.out
  have hs22 : w19.cell? ⟨gb453, 2, none⟩ = some (.int .i64 0) := (bC BK453.out 2).trans rfl
  have hfs22 := blk_frozen BK453.out 2
  have hns22_1 := NB454_453.out
  have hns22_2 := NB469_453.out
  have hms22_1 := NB453_454.out
  have hms22_2 := NB453_469.out
  have hs23 : w19.cell? ⟨gb453, 3, none⟩ = some (.int .i64 0) := (bC BK453.out 3).trans rfl
  have hfs23 := blk_frozen BK453.out 3
  have hns23_1 := NB454_453.out
  have hns23_2 := NB469_453.out
  have hms23_1 := NB453_454.out
  have hms23_2 := NB453_469.out
  have hs24 : w19.cell? ⟨gb453, 4, none⟩ = some (.bool false) := (bC BK453.out 4).trans rfl
  have hfs24 := blk_frozen BK453.out 4
  have hns24_1 := NB454_453.out
  have hns24_2 := NB469_453.out
  have hms24_1 := NB453_454.out
  have hms24_2 := NB453_469.out
  have hs25 : w19.cell? ⟨gb453, 5, none⟩ = some (.slice none 0 0) := (bC BK453.out 5).trans rfl
  have hfs25 := blk_frozen BK453.out 5
  have hns25_1 := NB454_453.out
  have hns25_2 := NB469_453.out
  have hms25_1 := NB453_454.out
  have hms25_2 := NB453_469.out
  refine skip_ (w1 := ?_) (by rfl) rfl ?_ ?_
  rotate_left
  ·go_simp
   rfl
  refine hK.out _ _ ⟨zcf6 NB469_453.out hHeld.1, zcf6 NB469_453.out hHeld.2.1, zcf6 NB469_453.out hHeld.2.2.1, zcf6 NB469_453.out hHeld.2.2.2.1, zcf6 NB469_453.out hHeld.2.2.2.2.1, zcf6 NB469_453.out hHeld.2.2.2.2.2⟩ fun hHeld => ?_; clear hK K
  refine one_ (i := 4) (N := none) (fB 5 31) rfl rfl (by kernel_rfl) (by decide) (fun K hK => ?_)
  have hs26 : w19.cell? ⟨gb454, 0, none⟩ = some (.int .i64 0) := (bC BK454.out 0).trans rfl
  have hfs26 := blk_frozen BK454.out 0
  have hns26_0 := NB453_454.out
  have hns26_2 := NB469_454.out
  have hms26_0 := NB454_453.out
  have hms26_2 := NB454_469.out
  have hs27 : w19.cell? ⟨gb454, 1, none⟩ = some (.int .i64 0) := (bC BK454.out 1).trans rfl
  have hfs27 := blk_frozen BK454.out 1
  have hns27_0 := NB453_454.out
  have hns27_2 := NB469_454.out
  have hms27_0 := NB454_453.out
  have hms27_2 := NB454_469.out
  have hs28 : w19.cell? ⟨gb454, 2, none⟩ = some (.int .i64 0) := (bC BK454.out 2).trans rfl
  have hfs28 := blk_frozen BK454.out 2
  have hns28_0 := NB453_454.out
  have hns28_2 := NB469_454.out
  have hms28_0 := NB454_453.out
  have hms28_2 := NB454_469.out
  have hs29 : w19.cell? ⟨gb454, 3, none⟩ = some (.int .i64 0) := (bC BK454.out 3).trans rfl
  have hfs29 := blk_frozen BK454.out 3
  have hns29_0 := NB453_454.out
  have hns29_2 := NB469_454.out
  have hms29_0 := NB454_453.out
  have hms29_2 := NB454_469.out
  have hs30 : w19.cell? ⟨gb454, 4, none⟩ = some (.bool false) := (bC BK454.out 4).trans rfl
  have hfs30 := blk_frozen BK454.out 4
  have hns30_0 := NB453_454.out
  have hns30_2 := NB469_454.out
  have hms30_0 := NB454_453.out
  have hms30_2 := NB454_469.out
  have hs32 : w19.cell? ⟨gb454, 5, none⟩ = some (.slice none 0 0) := (bC BK454.out 5).trans rfl
  have hfs32 := blk_frozen BK454.out 5
  have hns32_0 := NB453_454.out
  have hns32_2 := NB469_454.out
  have hms32_0 := NB454_453.out
  have hms32_2 := NB454_469.out
  refine skip_ (w1 := ?_) (by rfl) rfl ?_ ?_
  rotate_left
  ·go_simp
   rfl
  refine hK.out _ _ ⟨zcf6 NB469_454.out hHeld.1, zcf6 NB469_454.out hHeld.2.1, zcf6 NB469_454.out hHeld.2.2.1, zcf6 NB469_454.out hHeld.2.2.2.1, zcf6 NB469_454.out hHeld.2.2.2.2.1, zcf6 NB469_454.out hHeld.2.2.2.2.2⟩ fun hHeld => ?_; clear hK K
  refine done_ (by kernel_rfl) ?_
  try go_wp2
  refine bodyPost_ret (results_cc rfl _ _ gb453 gb454 38 38 #[.int .i64 t459, .int .i64 t460, .int .i64 t461, .int .i64 t462, .bool t463, .slice Ao16 t464.length co16] #[.int .i64 t473, .int .i64 t474, .int .i64 t475, .int .i64 t476, .bool t477, .slice Ao31 t478.length co31] (0, 0) (0, 0) _ _ rfl (by refine zB ?_; refine zr6 ?_ NB453_454.out; refine zB ?_; refine zp6 (cs := #[.int .i64 0, .int .i64 0, .int .i64 0, .int .i64 0, .bool false, .slice none 0 0]) ?_; exact zB BK453.out) Tryd.underlying38 rfl (by kernel_rfl) rfl (by refine zB ?_; refine zp6 (cs := #[.int .i64 0, .int .i64 0, .int .i64 0, .int .i64 0, .bool false, .slice none 0 0]) ?_; refine zB ?_; refine zr6 ?_ NB454_453.out; exact zB BK454.out) Tryd.underlying38 rfl (by kernel_rfl)) rfl ?_
  exact ⟨_, _, zW, by (with_reducible repeat (first | apply Kd.R_alloc | apply Kd.R_drewN | apply Kd.R_drew)); exact Kd.R_mono (zRF6 (zRF6 (Kd.R_types (Kd.R_types HO466.out BK453.out (by decide)) BK454.out (by decide)) gb453 (fun _ hk => hk.1.2) (.int .i64 t459) (.int .i64 t460) (.int .i64 t461) (.int .i64 t462) (.bool t463) (.slice Ao16 t464.length co16)) gb454 (fun _ hk => hk.2) (.int .i64 t473) (.int .i64 t474) (.int .i64 t475) (.int .i64 t476) (.bool t477) (.slice Ao31 t478.length co31)) (fun _ hk => hk.1.1.2), by (with_reducible repeat (first | apply Kd.R_alloc | apply Kd.R_drewN | apply Kd.R_drew)); exact Kd.R_mono (zRF6 (zRF6 (Kd.R_types (Kd.R_types HO480.out BK453.out (by decide)) BK454.out (by decide)) gb453 (fun _ hk => hk.1.2) (.int .i64 t459) (.int .i64 t460) (.int .i64 t461) (.int .i64 t462) (.bool t463) (.slice Ao16 t464.length co16)) gb454 (fun _ hk => hk.2) (.int .i64 t473) (.int .i64 t474) (.int .i64 t475) (.int .i64 t476) (.bool t477) (.slice Ao31 t478.length co31)) (fun _ hk => hk.1.1.2), zL4 HB.out (IsS91.ge HI458.out) GE453.out GE454.out GE469.out⟩
 ·obtain rfl := Bool.eq_false_iff.mpr c5
  rw [if_neg zn] at H
  obtain ⟨⟨t481, t482, t483, t484, t485, t486, t489, t490⟩, A33, H⟩ := zO H; try dsimp only at H
  simp only [Option.some.injEq, Prod.mk.injEq] at H
  obtain ⟨rfl, rfl, rfl, rfl, rfl, rfl, rfl, rfl, rfl, rfl, rfl, rfl⟩ := H
  go_enter Tryd.func36, Tryd.ntmps36
  try go_wp2_with (first | ((with_reducible refine gD 2 rfl ?_); refine bE 2 #[.int .i64 0, .int .i64 0, .int .i64 0, .int .i64 0, .bool false, .slice none 0 0] 38 ?_; intro gb453 hg w34 hbox hb; have BK453 := Aside0.mk hbox; have GW453 := Aside0.mk (zg (zL HB.out) hg : w.heap.size ≤ gb453); have GE453 := GW453; replace HB := zLB (zL HB.out) hb; clear hb hbox hg) | ((with_reducible refine gD 3 rfl ?_); refine bE 3 #[.int .i64 0, .int .i64 0, .int .i64 0, .int .i64 0, .bool false, .slice none 0 0] 38 ?_; intro gb454 hg w35 hbox hb; have BK454 := Aside0.mk hbox; have GW454 := Aside0.mk (zg (zL1 HB.out GE453.out) hg : w.heap.size ≤ gb454); have GE454 := GW454; replace HB := zLB (zL1 HB.out GE453.out) hb; have NB453_454 := Aside0.mk (zN BK453.out hg : gb453 ≠ gb454); have NB454_453 := Aside0.mk (zM BK453.out hg : gb454 ≠ gb453); replace BK453 := zBB BK453 hb; clear hb hbox hg) | ((with_reducible refine gC 64 rfl ?_); refine gL 7 Tryd.func64 #[.slice A0 l0.length c0] ?_; (with_reducible refine (spec_l1New.calls k _ _ l0 t455 t456 t457 w _ ?side1 ?side2 ?side3 A2.out).mono ?_); (case side1 => exact zL2 HB.out GE453.out GE454.out); (case side2 => exact HR0.out); (case side3 => exact HC0.out); rintro e w36 ⟨g458, rfl, hi, hb, hb2⟩; refine ⟨_, rfl, ?_⟩; replace HB := Aside0.mk hb; have HI458 := Aside0.mk hi; have NB458_453 := Aside0.mk (IsS91.ne_blk hi (bB (g := gb453) (o := .cells #[.int .i64 0, .int .i64 0, .int .i64 0, .int .i64 0, .bool false, .slice none 0 0] 38 (0, 0)) (zB BK453.out) hb2) (by decide)); have NB453_458 := Aside0.mk (Ne.symm (IsS91.ne_blk hi (bB (g := gb453) (o := .cells #[.int .i64 0, .int .i64 0, .int .i64 0, .int .i64 0, .bool false, .slice none 0 0] 38 (0, 0)) (zB BK453.out) hb2) (by decide))); replace BK453 := zBB BK453 hb2; have NB458_454 := Aside0.mk (IsS91.ne_blk hi (bB (g := gb454) (o := .cells #[.int .i64 0, .int .i64 0, .int .i64 0, .int .i64 0, .bool false, .slice none 0 0] 38 (0, 0)) (zB BK454.out) hb2) (by decide)); have NB454_458 := Aside0.mk (Ne.symm (IsS91.ne_blk hi (bB (g := gb454) (o := .cells #[.int .i64 0, .int .i64 0, .int .i64 0, .int .i64 0, .bool false, .slice none 0 0] 38 (0, 0)) (zB BK454.out) hb2) (by decide))); replace BK454 := zBB BK454 hb2; clear hi hb hb2) | ((with_reducible refine gC 68 rfl ?_); refine gL 9 Tryd.func68 #[.pointer (some ⟨g458, 0, none⟩)] ?_; (with_reducible refine (spec_l3Any.calls k g458 t455 t456 t457 t459 t460 t461 t462 t463 t464 t467 t468 w _ ?side1 ?side2 A3.out).mono ?_); (case side1 => exact zI2 HI458.out NB458_453.out NB458_454.out); (case side2 => exact zL3 HB.out (IsS91.ge HI458.out) GE453.out GE454.out); rintro e w37 ⟨v465, rfl, ho0, hi, hb, hk⟩; refine ⟨_, rfl, ?_⟩; replace BK453 := zBK hk BK453 NB453_458; replace BK454 := zBK hk BK454 NB454_458; have HO466 := Aside0.mk (Kd.R_lower ho0 (below_size (zL3 HB.out (IsS91.ge HI458.out) GE453.out GE454.out))); replace HB := Aside0.mk hb; replace HI458 := Aside0.mk hi; clear ho0 hi hb hk) | ((with_reducible refine gD 5 rfl ?_); refine bE 5 #[.int .i64 0, .int .i64 0, .int .i64 0, .int .i64 0, .bool false, .slice none 0 0] 38 ?_; intro gb469 hg w38 hbox hb; replace HO466 := zRB HO466 hb; have BK469 := Aside0.mk hbox; have GW469 := Aside0.mk ((zg (zL3 HB.out (IsS91.ge HI458.out) GE453.out GE454.out) hg : w.heap.size ≤ gb469)); have GE469 := GW469; replace HB := zLB (zL3 HB.out (IsS91.ge HI458.out) GE453.out GE454.out) hb; have NB453_469 := Aside0.mk (zN BK453.out hg : gb453 ≠ gb469); have NB469_453 := Aside0.mk (zM BK453.out hg : gb469 ≠ gb453); replace BK453 := zBB BK453 hb; have NB454_469 := Aside0.mk (zN BK454.out hg : gb454 ≠ gb469); have NB469_454 := Aside0.mk (zM BK454.out hg : gb469 ≠ gb454); replace BK454 := zBB BK454 hb; have NB458_469 := Aside0.mk ((zNI (IsS91.lt (zI2 HI458.out NB458_453.out NB458_454.out : IsS91 w _ g458 t455 t467 t468)) hg : g458 ≠ gb469)); have NB469_458 := Aside0.mk ((zMI (IsS91.lt (zI2 HI458.out NB458_453.out NB458_454.out : IsS91 w _ g458 t455 t467 t468)) hg : gb469 ≠ g458)); replace HI458 := Aside0.mk (IsS91.below (zI2 HI458.out NB458_453.out NB458_454.out) hb); clear hb hbox hg; have hnb39 := NB469_453.out; have hnc39 := NB453_469.out; have hnb40 := NB469_454.out; have hnc40 := NB454_469.out; have hnb41 := NB469_458.out; have hnc41 := NB458_469.out; have hcz42 := zc6 BK469.out; have hfz42 := zf6 BK469.out; obtain ⟨Ao43, co43, eo43⟩ := Kd.R_slice HO466.out; subst eo43) | ((with_reducible refine gC 69 rfl ?_); refine gL 11 Tryd.func69 #[.pointer (some ⟨g458, 0, none⟩), .int .i64 2] ?_; (with_reducible refine (spec_l1Once.calls g458 t455 t467 t468 2 false t471 t472 w _ ?side1 ?side2 A4.out).mono ?_); (case side1 => exact zI3 HI458.out NB458_453.out NB458_454.out NB458_469.out); (case side2 => exact zL4 HB.out (IsS91.ge HI458.out) GE453.out GE454.out GE469.out); rintro e w44 ⟨rfl, hi, hb, hk⟩; refine ⟨_, rfl, ?_⟩; replace BK453 := Aside0.mk (zQ2 (.cells #[.int .i64 0, .int .i64 0, .int .i64 0, .int .i64 0, .bool false, .slice none 0 0] 38 (0, 0)) hk (by refine zB ?_; refine zr6 ?_ NB453_469.out; exact zB BK453.out) NB453_458.out (by simp)); replace BK454 := Aside0.mk (zQ2 (.cells #[.int .i64 0, .int .i64 0, .int .i64 0, .int .i64 0, .bool false, .slice none 0 0] 38 (0, 0)) hk (by refine zB ?_; refine zr6 ?_ NB454_469.out; exact zB BK454.out) NB454_458.out (by simp)); replace HO466 := Aside0.mk (Kd.R_mono (Kd.R_keep (IsS91.apart (show IsS91 w _ g458 t455 t467 t468 from zI3 HI458.out NB458_453.out NB458_454.out NB458_469.out) (by (with_reducible repeat (first | apply Kd.R_alloc | apply Kd.R_drewN | apply Kd.R_drew)); exact (Kd.R_mono (zRF6 (Kd.R_types HO466.out BK469.out (by decide)) gb469 (fun _ hk => hk.2) (.int .i64 t459) (.int .i64 t460) (.int .i64 t461) (.int .i64 t462) (.bool t463) (.slice Ao43 t464.length co43)) (fun _ h_ => h_.1))) (by decide)) hk (fun _ h => h.2)) (fun _ h => h.1)); replace BK469 := Aside0.mk (zQ2 (.cells #[.int .i64 t459, .int .i64 t460, .int .i64 t461, .int .i64 t462, .bool t463, .slice Ao43 t464.length co43] 38 (0, 0)) hk (by refine zB ?_; refine zp6 (cs := #[.int .i64 0, .int .i64 0, .int .i64 0, .int .i64 0, .bool false, .slice none 0 0]) ?_; exact zB BK469.out) NB469_458.out (by simp)); replace HB := Aside0.mk hb; replace HI458 := Aside0.mk hi; clear hi hb hk))
  replace HO466 := zRD HO466; replace BK453 := zBD BK453; replace BK454 := zBD BK454; replace BK469 := zBD BK469; replace HI458 := Aside0.mk (IsS91.drew HI458.out); replace HB := zLD HB
  refine start_ (n := 5) (S := fun w' => zs6 w' gb469 (.int .i64 t459) (.int .i64 t460) (.int .i64 t461) (.int .i64 t462) (.bool t463) (.slice Ao43 t464.length co43)) (ds := []) (fB 5 0) (by kernel_rfl) rfl rfl (zc6 BK469.out) (fun hHeld => ?_)
  generalize w44.drew = w45 at HO466 BK453 BK454 BK469 HI458 HB hHeld ⊢
  refine pure_ (i := 1) (N := some 16) (v := ?_) (a' := ?_) (fB 5 2) rfl rfl (by kernel_rfl) (fun _ _ _ h => h) (Or.inl ⟨by rfl, ?_⟩) ?_ ?_
  rotate_left
  ·intro w'; go_simp; with_reducible rfl
  rotate_left
  ·exact zP
  refine take_ (i := 0) (N := some 15) (v := ?_) (a' := ?_) (fB 5 3) rfl rfl (by kernel_rfl) (fun _ _ _ h => h) (Or.inl ⟨by rfl, ?_⟩) hHeld ?_ ?_
  rotate_left
  ·rintro w' ⟨s0, s1, s2, s3, s4, s5⟩; go_simp; with_reducible rfl
  rotate_left
  ·exact zP
  refine one_ (i := 2) (N := some 17) (fB 5 7) rfl rfl (by kernel_rfl) (by decide) (fun K hK => ?_)
  refine gS Tryd.func68 #[.pointer (some ⟨g458, 0, none⟩)] ?_
  with_reducible refine (spec_l3Any.calls k g458 t455 t471 t472 t481 t482 t483 t484 t485 t486 t489 t490 w _ ?side1 ?side2 A33.out).mono ?_
  (case side1 => exact zI3 HI458.out NB458_453.out NB458_454.out NB458_469.out)
  (case side2 => exact zL4 HB.out (IsS91.ge HI458.out) GE453.out GE454.out GE469.out)
  rintro e w46 ⟨v487, rfl, ho0, hi, hb, hk⟩
  refine ⟨_, rfl, ?_⟩
  replace BK453 := zBK hk BK453 NB453_458; replace BK454 := zBK hk BK454 NB454_458; replace BK469 := zBK hk BK469 NB469_458; have HO488 := Aside0.mk (Kd.R_lower (Kd.R_new' ho0 (Kd.R_lt (zR HO466.out))) (below_size (zL4 HB.out (IsS91.ge HI458.out) GE453.out GE454.out GE469.out))); replace HO466 := Aside0.mk (Kd.R_mono (Kd.R_told (Kd.R_oldK (IsS91.apart (show IsS91 w _ g458 t455 t471 t472 from zI3 HI458.out NB458_453.out NB458_454.out NB458_469.out) (zR HO466.out) (by decide)) hk) (Kd.R_base ho0)) (fun _ h_ => h_.1)); replace HB := Aside0.mk hb; replace HI458 := Aside0.mk hi
  clear ho0 hi hb hk
  (try clear ho0)
  obtain ⟨Ao58, co58, eo58⟩ := Kd.R_slice HO488.out
  (first | subst eo58 | (injection eo58 with f1_ f2_ f3_; have f4_ := f1_.symm; have f5_ := f3_.symm; clear f1_ f2_ f3_; subst f4_; subst f5_))
  refine hK.out _ _ (zc6 BK469.out) fun hHeld => ?_; clear hK K
  refine nZ 17 ?_
  refine one_ (i := 3) (N := none) (fB 5 15) rfl rfl (by kernel_rfl) (by decide) (fun K hK => ?_)
  have hs47 : w46.cell? ⟨gb453, 0, none⟩ = some (.int .i64 0) := (bC BK453.out 0).trans rfl
  have hfs47 := blk_frozen BK453.out 0
  have hns47_1 := NB454_453.out
  have hns47_2 := NB469_453.out
  have hms47_1 := NB453_454.out
  have hms47_2 := NB453_469.out
  have hs48 : w46.cell? ⟨gb453, 1, none⟩ = some (.int .i64 0) := (bC BK453.out 1).trans rfl
  have hfs48 := blk_frozen BK453.out 1
  have hns48_1 := NB454_453.out
  have hns48_2 := NB469_453.out
  have hms48_1 := NB453_454.out
  have hms48_2 := NB453_469.out
  have hs49 : w46.cell? ⟨gb453, 2, none⟩ = some (.int .i64 0) := (bC BK453.out 2).trans rfl
  have hfs49 := blk_frozen BK453.out 2
  have hns49_1 := NB454_453.out
  have hns49_2 := NB469_453.out
  have hms49_1 := NB453_454.out
  have hms49_2 := NB453_469.out
  have hs50 : w46.cell? ⟨gb453, 3, none⟩ = some (.int .i64 0) := (bC BK453.out 3).trans rfl
  have hfs50 := blk_frozen BK453.out 3
  have hns50_1 := NB454_453.out
  have hns50_2 := NB469_453.out
  have hms50_1 := NB453_454.out
  have hms50_2 := NB453_469.out
  have hs51 : w46.cell? ⟨gb453, 4, none⟩ = some (.bool false) := (bC BK453.out 4).trans rfl
  have hfs51 := blk_frozen BK453.out 4
  have hns51_1 := NB454_453.out
  have hns51_2 := NB469_453.out
  have hms51_1 := NB453_454.out
  have hms51_2 := NB453_469.out
  have hs52 : w46.cell? ⟨gb453, 5, none⟩ = some (.slice none 0 0) := (bC BK453.out 5).trans rfl
  have hfs52 := blk_frozen BK453.out 5
  have hns52_1 := NB454_453.out
  have hns52_2 := NB469_453.out
  have hms52_1 := NB453_454.out
  have hms52_2 := NB453_469.out
  refine skip_ (w1 := ?_) (by rfl) rfl ?_ ?_
  rotate_left
  ·go_simp
   rfl
  refine hK.out _ _ ⟨zcf6 NB469_453.out hHeld.1, zcf6 NB469_453.out hHeld.2.1, zcf6 NB469_453.out hHeld.2.2.1, zcf6 NB469_453.out hHeld.2.2.2.1, zcf6 NB469_453.out hHeld.2.2.2.2.1, zcf6 NB469_453.out hHeld.2.2.2.2.2⟩ fun hHeld => ?_; clear hK K
  refine one_ (i := 4) (N := none) (fB 5 31) rfl rfl (by kernel_rfl) (by decide) (fun K hK => ?_)
  have hs53 : w46.cell? ⟨gb454, 0, none⟩ = some (.int .i64 0) := (bC BK454.out 0).trans rfl
  have hfs53 := blk_frozen BK454.out 0
  have hns53_0 := NB453_454.out
  have hns53_2 := NB469_454.out
  have hms53_0 := NB454_453.out
  have hms53_2 := NB454_469.out
  have hs54 : w46.cell? ⟨gb454, 1, none⟩ = some (.int .i64 0) := (bC BK454.out 1).trans rfl
  have hfs54 := blk_frozen BK454.out 1
  have hns54_0 := NB453_454.out
  have hns54_2 := NB469_454.out
  have hms54_0 := NB454_453.out
  have hms54_2 := NB454_469.out
  have hs55 : w46.cell? ⟨gb454, 2, none⟩ = some (.int .i64 0) := (bC BK454.out 2).trans rfl
  have hfs55 := blk_frozen BK454.out 2
  have hns55_0 := NB453_454.out
  have hns55_2 := NB469_454.out
  have hms55_0 := NB454_453.out
  have hms55_2 := NB454_469.out
  have hs56 : w46.cell? ⟨gb454, 3, none⟩ = some (.int .i64 0) := (bC BK454.out 3).trans rfl
  have hfs56 := blk_frozen BK454.out 3
  have hns56_0 := NB453_454.out
  have hns56_2 := NB469_454.out
  have hms56_0 := NB454_453.out
  have hms56_2 := NB454_469.out
  have hs57 : w46.cell? ⟨gb454, 4, none⟩ = some (.bool false) := (bC BK454.out 4).trans rfl
  have hfs57 := blk_frozen BK454.out 4
  have hns57_0 := NB453_454.out
  have hns57_2 := NB469_454.out
  have hms57_0 := NB454_453.out
  have hms57_2 := NB454_469.out
  have hs59 : w46.cell? ⟨gb454, 5, none⟩ = some (.slice none 0 0) := (bC BK454.out 5).trans rfl
  have hfs59 := blk_frozen BK454.out 5
  have hns59_0 := NB453_454.out
  have hns59_2 := NB469_454.out
  have hms59_0 := NB454_453.out
  have hms59_2 := NB454_469.out
  refine skip_ (w1 := ?_) (by rfl) rfl ?_ ?_
  rotate_left
  ·go_simp
   rfl
  refine hK.out _ _ ⟨zcf6 NB469_454.out hHeld.1, zcf6 NB469_454.out hHeld.2.1, zcf6 NB469_454.out hHeld.2.2.1, zcf6 NB469_454.out hHeld.2.2.2.1, zcf6 NB469_454.out hHeld.2.2.2.2.1, zcf6 NB469_454.out hHeld.2.2.2.2.2⟩ fun hHeld => ?_; clear hK K
  refine done_ (by kernel_rfl) ?_
  try go_wp2
  refine bodyPost_ret (results_cc rfl _ _ gb453 gb454 38 38 #[.int .i64 t459, .int .i64 t460, .int .i64 t461, .int .i64 t462, .bool t463, .slice Ao43 t464.length co43] #[.int .i64 t481, .int .i64 t482, .int .i64 t483, .int .i64 t484, .bool t485, .slice Ao58 t486.length co58] (0, 0) (0, 0) _ _ rfl (by refine zB ?_; refine zr6 ?_ NB453_454.out; refine zB ?_; refine zp6 (cs := #[.int .i64 0, .int .i64 0, .int .i64 0, .int .i64 0, .bool false, .slice none 0 0]) ?_; exact zB BK453.out) Tryd.underlying38 rfl (by kernel_rfl) rfl (by refine zB ?_; refine zp6 (cs := #[.int .i64 0, .int .i64 0, .int .i64 0, .int .i64 0, .bool false, .slice none 0 0]) ?_; refine zB ?_; refine zr6 ?_ NB454_453.out; exact zB BK454.out) Tryd.underlying38 rfl (by kernel_rfl)) rfl ?_
  exact ⟨_, _, zW, by (with_reducible repeat (first | apply Kd.R_alloc | apply Kd.R_drewN | apply Kd.R_drew)); exact Kd.R_mono (zRF6 (zRF6 (Kd.R_types (Kd.R_types HO466.out BK453.out (by decide)) BK454.out (by decide)) gb453 (fun _ hk => hk.1.2) (.int .i64 t459) (.int .i64 t460) (.int .i64 t461) (.int .i64 t462) (.bool t463) (.slice Ao43 t464.length co43)) gb454 (fun _ hk => hk.2) (.int .i64 t481) (.int .i64 t482) (.int .i64 t483) (.int .i64 t484) (.bool t485) (.slice Ao58 t486.length co58)) (fun _ hk => hk.1.1.2), by (with_reducible repeat (first | apply Kd.R_alloc | apply Kd.R_drewN | apply Kd.R_drew)); exact Kd.R_mono (zRF6 (zRF6 (Kd.R_types (Kd.R_types HO488.out BK453.out (by decide)) BK454.out (by decide)) gb453 (fun _ hk => hk.1.2) (.int .i64 t459) (.int .i64 t460) (.int .i64 t461) (.int .i64 t462) (.bool t463) (.slice Ao43 t464.length co43)) gb454 (fun _ hk => hk.2) (.int .i64 t481) (.int .i64 t482) (.int .i64 t483) (.int .i64 t484) (.bool t485) (.slice Ao58 t486.length co58)) (fun _ hk => hk.1.1.2), zL4 HB.out (IsS91.ge HI458.out) GE453.out GE454.out GE469.out⟩

open Go.Proofs.YtkhbhdchakbmhaaDoorW.PrintWords renaming blk_drewN → bN, blk_drew → bD, blk_alloc → bA, blk_cell → bC, blk_below → bB, below_set → bS
/-! ### spec_l3List: function 71 -/
def spec_l3List.l0 : Nat → List (S38) → Int → List Int → Int → Int → Option ((List (S38)) × Int × Int)
 | 0, _, _, _, _, _ => none
 | k + 1, x3, x4, x1000, x1001, x1002 => if x4 > 0 then ((spec_l3Draw.f k x1000 x1001 x1002).bind fun bt497 => (if x3.length < 2199023255552 then (spec_l3List.l0 k (x3 ++ [(⟨bt497.1, bt497.2.1, bt497.2.2.1, bt497.2.2.2.1, bt497.2.2.2.2.1, bt497.2.2.2.2.2.1⟩ : S38)]) (wrap64 (x4 - 1)) x1000 bt497.2.2.2.2.2.2.1 bt497.2.2.2.2.2.2.2) else (none))) else (some (x3, x1001, x1002))
def spec_l3List.f (k : Nat) (s0_0 : List Int) (s0_1 : Int) (s0_2 : Int) : Option ((List (S38)) × Int × Int) := (spec_l1Below.f s0_0 s0_1 s0_2 5).bind fun bt494 => (spec_l3List.l0 k (([] : List (S38))) bt494.1 s0_0 bt494.2.1 bt494.2.2)
theorem spec_l3List.mono_l : ∀ k, (∀ y0 y1 y2 y3 y4, LeO (spec_l3List.l0 k y0 y1 y2 y3 y4) (spec_l3List.l0 (k + 1) y0 y1 y2 y3 y4))
 | 0 => fun _ _ _ _ _ r h => by simp [spec_l3List.l0] at h
 | k + 1 => by
  have ih0 := spec_l3List.mono_l k
  ·intro y0 y1 y2 y3 y4
   unfold spec_l3List.l0
   repeat' first
   | (with_reducible exact ih0 _ _ _ _ _)
   | (with_reducible apply spec_l3Draw.mono)
   | (with_reducible exact LeO.refl _)
   | (with_reducible exact LeO.none _)
   | (with_reducible refine LeO.ite ?_ ?_)
   | (with_reducible refine LeO.bind ?_ (fun _ => ?_))
   | exact ih0 _ _ _ _ _
   | apply spec_l3Draw.mono
   | exact LeO.none _
   | refine LeO.ite ?_ ?_
   | refine LeO.bind ?_ (fun _ => ?_)
theorem spec_l3List.mono : ∀ a0 a1 a2 k, LeO (spec_l3List.f k a0 a1 a2) (spec_l3List.f (k + 1) a0 a1 a2) := by
 intro a0 a1 a2 k
 have ih0 := spec_l3List.mono_l k
 unfold spec_l3List.f
 repeat' first
   | (with_reducible exact ih0 _ _ _ _ _)
   | (with_reducible apply spec_l3Draw.mono)
   | (with_reducible exact LeO.refl _)
   | (with_reducible exact LeO.none _)
   | (with_reducible refine LeO.ite ?_ ?_)
   | (with_reducible refine LeO.bind ?_ (fun _ => ?_))
   | exact ih0 _ _ _ _ _
   | apply spec_l3Draw.mono
   | exact LeO.none _
   | refine LeO.ite ?_ ?_
   | refine LeO.bind ?_ (fun _ => ?_)
set_option maxHeartbeats 8000000 in
set_option maxRecDepth 100000 in
theorem spec_l3List.calls (k : Nat) (g : Nat) (s0_0 : List Int) (s0_1 : Int) (s0_2 : Int) (r1 : List (S38)) (r2 : Int) (r3 : Int) (w0 w : World) (hI : IsS91 w0 w g s0_0 s0_1 s0_2) (hB : Below w0.heap.size w0 w) (h : spec_l3List.f k s0_0 s0_1 s0_2 = some (r1, r2, r3)) :
  Calls Tryd.prog 71 #[.pointer (some ⟨g, 0, none⟩)] w fun e w' => ∃ v0_ : Value, e = .returned (v0_) ∧ Kd.S k38 38 w' w.heap.size (fun _ => True) v0_ r1 ∧ IsS91 w0 w' g s0_0 r2 r3 ∧ Below w0.heap.size w0 w' ∧ KeepBut w w' g none := by
 have hu38 := Tryd.underlying38
 have HI0 := Aside0.mk hI
 have HK := Aside0.mk (KeepBut.refl w g none)
 have HL := Aside0.mk hB.size
 clear hI
 have HW0 := Aside0.mk hB.size
 have HB := Aside0.mk hB
 clear hB
 unfold spec_l3List.f at h; have H := h
 clear h
 generalize hy491 : (([] : List (S38))) = y491 at H; (try rw [Option.bind_some] at H); have Ny491 := Aside0.mk hy491.symm; clear hy491
 obtain ⟨⟨t494, t495, t496⟩, A2, H⟩ := zO H; try dsimp only at H
 have H' := Aside0.mk H
 clear H
 go_enter Tryd.func71, Tryd.ntmps71
 go_wp2_with (first | ((with_reducible refine gD 6 rfl ?_); refine Kd.S_lit k38 _ 38 ?hg (N := 6) ?hd (xs := ([] : List (S38))) (inner := []) (ok := fun _ => True) (okp := fun _ => True) ?hr ?hp (fun _ hk => hk) trivial (Below.refl _ _) (Nat.le_refl _) (by simp) ?_; (case hd => rfl); (case hg => rfl); (case hr => first | (go_simp; done) | (go_simp; rfl)); (case hp => exact (Reps.none _ _)); intro v492 w3 ho4 hb hg_ hnew_; clear hg_ hnew_; (first | rw [← Ny491.out] at ho4 | (simp only [Int.reduceToNat] at ho4; rw [← Ny491.out] at ho4)); have HO493 := Aside0.mk (Kd.S_lower ho4 (keep_size (w := w) (g := g) (row := none) (zK HK.out))); replace HK := zKB (zK HK.out) hb; replace HB := zLB (zL1 HB.out (IsS91.ge HI0.out)) hb; replace HI0 := Aside0.mk (IsS91.below (zI HI0.out) hb); clear hb ho4) | ((with_reducible refine gC 84 rfl ?_); refine gL 8 Tryd.func84 #[.pointer (some ⟨g, 0, none⟩), .int .i64 5] ?_; (with_reducible refine (spec_l1Below.calls g s0_0 s0_1 s0_2 5 t494 t495 t496 w0 _ ?side1 ?side2 A2.out).mono ?_); (case side1 => exact zI HI0.out); (case side2 => exact zL1 HB.out (IsS91.ge HI0.out)); rintro e w5 ⟨rfl, hi, hb, hk⟩; refine ⟨_, rfl, ?_⟩; replace HO493 := Aside0.mk (Kd.S_mono (Kd.S_keep (IsS91.apartS (show IsS91 w0 _ g s0_0 s0_1 s0_2 from zI HI0.out) (zS HO493.out) (by decide)) hk (fun _ h => h.2)) (fun _ h => h.1)); replace HK := zKK (zK HK.out) hk; replace HB := Aside0.mk hb; replace HI0 := Aside0.mk hi; clear hi hb hk))
 go_loopg [3, 4] k (fun kq v3 v4 w' => ∃ (x3_1 : List (S38)) (x4_1 : Int) (x1001_1 : Int) (x1002_1 : Int), v4 = .int .i64 x4_1 ∧ Aside0 (spec_l3List.l0 kq x3_1 x4_1 s0_0 x1001_1 x1002_1 = some (r1, r2, r3)) ∧ Aside0 (kq ≤ k) ∧ Aside0 (Kd.S k38 38 w' w.heap.size (fun _ => True) v3 x3_1) ∧ Aside0 (IsS91 w0 w' g s0_0 x1001_1 x1002_1) ∧ Aside0 (KeepBut w w' g none) ∧ Aside0 (Below w0.heap.size w0 w'))
 case atStart => exact ⟨(y491), (t494), (t495), (t496), zV, H', ⟨Nat.le_refl _⟩, ⟨zS HO493.out⟩, ⟨zI HI0.out⟩, ⟨zK HK.out⟩, ⟨zL1 HB.out (IsS91.ge HI0.out)⟩⟩
 case round =>
  clear H'
  try clear p2
  obtain ⟨x3_1, x4_1, x1001_1, x1002_1, rfl, HA, HK1, HO_3, HI0, HK, HB⟩ := hrel
  cases gk with
  | zero => exact absurd HA.out (by simp [spec_l3List.l0])
  | succ k1 =>
   have H := HA.out
   clear HA
   simp only [spec_l3List.l0] at H
   by_cases c6 : x4_1 > 0
   ·rw [if_pos c6] at H
    have c6b0 := decide_eq_true c6
    clear c6
    obtain ⟨⟨t497, t498, t499, t500, t501, t502, t505, t506⟩, A7, H⟩ := zO H; try dsimp only at H
    by_cases c8 : x3_1.length < 2199023255552
    ·rw [if_pos c8] at H
     have LMc8 := Aside0.mk c8
     clear c8
     generalize hy508 : (x3_1 ++ [(⟨t497, t498, t499, t500, t501, t502⟩ : S38)]) = y508 at H; (try rw [Option.bind_some] at H); have Ny508 := Aside0.mk hy508.symm; clear hy508
     have H' := Aside0.mk H
     clear H
     go_wp2_with (first | ((with_reducible refine gC 86 rfl ?_); refine gL 14 Tryd.func86 #[.pointer (some ⟨g, 0, none⟩)] ?_; (with_reducible refine (spec_l3Draw.calls k1 g s0_0 x1001_1 x1002_1 t497 t498 t499 t500 t501 t502 t505 t506 w0 _ ?side1 ?side2 A7.out).mono ?_); (case side1 => exact zI HI0.out); (case side2 => exact zL1 HB.out (IsS91.ge HI0.out)); rintro e w9 ⟨v503, rfl, ho0, hi, hb, hk⟩; refine ⟨_, rfl, ?_⟩; replace HO_3 := Aside0.mk (Kd.S_mono (Kd.S_told (Kd.S_oldK (IsS91.apartS (show IsS91 w0 _ g s0_0 x1001_1 x1002_1 from zI HI0.out) (zS HO_3.out) (by decide)) hk) (Kd.R_base ho0)) (fun _ h_ => h_.1)); have HO504 := Aside0.mk (Kd.R_lower ho0 (keep_size (w := w) (g := g) (row := none) (zK HK.out))); replace HK := zKK (zK HK.out) hk; replace HB := Aside0.mk hb; replace HI0 := Aside0.mk hi; clear ho0 hi hb hk) | ((with_reducible refine gD 5 rfl ?_); refine bE 5 #[.int .i64 0, .int .i64 0, .int .i64 0, .int .i64 0, .bool false, .slice none 0 0] 38 ?_; intro gb507 hg w10 hbox hb; replace HO_3 := Aside0.mk (Kd.S_below (Kd.S_elderB (zS HO_3.out) gb507 (Nat.le_of_eq hg.symm)) hb); replace HO504 := zRB HO504 hb; replace HB := zLB (zL1 HB.out (IsS91.ge HI0.out)) hb; have BK507 := Aside0.mk hbox; have GW507 := Aside0.mk (zgK (g := g) (zK HK.out) hg : w.heap.size ≤ gb507); have GE507 := Aside0.mk ((Nat.le_trans HW0.out (zgK (g := g) (zK HK.out) hg : w.heap.size ≤ gb507) : w0.heap.size ≤ gb507)); replace HK := zKB (zK HK.out) hb; have NB0_507 := Aside0.mk ((zNI (IsS91.lt (zI HI0.out : IsS91 w0 _ g s0_0 t505 t506)) hg : g ≠ gb507)); have NB507_0 := Aside0.mk ((zMI (IsS91.lt (zI HI0.out : IsS91 w0 _ g s0_0 t505 t506)) hg : gb507 ≠ g)); replace HI0 := Aside0.mk (IsS91.below (zI HI0.out) hb); clear hb hbox hg; have hnb11 := NB507_0.out; have hnc11 := NB0_507.out; have hcz12 := zc6 BK507.out; have hfz12 := zf6 BK507.out; obtain ⟨Ao13, co13, eo13⟩ := Kd.R_slice HO504.out; subst eo13) | ((with_reducible refine gate_store (t := 38) (p := 5) rfl ?_); refine store_event (t := 38) (p := 5) (v := ?vo_w14) (w1 := ((((((w10.setCell ⟨gb507, 0, none⟩ (.int .i64 t497)).setCell ⟨gb507, 1, none⟩ (.int .i64 t498)).setCell ⟨gb507, 2, none⟩ (.int .i64 t499)).setCell ⟨gb507, 3, none⟩ (.int .i64 t500)).setCell ⟨gb507, 4, none⟩ (.bool t501)).setCell ⟨gb507, 5, none⟩ (.slice Ao13 t502.length co13))) ?hg ?ho ?hn ?hr ?_; (case ho => rfl); (case hg => rfl); (case hn => rfl); (case hr => first | (go_simp; done) | (go_simp; rfl)); intro w14 hw; have n0_ : Aside0 (Kd.S k38 38 w14 w.heap.size (fun k_ => some k_ ≠ (.slice Ao13 t502.length co13 : Value).ownBlock ∧ k_ ≠ gb507) u3 x3_1) := ⟨(by rw [hw]; exact (by (with_reducible repeat (first | apply Kd.S_alloc | apply Kd.S_drewN | apply Kd.S_drew)); exact Kd.S_mono (zSF6 (Kd.S_mono HO_3.out (fun k_ hk => (⟨hk, hk.2⟩ : _ ∧ k_ ≠ gb507))) gb507 (fun _ hk => hk.2) (.int .i64 t497) (.int .i64 t498) (.int .i64 t499) (.int .i64 t500) (.bool t501) (.slice Ao13 t502.length co13)) (fun _ hk => ⟨hk.1.1.2, hk.1.2⟩)))⟩; have n1_ : Aside0 (Kd.R k28 28 w14 w.heap.size (fun _ => True) (.slice Ao13 t502.length co13) t502) := ⟨(by rw [hw]; exact (by (with_reducible repeat (first | apply Kd.R_alloc | apply Kd.R_drewN | apply Kd.R_drew)); exact Kd.R_mono (zRF6 (Kd.R_types HO504.out BK507.out (by decide)) gb507 (fun _ hk => hk.2) (.int .i64 t497) (.int .i64 t498) (.int .i64 t499) (.int .i64 t500) (.bool t501) (.slice Ao13 t502.length co13)) (fun _ hk => trivial)))⟩; have n2_ : Aside0 (w14.heap[gb507]? = some (.cells #[.int .i64 t497, .int .i64 t498, .int .i64 t499, .int .i64 t500, .bool t501, .slice Ao13 t502.length co13] 38 (0, 0))) := ⟨(by rw [hw]; exact (by refine zB ?_; refine zp6 (cs := #[.int .i64 0, .int .i64 0, .int .i64 0, .int .i64 0, .bool false, .slice none 0 0]) ?_; exact zB BK507.out))⟩; have n3_ : Aside0 (IsS91 w0 w14 g s0_0 t505 t506) := ⟨(by rw [hw]; exact (zI1 HI0.out NB0_507.out))⟩; have n4_ : Aside0 (KeepBut w w14 g none) := ⟨(by rw [hw]; exact (zK1 HK.out GW507.out))⟩; have n5_ : Aside0 (Below w0.heap.size w0 w14) := ⟨(by rw [hw]; exact (zL2 HB.out (IsS91.ge HI0.out) GE507.out))⟩; clear hw; clear HO_3; clear HO504; clear BK507; clear HI0; clear HK; clear HB; have HO_3 := n0_; have HO504 := n1_; have BK507 := n2_; have HI0 := n3_; have HK := n4_; have HB := n5_; clear n0_ n1_ n2_ n3_ n4_ n5_; have hcz15 := zc6 BK507.out; have hfz15 := zf6 BK507.out) | ((with_reducible refine gate_builtin (b := .append) (xs := #[.tmp 15, .tmp 17]) rfl ?_); at_builtin; refine Kd.S_append k38 w.heap.size rfl (.tmp 15) (.tmp 17) 59 38 (.agg #[(.int .i64 0), (.int .i64 0), (.int .i64 0), (.int .i64 0), (.bool false), (.slice none 0 0)]) 64 rfl Tryd.underlying59 info38 rfl (by decide) (by omega) u3 x3_1 (⟨t497, t498, t499, t500, t501, t502⟩ : S38) [.int .i64 t497, .int .i64 t498, .int .i64 t499, .int .i64 t500, .bool t501, .slice Ao13 t502.length co13] (fun k_ => k_ ≠ gb507) (fun k_ => some k_ = (.slice Ao13 t502.length co13 : Value).ownBlock) rfl rfl ?aP (fun k_ hk_ => ((Kd.R_mono (ok' := fun k_ => ((fun k_ => k_ ≠ gb507)) k_ ∧ some k_ ≠ (u3 : Value).ownBlock) (Kd.R_types (Kd.R_apart' (HO504.out) (Kd.S_typed HO_3.out) (by decide)) BK507.out (by decide)) (fun k_ hk => ⟨hk.2, hk.1.2⟩))).1 k_ hk_.symm) ?aF ?aO (Below.refl _ _) ?aS ?aL ?_; (case aP => exact k38_mkM _ _ _ (⟨t497, t498, t499, t500, t501, t502⟩ : S38) (Kd.R_mono (Kd.R_tight rfl (Kd.R_mono (ok' := fun k_ => ((fun k_ => k_ ≠ gb507)) k_ ∧ some k_ ≠ (u3 : Value).ownBlock) (Kd.R_types (Kd.R_apart' (HO504.out) (Kd.S_typed HO_3.out) (by decide)) BK507.out (by decide)) (fun k_ hk => ⟨hk.2, hk.1.2⟩))) (fun _ h_ => h_))); (case aF => exact (fun k_ hk => Kd.freshB (g := gb507) (o := .cells #[.int .i64 t497, .int .i64 t498, .int .i64 t499, .int .i64 t500, .bool t501, .slice Ao13 t502.length co13] 38 (0, 0)) (zB BK507.out) k_ hk)); (case aO => exact (zSm HO_3.out (fun k_ hk => ⟨hk.2, fun e_ => hk.1 e_⟩))); (case aS => exact (keep_size (w := w) (g := g) (row := none) (zK1 HK.out GW507.out))); (case aL => have := LMc8.out; omega); intro v509 w16 ho hb hg hat; rw [← Ny508.out] at ho; replace BK507 := Aside0.mk (blk_grown (g := gb507) (o := .cells #[.int .i64 t497, .int .i64 t498, .int .i64 t499, .int .i64 t500, .bool t501, .slice Ao13 t502.length co13] 38 (0, 0)) (zB BK507.out) hg (Kd.S_away HO_3.out (fun _ hk => hk.2))); replace HB := Aside0.mk (below_weaken (zL2 HB.out (IsS91.ge HI0.out) GE507.out) HL.out hb); replace HI0 := Aside0.mk (IsS91.grown (zI1 HI0.out NB0_507.out) hg (IsS91.own_neS HI0.out HO_3.out (by decide))); replace HK := Aside0.mk (KeepBut.trans (zK1 HK.out GW507.out) (KeepBut.of_grown hg g) (Kd.S_base2 HO_3.out)); have HO510 := Aside0.mk (ho); clear HO_3 HO504; clear ho hb hg hat))
     go_roundg k1
     case measure => have := HK1.out; omega
     case rel => exact ⟨(y508), (wrap64 (x4_1 - 1)), (t505), (t506), zV, H', ⟨by have := HK1.out; omega⟩, ⟨zSm HO510.out (fun _ hk => trivial)⟩, ⟨zI1 HI0.out NB0_507.out⟩, ⟨zK1 HK.out GW507.out⟩, ⟨zL2 HB.out (IsS91.ge HI0.out) GE507.out⟩⟩
    ·rw [if_neg c8] at H
     exact absurd H (by simp)
   ·rw [if_neg c6] at H
    have c6b0 := decide_eq_false c6
    clear c6
    simp only [Option.some.injEq, Prod.mk.injEq] at H
    obtain ⟨rfl, rfl, rfl⟩ := H
    go_wp2
    go_ret
    exact ⟨_, zW, zS HO_3.out, zI HI0.out, zL1 HB.out (IsS91.ge HI0.out), zK HK.out⟩

open Go.Proofs.YtkhbhdchakbmhaaDoorW.PrintWords renaming blk_drewN → bN, blk_drew → bD, blk_alloc → bA, blk_cell → bC, blk_below → bB, below_set → bS
/-! ### spec_DrawTotalOf: function 37 -/
def spec_DrawTotalOf.f (k : Nat) (l0 : List Int) : Option ((List (S38))) := (spec_l1New.f k l0).bind fun bt511 => ((spec_l3List.f k bt511.1 bt511.2.1 bt511.2.2).bind fun bt515 => ((spec_l3Any.f k bt511.1 bt515.2.1 bt515.2.2).bind fun bt520 => (if bt515.1.length < 2199023255552 then (some (bt515.1 ++ [(⟨bt520.1, bt520.2.1, bt520.2.2.1, bt520.2.2.2.1, bt520.2.2.2.2.1, bt520.2.2.2.2.2.1⟩ : S38)])) else (none))))
theorem spec_DrawTotalOf.mono : ∀ a0 k, LeO (spec_DrawTotalOf.f k a0) (spec_DrawTotalOf.f (k + 1) a0) := by
 intro a0 k
 unfold spec_DrawTotalOf.f
 repeat' first
   | (with_reducible apply spec_l1New.mono)
   | (with_reducible apply spec_l3Any.mono)
   | (with_reducible apply spec_l3List.mono)
   | (with_reducible exact LeO.refl _)
   | (with_reducible exact LeO.none _)
   | (with_reducible refine LeO.ite ?_ ?_)
   | (with_reducible refine LeO.bind ?_ (fun _ => ?_))
   | apply spec_l1New.mono
   | apply spec_l3Any.mono
   | apply spec_l3List.mono
   | exact LeO.none _
   | refine LeO.ite ?_ ?_
   | refine LeO.bind ?_ (fun _ => ?_)
set_option maxHeartbeats 8000000 in
set_option maxRecDepth 100000 in
theorem spec_DrawTotalOf.calls (k : Nat) (A0 : Option Addr) (c0 : Nat) (l0 : List Int) (r : List (S38)) (w : World) (hr0 : Kd.C (Kd.int .u8) w A0 l0.length l0) (hc0 : l0.length ≤ c0) (h : spec_DrawTotalOf.f k l0 = some r) :
  Calls Tryd.prog 37 #[.slice A0 l0.length c0] w fun e w' => ∃ v0_ : Value, e = .returned (v0_) ∧ Kd.S k38 38 w' w.heap.size (fun _ => True) v0_ r ∧ Below w.heap.size w w' := by
 have HR0 := Aside0.mk hr0
 have HC0 := Aside0.mk hc0
 clear hr0 hc0
 have HB := Aside0.mk (Below.refl w.heap.size w)
 unfold spec_DrawTotalOf.f at h; have H := h
 clear h
 obtain ⟨⟨t511, t512, t513⟩, A2, H⟩ := zO H; try dsimp only at H
 obtain ⟨⟨t515, t518, t519⟩, A3, H⟩ := zO H; try dsimp only at H
 obtain ⟨⟨t520, t521, t522, t523, t524, t525, t528, t529⟩, A4, H⟩ := zO H; try dsimp only at H
 by_cases c5 : t515.length < 2199023255552
 ·rw [if_pos c5] at H
  have LMc5 := Aside0.mk c5
  clear c5
  generalize hy530 : (t515 ++ [(⟨t520, t521, t522, t523, t524, t525⟩ : S38)]) = y530 at H; (try rw [Option.bind_some] at H); have Ny530 := Aside0.mk hy530.symm; clear hy530
  obtain rfl := Option.some.inj H
  go_enter Tryd.func37, Tryd.ntmps37
  go_wp2_with (first | ((with_reducible refine gC 64 rfl ?_); refine gL 5 Tryd.func64 #[.slice A0 l0.length c0] ?_; (with_reducible refine (spec_l1New.calls k _ _ l0 t511 t512 t513 w _ ?side1 ?side2 ?side3 A2.out).mono ?_); (case side1 => exact zL HB.out); (case side2 => exact HR0.out); (case side3 => exact HC0.out); rintro e w6 ⟨g514, rfl, hi, hb, hb2⟩; refine ⟨_, rfl, ?_⟩; replace HB := Aside0.mk hb; have HI514 := Aside0.mk hi; clear hi hb hb2) | ((with_reducible refine gC 71 rfl ?_); refine gL 7 Tryd.func71 #[.pointer (some ⟨g514, 0, none⟩)] ?_; (with_reducible refine (spec_l3List.calls k g514 t511 t512 t513 t515 t518 t519 w _ ?side1 ?side2 A3.out).mono ?_); (case side1 => exact zI HI514.out); (case side2 => exact zL1 HB.out (IsS91.ge HI514.out)); rintro e w7 ⟨v516, rfl, ho0, hi, hb, hk⟩; refine ⟨_, rfl, ?_⟩; have HO517 := Aside0.mk (Kd.S_lower ho0 (below_size (zL1 HB.out (IsS91.ge HI514.out)))); replace HB := Aside0.mk hb; replace HI514 := Aside0.mk hi; clear ho0 hi hb hk) | ((with_reducible refine gC 68 rfl ?_); refine gL 9 Tryd.func68 #[.pointer (some ⟨g514, 0, none⟩)] ?_; (with_reducible refine (spec_l3Any.calls k g514 t511 t518 t519 t520 t521 t522 t523 t524 t525 t528 t529 w _ ?side1 ?side2 A4.out).mono ?_); (case side1 => exact zI HI514.out); (case side2 => exact zL1 HB.out (IsS91.ge HI514.out)); rintro e w8 ⟨v526, rfl, ho0, hi, hb, hk⟩; refine ⟨_, rfl, ?_⟩; replace HO517 := Aside0.mk (Kd.S_mono (Kd.S_told (Kd.S_oldK (IsS91.apartS (show IsS91 w _ g514 t511 t518 t519 from zI HI514.out) (zS HO517.out) (by decide)) hk) (Kd.R_base ho0)) (fun _ h_ => h_.1)); have HO527 := Aside0.mk (Kd.R_lower ho0 (below_size (zL1 HB.out (IsS91.ge HI514.out)))); replace HB := Aside0.mk hb; replace HI514 := Aside0.mk hi; clear ho0 hi hb hk; obtain ⟨Ao10, co10, eo10⟩ := Kd.R_slice HO527.out; subst eo10) | ((with_reducible refine gate_builtin (b := .append) (xs := #[.tmp 7, .tmp 10]) rfl ?_); at_builtin; refine Kd.S_append k38 (w0 := w) w.heap.size rfl (.tmp 7) (.tmp 10) 59 38 (.agg #[(.int .i64 0), (.int .i64 0), (.int .i64 0), (.int .i64 0), (.bool false), (.slice none 0 0)]) 64 rfl Tryd.underlying59 info38 rfl (by decide) (by omega) v516 t515 (⟨t520, t521, t522, t523, t524, t525⟩ : S38) [.int .i64 t520, .int .i64 t521, .int .i64 t522, .int .i64 t523, .bool t524, .slice Ao10 t525.length co10] (fun _ => True) (fun k_ => some k_ = (.slice Ao10 t525.length co10 : Value).ownBlock) rfl rfl ?aP (fun k_ hk_ => ((Kd.R_mono (ok' := fun k_ => ((fun _ => True)) k_ ∧ some k_ ≠ (v516 : Value).ownBlock) (Kd.R_apart' (HO527.out) (Kd.S_typed HO517.out) (by decide)) (fun k_ hk => ⟨trivial, hk.2⟩))).1 k_ hk_.symm) ?aF ?aO ?aB ?aS ?aL ?_; (case aP => exact k38_mkM _ _ _ (⟨t520, t521, t522, t523, t524, t525⟩ : S38) (Kd.R_mono (Kd.R_tight rfl (Kd.R_mono (ok' := fun k_ => ((fun _ => True)) k_ ∧ some k_ ≠ (v516 : Value).ownBlock) (Kd.R_apart' (HO527.out) (Kd.S_typed HO517.out) (by decide)) (fun k_ hk => ⟨trivial, hk.2⟩))) (fun _ h_ => h_))); (case aB => exact (zL1 HB.out (IsS91.ge HI514.out))); (case aF => exact (fun _ _ => trivial)); (case aO => exact (zSm HO517.out (fun k_ hk => ⟨trivial, fun e_ => hk.2 e_⟩))); (case aS => exact (below_size (zL1 HB.out (IsS91.ge HI514.out)))); (case aL => have := LMc5.out; omega); intro v531 w9 ho hb hg hat; rw [← Ny530.out] at ho; replace HI514 := Aside0.mk (IsS91.grown (zI HI514.out) hg (IsS91.own_neS HI514.out HO517.out (by decide))); replace HB := Aside0.mk hb; have HO532 := Aside0.mk (ho); clear HO517 HO527; clear ho hb hg hat))
  go_ret
  exact ⟨_, zW, zS HO532.out, zL1 HB.out (IsS91.ge HI514.out)⟩
 ·rw [if_neg c5] at H
  exact absurd H (by simp)

open Go.Proofs.YtkhbhdchakbmhaaDoorW.PrintWords renaming blk_drewN → bN, blk_drew → bD, blk_alloc → bA, blk_cell → bC, blk_below → bB, below_set → bS
/-! ### laws_at: function 38 -/
def laws_at.f (l0 : List Int) (a1 : Int) : Option (Int) := if a1 < (l0.length : Int) then (if 0 ≤ a1 then (some (wrap64 (rd l0 a1))) else (none)) else (some (Int.tmod (wrap64 ((wrap64 (a1 * 31)) + (wrap64 ((l0.length : Int) * 7)))) 256))
set_option maxHeartbeats 8000000 in
set_option maxRecDepth 100000 in
theorem laws_at.calls (A0 : Option Addr) (c0 : Nat) (l0 : List Int) (a1 : Int) (r : Int) (w : World) (hr0 : Kd.C (Kd.int .u8) w A0 l0.length l0) (hc0 : l0.length ≤ c0) (h : laws_at.f l0 a1 = some r) :
  Calls Tryd.prog 38 #[.slice A0 l0.length c0, .int .i64 a1] w fun e w' => e = .returned (.int .i64 r) ∧ Drawn0 w w' := by
 have HR0 := Aside0.mk hr0
 have HC0 := Aside0.mk hc0
 clear hr0 hc0
 unfold laws_at.f at h; have H := h
 clear h
 by_cases c3 : a1 < (l0.length : Int)
 ·rw [if_pos c3] at H
  have c3b0 := decide_eq_true c3
  clear c3
  by_cases c4 : 0 ≤ a1
  ·rw [if_pos c4] at H
   have c4b0 := decide_eq_true c4
   clear c4
   obtain rfl := Option.some.inj H
   have p533 : 0 ≤ (a1 : Int) := zD
   have q533 : a1 < (l0.length : Int) := zD
   obtain ⟨ad533, e533, hx533_0⟩ := Kd.at_int HR0.out a1 p533 q533
   cases e533
   replace p533 := eq_true p533
   replace q533 := eq_true q533
   go_enter Tryd.func38, Tryd.ntmps38
   go_wp2
   go_ret
   exact ⟨zV, zU⟩
  ·rw [if_neg c4] at H
   exact absurd H (by simp)
 ·rw [if_neg c3] at H
  have c3b0 := decide_eq_false c3
  clear c3
  obtain rfl := Option.some.inj H
  go_enter Tryd.func38, Tryd.ntmps38
  go_wp2
  go_ret
  exact ⟨zV, zU⟩

open Go.Proofs.YtkhbhdchakbmhaaDoorW.PrintWords renaming blk_drewN → bN, blk_drew → bD, blk_alloc → bA, blk_cell → bC, blk_below → bB, below_set → bS
/-! ### impl_Cap: function 88 -/
def impl_Cap.f (a0 : Int) : Option (Int) := some (mn (mx a0 0) 2147483647)
set_option maxHeartbeats 8000000 in
set_option maxRecDepth 100000 in
theorem impl_Cap.calls (a0 : Int) (r : Int) (w : World) (h : impl_Cap.f a0 = some r) :
  Calls Tryd.prog 88 #[.int .i64 a0] w fun e w' => e = .returned (.int .i64 r) ∧ Below w.heap.size w w' := by
 have HB := Aside0.mk (Below.refl w.heap.size w)
 unfold impl_Cap.f at h; have H := h
 clear h
 obtain ⟨ji2, hji2⟩ : ∃ j_ : Int, (mx a0 0) = j_ := ⟨_, rfl⟩
 replace H : (some (mn (ji2) 2147483647)) = some r := by first | (rw [hji2] at H; exact H) | (simp only [hji2] at H ⊢; exact H)
 (try (have hji2l : 0 ≤ ji2 := by (rw [← hji2]; unfold mx; (repeat' split) <;> omega)))
 (try (have hji2m : 0 ≤ ji2 := by omega))
 have hji2_ : (if a0 < 0 then 0 else a0) = ji2 := hji2
 obtain ⟨ji3, hji3⟩ : ∃ j_ : Int, (mn (ji2) 2147483647) = j_ := ⟨_, rfl⟩
 replace H : (some ji3) = some r := by first | (rw [hji3] at H; exact H) | (simp only [hji3] at H ⊢; exact H)
 have hji3_ : (if 2147483647 < (ji2) then 2147483647 else (ji2)) = ji3 := hji3
 obtain rfl := Option.some.inj H
 go_enter Tryd.func88, Tryd.ntmps88
 go_wp2
 go_ret
 exact ⟨by first | rfl | (simp [errW_none, errW_some] <;> rfl) | (simp only [← hji2, ← hji3]; first | rfl | (simp [errW_none, errW_some] <;> rfl)) | (simp [*, errW_none, errW_some] <;> rfl), zL HB.out⟩

open Go.Proofs.YtkhbhdchakbmhaaDoorW.PrintWords renaming blk_drewN → bN, blk_drew → bD, blk_alloc → bA, blk_cell → bC, blk_below → bB, below_set → bS
/-! ### impl_Sub: function 72 -/
def impl_Sub.f (a0 : Int) (a1 : Int) : Option (Int) := (impl_Cap.f a0).bind fun t534 => ((impl_Cap.f a1).bind fun t535 => ((impl_Cap.f (wrap64 (t534 - t535))).bind fun t536 => (some t536)))
set_option maxHeartbeats 8000000 in
set_option maxRecDepth 100000 in
theorem impl_Sub.calls (a0 : Int) (a1 : Int) (r : Int) (w : World) (h : impl_Sub.f a0 a1 = some r) :
  Calls Tryd.prog 72 #[.int .i64 a0, .int .i64 a1] w fun e w' => e = .returned (.int .i64 r) ∧ Below w.heap.size w w' := by
 have HB := Aside0.mk (Below.refl w.heap.size w)
 unfold impl_Sub.f at h; have H := h
 clear h
 obtain ⟨t534, A3, H⟩ := zO H; try dsimp only at H
 obtain ⟨t535, A4, H⟩ := zO H; try dsimp only at H
 obtain ⟨t536, A5, H⟩ := zO H; try dsimp only at H
 obtain rfl := Option.some.inj H
 go_enter Tryd.func72, Tryd.ntmps72
 go_wp2_with (first | ((with_reducible refine gC 88 rfl ?_); refine gL 6 Tryd.func88 #[.int .i64 a0] ?_; (with_reducible refine (impl_Cap.calls a0 t534 _ A3.out).mono ?_); rintro e w6 ⟨rfl, hb⟩; refine ⟨_, rfl, ?_⟩; replace HB := zLB (zL HB.out) hb; clear hb) | ((with_reducible refine gC 88 rfl ?_); refine gL 8 Tryd.func88 #[.int .i64 a1] ?_; (with_reducible refine (impl_Cap.calls a1 t535 _ A4.out).mono ?_); rintro e w7 ⟨rfl, hb⟩; refine ⟨_, rfl, ?_⟩; replace HB := zLB (zL HB.out) hb; clear hb) | ((with_reducible refine gC 88 rfl ?_); refine gL 10 Tryd.func88 #[.int .i64 (wrap64 (t534 - t535))] ?_; (with_reducible refine (impl_Cap.calls (wrap64 (t534 - t535)) t536 _ A5.out).mono ?_); rintro e w8 ⟨rfl, hb⟩; refine ⟨_, rfl, ?_⟩; replace HB := zLB (zL HB.out) hb; clear hb))
 go_ret
 exact ⟨zW, zL HB.out⟩

open Go.Proofs.YtkhbhdchakbmhaaDoorW.PrintWords renaming blk_drewN → bN, blk_drew → bD, blk_alloc → bA, blk_cell → bC, blk_below → bB, below_set → bS
/-! ### impl_LengthOf: function 43 -/
def impl_LengthOf.f (a0_0 : Int) (a0_1 : Int) (a0_2 : Int) (a0_3 : Int) (a0_4 : Bool) (l0_5 : List (S28)) : Option (Int) := (impl_Sub.f a0_3 a0_2).bind fun t538 => (some t538)
set_option maxHeartbeats 8000000 in
set_option maxRecDepth 100000 in
theorem impl_LengthOf.calls (a0_0 : Int) (a0_1 : Int) (a0_2 : Int) (a0_3 : Int) (a0_4 : Bool) (A0_5 : Option Addr) (c0_5 : Nat) (l0_5 : List (S28)) (r : Int) (w : World) (hr0_5 : Kd.C k28 w A0_5 l0_5.length l0_5) (hc0_5 : l0_5.length ≤ c0_5) (h : impl_LengthOf.f a0_0 a0_1 a0_2 a0_3 a0_4 l0_5 = some r) :
  Calls Tryd.prog 43 #[.agg #[.int .i64 a0_0, .int .i64 a0_1, .int .i64 a0_2, .int .i64 a0_3, .bool a0_4, .slice A0_5 l0_5.length c0_5]] w fun e w' => e = .returned (.int .i64 r) ∧ Below w.heap.size w w' := by
 have hu38 := Tryd.underlying38
 have HR0_5 := Aside0.mk hr0_5
 have HC0_5 := Aside0.mk hc0_5
 clear hr0_5 hc0_5
 have HB := Aside0.mk (Below.refl w.heap.size w)
 unfold impl_LengthOf.f at h; have H := h
 clear h
 obtain ⟨t538, A2, H⟩ := zO H; try dsimp only at H
 obtain rfl := Option.some.inj H
 go_enter Tryd.func43, Tryd.ntmps43
 go_wp2_with (first | ((with_reducible refine gD 1 rfl ?_); refine bE 1 #[.int .i64 a0_0, .int .i64 a0_1, .int .i64 a0_2, .int .i64 a0_3, .bool a0_4, .slice A0_5 l0_5.length c0_5] 38 ?_; intro gb537 hg w3 hbox hb; have BK537 := Aside0.mk hbox; have GW537 := Aside0.mk (zg (zL HB.out) hg : w.heap.size ≤ gb537); have GE537 := GW537; replace HB := zLB (zL HB.out) hb; clear hb hbox hg; have hcz4 := zc6 BK537.out; have hfz4 := zf6 BK537.out) | ((with_reducible refine gC 72 rfl ?_); refine gL 7 Tryd.func72 #[.int .i64 a0_3, .int .i64 a0_2] ?_; (with_reducible refine (impl_Sub.calls a0_3 a0_2 t538 _ A2.out).mono ?_); rintro e w5 ⟨rfl, hb⟩; refine ⟨_, rfl, ?_⟩; replace BK537 := zBB BK537 hb; replace HB := zLB (zL1 HB.out GE537.out) hb; clear hb))
 go_ret
 exact ⟨zW, zL1 HB.out GE537.out⟩

open Go.Proofs.YtkhbhdchakbmhaaDoorW.PrintWords renaming blk_drewN → bN, blk_drew → bD, blk_alloc → bA, blk_cell → bC, blk_below → bB, below_set → bS
/-! ### spec_Cap: function 89 -/
def spec_Cap.f (a0 : Int) : Option (Int) := if a0 < 0 then (some 0) else (if a0 > 2147483647 then (some 2147483647) else (some a0))
set_option maxHeartbeats 8000000 in
set_option maxRecDepth 100000 in
theorem spec_Cap.calls (a0 : Int) (r : Int) (w : World) (h : spec_Cap.f a0 = some r) :
  Calls Tryd.prog 89 #[.int .i64 a0] w fun e w' => e = .returned (.int .i64 r) ∧ Drawn0 w w' := by
 unfold spec_Cap.f at h; have H := h
 clear h
 by_cases c2 : a0 < 0
 ·rw [if_pos c2] at H
  have c2b0 := decide_eq_true c2
  clear c2
  obtain rfl := Option.some.inj H
  go_enter Tryd.func89, Tryd.ntmps89
  go_wp2
  go_ret
  exact ⟨zV, zU⟩
 ·rw [if_neg c2] at H
  have c2b0 := decide_eq_false c2
  clear c2
  by_cases c3 : a0 > 2147483647
  ·rw [if_pos c3] at H
   have c3b0 := decide_eq_true c3
   clear c3
   obtain rfl := Option.some.inj H
   go_enter Tryd.func89, Tryd.ntmps89
   go_wp2
   go_ret
   exact ⟨zV, zU⟩
  ·rw [if_neg c3] at H
   have c3b0 := decide_eq_false c3
   clear c3
   obtain rfl := Option.some.inj H
   go_enter Tryd.func89, Tryd.ntmps89
   go_wp2
   go_ret
   exact ⟨zV, zU⟩

open Go.Proofs.YtkhbhdchakbmhaaDoorW.PrintWords renaming blk_drewN → bN, blk_drew → bD, blk_alloc → bA, blk_cell → bC, blk_below → bB, below_set → bS
/-! ### spec_Sub: function 73 -/
def spec_Sub.f (a0 : Int) (a1 : Int) : Option (Int) := (spec_Cap.f a0).bind fun t539 => ((spec_Cap.f a1).bind fun t540 => ((spec_Cap.f (wrap64 (t539 - t540))).bind fun t541 => (some t541)))
set_option maxHeartbeats 8000000 in
set_option maxRecDepth 100000 in
theorem spec_Sub.calls (a0 : Int) (a1 : Int) (r : Int) (w : World) (h : spec_Sub.f a0 a1 = some r) :
  Calls Tryd.prog 73 #[.int .i64 a0, .int .i64 a1] w fun e w' => e = .returned (.int .i64 r) ∧ Drawn0 w w' := by
 unfold spec_Sub.f at h; have H := h
 clear h
 obtain ⟨t539, A3, H⟩ := zO H; try dsimp only at H
 obtain ⟨t540, A4, H⟩ := zO H; try dsimp only at H
 obtain ⟨t541, A5, H⟩ := zO H; try dsimp only at H
 obtain rfl := Option.some.inj H
 go_enter Tryd.func73, Tryd.ntmps73
 go_wp2_with (first | ((with_reducible refine gC 89 rfl ?_); refine gL 6 Tryd.func89 #[.int .i64 a0] ?_; (with_reducible refine (spec_Cap.calls a0 t539 _ A3.out).mono ?_); rintro e w' ⟨rfl, ⟨nd, rfl⟩⟩; refine ⟨_, rfl, ?_⟩) | ((with_reducible refine gC 89 rfl ?_); refine gL 8 Tryd.func89 #[.int .i64 a1] ?_; (with_reducible refine (spec_Cap.calls a1 t540 _ A4.out).mono ?_); rintro e w' ⟨rfl, ⟨nd, rfl⟩⟩; refine ⟨_, rfl, ?_⟩) | ((with_reducible refine gC 89 rfl ?_); refine gL 10 Tryd.func89 #[.int .i64 (wrap64 (t539 - t540))] ?_; (with_reducible refine (spec_Cap.calls (wrap64 (t539 - t540)) t541 _ A5.out).mono ?_); rintro e w' ⟨rfl, ⟨nd, rfl⟩⟩; refine ⟨_, rfl, ?_⟩))
 go_ret
 exact ⟨zV, zU⟩

open Go.Proofs.YtkhbhdchakbmhaaDoorW.PrintWords renaming blk_drewN → bN, blk_drew → bD, blk_alloc → bA, blk_cell → bC, blk_below → bB, below_set → bS
/-! ### spec_LengthOf: function 44 -/
def spec_LengthOf.f (a0_0 : Int) (a0_1 : Int) (a0_2 : Int) (a0_3 : Int) (a0_4 : Bool) (l0_5 : List (S28)) : Option (Int) := (spec_Sub.f a0_3 a0_2).bind fun t543 => (some t543)
set_option maxHeartbeats 8000000 in
set_option maxRecDepth 100000 in
theorem spec_LengthOf.calls (a0_0 : Int) (a0_1 : Int) (a0_2 : Int) (a0_3 : Int) (a0_4 : Bool) (A0_5 : Option Addr) (c0_5 : Nat) (l0_5 : List (S28)) (r : Int) (w : World) (hr0_5 : Kd.C k28 w A0_5 l0_5.length l0_5) (hc0_5 : l0_5.length ≤ c0_5) (h : spec_LengthOf.f a0_0 a0_1 a0_2 a0_3 a0_4 l0_5 = some r) :
  Calls Tryd.prog 44 #[.agg #[.int .i64 a0_0, .int .i64 a0_1, .int .i64 a0_2, .int .i64 a0_3, .bool a0_4, .slice A0_5 l0_5.length c0_5]] w fun e w' => e = .returned (.int .i64 r) ∧ Below w.heap.size w w' := by
 have hu38 := Tryd.underlying38
 have HR0_5 := Aside0.mk hr0_5
 have HC0_5 := Aside0.mk hc0_5
 clear hr0_5 hc0_5
 have HB := Aside0.mk (Below.refl w.heap.size w)
 unfold spec_LengthOf.f at h; have H := h
 clear h
 obtain ⟨t543, A2, H⟩ := zO H; try dsimp only at H
 obtain rfl := Option.some.inj H
 go_enter Tryd.func44, Tryd.ntmps44
 go_wp2_with (first | ((with_reducible refine gD 1 rfl ?_); refine bE 1 #[.int .i64 a0_0, .int .i64 a0_1, .int .i64 a0_2, .int .i64 a0_3, .bool a0_4, .slice A0_5 l0_5.length c0_5] 38 ?_; intro gb542 hg w3 hbox hb; have BK542 := Aside0.mk hbox; have GW542 := Aside0.mk (zg (zL HB.out) hg : w.heap.size ≤ gb542); have GE542 := GW542; replace HB := zLB (zL HB.out) hb; clear hb hbox hg; have hcz4 := zc6 BK542.out; have hfz4 := zf6 BK542.out) | ((with_reducible refine gC 73 rfl ?_); refine gL 7 Tryd.func73 #[.int .i64 a0_3, .int .i64 a0_2] ?_; (with_reducible refine (spec_Sub.calls a0_3 a0_2 t543 _ A2.out).mono ?_); rintro e w' ⟨rfl, ⟨nd, rfl⟩⟩; refine ⟨_, rfl, ?_⟩))
 go_ret
 exact ⟨zW, zL1 HB.out GE542.out⟩

end Go.Proofs.YtkhbhdchakbmhaaDoor.QFnSpans
