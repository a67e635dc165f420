/- What the Go functions that the law FnTicks reaches answer: each as a Lean function, with its walk. Written by a program of this session. Conditions: those that each theorem names. -/
import Derived.Test.YtggenhomnbnodaaQFnTicksx0
import Derived.Test.YtggenhomnbnodaaQFnTicksx4
import Derived.Test.YtggenhomnbnodaaQFnTicksx5
import Derived.Test.YtggenhomnbnodaaQFnTicksx6
import Derived.Test.YtggenhomnbnodaaQFnTicksx7
import Derived.Test.YtggenhomnbnodaaQFnTicksx8
namespace Go.Proofs.Ytggenhomnbnodaa.QFnTicks
open Go.RowKit Go.Proofs.YtggenhomnbnodaaW.PrintWords Go.Proofs.YtggenhomnbnodaaW.PrintLast Go.Proofs.YtggenhomnbnodaaW.PrintMore
attribute [local go_sem] max2_int min2_int max_two min_two max_three min_three max_four min_four   -- for this text's walks alone
set_option linter.unusedVariables false
set_option linter.unusedSimpArgs false

def spec_Advance.l (k : Nat) : Nat → Int → List (List S46) → List (List S46) → List S46 → List S46 → Option (Int × List (List S46) × List (List S46) × List S46 × List S46)
 | 0, a, l1, l2, l3, d => some (a, l1, l2, l3, d)
 | m + 1, a, l1, l2, l3, d => (spec_TickOn.f k a l1 l2 l3).bind fun r => (if d.length + r.2.2.2.2.length < 1000000 then spec_Advance.l k m r.1 r.2.1 r.2.2.1 r.2.2.2.1 (d ++ r.2.2.2.2) else none)
def spec_Advance.f (k : Nat) (a : Int) (l1 l2 : List (List S46)) (l3 : List S46) (t : Int) : Option (Int × List (List S46) × List (List S46) × List S46 × List S46) :=
 (spec_l8Copy.f k a l1 l2 l3).bind fun c => (if c.1 = a then (spec_l1In.f t 0 200).bind fun u => (if u = true then spec_Advance.l k t.toNat c.1 c.2.1 c.2.2.1 c.2.2.2 [] else some (c.1, c.2.1, c.2.2.1, c.2.2.2, [])) else none)
set_option maxHeartbeats 8000000 in
set_option maxRecDepth 100000 in
theorem spec_Advance.stay (k : Nat) (A1 : Option Addr) (c1 : Nat) (l1 : List (List S46)) (A2 : Option Addr) (c2 : Nat) (l2 : List (List S46)) (A3 : Option Addr) (c3 : Nat) (l3 : List S46) (y0 : Int) (y1 y2 : List (List S46)) (y3 : List S46) (t : Int) (w : World) (hr1 : Kd.C (Kd.slice 46 k46) w A1 l1.length l1) (hc1 : l1.length ≤ c1) (hr2 : Kd.C (Kd.slice 46 k46) w A2 l2.length l2) (hc2 : l2.length ≤ c2) (hr3 : Kd.C k46 w A3 l3.length l3) (hc3 : l3.length ≤ c3) (hac : spec_l8Copy.f k y0 l1 l2 l3 = some (y0, y1, y2, y3)) (haw : spec_l1In.f t 0 200 = some false) :
  Calls Try.prog 38 #[.agg #[.int .i64 y0, .slice A1 l1.length c1, .slice A2 l2.length c2, .slice A3 l3.length c3], .int .i64 t] w fun e w' => ∃ (v1_ v2_ v3_ v4_ : Value) (PW PD : Nat → Prop), e = .returned (.tuple #[.agg #[.int .i64 y0, v1_, v2_, v3_], v4_]) ∧ WR w' w.heap.size PW v1_ v2_ v3_ y1 y2 y3 ∧ Kd.R k46 46 w' w.heap.size PD v4_ [] ∧ (∀ k, PW k → ¬ PD k) ∧ Below w.heap.size w w' := by
 have hu25 := Try.underlying25
 have AC := aM hac
 have AW := aM haw
 clear hac haw
 have HR1 := aM hr1
 have HR2 := aM hr2
 have HR3 := aM hr3
 have HC1 := aM hc1
 have HC2 := aM hc2
 have HC3 := aM hc3
 have HB := aM (Below.refl w.heap.size w)
 clear hr1 hr2 hr3 hc1 hc2 hc3
 obtain ⟨yd, hyd⟩ : ∃ yd : List S46, yd = [] := ⟨_, rfl⟩
 have NY0 := aM hyd
 clear hyd
 go_enter Try.func38, Try.ntmps38
 go_wp2_with (first | ((with_reducible refine gD 2 rfl ?_); refine bE 2 #[.int .i64 y0, .slice A1 l1.length c1, .slice A2 l2.length c2, .slice A3 l3.length c3] 25 ?_; intro g2 hg w2_ hbox hb; have GE2 := aM (zg HB.out hg : w.heap.size ≤ g2); have BK2 := aM hbox; clear hbox hg;   replace HB := zLB HB.out hb; clear hb; (try clear hz2_); have hz2_ := zc4 BK2.out;) | ((with_reducible refine gD 4 rfl ?_); refine bE 4 #[.int .i64 0, .slice none 0 0, .slice none 0 0, .slice none 0 0] 25 ?_; intro g4 hg w4_ hbox hb; have GE4 := aM (zg HB.out hg : w.heap.size ≤ g4); have N2_4 := aM (zN BK2.out hg : g2 ≠ g4); have BK4 := aM hbox; clear hbox hg; replace BK2 := zBB BK2 hb;  replace HB := zLB HB.out hb; clear hb; (try clear hz2_); have hz2_ := zc4 BK2.out; (try clear hz4_); have hz4_ := zc4 BK4.out;) | ((with_reducible refine gC 72 rfl ?_); refine gL 12 Try.func72 #[.agg #[.int .i64 y0, .slice A1 l1.length c1, .slice A2 l2.length c2, .slice A3 l3.length c3]] ?_; (refine (spec_l8Copy.callsW k y0 A1 c1 l1 A2 c2 l2 A3 c3 l3 y0 y1 y2 y3 _ ?s1 HC1.out ?s2 HC2.out ?s3 HC3.out AC.out).mono ?_); (case s1 => exact Kd.C_below HR1.out HB.out); (case s2 => exact Kd.C_below HR2.out HB.out); (case s3 => exact Kd.C_below HR3.out HB.out); rintro e w12_ ⟨v1, v2, v3, rfl, hw_, hb⟩; obtain ⟨B1, q1, B2, q2, B3, q3, rfl, rfl, rfl, _, _, _, _⟩ := hw_.reads; refine ⟨_, rfl, ?_⟩; have F2 := aM (blk_lt BK2.out); have F4 := aM (blk_lt BK4.out); obtain ⟨n0, hn0_⟩ : ∃ n0, n0 = _ := ⟨_, rfl⟩; have HWR := aM ((hw_.bound.mono (ok' := fun k_ => n0 ≤ k_) (fun k_ h_ => by rw [hn0_]; exact h_.2.1)).lower HB.out.size); have FN := aM (hb.size); rw [← hn0_] at F2 F4 FN; clear hw_ hn0_; replace BK2 := zBB BK2 hb; replace BK4 := zBB BK4 hb;  replace HB := zLB HB.out hb; clear hb; (try clear hz2_); have hz2_ := zc4 BK2.out; (try clear hz4_); have hz4_ := zc4 BK4.out;) | ((with_reducible refine gD 6 rfl ?_); refine bE 6 #[.int .i64 0, .slice none 0 0, .slice none 0 0, .slice none 0 0] 25 ?_; intro g6 hg w6_ hbox hb; have GE6 := aM (zg HB.out hg : w.heap.size ≤ g6); have N2_6 := aM (zN BK2.out hg : g2 ≠ g6); have N4_6 := aM (zN BK4.out hg : g4 ≠ g6); have BK6 := aM hbox; have FN6 := aM (by rw [hg]; exact FN.out : n0 ≤ g6); clear FN hbox hg; replace BK2 := zBB BK2 hb; replace BK4 := zBB BK4 hb; replace HWR := aM (HWR.out.below hb); replace HB := zLB HB.out hb; clear hb; (try clear hz2_); have hz2_ := zc4 BK2.out; (try clear hz4_); have hz4_ := zc4 BK4.out; (try clear hz6_); have hz6_ := zc4 BK6.out;) | ((with_reducible refine gate_store (t := 25) (p := 6) rfl ?_); refine store_event (t := 25) (p := 6) (v := ?vo29_) (w1 := ((((w6_.setCell ⟨g6, 0, none⟩ (.int .i64 y0)).setCell ⟨g6, 1, none⟩ (.slice B1 y1.length q1)).setCell ⟨g6, 2, none⟩ (.slice B2 y2.length q2)).setCell ⟨g6, 3, none⟩ (.slice B3 y3.length q3))) ?hg ?ho ?hn ?hr ?_; (case ho => rfl); (case hg => rfl); (case hn => rfl); (case hr => (have hs0_ := (blk_cell BK6.out 0).trans rfl; have hf0_ := blk_frozen BK6.out 0; have hs1_ := (blk_cell BK6.out 1).trans rfl; have hf1_ := blk_frozen BK6.out 1; have hs2_ := (blk_cell BK6.out 2).trans rfl; have hf2_ := blk_frozen BK6.out 2; have hs3_ := (blk_cell BK6.out 3).trans rfl; have hf3_ := blk_frozen BK6.out 3;(try clear hz2_); have hz2_ := zc4 BK2.out; (try clear hz4_); have hz4_ := zc4 BK4.out; first | (go_simp; done) | (go_simp; rfl))); intro w7_ hw_; have HK_ := set4_kept hw_; have BKn := aM (set4_blk hw_ BK6.out rfl); have HBn := aM (set4_below hw_ HB.out GE6.out); replace BK2 := aM (blk_kept BK2.out HK_ (N2_6.out)); replace BK4 := aM (blk_kept BK4.out HK_ (N4_6.out)); replace HWR := aM ((HWR.out.types BK6.out (by decide) (by decide)).kept HK_ (fun _ h_ => h_.2)); replace HWR := aM (HWR.out.bound.mono (ok' := fun k_ => (n0 ≤ k_ ∧ k_ ≠ g6) ∧ k_ < w7_.heap.size) (fun _ h_ => ⟨h_.1, h_.2.2.1⟩)); clear hw_ BK6 HB; have BK6 := BKn; have HB := HBn; clear BKn HBn HK_; (try clear hz2_); have hz2_ := zc4 BK2.out; (try clear hz4_); have hz4_ := zc4 BK4.out; (try clear hz6_); have hz6_ := zc4 BK6.out;) | ((with_reducible refine gD 13 rfl ?_); refine Kd.R_lit k46 _ 46 ?hg (N := 13) ?hd (xs := ([] : List S46)) (inner := []) (ok := fun _ => True) (okp := fun _ => True) ?hr ?hp (fun _ hk => hk) trivial (Below.refl _ _) (Nat.le_refl _) (by simp) ?_; (case hd => rfl); (case hg => rfl); (case hr => first | (go_simp; done) | (go_simp; rfl)); (case hp => exact (Reps.none _ _)); intro vd w13_ ho hb hg_ hn_; clear hg_ hn_; rw [← NY0.out] at ho; have HD := aM (Kd.R_lower (Kd.R_mono (Kd.R_bound ho) (ok' := fun k_ => w7_.heap.size ≤ k_ ∧ k_ < w13_.heap.size) (fun _ h_ => ⟨h_.2.1, h_.2.2.1⟩)) HB.out.size); obtain ⟨Ad, cd, rfl⟩ := Kd.R_slice ho; have Z7 := aM hb.size; have L6 := aM (blk_lt BK6.out); clear ho; replace BK2 := zBB BK2 hb; replace BK4 := zBB BK4 hb; replace BK6 := zBB BK6 hb; replace HWR := aM (HWR.out.below hb); replace HB := zLB HB.out hb; clear hb; (try clear hz2_); have hz2_ := zc4 BK2.out; (try clear hz4_); have hz4_ := zc4 BK4.out; (try clear hz6_); have hz6_ := zc4 BK6.out;) | ((with_reducible refine gC 67 rfl ?_); refine gL 15 Try.func67 #[.int .i64 t, .int .i64 0, .int .i64 200] ?_; (refine (spec_l1In.calls t 0 200 false _ AW.out).mono ?_); rintro e w14_ ⟨rfl, hd_⟩; have hb := hd_.below; clear hd_; refine ⟨_, rfl, ?_⟩; replace BK2 := zBB BK2 hb; replace BK4 := zBB BK4 hb; replace BK6 := zBB BK6 hb; replace HWR := aM (HWR.out.below hb); have Z14 := aM hb.size; replace HD := zRB HD hb; replace HB := zLB HB.out hb; clear hb; (try clear hz2_); have hz2_ := zc4 BK2.out; (try clear hz4_); have hz4_ := zc4 BK4.out; (try clear hz6_); have hz6_ := zc4 BK6.out;) | ((with_reducible refine gate_store (t := 25) (p := 4) rfl ?_); refine store_event (t := 25) (p := 4) (v := ?vo30_) (w1 := ((((w14_.setCell ⟨g4, 0, none⟩ (.int .i64 y0)).setCell ⟨g4, 1, none⟩ (.slice B1 y1.length q1)).setCell ⟨g4, 2, none⟩ (.slice B2 y2.length q2)).setCell ⟨g4, 3, none⟩ (.slice B3 y3.length q3))) ?hg ?ho ?hn ?hr ?_; (case ho => rfl); (case hg => rfl); (case hn => rfl); (case hr => (have hs0_ := (blk_cell BK4.out 0).trans rfl; have hf0_ := blk_frozen BK4.out 0; have hs1_ := (blk_cell BK4.out 1).trans rfl; have hf1_ := blk_frozen BK4.out 1; have hs2_ := (blk_cell BK4.out 2).trans rfl; have hf2_ := blk_frozen BK4.out 2; have hs3_ := (blk_cell BK4.out 3).trans rfl; have hf3_ := blk_frozen BK4.out 3;(try clear hz2_); have hz2_ := zc4 BK2.out; (try clear hz6_); have hz6_ := zc4 BK6.out; first | (go_simp; done) | (go_simp; rfl))); intro wF hw_; have HK_ := set4_kept hw_; have BKn := aM (set4_blk hw_ BK4.out rfl); have HBn := aM (set4_below hw_ HB.out GE4.out); have HF := aM ((HWR.out.types BK4.out (by decide) (by decide)).kept HK_ (fun _ h_ => h_.2)); replace HD := aM (Kd.R_kept (Kd.R_types HD.out BK4.out (by decide)) HK_ (fun _ h_ => h_.2)); clear hw_ BK4 HB; have BK4 := BKn; have HB := HBn; clear BKn HBn HK_))
 refine bodyPost_ret (results_ct rfl _ _ g4 25 #[.int .i64 y0, .slice B1 y1.length q1, .slice B2 y2.length q2, .slice B3 y3.length q3] (0, 0) _ rfl (by exact BK4.out) Try.underlying25 rfl (by kernel_rfl)) rfl ?_
 rw [← NY0.out]
 exact ⟨_, _, _, _, _, _, rfl, HF.out, HD.out, fun k_ h_ h2_ => by have a_ := h_.1.2; have b_ := h2_.1.1; omega, HB.out⟩
set_option maxHeartbeats 8000000 in
set_option maxRecDepth 100000 in
theorem spec_Advance.run (k : Nat) (A1 : Option Addr) (c1 : Nat) (l1 : List (List S46)) (A2 : Option Addr) (c2 : Nat) (l2 : List (List S46)) (A3 : Option Addr) (c3 : Nat) (l3 : List S46) (y0 : Int) (y1 y2 : List (List S46)) (y3 : List S46) (t : Int) (w : World) (hr1 : Kd.C (Kd.slice 46 k46) w A1 l1.length l1) (hc1 : l1.length ≤ c1) (hr2 : Kd.C (Kd.slice 46 k46) w A2 l2.length l2) (hc2 : l2.length ≤ c2) (hr3 : Kd.C k46 w A3 l3.length l3) (hc3 : l3.length ≤ c3) (hac : spec_l8Copy.f k y0 l1 l2 l3 = some (y0, y1, y2, y3)) (haw : spec_l1In.f t 0 200 = some true) (h0 : 0 ≤ t) (h200 : t ≤ 200) (r1 : Int) (r2 r3 : List (List S46)) (r4 r5 : List S46) (hF : spec_Advance.l k t.toNat y0 y1 y2 y3 [] = some (r1, r2, r3, r4, r5)) :
  Calls Try.prog 38 #[.agg #[.int .i64 y0, .slice A1 l1.length c1, .slice A2 l2.length c2, .slice A3 l3.length c3], .int .i64 t] w fun e w' => ∃ (v1_ v2_ v3_ v4_ : Value) (PW PD : Nat → Prop), e = .returned (.tuple #[.agg #[.int .i64 r1, v1_, v2_, v3_], v4_]) ∧ WR w' w.heap.size PW v1_ v2_ v3_ r2 r3 r4 ∧ Kd.R k46 46 w' w.heap.size PD v4_ r5 ∧ (∀ k, PW k → ¬ PD k) ∧ Below w.heap.size w w' := by
 have hu25 := Try.underlying25
 have AC := aM hac
 have AW := aM haw
 clear hac haw
 have HR1 := aM hr1
 have HR2 := aM hr2
 have HR3 := aM hr3
 have HC1 := aM hc1
 have HC2 := aM hc2
 have HC3 := aM hc3
 have HB := aM (Below.refl w.heap.size w)
 clear hr1 hr2 hr3 hc1 hc2 hc3
 obtain ⟨yd, hyd⟩ : ∃ yd : List S46, yd = [] := ⟨_, rfl⟩
 have NY0 := aM hyd
 clear hyd
 have HMF := aM hF
 have H0 := aM h0
 have H2 := aM h200
 clear hF h0 h200
 go_enter Try.func38, Try.ntmps38
 try go_wp2_with (first | ((with_reducible refine gD 2 rfl ?_); refine bE 2 #[.int .i64 y0, .slice A1 l1.length c1, .slice A2 l2.length c2, .slice A3 l3.length c3] 25 ?_; intro g2 hg w2_ hbox hb; have GE2 := aM (zg HB.out hg : w.heap.size ≤ g2); have BK2 := aM hbox; clear hbox hg;   replace HB := zLB HB.out hb; clear hb; (try clear hz2_); have hz2_ := zc4 BK2.out;) | ((with_reducible refine gD 4 rfl ?_); refine bE 4 #[.int .i64 0, .slice none 0 0, .slice none 0 0, .slice none 0 0] 25 ?_; intro g4 hg w4_ hbox hb; have GE4 := aM (zg HB.out hg : w.heap.size ≤ g4); have N2_4 := aM (zN BK2.out hg : g2 ≠ g4); have BK4 := aM hbox; clear hbox hg; replace BK2 := zBB BK2 hb;  replace HB := zLB HB.out hb; clear hb; (try clear hz2_); have hz2_ := zc4 BK2.out; (try clear hz4_); have hz4_ := zc4 BK4.out;) | ((with_reducible refine gC 72 rfl ?_); refine gL 12 Try.func72 #[.agg #[.int .i64 y0, .slice A1 l1.length c1, .slice A2 l2.length c2, .slice A3 l3.length c3]] ?_; (refine (spec_l8Copy.callsW k y0 A1 c1 l1 A2 c2 l2 A3 c3 l3 y0 y1 y2 y3 _ ?s1 HC1.out ?s2 HC2.out ?s3 HC3.out AC.out).mono ?_); (case s1 => exact Kd.C_below HR1.out HB.out); (case s2 => exact Kd.C_below HR2.out HB.out); (case s3 => exact Kd.C_below HR3.out HB.out); rintro e w12_ ⟨v1, v2, v3, rfl, hw_, hb⟩; obtain ⟨B1, q1, B2, q2, B3, q3, rfl, rfl, rfl, _, _, _, _⟩ := hw_.reads; refine ⟨_, rfl, ?_⟩; have F2 := aM (blk_lt BK2.out); have F4 := aM (blk_lt BK4.out); obtain ⟨n0, hn0_⟩ : ∃ n0, n0 = _ := ⟨_, rfl⟩; have HWR := aM ((hw_.bound.mono (ok' := fun k_ => n0 ≤ k_) (fun k_ h_ => by rw [hn0_]; exact h_.2.1)).lower HB.out.size); have FN := aM (hb.size); rw [← hn0_] at F2 F4 FN; clear hw_ hn0_; replace BK2 := zBB BK2 hb; replace BK4 := zBB BK4 hb;  replace HB := zLB HB.out hb; clear hb; (try clear hz2_); have hz2_ := zc4 BK2.out; (try clear hz4_); have hz4_ := zc4 BK4.out;) | ((with_reducible refine gD 6 rfl ?_); refine bE 6 #[.int .i64 0, .slice none 0 0, .slice none 0 0, .slice none 0 0] 25 ?_; intro g6 hg w6_ hbox hb; have GE6 := aM (zg HB.out hg : w.heap.size ≤ g6); have N2_6 := aM (zN BK2.out hg : g2 ≠ g6); have N4_6 := aM (zN BK4.out hg : g4 ≠ g6); have BK6 := aM hbox; have FN6 := aM (by rw [hg]; exact FN.out : n0 ≤ g6); clear FN hbox hg; replace BK2 := zBB BK2 hb; replace BK4 := zBB BK4 hb; replace HWR := aM (HWR.out.below hb); replace HB := zLB HB.out hb; clear hb; (try clear hz2_); have hz2_ := zc4 BK2.out; (try clear hz4_); have hz4_ := zc4 BK4.out; (try clear hz6_); have hz6_ := zc4 BK6.out;) | ((with_reducible refine gate_store (t := 25) (p := 6) rfl ?_); refine store_event (t := 25) (p := 6) (v := ?vo31_) (w1 := ((((w6_.setCell ⟨g6, 0, none⟩ (.int .i64 y0)).setCell ⟨g6, 1, none⟩ (.slice B1 y1.length q1)).setCell ⟨g6, 2, none⟩ (.slice B2 y2.length q2)).setCell ⟨g6, 3, none⟩ (.slice B3 y3.length q3))) ?hg ?ho ?hn ?hr ?_; (case ho => rfl); (case hg => rfl); (case hn => rfl); (case hr => (have hs0_ := (blk_cell BK6.out 0).trans rfl; have hf0_ := blk_frozen BK6.out 0; have hs1_ := (blk_cell BK6.out 1).trans rfl; have hf1_ := blk_frozen BK6.out 1; have hs2_ := (blk_cell BK6.out 2).trans rfl; have hf2_ := blk_frozen BK6.out 2; have hs3_ := (blk_cell BK6.out 3).trans rfl; have hf3_ := blk_frozen BK6.out 3;(try clear hz2_); have hz2_ := zc4 BK2.out; (try clear hz4_); have hz4_ := zc4 BK4.out; first | (go_simp; done) | (go_simp; rfl))); intro w7_ hw_; have HK_ := set4_kept hw_; have BKn := aM (set4_blk hw_ BK6.out rfl); have HBn := aM (set4_below hw_ HB.out GE6.out); replace BK2 := aM (blk_kept BK2.out HK_ (N2_6.out)); replace BK4 := aM (blk_kept BK4.out HK_ (N4_6.out)); replace HWR := aM ((HWR.out.types BK6.out (by decide) (by decide)).kept HK_ (fun _ h_ => h_.2)); replace HWR := aM (HWR.out.bound.mono (ok' := fun k_ => (n0 ≤ k_ ∧ k_ ≠ g6) ∧ k_ < w7_.heap.size) (fun _ h_ => ⟨h_.1, h_.2.2.1⟩)); clear hw_ BK6 HB; have BK6 := BKn; have HB := HBn; clear BKn HBn HK_; (try clear hz2_); have hz2_ := zc4 BK2.out; (try clear hz4_); have hz4_ := zc4 BK4.out; (try clear hz6_); have hz6_ := zc4 BK6.out;) | ((with_reducible refine gD 13 rfl ?_); refine Kd.R_lit k46 _ 46 ?hg (N := 13) ?hd (xs := ([] : List S46)) (inner := []) (ok := fun _ => True) (okp := fun _ => True) ?hr ?hp (fun _ hk => hk) trivial (Below.refl _ _) (Nat.le_refl _) (by simp) ?_; (case hd => rfl); (case hg => rfl); (case hr => first | (go_simp; done) | (go_simp; rfl)); (case hp => exact (Reps.none _ _)); intro vd w13_ ho hb hg_ hn_; clear hg_ hn_; rw [← NY0.out] at ho; have HD := aM (Kd.R_lower (Kd.R_mono (Kd.R_bound ho) (ok' := fun k_ => w7_.heap.size ≤ k_ ∧ k_ < w13_.heap.size) (fun _ h_ => ⟨h_.2.1, h_.2.2.1⟩)) HB.out.size); obtain ⟨Ad, cd, rfl⟩ := Kd.R_slice ho; have Z7 := aM hb.size; have L6 := aM (blk_lt BK6.out); clear ho; replace BK2 := zBB BK2 hb; replace BK4 := zBB BK4 hb; replace BK6 := zBB BK6 hb; replace HWR := aM (HWR.out.below hb); replace HB := zLB HB.out hb; clear hb; (try clear hz2_); have hz2_ := zc4 BK2.out; (try clear hz4_); have hz4_ := zc4 BK4.out; (try clear hz6_); have hz6_ := zc4 BK6.out;) | ((with_reducible refine gC 67 rfl ?_); refine gL 15 Try.func67 #[.int .i64 t, .int .i64 0, .int .i64 200] ?_; (refine (spec_l1In.calls t 0 200 true _ AW.out).mono ?_); rintro e w14_ ⟨rfl, hd_⟩; have hb := hd_.below; clear hd_; refine ⟨_, rfl, ?_⟩; replace BK2 := zBB BK2 hb; replace BK4 := zBB BK4 hb; replace BK6 := zBB BK6 hb; replace HWR := aM (HWR.out.below hb); have Z14 := aM hb.size; replace HD := zRB HD hb; replace HB := zLB HB.out hb; clear hb; (try clear hz2_); have hz2_ := zc4 BK2.out; (try clear hz4_); have hz4_ := zc4 BK4.out; (try clear hz6_); have hz6_ := zc4 BK6.out;))
 have HTI : Aside0 (TI y0 g6 n0 w.heap.size w14_ y1 y2 y3 yd (.slice Ad yd.length cd) [] (.slice none 0 0)) := aM ⟨_, _, fun _ => False, ⟨_, _, _, BK6.out, HWR.out⟩, HD.out, Kd.R_nil _ _ _ _ _, ⟨fun k_ h_ h2_ => by have a_ := h_.2; have b_ := h2_.1; omega, fun _ _ h_ => h_, fun _ _ h_ => h_⟩, fun k_ h_ => by have z1_ := Z7.out; have z2_ := Z14.out; have f_ := FN6.out; have l_ := L6.out; rcases h_ with h_ | h_ | h_; exact ⟨h_.1.1, by omega, h_.1.2⟩; exact ⟨by omega, by omega, by omega⟩; exact h_.elim⟩
 obtain ⟨vd_, hvd_⟩ : ∃ v, v = Value.slice Ad yd.length cd := ⟨_, rfl⟩
 rw [← hvd_] at HTI
 rw [NY0.out] at HTI
 rw [hvd_] at HTI
 clear hvd_
 have HN0 := aM (Nat.le_of_lt (Nat.lt_of_le_of_lt FN6.out (blk_lt BK6.out)) : n0 ≤ w14_.heap.size)
 clear HWR BK6 HD
 go_loopg [7, 8] t.toNat (fun gk v7 v8 w' => ∃ (j : Nat) (q0 : Int) (q1 q2 : List (List S46)) (q3 q5 : List S46), v8 = .int .i64 (j : Int) ∧ (j : Int) ≤ t ∧ t.toNat - j ≤ gk ∧ Aside0 (spec_Advance.l k (t.toNat - j) q0 q1 q2 q3 q5 = some (r1, r2, r3, r4, r5)) ∧ Aside0 (TI q0 g6 n0 w.heap.size w' q1 q2 q3 q5 v7 [] (.slice none 0 0)) ∧ Aside0 (w'.heap[g2]? = some (.cells #[.int .i64 y0, .slice A1 l1.length c1, .slice A2 l2.length c2, .slice A3 l3.length c3] 25 (0, 0))) ∧ Aside0 (w'.heap[g4]? = some (.cells #[.int .i64 0, .slice none 0 0, .slice none 0 0, .slice none 0 0] 25 (0, 0))) ∧ Aside0 (Below w.heap.size w w') ∧ Aside0 (w14_.heap.size ≤ w'.heap.size))
 case atStart => exact ⟨0, y0, y1, y2, y3, [], rfl, H0.out, by omega, HMF, HTI, BK2, BK4, HB, ⟨Nat.le_refl _⟩⟩
 case round =>
  clear HTI BK2 BK4 HB HMF
  obtain ⟨j, q0, q1, q2, q3, q5, rfl, hj, hgk, HA, HT, BK2, BK4, HB, HNW⟩ := hrel
  obtain ⟨Ad, cd, rfl⟩ := HT.out.due_slice
  have HJ := aM hj
  have HGK := aM hgk
  clear hj hgk
  obtain ⟨PW, PD, PM, ⟨u1, u2, u3, hu_, hw_⟩, hd_, hm_, ⟨hx_, _, _⟩, hb_⟩ := HT.out
  obtain ⟨D1, p1, D2, p2, D3, p3, rfl, rfl, rfl, ⟨t1_, t2_, t3_⟩, e1_, e2_, e3_⟩ := hw_.reads
  have BK6 := aM hu_
  have HWR := aM hw_
  have HD := aM hd_
  have HXX := aM hx_
  have HBB := aM hb_
  have HQ := aM (And.intro t1_ (And.intro t2_ (And.intro t3_ (And.intro e1_ (And.intro e2_ e3_)))))
  clear hu_ hw_ hd_ hm_ hx_ hb_ HT t1_ t2_ t3_ e1_ e2_ e3_
  have hz2_ := zc4 BK2.out
  have hz4_ := zc4 BK4.out
  have hz6_ := zc4 BK6.out
  by_cases cj : (j : Int) < t
  ·have hjt : t.toNat - j = (t.toNat - (j + 1)) + 1 := by omega
   have HA2 := HA.out
   rw [hjt] at HA2
   simp only [spec_Advance.l] at HA2
   obtain ⟨⟨s0, s1, s2, s3, s5⟩, AT, HA2⟩ := zO HA2
   simp only at HA2
   have pj1 := eq_true cj
   have pj2 : decide ((j : Int) < t) = true := dT cj
   have ej : wrap64 ((j : Int) + 1) = ((j + 1 : Nat) : Int) := by have := H2.out; unfold wrap64; omega
   have EJ := aM ej
   have CJ := aM cj
   clear cj HA hjt ej
   by_cases g3_ : q5.length + s5.length < 1000000
   ·rw [if_pos g3_] at HA2
    have HLQ := aM g3_
    have HAN := aM HA2
    clear HA2 g3_
    go_wp2_with (first | ((with_reducible refine gC 36 rfl ?_); refine gL 26 Try.func36 #[.agg #[.int .i64 q0, .slice D1 q1.length p1, .slice D2 q2.length p2, .slice D3 q3.length p3]] ?_; (refine (spec_TickOn.callsW k q0 D1 p1 q1 D2 p2 q2 D3 p3 q3 s0 s1 s2 s3 s5 _ HQ.out.2.2.2.1 HQ.out.1 HQ.out.2.2.2.2.1 HQ.out.2.1 HQ.out.2.2.2.2.2 HQ.out.2.2.1 AT.out).mono ?_); rintro e wt_ ⟨z1, z2, z3, z4, PW2, PD2, rfl, hw_, hd_, _, hb⟩; obtain ⟨E1, n1, E2, n2, E3, n3, rfl, rfl, rfl, _, _, _, _⟩ := hw_.reads; obtain ⟨Am, cm, rfl⟩ := Kd.R_slice hd_; refine ⟨_, rfl, ?_⟩; have HWN := aM ((hw_.bound.mono (ok' := fun k_ => wr.heap.size ≤ k_) (fun k_ h_ => h_.2.1)).lower HB.out.size); have HM := aM (Kd.R_lower hd_ HB.out.size); clear hw_ hd_ HQ HWR; replace HD := zRB HD hb; have Zt := aM hb.size; replace BK2 := zBB BK2 hb; replace BK4 := zBB BK4 hb; replace BK6 := zBB BK6 hb;  replace HB := zLB HB.out hb; clear hb; (try clear hz2_); have hz2_ := zc4 BK2.out; (try clear hz4_); have hz4_ := zc4 BK4.out; (try clear hz6_); have hz6_ := zc4 BK6.out;) | ((with_reducible refine gD 9 rfl ?_); refine bE 9 #[.int .i64 0, .slice none 0 0, .slice none 0 0, .slice none 0 0] 25 ?_; intro g9 hg w9_ hbox hb; have GE9 := aM (zg HB.out hg : w.heap.size ≤ g9); have N2_9 := aM (zN BK2.out hg : g2 ≠ g9); have N4_9 := aM (zN BK4.out hg : g4 ≠ g9); have N6_9 := aM (zN BK6.out hg : g6 ≠ g9); have BK9 := aM hbox; clear hbox hg; replace HWN := aM (HWN.out.below hb); replace HM := zRB HM hb; replace HD := zRB HD hb; replace Zt := aM (Nat.le_trans Zt.out hb.size); replace BK2 := zBB BK2 hb; replace BK4 := zBB BK4 hb; replace BK6 := zBB BK6 hb;  replace HB := zLB HB.out hb; clear hb; (try clear hz2_); have hz2_ := zc4 BK2.out; (try clear hz4_); have hz4_ := zc4 BK4.out; (try clear hz6_); have hz6_ := zc4 BK6.out; have hz9_ := zc4 BK9.out;) | ((with_reducible refine gate_store (t := 25) (p := 9) rfl ?_); refine store_event (t := 25) (p := 9) (v := ?vo32_) (w1 := ((((w9_.setCell ⟨g9, 0, none⟩ (.int .i64 s0)).setCell ⟨g9, 1, none⟩ (.slice E1 s1.length n1)).setCell ⟨g9, 2, none⟩ (.slice E2 s2.length n2)).setCell ⟨g9, 3, none⟩ (.slice E3 s3.length n3))) ?hg ?ho ?hn ?hr ?_; (case ho => rfl); (case hg => rfl); (case hn => rfl); (case hr => (have hs0_ := (blk_cell BK9.out 0).trans rfl; have hf0_ := blk_frozen BK9.out 0; have hs1_ := (blk_cell BK9.out 1).trans rfl; have hf1_ := blk_frozen BK9.out 1; have hs2_ := (blk_cell BK9.out 2).trans rfl; have hf2_ := blk_frozen BK9.out 2; have hs3_ := (blk_cell BK9.out 3).trans rfl; have hf3_ := blk_frozen BK9.out 3;(try clear hz2_); have hz2_ := zc4 BK2.out; (try clear hz4_); have hz4_ := zc4 BK4.out; (try clear hz6_); have hz6_ := zc4 BK6.out; first | (go_simp; done) | (go_simp; rfl))); intro wa_ hw_; have HK_ := set4_kept hw_; have BKn := aM (set4_blk hw_ BK9.out rfl); have HBn := aM (set4_below hw_ HB.out GE9.out); replace HWN := aM (((HWN.out.types BK9.out (by decide) (by decide)).kept HK_ (fun _ h_ => h_.2)).mono (ok' := fun k_ => wr.heap.size ≤ k_) (fun _ h_ => h_.1)); replace HM := aM (Kd.R_mono (Kd.R_kept (Kd.R_types HM.out BK9.out (by decide)) HK_ (fun _ h_ => h_.2)) (fun _ h_ => h_.1)); replace HD := aM (Kd.R_mono (Kd.R_kept (Kd.R_types HD.out BK9.out (by decide)) HK_ (fun _ h_ => h_.2)) (fun _ h_ => h_.1)); replace Zt := aM (Nat.le_trans Zt.out HK_.1); replace BK2 := aM (blk_kept BK2.out HK_ (N2_9.out)); replace BK4 := aM (blk_kept BK4.out HK_ (N4_9.out)); replace BK6 := aM (blk_kept BK6.out HK_ (N6_9.out)); clear hw_ BK9 HB; have BK9 := BKn; have HB := HBn; clear BKn HBn HK_; (try clear hz2_); have hz2_ := zc4 BK2.out; (try clear hz4_); have hz4_ := zc4 BK4.out; (try clear hz6_); have hz6_ := zc4 BK6.out; (try clear hz9_); have hz9_ := zc4 BK9.out;) | ((with_reducible refine gate_store (t := 25) (p := 6) rfl ?_); refine store_event (t := 25) (p := 6) (v := ?vo33_) (w1 := ((((wa_.setCell ⟨g6, 0, none⟩ (.int .i64 s0)).setCell ⟨g6, 1, none⟩ (.slice E1 s1.length n1)).setCell ⟨g6, 2, none⟩ (.slice E2 s2.length n2)).setCell ⟨g6, 3, none⟩ (.slice E3 s3.length n3))) ?hg ?ho ?hn ?hr ?_; (case ho => rfl); (case hg => rfl); (case hn => rfl); (case hr => (have hs0_ := (blk_cell BK6.out 0).trans rfl; have hf0_ := blk_frozen BK6.out 0; have hs1_ := (blk_cell BK6.out 1).trans rfl; have hf1_ := blk_frozen BK6.out 1; have hs2_ := (blk_cell BK6.out 2).trans rfl; have hf2_ := blk_frozen BK6.out 2; have hs3_ := (blk_cell BK6.out 3).trans rfl; have hf3_ := blk_frozen BK6.out 3;(try clear hz2_); have hz2_ := zc4 BK2.out; (try clear hz4_); have hz4_ := zc4 BK4.out; have hz9q_ := zc4 BK9.out;  first | (go_simp; done) | (go_simp; rfl))); intro wb_ hw_; have HK_ := set4_kept hw_; have BKn := aM (set4_blk hw_ BK6.out rfl); have HBn := aM (set4_below hw_ HB.out GE6.out); replace HWN := aM (((HWN.out.types BK6.out (by decide) (by decide)).kept HK_ (fun _ h_ => h_.2)).mono (ok' := fun k_ => wr.heap.size ≤ k_ ∧ k_ ≠ g6) (fun _ h_ => h_)); replace HM := aM (Kd.R_mono (Kd.R_kept (Kd.R_types HM.out BK6.out (by decide)) HK_ (fun _ h_ => h_.2)) (fun _ h_ => h_.1)); replace HD := aM (Kd.R_mono (Kd.R_kept (Kd.R_types HD.out BK6.out (by decide)) HK_ (fun _ h_ => h_.2)) (fun _ h_ => h_.1)); replace Zt := aM (Nat.le_trans Zt.out HK_.1); replace BK2 := aM (blk_kept BK2.out HK_ (N2_6.out)); replace BK4 := aM (blk_kept BK4.out HK_ (N4_6.out)); replace BK9 := aM (blk_kept BK9.out HK_ (fun e_ => N6_9.out (Eq.symm e_))); clear hw_ BK6 HB; have BK6 := BKn; have HB := HBn; clear BKn HBn HK_; (try clear hz2_); have hz2_ := zc4 BK2.out; (try clear hz4_); have hz4_ := zc4 BK4.out; (try clear hz6_); have hz6_ := zc4 BK6.out;) | ((with_reducible refine gate_builtin (b := .append) (xs := #[.tmp 30, .tmp 31]) rfl ?_); at_builtin; refine Kd.R_append_rows k46 (w0 := w) w.heap.size rfl (.tmp 30) (.tmp 31) 23 46 (.agg #[(.int .i64 0), (.int .i64 0), (.int .i64 0)]) 24 rfl Try.underlying23 info46 rfl (by decide) (by omega) (.slice Ad q5.length cd) q5 s5 _ _ _ (fun k => PD k ∨ wb_.heap.size ≤ k) (fun _ => False) rfl rfl ?aO ?aR (fun _ _ h => h) (fun _ h => h.elim) ?aF ?aB ?aS ?aL ?_; (case aO => exact (Kd.R_mono HD.out (fun _ h_ => .inl h_))); (case aR => exact (Kd.R_reads' HM.out).2.2); (case aF => exact (fun _ h_ => .inr h_)); (case aB => exact HB.out); (case aS => exact HB.out.size); (case aL => (have h1_ := HLQ.out; omega)); intro vn wc_ ho hb hg hat; clear hat; have HKa := Kept.of_grown hg (Kept.refl wb_ PD) (fun k_ hk_ => .inl (HD.out.1 k_ hk_)); have hbw_ : ∀ k, ((wr.heap.size ≤ k ∧ k ≠ g6) ∧ k < wb_.heap.size) ∨ PD k ∨ False → n0 ≤ k ∧ k < wb_.heap.size ∧ k ≠ g6 := fun k_ h_ => (by have a_ := HN0.out; have b_ := HNW.out; have c_ := Zt.out; rcases h_ with h_ | h_ | h_; exact ⟨by omega, h_.2, h_.1.2⟩; exact ⟨(HBB.out k_ (.inr (.inl h_))).1, by have d_ := (HBB.out k_ (.inr (.inl h_))).2.1; omega, (HBB.out k_ (.inr (.inl h_))).2.2⟩; exact h_.elim); have HTn : Aside0 (TI s0 g6 n0 w.heap.size wc_ s1 s2 s3 (q5 ++ s5) vn [] (.slice none 0 0)) := aM (TI.due ⟨_, PD, fun _ => False, ⟨_, _, _, BK6.out, HWN.out.bound.mono (ok' := fun k => (wr.heap.size ≤ k ∧ k ≠ g6) ∧ k < wb_.heap.size) (fun _ h_ => ⟨h_.1, h_.2.2.1⟩)⟩, Kd.R_nil _ _ _ _ _, ⟨fun k_ h_ h2_ => (by have a_ := (HBB.out k_ (.inr (.inl h2_))).2.1; omega), fun _ _ h_ => h_, fun _ _ h_ => h_⟩, hbw_, ho, HKa⟩ (Nat.le_trans HN0.out (Nat.le_trans HNW.out Zt.out))); replace BK2 := aM (blk_kept BK2.out HKa (fun h_ => by have a_ := (HBB.out g2 (.inr (.inl h_))).1; have b_ := F2.out; omega)); replace BK4 := aM (blk_kept BK4.out HKa (fun h_ => by have a_ := (HBB.out g4 (.inr (.inl h_))).1; have b_ := F4.out; omega)); have HNN : Aside0 (w14_.heap.size ≤ wc_.heap.size) := ⟨Nat.le_trans (Nat.le_trans HNW.out Zt.out) HKa.1⟩; clear HB HD hbw_ HM HWN BK6 BK9; have HB := aM hb; clear ho hb hg HKa))
    go_roundg (t.toNat - (j + 1))
    case measure => have a_ := CJ.out; have b_ := HGK.out; omega
    case rel => exact ⟨j + 1, s0, s1, s2, s3, q5 ++ s5, by rw [← EJ.out], by have a_ := CJ.out; omega, Nat.le_refl _, HAN, HTn, BK2, BK4, HB, HNN⟩
   ·rw [if_neg g3_] at HA2
    exact absurd HA2 (by simp)
  ·have hje : t.toNat - j = 0 := by have := HJ.out; omega
   have HA2 := HA.out
   rw [hje] at HA2
   simp only [spec_Advance.l, Option.some.injEq, Prod.mk.injEq] at HA2
   obtain ⟨rfl, rfl, rfl, rfl, rfl⟩ := HA2
   have pj1 := eq_false cj
   have pj2 : decide ((j : Int) < t) = false := dF cj
   clear cj hje HA
   go_wp2_with (first | ((with_reducible refine gate_store (t := 25) (p := 4) rfl ?_); refine store_event (t := 25) (p := 4) (v := ?vo34_) (w1 := ((((wr.setCell ⟨g4, 0, none⟩ (.int .i64 q0)).setCell ⟨g4, 1, none⟩ (.slice D1 q1.length p1)).setCell ⟨g4, 2, none⟩ (.slice D2 q2.length p2)).setCell ⟨g4, 3, none⟩ (.slice D3 q3.length p3))) ?hg ?ho ?hn ?hr ?_; (case ho => rfl); (case hg => rfl); (case hn => rfl); (case hr => (have hs0_ := (blk_cell BK4.out 0).trans rfl; have hf0_ := blk_frozen BK4.out 0; have hs1_ := (blk_cell BK4.out 1).trans rfl; have hf1_ := blk_frozen BK4.out 1; have hs2_ := (blk_cell BK4.out 2).trans rfl; have hf2_ := blk_frozen BK4.out 2; have hs3_ := (blk_cell BK4.out 3).trans rfl; have hf3_ := blk_frozen BK4.out 3;(try clear hz2_); have hz2_ := zc4 BK2.out; (try clear hz6_); have hz6_ := zc4 BK6.out; first | (go_simp; done) | (go_simp; rfl))); intro wF hw_; have HK_ := set4_kept hw_; have BKn := aM (set4_blk hw_ BK4.out rfl); have HBn := aM (set4_below hw_ HB.out GE4.out); have HF := aM ((HWR.out.types BK4.out (by decide) (by decide)).kept HK_ (fun _ h_ => h_.2)); replace HD := aM (Kd.R_kept (Kd.R_types HD.out BK4.out (by decide)) HK_ (fun _ h_ => h_.2)); clear hw_ BK4 HB; have BK4 := BKn; have HB := HBn; clear BKn HBn HK_))
   refine bodyPost_ret (results_ct rfl _ _ g4 25 #[.int .i64 q0, .slice D1 q1.length p1, .slice D2 q2.length p2, .slice D3 q3.length p3] (0, 0) _ rfl (by exact BK4.out) Try.underlying25 rfl (by kernel_rfl)) rfl ?_
   exact ⟨_, _, _, _, _, _, rfl, HF.out, HD.out, fun k_ h_ h2_ => HXX.out k_ h_.1 h2_.1, HB.out⟩
theorem spec_Advance.callsW (k : Nat) (a : Int) (A1 : Option Addr) (c1 : Nat) (l1 : List (List S46)) (A2 : Option Addr) (c2 : Nat) (l2 : List (List S46)) (A3 : Option Addr) (c3 : Nat) (l3 : List S46) (t : Int) (r1 : Int) (r2 r3 : List (List S46)) (r4 r5 : List S46) (w : World) (hr1 : Kd.C (Kd.slice 46 k46) w A1 l1.length l1) (hc1 : l1.length ≤ c1) (hr2 : Kd.C (Kd.slice 46 k46) w A2 l2.length l2) (hc2 : l2.length ≤ c2) (hr3 : Kd.C k46 w A3 l3.length l3) (hc3 : l3.length ≤ c3) (h : spec_Advance.f k a l1 l2 l3 t = some (r1, r2, r3, r4, r5)) :
  Calls Try.prog 38 #[.agg #[.int .i64 a, .slice A1 l1.length c1, .slice A2 l2.length c2, .slice A3 l3.length c3], .int .i64 t] w fun e w' => ∃ (v1_ v2_ v3_ v4_ : Value) (PW PD : Nat → Prop), e = .returned (.tuple #[.agg #[.int .i64 r1, v1_, v2_, v3_], v4_]) ∧ WR w' w.heap.size PW v1_ v2_ v3_ r2 r3 r4 ∧ Kd.R k46 46 w' w.heap.size PD v4_ r5 ∧ (∀ k, PW k → ¬ PD k) ∧ Below w.heap.size w w' := by
 unfold spec_Advance.f at h
 obtain ⟨⟨y0, y1, y2, y3⟩, ⟨hac⟩, hh⟩ := zO h
 clear h
 have h := hh
 clear hh
 simp only at h
 by_cases ey : y0 = a
 ·rw [if_pos ey] at h
  subst ey
  obtain ⟨u, ⟨haw⟩, h⟩ := zO h
  cases u with
  | false =>
   rw [if_neg (by simp)] at h
   simp only [Option.some.injEq, Prod.mk.injEq] at h
   obtain ⟨rfl, rfl, rfl, rfl, rfl⟩ := h
   exact spec_Advance.stay k A1 c1 l1 A2 c2 l2 A3 c3 l3 y0 y1 y2 y3 t w hr1 hc1 hr2 hc2 hr3 hc3 hac haw
  | true =>
   rw [if_pos rfl] at h
   have hin : 0 ≤ t ∧ t ≤ 200 := by
    unfold spec_l1In.f at haw
    split at haw
    ·rename_i hc
     simp only [Option.some.injEq, decide_eq_true_eq] at haw
     exact ⟨hc, haw⟩
    ·exact absurd haw (by simp)
   exact spec_Advance.run k A1 c1 l1 A2 c2 l2 A3 c3 l3 y0 y1 y2 y3 t w hr1 hc1 hr2 hc2 hr3 hc3 hac haw hin.1 hin.2 r1 r2 r3 r4 r5 h
 ·rw [if_neg ey] at h
  exact absurd h (by simp)
theorem spec_Advance.calls (k : Nat) (a : Int) (A1 : Option Addr) (c1 : Nat) (l1 : List (List S46)) (A2 : Option Addr) (c2 : Nat) (l2 : List (List S46)) (A3 : Option Addr) (c3 : Nat) (l3 : List S46) (t : Int) (r1 : Int) (r2 r3 : List (List S46)) (r4 : List S46) (r5 : List S46) (w : World) (hr1 : Kd.C (Kd.slice 46 k46) w A1 l1.length l1) (hc1 : l1.length ≤ c1) (hr2 : Kd.C (Kd.slice 46 k46) w A2 l2.length l2) (hc2 : l2.length ≤ c2) (hr3 : Kd.C k46 w A3 l3.length l3) (hc3 : l3.length ≤ c3) (h : spec_Advance.f k a l1 l2 l3 t = some (r1, r2, r3, r4, r5)) :
  Calls Try.prog 38 #[.agg #[.int .i64 a, .slice A1 l1.length c1, .slice A2 l2.length c2, .slice A3 l3.length c3], .int .i64 t] w fun e w' => ∃ v1_ v2_ v3_ v4_ : Value, e = .returned (.tuple #[.agg #[.int .i64 r1, v1_, v2_, v3_], v4_]) ∧ Kd.S (Kd.slice 46 k46) 23 w' w.heap.size (fun k_ => some k_ ≠ (v2_ : Value).ownBlock ∧ some k_ ≠ (v3_ : Value).ownBlock ∧ some k_ ≠ (v4_ : Value).ownBlock) v1_ r2 ∧ Kd.S (Kd.slice 46 k46) 23 w' w.heap.size (fun k_ => some k_ ≠ (v1_ : Value).ownBlock ∧ some k_ ≠ (v3_ : Value).ownBlock ∧ some k_ ≠ (v4_ : Value).ownBlock) v2_ r3 ∧ Kd.R k46 46 w' w.heap.size (fun k_ => some k_ ≠ (v4_ : Value).ownBlock) v3_ r4 ∧ Kd.R k46 46 w' w.heap.size (fun k_ => some k_ ≠ (v3_ : Value).ownBlock) v4_ r5 ∧ Below w.heap.size w w' := by
 refine (spec_Advance.callsW k a A1 c1 l1 A2 c2 l2 A3 c3 l3 t r1 r2 r3 r4 r5 w hr1 hc1 hr2 hc2 hr3 hc3 h).mono ?_
 rintro e w' ⟨v1, v2, v3, v4, PW, PD, rfl, hw, hd, hx, hb⟩
 have o4 := hd.1
 obtain ⟨s1, s2, s3⟩ := hw.split
 have o3 := s3.1
 exact ⟨v1, v2, v3, v4, rfl, Kd.S_mono s1 (fun k_ h => ⟨h.2.1, h.2.2, fun e => hx k_ h.1 (o4 k_ e.symm)⟩), Kd.S_mono s2 (fun k_ h => ⟨h.2.1, h.2.2, fun e => hx k_ h.1 (o4 k_ e.symm)⟩), Kd.R_mono s3 (fun k_ h e => hx k_ h.1 (o4 k_ e.symm)), Kd.R_mono hd (fun k_ h e => hx k_ (o3 k_ e.symm).1 h), hb⟩

open Go.Proofs.YtggenhomnbnodaaW.PrintWords renaming blk_drewN → bN, blk_drew → bD, blk_alloc → bA, blk_cell → bC, blk_below → bB, below_set → bS
def IsS98 (w0 W : World) (g : Nat) (f0 : List Int) (f1 : Int) (f2 : Int) : Prop := ∃ A0 c0, W.heap[g]? = some (.cells #[.slice A0 f0.length c0, .int .i64 f1, .int .i64 f2] 98 (0, 0)) ∧ w0.heap.size ≤ g ∧ Kd.C (Kd.int .u8) w0 A0 f0.length f0
theorem IsS98.grown {w0 W : World} {g : Nat} {f0 : List Int} {f1 : Int} {f2 : Int} {W1 : World} {row : Option Nat} (h : IsS98 w0 W g f0 f1 f2) (hw : W.grownBy W1 row) (hne : some g ≠ row) : IsS98 w0 W1 g f0 f1 f2 := by
 obtain ⟨A0, c0, hb, hg, hr0⟩ := h
 exact ⟨A0, c0, blk_grown hb hw hne, hg, hr0⟩
theorem IsS98.own_neN {w0 W : World} {g : Nat} {f0 : List Int} {f1 : Int} {f2 : Int} {α : Type} {d : Kd α} {e : Nat} {base : Nat} {ok : Nat → Prop} {v : Value} {xs : List α} (h : IsS98 w0 W g f0 f1 f2) (ho : Kd.N d e W base ok v xs) (ht : e ≠ 98) : some g ≠ v.ownBlock := by
 obtain ⟨A0, c0, hb, hg, hr0⟩ := h
 exact Kd.N_ne ho hb ht
theorem IsS98.fresh {w0 W : World} {g : Nat} {f0 : List Int} {f1 : Int} {f2 : Int} (h : IsS98 w0 W g f0 f1 f2) : ∀ k, W.heap.size ≤ k → k ≠ g := by
 obtain ⟨A0, c0, hb, hg, hr0⟩ := h
 exact Kd.freshB hb
theorem IsS98.kept {w0 W : World} {g : Nat} {f0 : List Int} {f1 : Int} {f2 : Int} {W1 : World} {S : Nat → Prop} (h : IsS98 w0 W g f0 f1 f2) (hk : Kept W W1 S) (hne : ¬ S g) : IsS98 w0 W1 g f0 f1 f2 := by
 obtain ⟨A0, c0, hb, hg, hr0⟩ := h
 exact ⟨A0, c0, blk_kept hb hk hne, hg, hr0⟩
theorem IsS98.below {w0 W : World} {g : Nat} {f0 : List Int} {f1 : Int} {f2 : Int} {W1 : World} (h : IsS98 w0 W g f0 f1 f2) (hw : Below W.heap.size W W1) : IsS98 w0 W1 g f0 f1 f2 := h.grown (grown_of_below hw none) (by simp)
theorem IsS98.alloc {w0 W : World} {g : Nat} {f0 : List Int} {f1 : Int} {f2 : Int} (h : IsS98 w0 W g f0 f1 f2) (o : Obj) : IsS98 w0 (W.alloc o) g f0 f1 f2 := h.below (below_alloc (Below.refl _ _) o)
theorem IsS98.drewN {w0 W : World} {g : Nat} {f0 : List Int} {f1 : Int} {f2 : Int} (h : IsS98 w0 W g f0 f1 f2) (m : Nat) : IsS98 w0 (W.drewN m) g f0 f1 f2 := h
theorem IsS98.drew {w0 W : World} {g : Nat} {f0 : List Int} {f1 : Int} {f2 : Int} (h : IsS98 w0 W g f0 f1 f2) : IsS98 w0 W.drew g f0 f1 f2 := h
theorem IsS98.apart {w0 W : World} {g : Nat} {f0 : List Int} {f1 : Int} {f2 : Int} {α : Type} {d : Kd α} {e : Nat} {base : Nat} {ok : Nat → Prop} {v : Value} {xs : List α} (h : IsS98 w0 W g f0 f1 f2) (ho : d.R e W base ok v xs) (ht : ∀ q, q ∈ e :: d.E → q ≠ 98) : d.R e W base (fun k => ok k ∧ k ≠ g) v xs := by
 obtain ⟨A0, c0, hb, hg, hr0⟩ := h
 exact Kd.R_types ho hb ht
theorem IsS98.own_ne {w0 W : World} {g : Nat} {f0 : List Int} {f1 : Int} {f2 : Int} {α : Type} {d : Kd α} {e : Nat} {base : Nat} {ok : Nat → Prop} {v : Value} {xs : List α} (h : IsS98 w0 W g f0 f1 f2) (ho : d.R e W base ok v xs) (ht : e ≠ 98) : some g ≠ v.ownBlock := by
 obtain ⟨A0, c0, hb, hg, hr0⟩ := h
 exact Kd.R_ne ho hb ht
theorem IsS98.apartS {w0 W : World} {g : Nat} {f0 : List Int} {f1 : Int} {f2 : Int} {α : Type} {d : Kd α} {e : Nat} {base : Nat} {ok : Nat → Prop} {v : Value} {xs : List α} (h : IsS98 w0 W g f0 f1 f2) (ho : d.S e W base ok v xs) (ht : ∀ q, q ∈ e :: d.E → q ≠ 98) : d.S e W base (fun k => ok k ∧ k ≠ g) v xs := by
 obtain ⟨A0, c0, hb, hg, hr0⟩ := h
 exact Kd.S_types ho hb ht
theorem IsS98.lt {w0 W : World} {g : Nat} {f0 : List Int} {f1 : Int} {f2 : Int} (h : IsS98 w0 W g f0 f1 f2) : g < W.heap.size := by
 obtain ⟨A0, c0, hb, hg, hr0⟩ := h
 exact blk_lt hb
theorem IsS98.ge {w0 W : World} {g : Nat} {f0 : List Int} {f1 : Int} {f2 : Int} (h : IsS98 w0 W g f0 f1 f2) : w0.heap.size ≤ g := by
 obtain ⟨A0, c0, hb, hg, hr0⟩ := h
 exact hg
theorem IsS98.ne_blk {w0 W : World} {g : Nat} {f0 : List Int} {f1 : Int} {f2 : Int} {a : Nat} {cs : Array Value} {t : TypeId} {fr : Nat × Nat} (h : IsS98 w0 W g f0 f1 f2) (hb2 : W.heap[a]? = some (.cells cs t fr)) (ht : t ≠ 98) : g ≠ a := by
 obtain ⟨A0, c0, hb, hg, hr0⟩ := h
 rintro rfl
 rw [hb] at hb2
 injection hb2 with hb2
 injection hb2 with _ ht2
 exact ht ht2.symm
theorem IsS98.far {w0 W : World} {g : Nat} {f0 : List Int} {f1 : Int} {f2 : Int} {p : Addr} (h : IsS98 w0 W g f0 f1 f2) (hne : g ≠ p.block) (u : Value) : IsS98 w0 (W.setCell p u) g f0 f1 f2 := by
 obtain ⟨A0, c0, hb, hg, hr0⟩ := h
 exact ⟨A0, c0, blk_far hb hne u, hg, hr0⟩
theorem cellS98_0 {W : World} {g : Nat} {A0 : Option Addr} {c0 : Nat} {f0 : List Int} {f1 : Int} {f2 : Int} (h : W.heap[g]? = some (.cells #[.slice A0 f0.length c0, .int .i64 f1, .int .i64 f2] 98 (0, 0))) : W.cell? ⟨g, 0, none⟩ = some (.slice A0 f0.length c0) := (bC h 0).trans rfl
theorem cellS98_1 {W : World} {g : Nat} {A0 : Option Addr} {c0 : Nat} {f0 : List Int} {f1 : Int} {f2 : Int} (h : W.heap[g]? = some (.cells #[.slice A0 f0.length c0, .int .i64 f1, .int .i64 f2] 98 (0, 0))) : W.cell? ⟨g, 1, none⟩ = some (.int .i64 f1) := (bC h 1).trans rfl
theorem IsS98.set_1 {w0 W : World} {g : Nat} {f0 : List Int} {f1 : Int} {f2 : Int} (h : IsS98 w0 W g f0 f1 f2) (x : Int) : IsS98 w0 (W.setCell ⟨g, 1, none⟩ (.int .i64 x)) g f0 x f2 := by
 obtain ⟨A0, c0, hb, hg, hr0⟩ := h
 exact ⟨A0, c0, by simpa using blk_set hb 1 (.int .i64 x), hg, hr0⟩
theorem cellS98_2 {W : World} {g : Nat} {A0 : Option Addr} {c0 : Nat} {f0 : List Int} {f1 : Int} {f2 : Int} (h : W.heap[g]? = some (.cells #[.slice A0 f0.length c0, .int .i64 f1, .int .i64 f2] 98 (0, 0))) : W.cell? ⟨g, 2, none⟩ = some (.int .i64 f2) := (bC h 2).trans rfl
theorem IsS98.set_2 {w0 W : World} {g : Nat} {f0 : List Int} {f1 : Int} {f2 : Int} (h : IsS98 w0 W g f0 f1 f2) (x : Int) : IsS98 w0 (W.setCell ⟨g, 2, none⟩ (.int .i64 x)) g f0 f1 x := by
 obtain ⟨A0, c0, hb, hg, hr0⟩ := h
 exact ⟨A0, c0, by simpa using blk_set hb 2 (.int .i64 x), hg, hr0⟩
theorem IsS98.new (w0 W : World) (A0 : Option Addr) (c0 : Nat) (f0 : List Int) (f1 : Int) (f2 : Int) (hB : Below w0.heap.size w0 W) (hr0 : Kd.C (Kd.int .u8) w0 A0 f0.length f0) : IsS98 w0 (W.alloc (.cells #[.slice A0 f0.length c0, .int .i64 f1, .int .i64 f2] 98)) W.heap.size f0 f1 f2 := ⟨A0, c0, by simpa using heap_alloc_new W _, hB.size, hr0⟩

def spec_l1New.l0 : Nat → List Int → Int → Int → Option (List Int × Int × Int)
 | 0, _, _, _ => none
 | k + 1, x0, x3, x4 => if x4 < (x0.length : Int) then (if x4 < 4000 then (if 0 ≤ x4 then (spec_l1New.l0 k x0 (Go.bits .and .i64 (wrap64 ((wrap64 ((wrap64 (x3 * 137)) + (wrap64 (rd x0 x4)))) + 11)) 1073741823) (wrap64 (x4 + 1))) else (none)) else (some (x0, 0, x3))) else (some (x0, 0, x3))
def spec_l1New.f (k : Nat) (l0 : List Int) : Option (List Int × Int × Int) := spec_l1New.l0 k l0 (wrap64 (140371 + (l0.length : Int))) 0
set_option maxHeartbeats 8000000 in
set_option maxRecDepth 100000 in
theorem spec_l1New.calls (k : Nat) (A0 : Option Addr) (c0 : Nat) (l0 : List Int) (r1 : List Int) (r2 : Int) (r3 : Int) (w0 w : World) (hB : Below w0.heap.size w0 w) (hr0 : Kd.C (Kd.int .u8) w0 A0 l0.length l0) (hc0 : l0.length ≤ c0) (h : spec_l1New.f k l0 = some (r1, r2, r3)) :
  Calls Try.prog 80 #[.slice A0 l0.length c0] w fun e w' => ∃ g_ : Nat, e = .returned (.pointer (some ⟨g_, 0, none⟩)) ∧ IsS98 w0 w' g_ r1 r2 r3 ∧ Below w0.heap.size w0 w' ∧ Below w.heap.size w w' := by
 have hu98 := Try.underlying98
 have HR0 := aM hr0
 have HC0 := aM hc0
 clear hr0 hc0
 have HBW := aM (Below.refl w.heap.size w)
 have HW0 := aM hB.size
 have HB := aM hB
 clear hB
 unfold spec_l1New.f at h; have H := h
 clear h
 have H' := aM H
 clear H
 go_enter Try.func80, Try.ntmps80
 go_wp2
 go_loopg [3, 4] k (fun kq v3 v4 w' => ∃ (x3_1 : Int) (x4_1 : Int), v3 = .int .i64 x3_1 ∧ v4 = .int .i64 x4_1 ∧ Aside0 (spec_l1New.l0 kq l0 x3_1 x4_1 = some (r1, r2, r3)) ∧ Aside0 (kq ≤ k) ∧ Aside0 (Below w0.heap.size w0 w') ∧ Aside0 (Below w.heap.size w w'))
 case atStart => exact ⟨(wrap64 (140371 + (l0.length : Int))), (0), zV, zV, H', ⟨Nat.le_refl _⟩, ⟨zL HB.out⟩, ⟨zL HBW.out⟩⟩
 case round =>
  clear H'
  obtain ⟨x3_1, x4_1, rfl, rfl, HA, HK1, HB, HBW⟩ := hrel
  cases gk with
  | zero => exact absurd HA.out (by simp [spec_l1New.l0])
  | succ k1 =>
   have H := HA.out
   clear HA
   simp only [spec_l1New.l0] at H
   by_cases c2 : x4_1 < (l0.length : Int)
   ·rw [if_pos c2] at H
    have c2b0 := dT c2
    clear c2
    by_cases c3 : x4_1 < 4000
    ·rw [if_pos c3] at H
     have c3b0 := dT c3
     clear c3
     by_cases c4 : 0 ≤ x4_1
     ·rw [if_pos c4] at H
      have c4b0 := dT c4
      clear c4
      have H' := aM H
      clear H
      have p280 : 0 ≤ (x4_1 : Int) := zD
      have q280 : x4_1 < (l0.length : Int) := zD
      obtain ⟨ad280, e280, hx280_0⟩ := Kd.at_int HR0.out x4_1 p280 q280
      cases e280
      replace hx280_0 := pw_cell_below HB.out hx280_0
      replace p280 := eq_true p280
      replace q280 := eq_true q280
      go_wp2
      go_roundg k1
      case measure => have := HK1.out; omega
      case rel => exact ⟨(Go.bits .and .i64 (wrap64 ((wrap64 ((wrap64 (x3_1 * 137)) + (wrap64 (rd l0 x4_1)))) + 11)) 1073741823), (wrap64 (x4_1 + 1)), zV, zV, H', ⟨by have := HK1.out; omega⟩, ⟨zL HB.out⟩, ⟨zL HBW.out⟩⟩
     ·rw [if_neg c4] at H
      exact absurd H (by simp)
    ·rw [if_neg c3] at H
     have c3b0 := dF c3
     clear c3
     simp only [Option.some.injEq, Prod.mk.injEq] at H
     obtain ⟨rfl, rfl, rfl⟩ := H
     go_wp2
     go_ret
     exact ⟨_, rfl, IsS98.new w0 wr A0 c0 l0 0 x3_1 HB.out HR0.out, below_alloc HB.out _, below_alloc HBW.out _⟩
   ·rw [if_neg c2] at H
    have c2b0 := dF c2
    clear c2
    simp only [Option.some.injEq, Prod.mk.injEq] at H
    obtain ⟨rfl, rfl, rfl⟩ := H
    go_wp2
    go_ret
    exact ⟨_, rfl, IsS98.new w0 wr A0 c0 l0 0 x3_1 HB.out HR0.out, below_alloc HB.out _, below_alloc HBW.out _⟩

open Go.Proofs.YtggenhomnbnodaaW.PrintWords renaming blk_drewN → bN, blk_drew → bD, blk_alloc → bA, blk_cell → bC, blk_below → bB, below_set → bS
def spec_l1Byte.f (s0_0 : List Int) (s0_1 : Int) (s0_2 : Int) : Option (Int × Int × Int) := if s0_1 < (s0_0.length : Int) then (if 0 ≤ s0_1 then (some (Go.bits .and .i64 (wrap64 ((Go.bits .and .i64 (Go.bits .xor .i64 ((wrap64 ((wrap64 (s0_2 * 6364136223846793005)) + 1442695040888963407)) / 8589934592) ((wrap64 ((wrap64 (s0_2 * 6364136223846793005)) + 1442695040888963407)) / 140737488355328)) 255) + (wrap64 (rd s0_0 s0_1)))) 255, wrap64 (s0_1 + 1), wrap64 ((wrap64 (s0_2 * 6364136223846793005)) + 1442695040888963407))) else (none)) else (some (Go.bits .and .i64 (Go.bits .xor .i64 ((wrap64 ((wrap64 (s0_2 * 6364136223846793005)) + 1442695040888963407)) / 8589934592) ((wrap64 ((wrap64 (s0_2 * 6364136223846793005)) + 1442695040888963407)) / 140737488355328)) 255, s0_1, wrap64 ((wrap64 (s0_2 * 6364136223846793005)) + 1442695040888963407)))
set_option maxHeartbeats 8000000 in
set_option maxRecDepth 100000 in
theorem spec_l1Byte.calls (g : Nat) (s0_0 : List Int) (s0_1 : Int) (s0_2 : Int) (r1 : Int) (r2 : Int) (r3 : Int) (w0 w : World) (hI : IsS98 w0 w g s0_0 s0_1 s0_2) (hB : Below w0.heap.size w0 w) (h : spec_l1Byte.f s0_0 s0_1 s0_2 = some (r1, r2, r3)) :
  Calls Try.prog 95 #[.pointer (some ⟨g, 0, none⟩)] w fun e w' => e = .returned (.int .i64 r1) ∧ IsS98 w0 w' g s0_0 r2 r3 ∧ Below w0.heap.size w0 w' ∧ KeepBut w w' g none := by
 have HI0 := aM hI
 have HK := aM (KeepBut.refl w g none)
 have HL := aM hB.size
 clear hI
 have HW0 := aM hB.size
 have HB := aM hB
 clear hB
 unfold spec_l1Byte.f at h; have H := h
 clear h
 by_cases c2 : s0_1 < (s0_0.length : Int)
 ·rw [if_pos c2] at H
  have c2b0 := dT c2
  clear c2
  by_cases c3 : 0 ≤ s0_1
  ·rw [if_pos c3] at H
   have c3b0 := dT c3
   clear c3
   simp only [Option.some.injEq, Prod.mk.injEq] at H
   obtain ⟨rfl, rfl, rfl⟩ := H
   obtain ⟨ASz4_0, cSz4_0, HGz4, hgz4, HSz4_0⟩ := HI0.out
   have hcz4_0 := cellS98_0 HGz4
   have hcz4_1 := cellS98_1 HGz4
   have hcz4_2 := cellS98_2 HGz4
   have hfz4_1 := blk_frozen HGz4 1
   have hfz4_2 := blk_frozen HGz4 2
   clear HGz4 hgz4
   have p283 : 0 ≤ (s0_1 : Int) := zD
   have q283 : s0_1 < (s0_0.length : Int) := zD
   obtain ⟨ad283, e283, hx283_0⟩ := Kd.at_int HSz4_0 s0_1 p283 q283
   cases e283
   have hn283_0 : ad283.block ≠ g := Nat.ne_of_lt (Nat.lt_of_lt_of_le (by have := World.block_lt_of_cell? _ _ hx283_0; first | rwa [add_block] at this | exact this) (IsS98.ge HI0.out))
   replace hx283_0 := pw_cell_below HB.out hx283_0
   replace hx283_0 := (cell_far (p := ⟨g, 2, none⟩) (by first | (rw [add_block]; exact hn283_0) | (show (Addr.add _ _).block ≠ _; rw [add_block]; exact hn283_0) | exact hn283_0) (.int .i64 (wrap64 ((wrap64 (s0_2 * 6364136223846793005)) + 1442695040888963407)))).trans hx283_0
   (try have hy283_0 := fun (n_ : Nat) => (show (((w.drewN n_).setCell ⟨g, 2, none⟩ (.int .i64 (wrap64 ((wrap64 (s0_2 * 6364136223846793005)) + 1442695040888963407))))).cell? _ = some _ from hx283_0))
   clear hn283_0
   replace p283 := eq_true p283
   replace q283 := eq_true q283
   go_enter Try.func95, Try.ntmps95
   go_wp2
   repeat (go_quiet (fail); try go_wp2)
   go_ret
   exact ⟨zW, zI HI0.out, zL1 HB.out (IsS98.ge HI0.out), zK HK.out⟩
  ·rw [if_neg c3] at H
   exact absurd H (by simp)
 ·rw [if_neg c2] at H
  have c2b0 := dF c2
  clear c2
  simp only [Option.some.injEq, Prod.mk.injEq] at H
  obtain ⟨rfl, rfl, rfl⟩ := H
  obtain ⟨ASz5_0, cSz5_0, HGz5, hgz5, HSz5_0⟩ := HI0.out
  have hcz5_0 := cellS98_0 HGz5
  have hcz5_1 := cellS98_1 HGz5
  have hcz5_2 := cellS98_2 HGz5
  have hfz5_1 := blk_frozen HGz5 1
  have hfz5_2 := blk_frozen HGz5 2
  clear HGz5 hgz5
  go_enter Try.func95, Try.ntmps95
  go_wp2
  repeat (go_quiet (fail); try go_wp2)
  go_ret
  exact ⟨zW, zI HI0.out, zL1 HB.out (IsS98.ge HI0.out), zK HK.out⟩

open Go.Proofs.YtggenhomnbnodaaW.PrintWords renaming blk_drewN → bN, blk_drew → bD, blk_alloc → bA, blk_cell → bC, blk_below → bB, below_set → bS
def spec_l1Below.f (s0_0 : List Int) (s0_1 : Int) (s0_2 : Int) (a1 : Int) : Option (Int × Int × Int) := if a1 ≤ 0 then (some (0, s0_1, s0_2)) else (if a1 ≤ 256 then ((spec_l1Byte.f s0_0 s0_1 s0_2).bind fun bt284 => (if a1 = 0 then (none) else (some (Int.tmod bt284.1 a1, bt284.2.1, bt284.2.2)))) else ((spec_l1Byte.f s0_0 s0_1 s0_2).bind fun bt287 => ((spec_l1Byte.f s0_0 bt287.2.1 bt287.2.2).bind fun bt290 => ((spec_l1Byte.f s0_0 bt290.2.1 bt290.2.2).bind fun bt293 => (if a1 = 0 then (none) else (some (Int.tmod (wrap64 ((wrap64 ((wrap64 (bt287.1 * 65536)) + (wrap64 (bt290.1 * 256)))) + bt293.1)) a1, bt293.2.1, bt293.2.2)))))))
set_option maxHeartbeats 8000000 in
set_option maxRecDepth 100000 in
theorem spec_l1Below.calls (g : Nat) (s0_0 : List Int) (s0_1 : Int) (s0_2 : Int) (a1 : Int) (r1 : Int) (r2 : Int) (r3 : Int) (w0 w : World) (hI : IsS98 w0 w g s0_0 s0_1 s0_2) (hB : Below w0.heap.size w0 w) (h : spec_l1Below.f s0_0 s0_1 s0_2 a1 = some (r1, r2, r3)) :
  Calls Try.prog 83 #[.pointer (some ⟨g, 0, none⟩), .int .i64 a1] w fun e w' => e = .returned (.int .i64 r1) ∧ IsS98 w0 w' g s0_0 r2 r3 ∧ Below w0.heap.size w0 w' ∧ KeepBut w w' g none := by
 have HI0 := aM hI
 have HK := aM (KeepBut.refl w g none)
 have HL := aM hB.size
 clear hI
 have HW0 := aM hB.size
 have HB := aM hB
 clear hB
 unfold spec_l1Below.f at h; have H := h
 clear h
 by_cases c3 : a1 ≤ 0
 ·rw [if_pos c3] at H
  have c3b0 := dT c3
  clear c3
  simp only [Option.some.injEq, Prod.mk.injEq] at H
  obtain ⟨rfl, rfl, rfl⟩ := H
  go_enter Try.func83, Try.ntmps83
  go_wp2
  go_ret
  exact ⟨zW, zI HI0.out, zL1 HB.out (IsS98.ge HI0.out), zK HK.out⟩
 ·rw [if_neg c3] at H
  have c3b0 := dF c3
  clear c3
  by_cases c4 : a1 ≤ 256
  ·rw [if_pos c4] at H
   have c4b0 := dT c4
   clear c4
   obtain ⟨⟨t284, t285, t286⟩, A5, H⟩ := zO H; try dsimp only at H
   by_cases c6 : a1 = 0
   ·rw [if_pos c6] at H
    exact absurd H (by simp)
   ·rw [if_neg c6] at H
    obtain ⟨c6b0, c6b1⟩ := zf c6
    simp only [Option.some.injEq, Prod.mk.injEq] at H
    obtain ⟨rfl, rfl, rfl⟩ := H
    go_enter Try.func83, Try.ntmps83
    go_wp2_with (first | ((with_reducible refine gC 95 rfl ?_); refine gL 13 Try.func95 #[.pointer (some ⟨g, 0, none⟩)] ?_; (with_reducible refine (spec_l1Byte.calls g s0_0 s0_1 s0_2 t284 t285 t286 w0 _ ?side1 ?side2 A5.out).mono ?_); (case side1 => exact zI HI0.out); (case side2 => exact zL1 HB.out (IsS98.ge HI0.out)); rintro e w7 ⟨rfl, hi, hb, hk⟩; refine ⟨_, rfl, ?_⟩; replace HK := zKK (zK HK.out) hk; replace HB := aM hb; replace HI0 := aM hi; clear hi hb hk))
    go_ret
    exact ⟨zW, zI HI0.out, zL1 HB.out (IsS98.ge HI0.out), zK HK.out⟩
  ·rw [if_neg c4] at H
   have c4b0 := dF c4
   clear c4
   obtain ⟨⟨t287, t288, t289⟩, A8, H⟩ := zO H; try dsimp only at H
   obtain ⟨⟨t290, t291, t292⟩, A9, H⟩ := zO H; try dsimp only at H
   obtain ⟨⟨t293, t294, t295⟩, A10, H⟩ := zO H; try dsimp only at H
   by_cases c11 : a1 = 0
   ·rw [if_pos c11] at H
    exact absurd H (by simp)
   ·rw [if_neg c11] at H
    obtain ⟨c11b0, c11b1⟩ := zf c11
    simp only [Option.some.injEq, Prod.mk.injEq] at H
    obtain ⟨rfl, rfl, rfl⟩ := H
    go_enter Try.func83, Try.ntmps83
    go_wp2_with (first | ((with_reducible refine gC 95 rfl ?_); refine gL 17 Try.func95 #[.pointer (some ⟨g, 0, none⟩)] ?_; (with_reducible refine (spec_l1Byte.calls g s0_0 s0_1 s0_2 t287 t288 t289 w0 _ ?side1 ?side2 A8.out).mono ?_); (case side1 => exact zI HI0.out); (case side2 => exact zL1 HB.out (IsS98.ge HI0.out)); rintro e w12 ⟨rfl, hi, hb, hk⟩; refine ⟨_, rfl, ?_⟩; replace HK := zKK (zK HK.out) hk; replace HB := aM hb; replace HI0 := aM hi; clear hi hb hk) | ((with_reducible refine gC 95 rfl ?_); refine gL 19 Try.func95 #[.pointer (some ⟨g, 0, none⟩)] ?_; (with_reducible refine (spec_l1Byte.calls g s0_0 t288 t289 t290 t291 t292 w0 _ ?side1 ?side2 A9.out).mono ?_); (case side1 => exact zI HI0.out); (case side2 => exact zL1 HB.out (IsS98.ge HI0.out)); rintro e w13 ⟨rfl, hi, hb, hk⟩; refine ⟨_, rfl, ?_⟩; replace HK := zKK (zK HK.out) hk; replace HB := aM hb; replace HI0 := aM hi; clear hi hb hk) | ((with_reducible refine gC 95 rfl ?_); refine gL 21 Try.func95 #[.pointer (some ⟨g, 0, none⟩)] ?_; (with_reducible refine (spec_l1Byte.calls g s0_0 t291 t292 t293 t294 t295 w0 _ ?side1 ?side2 A10.out).mono ?_); (case side1 => exact zI HI0.out); (case side2 => exact zL1 HB.out (IsS98.ge HI0.out)); rintro e w14 ⟨rfl, hi, hb, hk⟩; refine ⟨_, rfl, ?_⟩; replace HK := zKK (zK HK.out) hk; replace HB := aM hb; replace HI0 := aM hi; clear hi hb hk))
    go_ret
    exact ⟨zW, zI HI0.out, zL1 HB.out (IsS98.ge HI0.out), zK HK.out⟩

open Go.Proofs.YtggenhomnbnodaaW.PrintWords renaming blk_drewN → bN, blk_drew → bD, blk_alloc → bA, blk_cell → bC, blk_below → bB, below_set → bS
def spec_l1Int.f (s0_0 : List Int) (s0_1 : Int) (s0_2 : Int) (l1 : List Int) : Option (Int × Int × Int) := (spec_l1Below.f s0_0 s0_1 s0_2 (l1.length : Int)).bind fun bt296 => (if 0 ≤ bt296.1 then (if bt296.1 < (l1.length : Int) then (some (rd l1 bt296.1, bt296.2.1, bt296.2.2)) else (none)) else (none))
set_option maxHeartbeats 8000000 in
set_option maxRecDepth 100000 in
theorem spec_l1Int.calls (g : Nat) (s0_0 : List Int) (s0_1 : Int) (s0_2 : Int) (A1 : Option Addr) (c1 : Nat) (l1 : List Int) (r1 : Int) (r2 : Int) (r3 : Int) (w0 w : World) (hI : IsS98 w0 w g s0_0 s0_1 s0_2) (hB : Below w0.heap.size w0 w) (hr1 : Kd.C (Kd.int .i64) w A1 l1.length l1) (hc1 : l1.length ≤ c1) (hf1 : ∀ ad, A1 = some ad → 0 < l1.length → ad.block ≠ g) (h : spec_l1Int.f s0_0 s0_1 s0_2 l1 = some (r1, r2, r3)) :
  Calls Try.prog 85 #[.pointer (some ⟨g, 0, none⟩), .slice A1 l1.length c1] w fun e w' => e = .returned (.int .i64 r1) ∧ IsS98 w0 w' g s0_0 r2 r3 ∧ Below w0.heap.size w0 w' ∧ KeepBut w w' g none := by
 have HR1 := aM hr1
 have HC1 := aM hc1
 clear hr1 hc1
 have HI0 := aM hI
 have HK := aM (KeepBut.refl w g none)
 have HL := aM hB.size
 clear hI
 have HW0 := aM hB.size
 have HB := aM hB
 clear hB
 unfold spec_l1Int.f at h; have H := h
 clear h
 obtain ⟨⟨t296, t297, t298⟩, A3, H⟩ := zO H; try dsimp only at H
 by_cases c4 : 0 ≤ t296
 ·rw [if_pos c4] at H
  have c4b0 := dT c4
  clear c4
  by_cases c5 : t296 < (l1.length : Int)
  ·rw [if_pos c5] at H
   have c5b0 := dT c5
   clear c5
   simp only [Option.some.injEq, Prod.mk.injEq] at H
   obtain ⟨rfl, rfl, rfl⟩ := H
   go_enter Try.func85, Try.ntmps85
   go_wp2_with (first | ((with_reducible refine gC 83 rfl ?_); refine gL 9 Try.func83 #[.pointer (some ⟨g, 0, none⟩), .int .i64 (l1.length : Int)] ?_; (with_reducible refine (spec_l1Below.calls g s0_0 s0_1 s0_2 (l1.length : Int) t296 t297 t298 w0 _ ?side1 ?side2 A3.out).mono ?_); (case side1 => exact zI HI0.out); (case side2 => exact zL1 HB.out (IsS98.ge HI0.out)); rintro e w6 ⟨rfl, hi, hb, hk⟩; refine ⟨_, rfl, ?_⟩; replace HK := zKK (zK HK.out) hk; replace HB := aM hb; replace HI0 := aM hi; clear hi hb hk; have p299 : 0 ≤ (t296 : Int) := zD; have q299 : t296 < (l1.length : Int) := zD; obtain ⟨ad299, e299, hx299_0⟩ := Kd.at_int HR1.out t296 p299 q299; cases e299; replace hx299_0 := keep_cell HK.out hx299_0 (by first | (rw [add_block]; exact hf1 _ rfl (by omega)) | exact hf1 _ rfl (by omega) | exact hf1 ad299 rfl (by omega)); replace p299 := eq_true p299; replace q299 := eq_true q299))
   go_ret
   exact ⟨zW, zI HI0.out, zL1 HB.out (IsS98.ge HI0.out), zK HK.out⟩
  ·rw [if_neg c5] at H
   exact absurd H (by simp)
 ·rw [if_neg c4] at H
  exact absurd H (by simp)

open Go.Proofs.YtggenhomnbnodaaW.PrintWords renaming blk_drewN → bN, blk_drew → bD, blk_alloc → bA, blk_cell → bC, blk_below → bB, below_set → bS
def spec_l8Timer.f (s0_0 : List Int) (s0_1 : Int) (s0_2 : Int) (a1 : Int) (a2 : Int) : Option (Int × Int × Int × Int × Int) := (spec_l1Below.f s0_0 s0_1 s0_2 5).bind fun bt301 => ((spec_l1Int.f s0_0 bt301.2.1 bt301.2.2 (([0, 1, 3, 6, 7, 8, 20, 55, 63, 64, 70, 200] : List Int))).bind fun bt307 => (some (a2, wrap64 (1 + bt301.1), wrap64 ((wrap64 (a1 + 1)) + bt307.1), bt307.2.1, bt307.2.2)))
set_option maxHeartbeats 8000000 in
set_option maxRecDepth 100000 in
theorem spec_l8Timer.calls (g : Nat) (s0_0 : List Int) (s0_1 : Int) (s0_2 : Int) (a1 : Int) (a2 : Int) (r1 : Int) (r2 : Int) (r3 : Int) (r4 : Int) (r5 : Int) (w0 w : World) (hI : IsS98 w0 w g s0_0 s0_1 s0_2) (hB : Below w0.heap.size w0 w) (h : spec_l8Timer.f s0_0 s0_1 s0_2 a1 a2 = some (r1, r2, r3, r4, r5)) :
  Calls Try.prog 82 #[.pointer (some ⟨g, 0, none⟩), .int .i64 a1, .int .i64 a2] w fun e w' => e = .returned (.agg #[.int .i64 r1, .int .i64 r2, .int .i64 r3]) ∧ IsS98 w0 w' g s0_0 r4 r5 ∧ Below w0.heap.size w0 w' ∧ KeepBut w w' g none := by
 have hu46 := Try.underlying46
 have HI0 := aM hI
 have HK := aM (KeepBut.refl w g none)
 have HL := aM hB.size
 clear hI
 have HW0 := aM hB.size
 have HB := aM hB
 clear hB
 unfold spec_l8Timer.f at h; have H := h
 clear h
 obtain ⟨⟨t301, t302, t303⟩, A4, H⟩ := zO H; try dsimp only at H
 generalize hy304 : (([0, 1, 3, 6, 7, 8, 20, 55, 63, 64, 70, 200] : List Int)) = y304 at H; (try rw [Option.bind_some] at H); have Ny304 := aM hy304.symm; clear hy304
 obtain ⟨⟨t307, t308, t309⟩, A5, H⟩ := zO H; try dsimp only at H
 simp only [Option.some.injEq, Prod.mk.injEq] at H
 obtain ⟨rfl, rfl, rfl, rfl, rfl⟩ := H
 go_enter Try.func82, Try.ntmps82
 go_wp2_with (first | ((with_reducible refine gD 6 rfl ?_); refine bE 6 #[.int .i64 0, .int .i64 0, .int .i64 0] 46 ?_; intro gb300 hg w6 hbox hb; replace HB := zLB (zL1 HB.out (IsS98.ge HI0.out)) hb; have BK300 := aM hbox; have GW300 := aM (zgK (g := g) (zK HK.out) hg : w.heap.size ≤ gb300); have GE300 := aM ((Nat.le_trans HW0.out (zgK (g := g) (zK HK.out) hg : w.heap.size ≤ gb300) : w0.heap.size ≤ gb300)); replace HK := zKB g (zK HK.out) hb; have NB0_300 := aM ((zNI (IsS98.lt (zI HI0.out : IsS98 w0 _ g s0_0 s0_1 s0_2)) hg : g ≠ gb300)); have NB300_0 := aM ((zMI (IsS98.lt (zI HI0.out : IsS98 w0 _ g s0_0 s0_1 s0_2)) hg : gb300 ≠ g)); replace HI0 := aM (IsS98.below (zI HI0.out) hb); clear hb hbox hg) | ((with_reducible refine gC 83 rfl ?_); refine gL 9 Try.func83 #[.pointer (some ⟨g, 0, none⟩), .int .i64 5] ?_; (with_reducible refine (spec_l1Below.calls g s0_0 s0_1 s0_2 5 t301 t302 t303 w0 _ ?side1 ?side2 A4.out).mono ?_); (case side1 => exact zI1 HI0.out NB0_300.out); (case side2 => exact zL2 HB.out (IsS98.ge HI0.out) GE300.out); rintro e w7 ⟨rfl, hi, hb, hk⟩; refine ⟨_, rfl, ?_⟩; replace BK300 := zBK hk BK300 NB300_0; replace HK := zKK (zK1 HK.out GW300.out) hk; replace HB := aM hb; replace HI0 := aM hi; clear hi hb hk) | ((with_reducible refine gD 14 rfl ?_); refine Kd.R_lit (Kd.int .i64) _ 3 ?hg (N := 14) ?hd (xs := ([0, 1, 3, 6, 7, 8, 20, 55, 63, 64, 70, 200] : List Int)) (inner := [.int .i64 0, .int .i64 1, .int .i64 3, .int .i64 6, .int .i64 7, .int .i64 8, .int .i64 20, .int .i64 55, .int .i64 63, .int .i64 64, .int .i64 70, .int .i64 200]) (ok := fun _ => True) (okp := fun _ => True) ?hr ?hp (fun _ hk => hk) trivial (Below.refl _ _) (Nat.le_refl _) (by simp) ?_; (case hd => rfl); (case hg => rfl); (case hr => first | (go_simp; done) | (go_simp; rfl)); (case hp => exact zhp); intro v305 w8 ho9 hb hg_ hnew_; clear hg_ hnew_; (first | rw [← Ny304.out] at ho9 | (simp only [Int.reduceToNat] at ho9; rw [← Ny304.out] at ho9)); have HO306 := aM (Kd.R_lower ho9 (keep_size (w := w) (g := g) (row := none) (zK1 HK.out GW300.out))); replace BK300 := zBB BK300 hb; replace HK := zKB g (zK1 HK.out GW300.out) hb; replace HB := zLB (zL2 HB.out (IsS98.ge HI0.out) GE300.out) hb; replace HI0 := aM (IsS98.below (zI1 HI0.out NB0_300.out) hb); clear hb ho9; obtain ⟨Ao10, co10, eo10⟩ := Kd.R_slice HO306.out; subst eo10) | ((with_reducible refine gC 85 rfl ?_); refine gL 15 Try.func85 #[.pointer (some ⟨g, 0, none⟩), .slice Ao10 y304.length co10] ?_; (with_reducible refine (spec_l1Int.calls g s0_0 t302 t303 _ _ y304 t307 t308 t309 w0 _ ?side1 ?side2 ?side3 ?side4 ?side5 A5.out).mono ?_); (case side1 => exact zI1 HI0.out NB0_300.out); (case side2 => exact zL2 HB.out (IsS98.ge HI0.out) GE300.out); (case side3 => exact zC (Kd.R_reads' HO306.out).2.2); (case side4 => exact (Kd.R_reads' HO306.out).2.1); (case side5 => exact far_slice (IsS98.own_ne HI0.out HO306.out (by decide))); rintro e w11 ⟨rfl, hi, hb, hk⟩; refine ⟨_, rfl, ?_⟩; replace BK300 := zBK hk BK300 NB300_0; replace HO306 := aM (Kd.R_mono (Kd.R_keep (IsS98.apart (show IsS98 w0 _ g s0_0 t302 t303 from zI1 HI0.out NB0_300.out) (zR HO306.out) (by decide)) hk (fun _ h => h.2)) (fun _ h => h.1)); replace HK := zKK (zK1 HK.out GW300.out) hk; replace HB := aM hb; replace HI0 := aM hi; clear hi hb hk; have hnb12 := NB300_0.out; have hnc12 := NB0_300.out; have hcz13_0 : w11.cell? ⟨gb300, 0, none⟩ = some (.int .i64 0) := (bC BK300.out 0).trans rfl; have hcz13_1 : w11.cell? ⟨gb300, 1, none⟩ = some (.int .i64 0) := (bC BK300.out 1).trans rfl; have hcz13_2 : w11.cell? ⟨gb300, 2, none⟩ = some (.int .i64 0) := (bC BK300.out 2).trans rfl; have hfz13_0 := blk_frozen BK300.out 0; have hfz13_1 := blk_frozen BK300.out 1; have hfz13_2 := blk_frozen BK300.out 2))
 refine bodyPost_ret (results_cell_row rfl _ _ gb300 46 #[.int .i64 a2, .int .i64 (wrap64 (1 + t301)), .int .i64 (wrap64 ((wrap64 (a1 + 1)) + t307))] (0, 0) _ rfl (by (with_reducible repeat (first | refine bN ?_ _ | refine bD ?_ | refine bA ?_ _)); refine blk_put (cs := #[.int .i64 a2, .int .i64 (wrap64 (1 + t301)), .int .i64 0]) ?_ 2 _ rfl; (with_reducible repeat (first | refine bN ?_ _ | refine bD ?_ | refine bA ?_ _)); refine blk_put (cs := #[.int .i64 a2, .int .i64 0, .int .i64 0]) ?_ 1 _ rfl; (with_reducible repeat (first | refine bN ?_ _ | refine bD ?_ | refine bA ?_ _)); refine blk_put (cs := #[.int .i64 0, .int .i64 0, .int .i64 0]) ?_ 0 _ rfl; exact zB BK300.out) Try.underlying46 rfl (by kernel_rfl)) rfl ?_
 exact ⟨zW, zI1 HI0.out NB0_300.out, zL2 HB.out (IsS98.ge HI0.out) GE300.out, zK1 HK.out GW300.out⟩

open Go.Proofs.YtggenhomnbnodaaW.PrintWords renaming blk_drewN → bN, blk_drew → bD, blk_alloc → bA, blk_cell → bC, blk_below → bB, below_set → bS
def spec_WheelNew.l0 : Nat → Int → Int → List (List (S46)) → List (List (S46)) → Option (Int × (List (List (S46))) × (List (List (S46))) × (List (S46)))
 | 0, _, _, _, _ => none
 | k + 1, x2, x312000, x312001, x312002 => if x2 < 8 then (if x312001.length < 5864062014805 then (if x312002.length < 5864062014805 then (spec_WheelNew.l0 k (wrap64 (x2 + 1)) x312000 (x312001 ++ [(([] : List (S46)))]) (x312002 ++ [(([] : List (S46)))])) else (none)) else (none)) else (some (x312000, x312001, x312002, ([] : List (S46))))
def spec_WheelNew.f (k : Nat)  : Option (Int × (List (List (S46))) × (List (List (S46))) × (List (S46))) := spec_WheelNew.l0 k 0 0 ([] : List (List (S46))) ([] : List (List (S46)))
set_option maxHeartbeats 8000000 in
set_option maxRecDepth 100000 in
theorem spec_WheelNew.calls (k : Nat)  (r1 : Int) (r2 : List (List (S46))) (r3 : List (List (S46))) (r4 : List (S46)) (w : World) (h : spec_WheelNew.f k  = some (r1, r2, r3, r4)) :
  Calls Try.prog 15 #[] w fun e w' => ∃ v1_ v2_ v3_ : Value, e = .returned (.agg #[.int .i64 r1, v1_, v2_, v3_]) ∧ Kd.S (Kd.slice 46 k46) 23 w' w.heap.size (fun k_ => some k_ ≠ (v2_ : Value).ownBlock ∧ some k_ ≠ (v3_ : Value).ownBlock) v1_ r2 ∧ Kd.S (Kd.slice 46 k46) 23 w' w.heap.size (fun k_ => some k_ ≠ (v1_ : Value).ownBlock ∧ some k_ ≠ (v3_ : Value).ownBlock) v2_ r3 ∧ Kd.R k46 46 w' w.heap.size (fun _ => True) v3_ r4 ∧ Below w.heap.size w w' := by
 have hu25 := Try.underlying25
 have HB := aM (Below.refl w.heap.size w)
 unfold spec_WheelNew.f at h; have H := h
 clear h
 have H' := aM H
 clear H
 go_enter Try.func15, Try.ntmps15
 go_wp2_with (first | ((with_reducible refine gD 0 rfl ?_); refine bE 0 #[.int .i64 0, .slice none 0 0, .slice none 0 0, .slice none 0 0] 25 ?_; intro gb310 hg w1 hbox hb; have BK310 := aM hbox; have GW310 := aM (zg (zL HB.out) hg : w.heap.size ≤ gb310); have GE310 := GW310; replace HB := zLB (zL HB.out) hb; clear hb hbox hg) | ((with_reducible refine gD 1 rfl ?_); refine bE 1 #[.int .i64 0, .slice none 0 0, .slice none 0 0, .slice none 0 0] 25 ?_; intro gb311 hg w2 hbox hb; have BK311 := aM hbox; have GW311 := aM (zg (zL1 HB.out GE310.out) hg : w.heap.size ≤ gb311); have GE311 := GW311; replace HB := zLB (zL1 HB.out GE310.out) hb; have NB310_311 := aM (zN BK310.out hg : gb310 ≠ gb311); have NB311_310 := aM (zM BK310.out hg : gb311 ≠ gb310); replace BK310 := zBB BK310 hb; clear hb hbox hg; have hnb3 := NB311_310.out; have hnc3 := NB310_311.out; have hcz4 := zc4 BK311.out; have hfz4 := zf4 BK311.out))
 go_loopg [2] k (fun kq v2 w' => ∃ (x2_1 : Int) (x312001_1 : List (List (S46))) (x312002_1 : List (List (S46))) (u312001 : Value) (u312002 : Value), v2 = .int .i64 x2_1 ∧ Aside0 (spec_WheelNew.l0 kq x2_1 0 x312001_1 x312002_1 = some (r1, r2, r3, r4)) ∧ Aside0 (kq ≤ k) ∧ Aside0 (Kd.S (Kd.slice 46 k46) 23 w' w.heap.size (fun k_ => some k_ ≠ (u312002 : Value).ownBlock) u312001 x312001_1) ∧ Aside0 (Kd.S (Kd.slice 46 k46) 23 w' w.heap.size (fun k_ => some k_ ≠ (u312001 : Value).ownBlock) u312002 x312002_1) ∧ Aside0 (w'.heap[gb310]? = some (.cells #[.int .i64 0, (.slice none 0 0), (.slice none 0 0), (.slice none 0 0)] 25 (0, 0))) ∧ Aside0 (w'.heap[gb311]? = some (.cells #[.int .i64 0, u312001, u312002, (.slice none 0 0)] 25 (0, 0))) ∧ Aside0 (Below w.heap.size w w'))
 case atStart => exact ⟨(0), (([] : List (List (S46)))), (([] : List (List (S46)))), (.slice none 0 0), (.slice none 0 0), zV, H', ⟨Nat.le_refl _⟩, ⟨by first | exact Kd.S_nil _ _ _ _ _ | exact Kd.N_nil _ _ _ _ _ | exact Kd.V_nil _ _ _ _ _ | exact Kd.Q_nil _ _ _ _ _ | exact Kd.R_nil _ _ _ _ _⟩, ⟨by first | exact Kd.S_nil _ _ _ _ _ | exact Kd.N_nil _ _ _ _ _ | exact Kd.V_nil _ _ _ _ _ | exact Kd.Q_nil _ _ _ _ _ | exact Kd.R_nil _ _ _ _ _⟩, ⟨by refine zB ?_; refine zr4 ?_ NB310_311.out; exact zB BK310.out⟩, ⟨by refine zB ?_; refine zp4 (cs := #[.int .i64 0, .slice none 0 0, .slice none 0 0, .slice none 0 0]) ?_; exact zB BK311.out⟩, ⟨zL2 HB.out GE310.out GE311.out⟩⟩
 case round =>
  clear H'
  try clear c1
  try clear p2
  try clear c3
  try clear hcz4; try clear hfz4
  try clear BK310; try clear BK311
  obtain ⟨x2_1, x312001_1, x312002_1, u312001, u312002, rfl, HA, HK1, HO_312001, HO_312002, BK310, BK311, HB⟩ := hrel
  cases gk with
  | zero => exact absurd HA.out (by simp [spec_WheelNew.l0])
  | succ k1 =>
   have H := HA.out
   clear HA
   simp only [spec_WheelNew.l0] at H
   by_cases c5 : x2_1 < 8
   ·rw [if_pos c5] at H
    have c5b0 := dT c5
    clear c5
    obtain ⟨y312, hy312⟩ : ∃ y_ : List (S46), y_ = (([] : List (S46))) := ⟨_, rfl⟩
    replace H : (if x312001_1.length < 5864062014805 then (if x312002_1.length < 5864062014805 then (spec_WheelNew.l0 k1 (wrap64 (x2_1 + 1)) 0 (x312001_1 ++ [y312]) (x312002_1 ++ [(([] : List (S46)))])) else (none)) else (none)) = some (r1, r2, r3, r4) := by first | (rw [hy312]; with_reducible exact H) | (have H2_ := (Option.bind_some _ _).symm.trans H; rw [hy312]; with_reducible exact H2_) | (have H2_ := (Option.bind_some _ _).symm.trans H; with_reducible exact H2_) | with_reducible exact H | (rw [hy312]; exact H) | exact H
    have Ny312 := aM hy312
    clear hy312
    by_cases c6 : x312001_1.length < 5864062014805
    ·rw [if_pos c6] at H
     have LMc6 := aM c6
     clear c6
     generalize hy315 : (x312001_1 ++ [y312]) = y315 at H; (try rw [Option.bind_some] at H); have Ny315 := aM hy315.symm; clear hy315
     obtain ⟨y318, hy318⟩ : ∃ y_ : List (S46), y_ = (([] : List (S46))) := ⟨_, rfl⟩
     replace H : (if x312002_1.length < 5864062014805 then (spec_WheelNew.l0 k1 (wrap64 (x2_1 + 1)) 0 y315 (x312002_1 ++ [y318])) else (none)) = some (r1, r2, r3, r4) := by first | (rw [hy318]; with_reducible exact H) | (have H2_ := (Option.bind_some _ _).symm.trans H; rw [hy318]; with_reducible exact H2_) | (have H2_ := (Option.bind_some _ _).symm.trans H; with_reducible exact H2_) | with_reducible exact H | (rw [hy318]; exact H) | exact H
     have Ny318 := aM hy318
     clear hy318
     by_cases c7 : x312002_1.length < 5864062014805
     ·rw [if_pos c7] at H
      have LMc7 := aM c7
      clear c7
      generalize hy321 : (x312002_1 ++ [y318]) = y321 at H; (try rw [Option.bind_some] at H); have Ny321 := aM hy321.symm; clear hy321
      have H' := aM H
      clear H
      have hnb8 := NB311_310.out
      have hnc8 := NB310_311.out
      have hcz9 := zc4 BK311.out
      have hfz9 := zf4 BK311.out
      go_wp2_with (first | ((with_reducible refine gD 10 rfl ?_); refine Kd.R_lit k46 _ 46 ?hg (N := 10) ?hd (xs := ([] : List (S46))) (inner := []) (ok := fun _ => True) (okp := fun _ => True) ?hr ?hp (fun _ hk => hk) trivial (Below.refl _ _) (Nat.le_refl _) (by simp) ?_; (case hd => rfl); (case hg => rfl); (case hr => first | (go_simp; done) | (go_simp; rfl)); (case hp => exact (Reps.none _ _)); intro v313 w10 ho11 hb hg_ hnew_; clear hg_ hnew_; (first | rw [← Ny312.out] at ho11 | (simp only [Int.reduceToNat] at ho11; rw [← Ny312.out] at ho11)); replace HO_312001 := aM (Kd.S_elder' (zS HO_312001.out) (Kd.R_base ho11) hb); replace HO_312002 := aM (Kd.S_elder' (zS HO_312002.out) (Kd.R_base ho11) hb); have HO314 := aM (Kd.R_lower ho11 (below_size (zL2 HB.out GE310.out GE311.out))); replace BK310 := zBB BK310 hb; replace BK311 := zBB BK311 hb; replace HB := zLB (zL2 HB.out GE310.out GE311.out) hb; clear hb ho11; obtain ⟨Ao13, co13, eo13⟩ := Kd.R_slice HO314.out; subst eo13) | ((with_reducible refine gate_builtin (b := .append) (xs := #[.tmp 9, .tmp 11]) rfl ?_); at_builtin; refine Kd.S_append (Kd.slice 46 k46) (w0 := w) w.heap.size rfl (.tmp 9) (.tmp 11) 22 23 (.slice none 0 0) 24 rfl Try.underlying22 info23 rfl (by decide) (by omega) u312001 x312001_1 y312 [.slice Ao13 y312.length co13] (fun k_ => some k_ ≠ (u312002 : Value).ownBlock) (fun k_ => some k_ = (.slice Ao13 y312.length co13 : Value).ownBlock) rfl rfl ?aP (fun k_ hk_ => ((Kd.R_mono (ok' := fun k_ => ((fun k_ => some k_ ≠ (u312002 : Value).ownBlock)) k_ ∧ some k_ ≠ (u312001 : Value).ownBlock) (Kd.R_apart' (Kd.R_apart' (HO314.out) (Kd.S_typed HO_312002.out) (by decide)) (Kd.S_typed HO_312001.out) (by decide)) (fun k_ hk => ⟨hk.1.2, hk.2⟩))).1 k_ hk_.symm) ?aF ?aO ?aB ?aS ?aL ?_; (case aP => exact Kd.M_row (Kd.R_mono (Kd.R_tight rfl (Kd.R_mono (ok' := fun k_ => ((fun k_ => some k_ ≠ (u312002 : Value).ownBlock)) k_ ∧ some k_ ≠ (u312001 : Value).ownBlock) (Kd.R_apart' (Kd.R_apart' (HO314.out) (Kd.S_typed HO_312002.out) (by decide)) (Kd.S_typed HO_312001.out) (by decide)) (fun k_ hk => ⟨hk.1.2, hk.2⟩))) (fun _ h_ => h_))); (case aB => exact (zL2 HB.out GE310.out GE311.out)); (case aF => exact (fun k_ hk => Kd.fresh' (Kd.S_lt (zS HO_312002.out)) k_ hk)); (case aO => exact (zSm HO_312001.out (fun k_ hk => ⟨hk.1, fun e_ => hk.2 e_⟩))); (case aS => exact (below_size (zL2 HB.out GE310.out GE311.out))); (case aL => have := LMc6.out; omega); intro v316 w12 ho hb hg hat; rw [← Ny315.out] at ho; replace HO_312002 := aM (Kd.S_after (ok := (fun k_ => some k_ ≠ (.slice Ao13 y312.length co13 : Value).ownBlock)) (zSm HO_312002.out (fun _ hk => ⟨hk.2, hk.1⟩)) hg hat); replace BK310 := aM (blk_grown (g := gb310) (o := .cells #[.int .i64 0, .slice none 0 0, .slice none 0 0, .slice none 0 0] 25 (0, 0)) (zB BK310.out) hg (Kd.S_ne HO_312001.out BK310.out (by decide))); replace BK311 := aM (blk_grown (g := gb311) (o := .cells #[.int .i64 0, u312001, u312002, .slice none 0 0] 25 (0, 0)) (zB BK311.out) hg (Kd.S_ne HO_312001.out BK311.out (by decide))); replace HB := aM hb; have HO317 := aM (ho); clear HO_312001 HO314; clear ho hb hg hat; obtain ⟨Ao14, co14, eo14⟩ := Kd.S_slice HO317.out; subst eo14; have hcz15 := zc4 BK311.out; have hfz15 := zf4 BK311.out) | ((with_reducible refine gD 16 rfl ?_); refine Kd.R_lit k46 _ 46 ?hg (N := 16) ?hd (xs := ([] : List (S46))) (inner := []) (ok := fun _ => True) (okp := fun _ => True) ?hr ?hp (fun _ hk => hk) trivial (Below.refl _ _) (Nat.le_refl _) (by simp) ?_; (case hd => rfl); (case hg => rfl); (case hr => first | (go_simp; done) | (go_simp; rfl)); (case hp => exact (Reps.none _ _)); intro v319 w16 ho17 hb hg_ hnew_; clear hg_ hnew_; (first | rw [← Ny318.out] at ho17 | (simp only [Int.reduceToNat] at ho17; rw [← Ny318.out] at ho17)); replace HO_312002 := aM (Kd.S_elder' (by (with_reducible repeat (first | apply Kd.S_alloc | apply Kd.S_drewN | apply Kd.S_drew)); exact (Kd.S_mono (Kd.S_far (p := ⟨gb311, 1, none⟩) (Kd.S_types HO_312002.out BK311.out (by decide)) (fun _ hk => hk.2) (.slice Ao14 y315.length co14)) (fun _ h_ => h_.1))) (Kd.R_base ho17) hb); replace HO317 := aM (Kd.S_elder' (by (with_reducible repeat (first | apply Kd.S_alloc | apply Kd.S_drewN | apply Kd.S_drew)); exact (Kd.S_mono (Kd.S_far (p := ⟨gb311, 1, none⟩) (Kd.S_types HO317.out BK311.out (by decide)) (fun _ hk => hk.2) (.slice Ao14 y315.length co14)) (fun _ h_ => h_.1))) (Kd.R_base ho17) hb); have HO320 := aM (Kd.R_lower ho17 (below_size (zL2 HB.out GE310.out GE311.out))); replace BK310 := aM (bB (g := gb310) (o := .cells #[.int .i64 0, .slice none 0 0, .slice none 0 0, .slice none 0 0] 25 (0, 0)) (by (with_reducible repeat (first | refine bN ?_ _ | refine bD ?_ | refine bA ?_ _)); refine blk_far ?_ NB310_311.out _; exact zB BK310.out) hb); replace BK311 := aM (bB (g := gb311) (o := .cells #[.int .i64 0, .slice Ao14 y315.length co14, u312002, .slice none 0 0] 25 (0, 0)) (by (with_reducible repeat (first | refine bN ?_ _ | refine bD ?_ | refine bA ?_ _)); refine blk_put (cs := #[.int .i64 0, u312001, u312002, .slice none 0 0]) ?_ 1 _ rfl; exact zB BK311.out) hb); replace HB := zLB (zL2 HB.out GE310.out GE311.out) hb; clear hb ho17; obtain ⟨Ao19, co19, eo19⟩ := Kd.R_slice HO320.out; subst eo19) | ((with_reducible refine gate_builtin (b := .append) (xs := #[.tmp 15, .tmp 17]) rfl ?_); at_builtin; refine Kd.S_append (Kd.slice 46 k46) (w0 := w) w.heap.size rfl (.tmp 15) (.tmp 17) 22 23 (.slice none 0 0) 24 rfl Try.underlying22 info23 rfl (by decide) (by omega) u312002 x312002_1 y318 [.slice Ao19 y318.length co19] (fun k_ => some k_ ≠ (.slice Ao14 y315.length co14 : Value).ownBlock) (fun k_ => some k_ = (.slice Ao19 y318.length co19 : Value).ownBlock) rfl rfl ?aP (fun k_ hk_ => ((Kd.R_mono (ok' := fun k_ => ((fun k_ => some k_ ≠ (.slice Ao14 y315.length co14 : Value).ownBlock)) k_ ∧ some k_ ≠ (u312002 : Value).ownBlock) (Kd.R_apart' (Kd.R_apart' (HO320.out) (Kd.S_typed HO317.out) (by decide)) (Kd.S_typed HO_312002.out) (by decide)) (fun k_ hk => ⟨hk.1.2, hk.2⟩))).1 k_ hk_.symm) ?aF ?aO ?aB ?aS ?aL ?_; (case aP => exact Kd.M_row (Kd.R_mono (Kd.R_tight rfl (Kd.R_mono (ok' := fun k_ => ((fun k_ => some k_ ≠ (.slice Ao14 y315.length co14 : Value).ownBlock)) k_ ∧ some k_ ≠ (u312002 : Value).ownBlock) (Kd.R_apart' (Kd.R_apart' (HO320.out) (Kd.S_typed HO317.out) (by decide)) (Kd.S_typed HO_312002.out) (by decide)) (fun k_ hk => ⟨hk.1.2, hk.2⟩))) (fun _ h_ => h_))); (case aB => exact (zL2 HB.out GE310.out GE311.out)); (case aF => exact (fun k_ hk => Kd.fresh' (Kd.S_lt (zS HO317.out)) k_ hk)); (case aO => exact (zSm HO_312002.out (fun k_ hk => ⟨hk.1.2, fun e_ => hk.2 e_⟩))); (case aS => exact (below_size (zL2 HB.out GE310.out GE311.out))); (case aL => have := LMc7.out; omega); intro v322 w18 ho hb hg hat; rw [← Ny321.out] at ho; replace BK310 := aM (blk_grown (g := gb310) (o := .cells #[.int .i64 0, .slice none 0 0, .slice none 0 0, .slice none 0 0] 25 (0, 0)) (zB BK310.out) hg (Kd.S_ne HO_312002.out BK310.out (by decide))); replace BK311 := aM (blk_grown (g := gb311) (o := .cells #[.int .i64 0, .slice Ao14 y315.length co14, u312002, .slice none 0 0] 25 (0, 0)) (zB BK311.out) hg (Kd.S_ne HO_312002.out BK311.out (by decide))); replace HO317 := aM (Kd.S_after (ok := (fun k_ => some k_ ≠ (.slice Ao19 y318.length co19 : Value).ownBlock)) (zSm HO317.out (fun _ hk => ⟨hk.2, hk.1⟩)) hg hat); replace HB := aM hb; have HO323 := aM (ho); clear HO_312002 HO320; clear ho hb hg hat; obtain ⟨Ao20, co20, eo20⟩ := Kd.S_slice HO323.out; subst eo20; have hcz21 := zc4 BK311.out; have hfz21 := zf4 BK311.out))
      go_roundg k1
      case measure => have := HK1.out; omega
      case rel => exact ⟨(wrap64 (x2_1 + 1)), (y315), (y321), (.slice Ao14 y315.length co14), (.slice Ao20 y321.length co20), zV, H', ⟨by have := HK1.out; omega⟩, ⟨by (with_reducible repeat (first | apply Kd.S_alloc | apply Kd.S_drewN | apply Kd.S_drew)); exact Kd.S_mono (Kd.S_far (p := ⟨gb311, 2, none⟩) (Kd.S_types HO317.out BK311.out (by decide)) (fun _ hk => hk.2) (.slice Ao20 y321.length co20)) (fun _ hk => hk.1.2)⟩, ⟨by (with_reducible repeat (first | apply Kd.S_alloc | apply Kd.S_drewN | apply Kd.S_drew)); exact Kd.S_mono (Kd.S_far (p := ⟨gb311, 2, none⟩) (Kd.S_types HO323.out BK311.out (by decide)) (fun _ hk => hk.2) (.slice Ao20 y321.length co20)) (fun _ hk => hk.1)⟩, ⟨by (with_reducible repeat (first | refine bN ?_ _ | refine bD ?_ | refine bA ?_ _)); refine blk_far ?_ NB310_311.out _; exact zB BK310.out⟩, ⟨by (with_reducible repeat (first | refine bN ?_ _ | refine bD ?_ | refine bA ?_ _)); refine blk_put (cs := #[.int .i64 0, .slice Ao14 y315.length co14, u312002, .slice none 0 0]) ?_ 2 _ rfl; exact zB BK311.out⟩, ⟨zL2 HB.out GE310.out GE311.out⟩⟩
     ·rw [if_neg c7] at H
      exact absurd H (by simp)
    ·rw [if_neg c6] at H
     exact absurd H (by simp)
   ·rw [if_neg c5] at H
    have c5b0 := dF c5
    clear c5
    simp only [Option.some.injEq, Prod.mk.injEq] at H
    obtain ⟨rfl, rfl, rfl, rfl⟩ := H
    have hnb22 := NB311_310.out
    have hnc22 := NB310_311.out
    have hcz23 := zc4 BK311.out
    have hfz23 := zf4 BK311.out
    have hcz24 := zc4 BK310.out
    have hfz24 := zf4 BK310.out
    obtain ⟨Ao25, co25, eo25⟩ := Kd.S_slice HO_312001.out
    subst eo25
    obtain ⟨Ao26, co26, eo26⟩ := Kd.S_slice HO_312002.out
    subst eo26
    go_wp2
    refine bodyPost_ret (results_cell_row rfl _ _ gb310 25 #[.int .i64 0, .slice Ao25 x312001_1.length co25, .slice Ao26 x312002_1.length co26, .slice none 0 0] (0, 0) _ rfl (by refine zB ?_; refine zp4 (cs := #[.int .i64 0, .slice none 0 0, .slice none 0 0, .slice none 0 0]) ?_; exact zB BK310.out) Try.underlying25 rfl (by kernel_rfl)) rfl ?_
    exact ⟨_, _, _, zW, by (with_reducible repeat (first | apply Kd.S_alloc | apply Kd.S_drewN | apply Kd.S_drew)); exact Kd.S_mono (zSF4 (Kd.S_types HO_312001.out BK310.out (by decide)) gb310 (fun _ hk => hk.2) (.int .i64 0) (.slice Ao25 x312001_1.length co25) (.slice Ao26 x312002_1.length co26) (.slice none 0 0)) (fun _ hk => ⟨hk.1, (by simp [Value.ownBlock])⟩), by (with_reducible repeat (first | apply Kd.S_alloc | apply Kd.S_drewN | apply Kd.S_drew)); exact Kd.S_mono (zSF4 (Kd.S_types HO_312002.out BK310.out (by decide)) gb310 (fun _ hk => hk.2) (.int .i64 0) (.slice Ao25 x312001_1.length co25) (.slice Ao26 x312002_1.length co26) (.slice none 0 0)) (fun _ hk => ⟨hk.1, (by simp [Value.ownBlock])⟩), by first | exact Kd.R_nil _ _ _ _ _ | exact Kd.N_nil _ _ _ _ _ | exact Kd.V_nil _ _ _ _ _ | exact Kd.Q_nil _ _ _ _ _ | exact Kd.S_nil _ _ _ _ _, zL2 HB.out GE310.out GE311.out⟩

def spec_Put.f (k : Nat) (a : Int) (l1 l2 : List (List S46)) (l3 : List S46) (x0 x1 x2 : Int) : Option (Int × List (List S46) × List (List S46) × List S46 × Bool) := (spec_l8Copy.f k a l1 l2 l3).bind fun c => (if c.1 = a then (spec_WheelOk.f k a l1 l2 l3).bind fun b1 => (if b1 = true then (if x2 ≤ a then some (c.1, c.2.1, c.2.2.1, c.2.2.2, false) else if x2 > 2147483647 then some (c.1, c.2.1, c.2.2.1, c.2.2.2, false) else (if layOk c.1 ⟨x0, x1, x2⟩ c.2.1 c.2.2.1 c.2.2.2 = true then (spec_WheelOk.f k c.1 (layV c.1 ⟨x0, x1, x2⟩ c.2.1 c.2.2.1 c.2.2.2).1 (layV c.1 ⟨x0, x1, x2⟩ c.2.1 c.2.2.1 c.2.2.2).2.1 (layV c.1 ⟨x0, x1, x2⟩ c.2.1 c.2.2.1 c.2.2.2).2.2).bind fun b2 => (if b2 = true then some (c.1, (layV c.1 ⟨x0, x1, x2⟩ c.2.1 c.2.2.1 c.2.2.2).1, (layV c.1 ⟨x0, x1, x2⟩ c.2.1 c.2.2.1 c.2.2.2).2.1, (layV c.1 ⟨x0, x1, x2⟩ c.2.1 c.2.2.1 c.2.2.2).2.2, true) else some (c.1, c.2.1, c.2.2.1, c.2.2.2, false)) else none)) else some (c.1, c.2.1, c.2.2.1, c.2.2.2, false)) else none)
set_option maxHeartbeats 8000000 in
set_option maxRecDepth 100000 in
theorem spec_Put.callsW (k : Nat) (a : Int) (A1 : Option Addr) (c1 : Nat) (l1 : List (List S46)) (A2 : Option Addr) (c2 : Nat) (l2 : List (List S46)) (A3 : Option Addr) (c3 : Nat) (l3 : List S46) (x0 x1 x2 : Int) (r1 : Int) (r2 r3 : List (List S46)) (r4 : List S46) (r5 : Bool) (w : World) (hr1 : Kd.C (Kd.slice 46 k46) w A1 l1.length l1) (hc1 : l1.length ≤ c1) (hr2 : Kd.C (Kd.slice 46 k46) w A2 l2.length l2) (hc2 : l2.length ≤ c2) (hr3 : Kd.C k46 w A3 l3.length l3) (hc3 : l3.length ≤ c3) (h : spec_Put.f k a l1 l2 l3 x0 x1 x2 = some (r1, r2, r3, r4, r5)) :
  Calls Try.prog 31 #[.agg #[.int .i64 a, .slice A1 l1.length c1, .slice A2 l2.length c2, .slice A3 l3.length c3], .agg #[.int .i64 x0, .int .i64 x1, .int .i64 x2]] w fun e w' => ∃ v1_ v2_ v3_ : Value, e = .returned (.tuple #[.agg #[.int .i64 r1, v1_, v2_, v3_], .bool r5]) ∧ WR w' w.heap.size (fun _ => True) v1_ v2_ v3_ r2 r3 r4 ∧ Below w.heap.size w w' := by
 have hu25 := Try.underlying25
 have hu46 := Try.underlying46
 unfold spec_Put.f at h
 obtain ⟨⟨y0, y1, y2, y3⟩, AC, h⟩ := zO h
 simp only at h
 by_cases ey : y0 = a
 ·rw [if_pos ey] at h
  subst ey
  obtain ⟨b1, AO, h⟩ := zO h
  have HR1 := aM hr1
  have HR2 := aM hr2
  have HR3 := aM hr3
  have HC1 := aM hc1
  have HC2 := aM hc2
  have HC3 := aM hc3
  have HB := aM (Below.refl w.heap.size w)
  clear hr1 hr2 hr3 hc1 hc2 hc3
  cases b1 with
  | false =>
   rw [if_neg (by simp)] at h
   simp only [Option.some.injEq, Prod.mk.injEq] at h
   obtain ⟨rfl, rfl, rfl, rfl, rfl⟩ := h
   go_enter Try.func31, Try.ntmps31
   go_wp2_with (first | ((with_reducible refine gD 2 rfl ?_); refine bE 2 #[.int .i64 y0, .slice A1 l1.length c1, .slice A2 l2.length c2, .slice A3 l3.length c3] 25 ?_; intro g2 hg w2_ hbox hb; have GE2 := aM (zg HB.out hg : w.heap.size ≤ g2);  have BK2 := aM hbox;  replace HB := zLB HB.out hb; clear hb; clear hbox hg; (try clear hz2_); have hz2_ := zc4 BK2.out;) | ((with_reducible refine gD 3 rfl ?_); refine bE 3 #[.int .i64 x0, .int .i64 x1, .int .i64 x2] 46 ?_; intro g3 hg w3_ hbox hb; have GE3 := aM (zg HB.out hg : w.heap.size ≤ g3); have N2_3 := aM (zN BK2.out hg : g2 ≠ g3); have BK3 := aM hbox; replace BK2 := zBB BK2 hb; replace HB := zLB HB.out hb; clear hb; clear hbox hg; (try clear hz2_); have hz2_ := zc4 BK2.out; (try clear hz3_); have hz3_ := zc3_ BK3.out;) | ((with_reducible refine gD 4 rfl ?_); refine bE 4 #[.int .i64 0, .slice none 0 0, .slice none 0 0, .slice none 0 0] 25 ?_; intro g4 hg w4_ hbox hb; have GE4 := aM (zg HB.out hg : w.heap.size ≤ g4); have N2_4 := aM (zN BK2.out hg : g2 ≠ g4); have N3_4 := aM (zN BK3.out hg : g3 ≠ g4); have BK4 := aM hbox; replace BK2 := zBB BK2 hb; replace BK3 := zBB BK3 hb; replace HB := zLB HB.out hb; clear hb; clear hbox hg; (try clear hz2_); have hz2_ := zc4 BK2.out; (try clear hz3_); have hz3_ := zc3_ BK3.out; (try clear hz4_); have hz4_ := zc4 BK4.out;) | ((with_reducible refine gC 72 rfl ?_); refine gL 8 Try.func72 #[.agg #[.int .i64 y0, .slice A1 l1.length c1, .slice A2 l2.length c2, .slice A3 l3.length c3]] ?_; (refine (spec_l8Copy.callsW k y0 A1 c1 l1 A2 c2 l2 A3 c3 l3 y0 y1 y2 y3 _ ?s1 HC1.out ?s2 HC2.out ?s3 HC3.out AC.out).mono ?_); (case s1 => exact Kd.C_below HR1.out HB.out); (case s2 => exact Kd.C_below HR2.out HB.out); (case s3 => exact Kd.C_below HR3.out HB.out); rintro e w8_ ⟨v1, v2, v3, rfl, hw_, hb⟩; obtain ⟨B1, q1, B2, q2, B3, q3, rfl, rfl, rfl, _, _, _, _⟩ := hw_.reads; refine ⟨_, rfl, ?_⟩; have F2 := aM (blk_lt BK2.out); have F3 := aM (blk_lt BK3.out); have F4 := aM (blk_lt BK4.out); obtain ⟨n0, hn0_⟩ : ∃ n0, n0 = _ := ⟨_, rfl⟩; have HWR := aM ((hw_.bound.mono (ok' := fun k_ => n0 ≤ k_) (fun k_ h_ => by rw [hn0_]; exact h_.2.1)).lower HB.out.size); have FN := aM (hb.size); rw [← hn0_] at F2 F3 F4 FN; clear hw_ hn0_; replace BK2 := zBB BK2 hb; replace BK3 := zBB BK3 hb; replace BK4 := zBB BK4 hb; replace HB := zLB HB.out hb; clear hb; (try clear hz2_); have hz2_ := zc4 BK2.out; (try clear hz3_); have hz3_ := zc3_ BK3.out; (try clear hz4_); have hz4_ := zc4 BK4.out;) | ((with_reducible refine gD 6 rfl ?_); refine bE 6 #[.int .i64 0, .slice none 0 0, .slice none 0 0, .slice none 0 0] 25 ?_; intro g6 hg w6_ hbox hb; have GE6 := aM (zg HB.out hg : w.heap.size ≤ g6); have N2_6 := aM (zN BK2.out hg : g2 ≠ g6); have N3_6 := aM (zN BK3.out hg : g3 ≠ g6); have N4_6 := aM (zN BK4.out hg : g4 ≠ g6); replace HWR := aM (HWR.out.below hb); have FN6 := aM (by rw [hg]; exact FN.out : n0 ≤ g6); clear FN; have BK6 := aM hbox; replace BK2 := zBB BK2 hb; replace BK3 := zBB BK3 hb; replace BK4 := zBB BK4 hb; replace HB := zLB HB.out hb; clear hb; clear hbox hg; (try clear hz2_); have hz2_ := zc4 BK2.out; (try clear hz3_); have hz3_ := zc3_ BK3.out; (try clear hz4_); have hz4_ := zc4 BK4.out; (try clear hz6_); have hz6_ := zc4 BK6.out;) | ((with_reducible refine gate_store (t := 25) (p := 6) rfl ?_); refine store_event (t := 25) (p := 6) (v := ?vo61_) (w1 := ((((w6_.setCell ⟨g6, 0, none⟩ (.int .i64 y0)).setCell ⟨g6, 1, none⟩ (.slice B1 y1.length q1)).setCell ⟨g6, 2, none⟩ (.slice B2 y2.length q2)).setCell ⟨g6, 3, none⟩ (.slice B3 y3.length q3))) ?hg ?ho ?hn ?hr ?_; (case ho => rfl); (case hg => rfl); (case hn => rfl); (case hr => (have hs0_ := (blk_cell BK6.out 0).trans rfl; have hf0_ := blk_frozen BK6.out 0; have hs1_ := (blk_cell BK6.out 1).trans rfl; have hf1_ := blk_frozen BK6.out 1; have hs2_ := (blk_cell BK6.out 2).trans rfl; have hf2_ := blk_frozen BK6.out 2; have hs3_ := (blk_cell BK6.out 3).trans rfl; have hf3_ := blk_frozen BK6.out 3; (try clear hz2_); have hz2_ := zc4 BK2.out; (try clear hz3_); have hz3_ := zc3_ BK3.out; (try clear hz4_); have hz4_ := zc4 BK4.out; first | (go_simp; done) | (go_simp; rfl))); intro w8 hw_; have HK_ := set4_kept hw_; have BKn := aM (set4_blk hw_ BK6.out rfl); have HBn := aM (set4_below hw_ HB.out GE6.out); replace BK2 := aM (blk_kept BK2.out HK_ (N2_6.out)); replace BK3 := aM (blk_kept BK3.out HK_ (N3_6.out)); replace BK4 := aM (blk_kept BK4.out HK_ (N4_6.out)); replace HWR := aM (((HWR.out.types BK6.out (by decide) (by decide)).kept HK_ (fun _ h_ => h_.2)).mono (ok' := fun k_ => n0 ≤ k_) (fun _ h_ => h_.1)); clear hw_ BK6 HB; have BK6 := BKn; have HB := HBn; clear BKn HBn HK_; (try clear hz2_); have hz2_ := zc4 BK2.out; (try clear hz3_); have hz3_ := zc3_ BK3.out; (try clear hz4_); have hz4_ := zc4 BK4.out; (try clear hz6_); have hz6_ := zc4 BK6.out;) | ((with_reducible refine gC 29 rfl ?_); refine gL 10 Try.func29 #[.agg #[.int .i64 y0, .slice A1 l1.length c1, .slice A2 l2.length c2, .slice A3 l3.length c3]] ?_; (refine (spec_WheelOk.calls k y0 A1 c1 l1 A2 c2 l2 A3 c3 l3 false _ ?s1 ?t1 ?s2 ?t2 ?s3 ?t3 AO.out).mono ?_); (case s1 => exact Kd.C_below HR1.out HB.out); (case s2 => exact Kd.C_below HR2.out HB.out); (case s3 => exact Kd.C_below HR3.out HB.out); (case t1 => exact HC1.out); (case t2 => exact HC2.out); (case t3 => exact HC3.out); rintro e w10 ⟨rfl, hb⟩; refine ⟨_, rfl, ?_⟩; replace BK2 := zBB BK2 hb; replace BK3 := zBB BK3 hb; replace BK4 := zBB BK4 hb; replace BK6 := zBB BK6 hb; replace HWR := aM (HWR.out.below hb); replace HB := zLB HB.out hb; clear hb; (try clear hz2_); have hz2_ := zc4 BK2.out; (try clear hz3_); have hz3_ := zc3_ BK3.out; (try clear hz4_); have hz4_ := zc4 BK4.out; (try clear hz6_); have hz6_ := zc4 BK6.out;) | ((with_reducible refine gC 73 rfl ?_); refine gL 26 Try.func73 #[.pointer (some ⟨g6, 0, none⟩), .agg #[.int .i64 x0, .int .i64 x1, .int .i64 x2]] ?_; (refine (spec_l8Put.calls y0 x0 x1 x2 y1 y2 y3 g6 w.heap.size (fun k_ => n0 ≤ k_) w _ HB.out GE6.out ⟨_, _, _, BK6.out, HWR.out⟩ AL.out m1 m2 m3 AV.out).mono ?_); rintro e w23 ⟨rfl, hs_, hb, hk_⟩; refine ⟨_, rfl, ?_⟩; replace BK2 := aM (blk_kept BK2.out hk_ (fun h_ => h_.elim (fun h_ => by have f_ := F2.out; omega) N2_6.out)); replace BK3 := aM (blk_kept BK3.out hk_ (fun h_ => h_.elim (fun h_ => by have f_ := F3.out; omega) N3_6.out)); replace BK4 := aM (blk_kept BK4.out hk_ (fun h_ => h_.elim (fun h_ => by have f_ := F4.out; omega) N4_6.out)); have q_ := blk_lt BK6.out; clear BK6 HB HWR; have HB := aM hb; have HS := aM (hs_.mono (ok' := fun k_ => n0 ≤ k_) (fun k_ h_ => h_.elim id (fun h_ => by have f_ := FN6.out; omega))); clear hb hk_ hs_ q_; obtain ⟨u1, u2, u3, hu_, hw_⟩ := HS.out; obtain ⟨D1, p1, D2, p2, D3, p3, rfl, rfl, rfl, ⟨t1_, t2_, t3_⟩, r1_, r2_, r3_⟩ := hw_.reads; have BK6 := aM hu_; have HWR := aM hw_; have HQ := aM (And.intro t1_ (And.intro t2_ (And.intro t3_ (And.intro r1_ (And.intro r2_ r3_))))); clear hu_ hw_ t1_ t2_ t3_ r1_ r2_ r3_ HS; (try clear hz2_); have hz2_ := zc4 BK2.out; (try clear hz3_); have hz3_ := zc3_ BK3.out; (try clear hz4_); have hz4_ := zc4 BK4.out; (try clear hz6_); have hz6_ := zc4 BK6.out;) | ((with_reducible refine gC 29 rfl ?_); refine gL 28 Try.func29 #[.agg #[.int .i64 y0, .slice D1 m1.length p1, .slice D2 m2.length p2, .slice D3 m3.length p3]] ?_; (refine (spec_WheelOk.calls k y0 D1 p1 m1 D2 p2 m2 D3 p3 m3 true _ HQ.out.2.2.2.1 HQ.out.1 HQ.out.2.2.2.2.1 HQ.out.2.1 HQ.out.2.2.2.2.2 HQ.out.2.2.1 AP.out).mono ?_); rintro e w25 ⟨rfl, hb⟩; refine ⟨_, rfl, ?_⟩; replace HWR := aM (HWR.out.below hb); clear HQ; replace BK2 := zBB BK2 hb; replace BK3 := zBB BK3 hb; replace BK4 := zBB BK4 hb; replace BK6 := zBB BK6 hb; replace HB := zLB HB.out hb; clear hb; (try clear hz2_); have hz2_ := zc4 BK2.out; (try clear hz3_); have hz3_ := zc3_ BK3.out; (try clear hz4_); have hz4_ := zc4 BK4.out; (try clear hz6_); have hz6_ := zc4 BK6.out;) | ((with_reducible refine gate_store (t := 25) (p := 4) rfl ?_); refine store_event (t := 25) (p := 4) (v := ?voF0_) (w1 := ((((w10.setCell ⟨g4, 0, none⟩ (.int .i64 y0)).setCell ⟨g4, 1, none⟩ (.slice B1 y1.length q1)).setCell ⟨g4, 2, none⟩ (.slice B2 y2.length q2)).setCell ⟨g4, 3, none⟩ (.slice B3 y3.length q3))) ?hg ?ho ?hn ?hr ?_; (case ho => rfl); (case hg => rfl); (case hn => rfl); (case hr => (have hs0_ := (blk_cell BK4.out 0).trans rfl; have hf0_ := blk_frozen BK4.out 0; have hs1_ := (blk_cell BK4.out 1).trans rfl; have hf1_ := blk_frozen BK4.out 1; have hs2_ := (blk_cell BK4.out 2).trans rfl; have hf2_ := blk_frozen BK4.out 2; have hs3_ := (blk_cell BK4.out 3).trans rfl; have hf3_ := blk_frozen BK4.out 3; first | (go_simp; done) | (go_simp; rfl))); intro wF hw_; have HK_ := set4_kept hw_; have BKn := aM (set4_blk hw_ BK4.out rfl); have HBn := aM (set4_below hw_ HB.out GE4.out); have HF := aM (((HWR.out.types BK4.out (by decide) (by decide)).kept HK_ (fun _ h_ => h_.2)).mono (ok' := fun _ => True) (fun _ _ => trivial)); clear hw_ BK4 HB; have BK4 := BKn; have HB := HBn; clear BKn HBn HK_))
   refine bodyPost_ret (results_ct rfl _ _ g4 25 #[.int .i64 y0, .slice B1 y1.length q1, .slice B2 y2.length q2, .slice B3 y3.length q3] (0, 0) _ rfl (by exact BK4.out) Try.underlying25 rfl (by kernel_rfl)) rfl ?_
   exact ⟨_, _, _, rfl, HF.out, HB.out⟩
  | true =>
   rw [if_pos rfl] at h
   by_cases e1 : x2 ≤ y0
   ·rw [if_pos e1] at h
    simp only [Option.some.injEq, Prod.mk.injEq] at h
    obtain ⟨rfl, rfl, rfl, rfl, rfl⟩ := h
    have e1b := dT e1
    have e1t := eq_true e1
    clear e1
    go_enter Try.func31, Try.ntmps31
    go_wp2_with (first | ((with_reducible refine gD 2 rfl ?_); refine bE 2 #[.int .i64 y0, .slice A1 l1.length c1, .slice A2 l2.length c2, .slice A3 l3.length c3] 25 ?_; intro g2 hg w2_ hbox hb; have GE2 := aM (zg HB.out hg : w.heap.size ≤ g2);  have BK2 := aM hbox;  replace HB := zLB HB.out hb; clear hb; clear hbox hg; (try clear hz2_); have hz2_ := zc4 BK2.out;) | ((with_reducible refine gD 3 rfl ?_); refine bE 3 #[.int .i64 x0, .int .i64 x1, .int .i64 x2] 46 ?_; intro g3 hg w3_ hbox hb; have GE3 := aM (zg HB.out hg : w.heap.size ≤ g3); have N2_3 := aM (zN BK2.out hg : g2 ≠ g3); have BK3 := aM hbox; replace BK2 := zBB BK2 hb; replace HB := zLB HB.out hb; clear hb; clear hbox hg; (try clear hz2_); have hz2_ := zc4 BK2.out; (try clear hz3_); have hz3_ := zc3_ BK3.out;) | ((with_reducible refine gD 4 rfl ?_); refine bE 4 #[.int .i64 0, .slice none 0 0, .slice none 0 0, .slice none 0 0] 25 ?_; intro g4 hg w4_ hbox hb; have GE4 := aM (zg HB.out hg : w.heap.size ≤ g4); have N2_4 := aM (zN BK2.out hg : g2 ≠ g4); have N3_4 := aM (zN BK3.out hg : g3 ≠ g4); have BK4 := aM hbox; replace BK2 := zBB BK2 hb; replace BK3 := zBB BK3 hb; replace HB := zLB HB.out hb; clear hb; clear hbox hg; (try clear hz2_); have hz2_ := zc4 BK2.out; (try clear hz3_); have hz3_ := zc3_ BK3.out; (try clear hz4_); have hz4_ := zc4 BK4.out;) | ((with_reducible refine gC 72 rfl ?_); refine gL 8 Try.func72 #[.agg #[.int .i64 y0, .slice A1 l1.length c1, .slice A2 l2.length c2, .slice A3 l3.length c3]] ?_; (refine (spec_l8Copy.callsW k y0 A1 c1 l1 A2 c2 l2 A3 c3 l3 y0 y1 y2 y3 _ ?s1 HC1.out ?s2 HC2.out ?s3 HC3.out AC.out).mono ?_); (case s1 => exact Kd.C_below HR1.out HB.out); (case s2 => exact Kd.C_below HR2.out HB.out); (case s3 => exact Kd.C_below HR3.out HB.out); rintro e w8_ ⟨v1, v2, v3, rfl, hw_, hb⟩; obtain ⟨B1, q1, B2, q2, B3, q3, rfl, rfl, rfl, _, _, _, _⟩ := hw_.reads; refine ⟨_, rfl, ?_⟩; have F2 := aM (blk_lt BK2.out); have F3 := aM (blk_lt BK3.out); have F4 := aM (blk_lt BK4.out); obtain ⟨n0, hn0_⟩ : ∃ n0, n0 = _ := ⟨_, rfl⟩; have HWR := aM ((hw_.bound.mono (ok' := fun k_ => n0 ≤ k_) (fun k_ h_ => by rw [hn0_]; exact h_.2.1)).lower HB.out.size); have FN := aM (hb.size); rw [← hn0_] at F2 F3 F4 FN; clear hw_ hn0_; replace BK2 := zBB BK2 hb; replace BK3 := zBB BK3 hb; replace BK4 := zBB BK4 hb; replace HB := zLB HB.out hb; clear hb; (try clear hz2_); have hz2_ := zc4 BK2.out; (try clear hz3_); have hz3_ := zc3_ BK3.out; (try clear hz4_); have hz4_ := zc4 BK4.out;) | ((with_reducible refine gD 6 rfl ?_); refine bE 6 #[.int .i64 0, .slice none 0 0, .slice none 0 0, .slice none 0 0] 25 ?_; intro g6 hg w6_ hbox hb; have GE6 := aM (zg HB.out hg : w.heap.size ≤ g6); have N2_6 := aM (zN BK2.out hg : g2 ≠ g6); have N3_6 := aM (zN BK3.out hg : g3 ≠ g6); have N4_6 := aM (zN BK4.out hg : g4 ≠ g6); replace HWR := aM (HWR.out.below hb); have FN6 := aM (by rw [hg]; exact FN.out : n0 ≤ g6); clear FN; have BK6 := aM hbox; replace BK2 := zBB BK2 hb; replace BK3 := zBB BK3 hb; replace BK4 := zBB BK4 hb; replace HB := zLB HB.out hb; clear hb; clear hbox hg; (try clear hz2_); have hz2_ := zc4 BK2.out; (try clear hz3_); have hz3_ := zc3_ BK3.out; (try clear hz4_); have hz4_ := zc4 BK4.out; (try clear hz6_); have hz6_ := zc4 BK6.out;) | ((with_reducible refine gate_store (t := 25) (p := 6) rfl ?_); refine store_event (t := 25) (p := 6) (v := ?vo63_) (w1 := ((((w6_.setCell ⟨g6, 0, none⟩ (.int .i64 y0)).setCell ⟨g6, 1, none⟩ (.slice B1 y1.length q1)).setCell ⟨g6, 2, none⟩ (.slice B2 y2.length q2)).setCell ⟨g6, 3, none⟩ (.slice B3 y3.length q3))) ?hg ?ho ?hn ?hr ?_; (case ho => rfl); (case hg => rfl); (case hn => rfl); (case hr => (have hs0_ := (blk_cell BK6.out 0).trans rfl; have hf0_ := blk_frozen BK6.out 0; have hs1_ := (blk_cell BK6.out 1).trans rfl; have hf1_ := blk_frozen BK6.out 1; have hs2_ := (blk_cell BK6.out 2).trans rfl; have hf2_ := blk_frozen BK6.out 2; have hs3_ := (blk_cell BK6.out 3).trans rfl; have hf3_ := blk_frozen BK6.out 3; (try clear hz2_); have hz2_ := zc4 BK2.out; (try clear hz3_); have hz3_ := zc3_ BK3.out; (try clear hz4_); have hz4_ := zc4 BK4.out; first | (go_simp; done) | (go_simp; rfl))); intro w8 hw_; have HK_ := set4_kept hw_; have BKn := aM (set4_blk hw_ BK6.out rfl); have HBn := aM (set4_below hw_ HB.out GE6.out); replace BK2 := aM (blk_kept BK2.out HK_ (N2_6.out)); replace BK3 := aM (blk_kept BK3.out HK_ (N3_6.out)); replace BK4 := aM (blk_kept BK4.out HK_ (N4_6.out)); replace HWR := aM (((HWR.out.types BK6.out (by decide) (by decide)).kept HK_ (fun _ h_ => h_.2)).mono (ok' := fun k_ => n0 ≤ k_) (fun _ h_ => h_.1)); clear hw_ BK6 HB; have BK6 := BKn; have HB := HBn; clear BKn HBn HK_; (try clear hz2_); have hz2_ := zc4 BK2.out; (try clear hz3_); have hz3_ := zc3_ BK3.out; (try clear hz4_); have hz4_ := zc4 BK4.out; (try clear hz6_); have hz6_ := zc4 BK6.out;) | ((with_reducible refine gC 29 rfl ?_); refine gL 10 Try.func29 #[.agg #[.int .i64 y0, .slice A1 l1.length c1, .slice A2 l2.length c2, .slice A3 l3.length c3]] ?_; (refine (spec_WheelOk.calls k y0 A1 c1 l1 A2 c2 l2 A3 c3 l3 true _ ?s1 ?t1 ?s2 ?t2 ?s3 ?t3 AO.out).mono ?_); (case s1 => exact Kd.C_below HR1.out HB.out); (case s2 => exact Kd.C_below HR2.out HB.out); (case s3 => exact Kd.C_below HR3.out HB.out); (case t1 => exact HC1.out); (case t2 => exact HC2.out); (case t3 => exact HC3.out); rintro e w10 ⟨rfl, hb⟩; refine ⟨_, rfl, ?_⟩; replace BK2 := zBB BK2 hb; replace BK3 := zBB BK3 hb; replace BK4 := zBB BK4 hb; replace BK6 := zBB BK6 hb; replace HWR := aM (HWR.out.below hb); replace HB := zLB HB.out hb; clear hb; (try clear hz2_); have hz2_ := zc4 BK2.out; (try clear hz3_); have hz3_ := zc3_ BK3.out; (try clear hz4_); have hz4_ := zc4 BK4.out; (try clear hz6_); have hz6_ := zc4 BK6.out;) | ((with_reducible refine gC 73 rfl ?_); refine gL 26 Try.func73 #[.pointer (some ⟨g6, 0, none⟩), .agg #[.int .i64 x0, .int .i64 x1, .int .i64 x2]] ?_; (refine (spec_l8Put.calls y0 x0 x1 x2 y1 y2 y3 g6 w.heap.size (fun k_ => n0 ≤ k_) w _ HB.out GE6.out ⟨_, _, _, BK6.out, HWR.out⟩ AL.out m1 m2 m3 AV.out).mono ?_); rintro e w23 ⟨rfl, hs_, hb, hk_⟩; refine ⟨_, rfl, ?_⟩; replace BK2 := aM (blk_kept BK2.out hk_ (fun h_ => h_.elim (fun h_ => by have f_ := F2.out; omega) N2_6.out)); replace BK3 := aM (blk_kept BK3.out hk_ (fun h_ => h_.elim (fun h_ => by have f_ := F3.out; omega) N3_6.out)); replace BK4 := aM (blk_kept BK4.out hk_ (fun h_ => h_.elim (fun h_ => by have f_ := F4.out; omega) N4_6.out)); have q_ := blk_lt BK6.out; clear BK6 HB HWR; have HB := aM hb; have HS := aM (hs_.mono (ok' := fun k_ => n0 ≤ k_) (fun k_ h_ => h_.elim id (fun h_ => by have f_ := FN6.out; omega))); clear hb hk_ hs_ q_; obtain ⟨u1, u2, u3, hu_, hw_⟩ := HS.out; obtain ⟨D1, p1, D2, p2, D3, p3, rfl, rfl, rfl, ⟨t1_, t2_, t3_⟩, r1_, r2_, r3_⟩ := hw_.reads; have BK6 := aM hu_; have HWR := aM hw_; have HQ := aM (And.intro t1_ (And.intro t2_ (And.intro t3_ (And.intro r1_ (And.intro r2_ r3_))))); clear hu_ hw_ t1_ t2_ t3_ r1_ r2_ r3_ HS; (try clear hz2_); have hz2_ := zc4 BK2.out; (try clear hz3_); have hz3_ := zc3_ BK3.out; (try clear hz4_); have hz4_ := zc4 BK4.out; (try clear hz6_); have hz6_ := zc4 BK6.out;) | ((with_reducible refine gC 29 rfl ?_); refine gL 28 Try.func29 #[.agg #[.int .i64 y0, .slice D1 m1.length p1, .slice D2 m2.length p2, .slice D3 m3.length p3]] ?_; (refine (spec_WheelOk.calls k y0 D1 p1 m1 D2 p2 m2 D3 p3 m3 true _ HQ.out.2.2.2.1 HQ.out.1 HQ.out.2.2.2.2.1 HQ.out.2.1 HQ.out.2.2.2.2.2 HQ.out.2.2.1 AP.out).mono ?_); rintro e w25 ⟨rfl, hb⟩; refine ⟨_, rfl, ?_⟩; replace HWR := aM (HWR.out.below hb); clear HQ; replace BK2 := zBB BK2 hb; replace BK3 := zBB BK3 hb; replace BK4 := zBB BK4 hb; replace BK6 := zBB BK6 hb; replace HB := zLB HB.out hb; clear hb; (try clear hz2_); have hz2_ := zc4 BK2.out; (try clear hz3_); have hz3_ := zc3_ BK3.out; (try clear hz4_); have hz4_ := zc4 BK4.out; (try clear hz6_); have hz6_ := zc4 BK6.out;) | ((with_reducible refine gate_store (t := 25) (p := 4) rfl ?_); refine store_event (t := 25) (p := 4) (v := ?voF2_) (w1 := ((((w10.setCell ⟨g4, 0, none⟩ (.int .i64 y0)).setCell ⟨g4, 1, none⟩ (.slice B1 y1.length q1)).setCell ⟨g4, 2, none⟩ (.slice B2 y2.length q2)).setCell ⟨g4, 3, none⟩ (.slice B3 y3.length q3))) ?hg ?ho ?hn ?hr ?_; (case ho => rfl); (case hg => rfl); (case hn => rfl); (case hr => (have hs0_ := (blk_cell BK4.out 0).trans rfl; have hf0_ := blk_frozen BK4.out 0; have hs1_ := (blk_cell BK4.out 1).trans rfl; have hf1_ := blk_frozen BK4.out 1; have hs2_ := (blk_cell BK4.out 2).trans rfl; have hf2_ := blk_frozen BK4.out 2; have hs3_ := (blk_cell BK4.out 3).trans rfl; have hf3_ := blk_frozen BK4.out 3; first | (go_simp; done) | (go_simp; rfl))); intro wF hw_; have HK_ := set4_kept hw_; have BKn := aM (set4_blk hw_ BK4.out rfl); have HBn := aM (set4_below hw_ HB.out GE4.out); have HF := aM (((HWR.out.types BK4.out (by decide) (by decide)).kept HK_ (fun _ h_ => h_.2)).mono (ok' := fun _ => True) (fun _ _ => trivial)); clear hw_ BK4 HB; have BK4 := BKn; have HB := HBn; clear BKn HBn HK_))
    refine bodyPost_ret (results_ct rfl _ _ g4 25 #[.int .i64 y0, .slice B1 y1.length q1, .slice B2 y2.length q2, .slice B3 y3.length q3] (0, 0) _ rfl (by exact BK4.out) Try.underlying25 rfl (by kernel_rfl)) rfl ?_
    exact ⟨_, _, _, rfl, HF.out, HB.out⟩
   ·rw [if_neg e1] at h
    by_cases e2 : x2 > 2147483647
    ·rw [if_pos e2] at h
     simp only [Option.some.injEq, Prod.mk.injEq] at h
     obtain ⟨rfl, rfl, rfl, rfl, rfl⟩ := h
     have e1b := dF e1
     have e1t := eq_false e1
     have e2b := dT e2
     have e2t := eq_true e2
     clear e1 e2
     go_enter Try.func31, Try.ntmps31
     go_wp2_with (first | ((with_reducible refine gD 2 rfl ?_); refine bE 2 #[.int .i64 y0, .slice A1 l1.length c1, .slice A2 l2.length c2, .slice A3 l3.length c3] 25 ?_; intro g2 hg w2_ hbox hb; have GE2 := aM (zg HB.out hg : w.heap.size ≤ g2);  have BK2 := aM hbox;  replace HB := zLB HB.out hb; clear hb; clear hbox hg; (try clear hz2_); have hz2_ := zc4 BK2.out;) | ((with_reducible refine gD 3 rfl ?_); refine bE 3 #[.int .i64 x0, .int .i64 x1, .int .i64 x2] 46 ?_; intro g3 hg w3_ hbox hb; have GE3 := aM (zg HB.out hg : w.heap.size ≤ g3); have N2_3 := aM (zN BK2.out hg : g2 ≠ g3); have BK3 := aM hbox; replace BK2 := zBB BK2 hb; replace HB := zLB HB.out hb; clear hb; clear hbox hg; (try clear hz2_); have hz2_ := zc4 BK2.out; (try clear hz3_); have hz3_ := zc3_ BK3.out;) | ((with_reducible refine gD 4 rfl ?_); refine bE 4 #[.int .i64 0, .slice none 0 0, .slice none 0 0, .slice none 0 0] 25 ?_; intro g4 hg w4_ hbox hb; have GE4 := aM (zg HB.out hg : w.heap.size ≤ g4); have N2_4 := aM (zN BK2.out hg : g2 ≠ g4); have N3_4 := aM (zN BK3.out hg : g3 ≠ g4); have BK4 := aM hbox; replace BK2 := zBB BK2 hb; replace BK3 := zBB BK3 hb; replace HB := zLB HB.out hb; clear hb; clear hbox hg; (try clear hz2_); have hz2_ := zc4 BK2.out; (try clear hz3_); have hz3_ := zc3_ BK3.out; (try clear hz4_); have hz4_ := zc4 BK4.out;) | ((with_reducible refine gC 72 rfl ?_); refine gL 8 Try.func72 #[.agg #[.int .i64 y0, .slice A1 l1.length c1, .slice A2 l2.length c2, .slice A3 l3.length c3]] ?_; (refine (spec_l8Copy.callsW k y0 A1 c1 l1 A2 c2 l2 A3 c3 l3 y0 y1 y2 y3 _ ?s1 HC1.out ?s2 HC2.out ?s3 HC3.out AC.out).mono ?_); (case s1 => exact Kd.C_below HR1.out HB.out); (case s2 => exact Kd.C_below HR2.out HB.out); (case s3 => exact Kd.C_below HR3.out HB.out); rintro e w8_ ⟨v1, v2, v3, rfl, hw_, hb⟩; obtain ⟨B1, q1, B2, q2, B3, q3, rfl, rfl, rfl, _, _, _, _⟩ := hw_.reads; refine ⟨_, rfl, ?_⟩; have F2 := aM (blk_lt BK2.out); have F3 := aM (blk_lt BK3.out); have F4 := aM (blk_lt BK4.out); obtain ⟨n0, hn0_⟩ : ∃ n0, n0 = _ := ⟨_, rfl⟩; have HWR := aM ((hw_.bound.mono (ok' := fun k_ => n0 ≤ k_) (fun k_ h_ => by rw [hn0_]; exact h_.2.1)).lower HB.out.size); have FN := aM (hb.size); rw [← hn0_] at F2 F3 F4 FN; clear hw_ hn0_; replace BK2 := zBB BK2 hb; replace BK3 := zBB BK3 hb; replace BK4 := zBB BK4 hb; replace HB := zLB HB.out hb; clear hb; (try clear hz2_); have hz2_ := zc4 BK2.out; (try clear hz3_); have hz3_ := zc3_ BK3.out; (try clear hz4_); have hz4_ := zc4 BK4.out;) | ((with_reducible refine gD 6 rfl ?_); refine bE 6 #[.int .i64 0, .slice none 0 0, .slice none 0 0, .slice none 0 0] 25 ?_; intro g6 hg w6_ hbox hb; have GE6 := aM (zg HB.out hg : w.heap.size ≤ g6); have N2_6 := aM (zN BK2.out hg : g2 ≠ g6); have N3_6 := aM (zN BK3.out hg : g3 ≠ g6); have N4_6 := aM (zN BK4.out hg : g4 ≠ g6); replace HWR := aM (HWR.out.below hb); have FN6 := aM (by rw [hg]; exact FN.out : n0 ≤ g6); clear FN; have BK6 := aM hbox; replace BK2 := zBB BK2 hb; replace BK3 := zBB BK3 hb; replace BK4 := zBB BK4 hb; replace HB := zLB HB.out hb; clear hb; clear hbox hg; (try clear hz2_); have hz2_ := zc4 BK2.out; (try clear hz3_); have hz3_ := zc3_ BK3.out; (try clear hz4_); have hz4_ := zc4 BK4.out; (try clear hz6_); have hz6_ := zc4 BK6.out;) | ((with_reducible refine gate_store (t := 25) (p := 6) rfl ?_); refine store_event (t := 25) (p := 6) (v := ?vo65_) (w1 := ((((w6_.setCell ⟨g6, 0, none⟩ (.int .i64 y0)).setCell ⟨g6, 1, none⟩ (.slice B1 y1.length q1)).setCell ⟨g6, 2, none⟩ (.slice B2 y2.length q2)).setCell ⟨g6, 3, none⟩ (.slice B3 y3.length q3))) ?hg ?ho ?hn ?hr ?_; (case ho => rfl); (case hg => rfl); (case hn => rfl); (case hr => (have hs0_ := (blk_cell BK6.out 0).trans rfl; have hf0_ := blk_frozen BK6.out 0; have hs1_ := (blk_cell BK6.out 1).trans rfl; have hf1_ := blk_frozen BK6.out 1; have hs2_ := (blk_cell BK6.out 2).trans rfl; have hf2_ := blk_frozen BK6.out 2; have hs3_ := (blk_cell BK6.out 3).trans rfl; have hf3_ := blk_frozen BK6.out 3; (try clear hz2_); have hz2_ := zc4 BK2.out; (try clear hz3_); have hz3_ := zc3_ BK3.out; (try clear hz4_); have hz4_ := zc4 BK4.out; first | (go_simp; done) | (go_simp; rfl))); intro w8 hw_; have HK_ := set4_kept hw_; have BKn := aM (set4_blk hw_ BK6.out rfl); have HBn := aM (set4_below hw_ HB.out GE6.out); replace BK2 := aM (blk_kept BK2.out HK_ (N2_6.out)); replace BK3 := aM (blk_kept BK3.out HK_ (N3_6.out)); replace BK4 := aM (blk_kept BK4.out HK_ (N4_6.out)); replace HWR := aM (((HWR.out.types BK6.out (by decide) (by decide)).kept HK_ (fun _ h_ => h_.2)).mono (ok' := fun k_ => n0 ≤ k_) (fun _ h_ => h_.1)); clear hw_ BK6 HB; have BK6 := BKn; have HB := HBn; clear BKn HBn HK_; (try clear hz2_); have hz2_ := zc4 BK2.out; (try clear hz3_); have hz3_ := zc3_ BK3.out; (try clear hz4_); have hz4_ := zc4 BK4.out; (try clear hz6_); have hz6_ := zc4 BK6.out;) | ((with_reducible refine gC 29 rfl ?_); refine gL 10 Try.func29 #[.agg #[.int .i64 y0, .slice A1 l1.length c1, .slice A2 l2.length c2, .slice A3 l3.length c3]] ?_; (refine (spec_WheelOk.calls k y0 A1 c1 l1 A2 c2 l2 A3 c3 l3 true _ ?s1 ?t1 ?s2 ?t2 ?s3 ?t3 AO.out).mono ?_); (case s1 => exact Kd.C_below HR1.out HB.out); (case s2 => exact Kd.C_below HR2.out HB.out); (case s3 => exact Kd.C_below HR3.out HB.out); (case t1 => exact HC1.out); (case t2 => exact HC2.out); (case t3 => exact HC3.out); rintro e w10 ⟨rfl, hb⟩; refine ⟨_, rfl, ?_⟩; replace BK2 := zBB BK2 hb; replace BK3 := zBB BK3 hb; replace BK4 := zBB BK4 hb; replace BK6 := zBB BK6 hb; replace HWR := aM (HWR.out.below hb); replace HB := zLB HB.out hb; clear hb; (try clear hz2_); have hz2_ := zc4 BK2.out; (try clear hz3_); have hz3_ := zc3_ BK3.out; (try clear hz4_); have hz4_ := zc4 BK4.out; (try clear hz6_); have hz6_ := zc4 BK6.out;) | ((with_reducible refine gC 73 rfl ?_); refine gL 26 Try.func73 #[.pointer (some ⟨g6, 0, none⟩), .agg #[.int .i64 x0, .int .i64 x1, .int .i64 x2]] ?_; (refine (spec_l8Put.calls y0 x0 x1 x2 y1 y2 y3 g6 w.heap.size (fun k_ => n0 ≤ k_) w _ HB.out GE6.out ⟨_, _, _, BK6.out, HWR.out⟩ AL.out m1 m2 m3 AV.out).mono ?_); rintro e w23 ⟨rfl, hs_, hb, hk_⟩; refine ⟨_, rfl, ?_⟩; replace BK2 := aM (blk_kept BK2.out hk_ (fun h_ => h_.elim (fun h_ => by have f_ := F2.out; omega) N2_6.out)); replace BK3 := aM (blk_kept BK3.out hk_ (fun h_ => h_.elim (fun h_ => by have f_ := F3.out; omega) N3_6.out)); replace BK4 := aM (blk_kept BK4.out hk_ (fun h_ => h_.elim (fun h_ => by have f_ := F4.out; omega) N4_6.out)); have q_ := blk_lt BK6.out; clear BK6 HB HWR; have HB := aM hb; have HS := aM (hs_.mono (ok' := fun k_ => n0 ≤ k_) (fun k_ h_ => h_.elim id (fun h_ => by have f_ := FN6.out; omega))); clear hb hk_ hs_ q_; obtain ⟨u1, u2, u3, hu_, hw_⟩ := HS.out; obtain ⟨D1, p1, D2, p2, D3, p3, rfl, rfl, rfl, ⟨t1_, t2_, t3_⟩, r1_, r2_, r3_⟩ := hw_.reads; have BK6 := aM hu_; have HWR := aM hw_; have HQ := aM (And.intro t1_ (And.intro t2_ (And.intro t3_ (And.intro r1_ (And.intro r2_ r3_))))); clear hu_ hw_ t1_ t2_ t3_ r1_ r2_ r3_ HS; (try clear hz2_); have hz2_ := zc4 BK2.out; (try clear hz3_); have hz3_ := zc3_ BK3.out; (try clear hz4_); have hz4_ := zc4 BK4.out; (try clear hz6_); have hz6_ := zc4 BK6.out;) | ((with_reducible refine gC 29 rfl ?_); refine gL 28 Try.func29 #[.agg #[.int .i64 y0, .slice D1 m1.length p1, .slice D2 m2.length p2, .slice D3 m3.length p3]] ?_; (refine (spec_WheelOk.calls k y0 D1 p1 m1 D2 p2 m2 D3 p3 m3 true _ HQ.out.2.2.2.1 HQ.out.1 HQ.out.2.2.2.2.1 HQ.out.2.1 HQ.out.2.2.2.2.2 HQ.out.2.2.1 AP.out).mono ?_); rintro e w25 ⟨rfl, hb⟩; refine ⟨_, rfl, ?_⟩; replace HWR := aM (HWR.out.below hb); clear HQ; replace BK2 := zBB BK2 hb; replace BK3 := zBB BK3 hb; replace BK4 := zBB BK4 hb; replace BK6 := zBB BK6 hb; replace HB := zLB HB.out hb; clear hb; (try clear hz2_); have hz2_ := zc4 BK2.out; (try clear hz3_); have hz3_ := zc3_ BK3.out; (try clear hz4_); have hz4_ := zc4 BK4.out; (try clear hz6_); have hz6_ := zc4 BK6.out;) | ((with_reducible refine gate_store (t := 25) (p := 4) rfl ?_); refine store_event (t := 25) (p := 4) (v := ?voF4_) (w1 := ((((w10.setCell ⟨g4, 0, none⟩ (.int .i64 y0)).setCell ⟨g4, 1, none⟩ (.slice B1 y1.length q1)).setCell ⟨g4, 2, none⟩ (.slice B2 y2.length q2)).setCell ⟨g4, 3, none⟩ (.slice B3 y3.length q3))) ?hg ?ho ?hn ?hr ?_; (case ho => rfl); (case hg => rfl); (case hn => rfl); (case hr => (have hs0_ := (blk_cell BK4.out 0).trans rfl; have hf0_ := blk_frozen BK4.out 0; have hs1_ := (blk_cell BK4.out 1).trans rfl; have hf1_ := blk_frozen BK4.out 1; have hs2_ := (blk_cell BK4.out 2).trans rfl; have hf2_ := blk_frozen BK4.out 2; have hs3_ := (blk_cell BK4.out 3).trans rfl; have hf3_ := blk_frozen BK4.out 3; first | (go_simp; done) | (go_simp; rfl))); intro wF hw_; have HK_ := set4_kept hw_; have BKn := aM (set4_blk hw_ BK4.out rfl); have HBn := aM (set4_below hw_ HB.out GE4.out); have HF := aM (((HWR.out.types BK4.out (by decide) (by decide)).kept HK_ (fun _ h_ => h_.2)).mono (ok' := fun _ => True) (fun _ _ => trivial)); clear hw_ BK4 HB; have BK4 := BKn; have HB := HBn; clear BKn HBn HK_))
     refine bodyPost_ret (results_ct rfl _ _ g4 25 #[.int .i64 y0, .slice B1 y1.length q1, .slice B2 y2.length q2, .slice B3 y3.length q3] (0, 0) _ rfl (by exact BK4.out) Try.underlying25 rfl (by kernel_rfl)) rfl ?_
     exact ⟨_, _, _, rfl, HF.out, HB.out⟩
    ·rw [if_neg e2] at h
     have e1b := dF e1
     have e1t := eq_false e1
     have e2b := dF e2
     have e2t := eq_false e2
     clear e1 e2
     obtain ⟨⟨m1, m2, m3⟩, hv⟩ : ∃ m, layV y0 ⟨x0, x1, x2⟩ y1 y2 y3 = m := ⟨_, rfl⟩
     rw [hv] at h
     simp only at h
     by_cases hl : layOk y0 ⟨x0, x1, x2⟩ y1 y2 y3 = true
     ·rw [if_pos hl] at h
      have AL := aM hl
      have AV := aM hv
      clear hl hv
      obtain ⟨b2, AP, h⟩ := zO h
      cases b2 with
      | false =>
       rw [if_neg (by simp)] at h
       simp only [Option.some.injEq, Prod.mk.injEq] at h
       obtain ⟨rfl, rfl, rfl, rfl, rfl⟩ := h
       go_enter Try.func31, Try.ntmps31
       go_wp2_with (first | ((with_reducible refine gD 2 rfl ?_); refine bE 2 #[.int .i64 y0, .slice A1 l1.length c1, .slice A2 l2.length c2, .slice A3 l3.length c3] 25 ?_; intro g2 hg w2_ hbox hb; have GE2 := aM (zg HB.out hg : w.heap.size ≤ g2);  have BK2 := aM hbox;  replace HB := zLB HB.out hb; clear hb; clear hbox hg; (try clear hz2_); have hz2_ := zc4 BK2.out;) | ((with_reducible refine gD 3 rfl ?_); refine bE 3 #[.int .i64 x0, .int .i64 x1, .int .i64 x2] 46 ?_; intro g3 hg w3_ hbox hb; have GE3 := aM (zg HB.out hg : w.heap.size ≤ g3); have N2_3 := aM (zN BK2.out hg : g2 ≠ g3); have BK3 := aM hbox; replace BK2 := zBB BK2 hb; replace HB := zLB HB.out hb; clear hb; clear hbox hg; (try clear hz2_); have hz2_ := zc4 BK2.out; (try clear hz3_); have hz3_ := zc3_ BK3.out;) | ((with_reducible refine gD 4 rfl ?_); refine bE 4 #[.int .i64 0, .slice none 0 0, .slice none 0 0, .slice none 0 0] 25 ?_; intro g4 hg w4_ hbox hb; have GE4 := aM (zg HB.out hg : w.heap.size ≤ g4); have N2_4 := aM (zN BK2.out hg : g2 ≠ g4); have N3_4 := aM (zN BK3.out hg : g3 ≠ g4); have BK4 := aM hbox; replace BK2 := zBB BK2 hb; replace BK3 := zBB BK3 hb; replace HB := zLB HB.out hb; clear hb; clear hbox hg; (try clear hz2_); have hz2_ := zc4 BK2.out; (try clear hz3_); have hz3_ := zc3_ BK3.out; (try clear hz4_); have hz4_ := zc4 BK4.out;) | ((with_reducible refine gC 72 rfl ?_); refine gL 8 Try.func72 #[.agg #[.int .i64 y0, .slice A1 l1.length c1, .slice A2 l2.length c2, .slice A3 l3.length c3]] ?_; (refine (spec_l8Copy.callsW k y0 A1 c1 l1 A2 c2 l2 A3 c3 l3 y0 y1 y2 y3 _ ?s1 HC1.out ?s2 HC2.out ?s3 HC3.out AC.out).mono ?_); (case s1 => exact Kd.C_below HR1.out HB.out); (case s2 => exact Kd.C_below HR2.out HB.out); (case s3 => exact Kd.C_below HR3.out HB.out); rintro e w8_ ⟨v1, v2, v3, rfl, hw_, hb⟩; obtain ⟨B1, q1, B2, q2, B3, q3, rfl, rfl, rfl, _, _, _, _⟩ := hw_.reads; refine ⟨_, rfl, ?_⟩; have F2 := aM (blk_lt BK2.out); have F3 := aM (blk_lt BK3.out); have F4 := aM (blk_lt BK4.out); obtain ⟨n0, hn0_⟩ : ∃ n0, n0 = _ := ⟨_, rfl⟩; have HWR := aM ((hw_.bound.mono (ok' := fun k_ => n0 ≤ k_) (fun k_ h_ => by rw [hn0_]; exact h_.2.1)).lower HB.out.size); have FN := aM (hb.size); rw [← hn0_] at F2 F3 F4 FN; clear hw_ hn0_; replace BK2 := zBB BK2 hb; replace BK3 := zBB BK3 hb; replace BK4 := zBB BK4 hb; replace HB := zLB HB.out hb; clear hb; (try clear hz2_); have hz2_ := zc4 BK2.out; (try clear hz3_); have hz3_ := zc3_ BK3.out; (try clear hz4_); have hz4_ := zc4 BK4.out;) | ((with_reducible refine gD 6 rfl ?_); refine bE 6 #[.int .i64 0, .slice none 0 0, .slice none 0 0, .slice none 0 0] 25 ?_; intro g6 hg w6_ hbox hb; have GE6 := aM (zg HB.out hg : w.heap.size ≤ g6); have N2_6 := aM (zN BK2.out hg : g2 ≠ g6); have N3_6 := aM (zN BK3.out hg : g3 ≠ g6); have N4_6 := aM (zN BK4.out hg : g4 ≠ g6); replace HWR := aM (HWR.out.below hb); have FN6 := aM (by rw [hg]; exact FN.out : n0 ≤ g6); clear FN; have BK6 := aM hbox; replace BK2 := zBB BK2 hb; replace BK3 := zBB BK3 hb; replace BK4 := zBB BK4 hb; replace HB := zLB HB.out hb; clear hb; clear hbox hg; (try clear hz2_); have hz2_ := zc4 BK2.out; (try clear hz3_); have hz3_ := zc3_ BK3.out; (try clear hz4_); have hz4_ := zc4 BK4.out; (try clear hz6_); have hz6_ := zc4 BK6.out;) | ((with_reducible refine gate_store (t := 25) (p := 6) rfl ?_); refine store_event (t := 25) (p := 6) (v := ?vo67_) (w1 := ((((w6_.setCell ⟨g6, 0, none⟩ (.int .i64 y0)).setCell ⟨g6, 1, none⟩ (.slice B1 y1.length q1)).setCell ⟨g6, 2, none⟩ (.slice B2 y2.length q2)).setCell ⟨g6, 3, none⟩ (.slice B3 y3.length q3))) ?hg ?ho ?hn ?hr ?_; (case ho => rfl); (case hg => rfl); (case hn => rfl); (case hr => (have hs0_ := (blk_cell BK6.out 0).trans rfl; have hf0_ := blk_frozen BK6.out 0; have hs1_ := (blk_cell BK6.out 1).trans rfl; have hf1_ := blk_frozen BK6.out 1; have hs2_ := (blk_cell BK6.out 2).trans rfl; have hf2_ := blk_frozen BK6.out 2; have hs3_ := (blk_cell BK6.out 3).trans rfl; have hf3_ := blk_frozen BK6.out 3; (try clear hz2_); have hz2_ := zc4 BK2.out; (try clear hz3_); have hz3_ := zc3_ BK3.out; (try clear hz4_); have hz4_ := zc4 BK4.out; first | (go_simp; done) | (go_simp; rfl))); intro w8 hw_; have HK_ := set4_kept hw_; have BKn := aM (set4_blk hw_ BK6.out rfl); have HBn := aM (set4_below hw_ HB.out GE6.out); replace BK2 := aM (blk_kept BK2.out HK_ (N2_6.out)); replace BK3 := aM (blk_kept BK3.out HK_ (N3_6.out)); replace BK4 := aM (blk_kept BK4.out HK_ (N4_6.out)); replace HWR := aM (((HWR.out.types BK6.out (by decide) (by decide)).kept HK_ (fun _ h_ => h_.2)).mono (ok' := fun k_ => n0 ≤ k_) (fun _ h_ => h_.1)); clear hw_ BK6 HB; have BK6 := BKn; have HB := HBn; clear BKn HBn HK_; (try clear hz2_); have hz2_ := zc4 BK2.out; (try clear hz3_); have hz3_ := zc3_ BK3.out; (try clear hz4_); have hz4_ := zc4 BK4.out; (try clear hz6_); have hz6_ := zc4 BK6.out;) | ((with_reducible refine gC 29 rfl ?_); refine gL 10 Try.func29 #[.agg #[.int .i64 y0, .slice A1 l1.length c1, .slice A2 l2.length c2, .slice A3 l3.length c3]] ?_; (refine (spec_WheelOk.calls k y0 A1 c1 l1 A2 c2 l2 A3 c3 l3 true _ ?s1 ?t1 ?s2 ?t2 ?s3 ?t3 AO.out).mono ?_); (case s1 => exact Kd.C_below HR1.out HB.out); (case s2 => exact Kd.C_below HR2.out HB.out); (case s3 => exact Kd.C_below HR3.out HB.out); (case t1 => exact HC1.out); (case t2 => exact HC2.out); (case t3 => exact HC3.out); rintro e w10 ⟨rfl, hb⟩; refine ⟨_, rfl, ?_⟩; replace BK2 := zBB BK2 hb; replace BK3 := zBB BK3 hb; replace BK4 := zBB BK4 hb; replace BK6 := zBB BK6 hb; replace HWR := aM (HWR.out.below hb); replace HB := zLB HB.out hb; clear hb; (try clear hz2_); have hz2_ := zc4 BK2.out; (try clear hz3_); have hz3_ := zc3_ BK3.out; (try clear hz4_); have hz4_ := zc4 BK4.out; (try clear hz6_); have hz6_ := zc4 BK6.out;) | ((with_reducible refine gC 73 rfl ?_); refine gL 26 Try.func73 #[.pointer (some ⟨g6, 0, none⟩), .agg #[.int .i64 x0, .int .i64 x1, .int .i64 x2]] ?_; (refine (spec_l8Put.calls y0 x0 x1 x2 y1 y2 y3 g6 w.heap.size (fun k_ => n0 ≤ k_) w _ HB.out GE6.out ⟨_, _, _, BK6.out, HWR.out⟩ AL.out m1 m2 m3 AV.out).mono ?_); rintro e w23 ⟨rfl, hs_, hb, hk_⟩; refine ⟨_, rfl, ?_⟩; replace BK2 := aM (blk_kept BK2.out hk_ (fun h_ => h_.elim (fun h_ => by have f_ := F2.out; omega) N2_6.out)); replace BK3 := aM (blk_kept BK3.out hk_ (fun h_ => h_.elim (fun h_ => by have f_ := F3.out; omega) N3_6.out)); replace BK4 := aM (blk_kept BK4.out hk_ (fun h_ => h_.elim (fun h_ => by have f_ := F4.out; omega) N4_6.out)); have q_ := blk_lt BK6.out; clear BK6 HB HWR; have HB := aM hb; have HS := aM (hs_.mono (ok' := fun k_ => n0 ≤ k_) (fun k_ h_ => h_.elim id (fun h_ => by have f_ := FN6.out; omega))); clear hb hk_ hs_ q_; obtain ⟨u1, u2, u3, hu_, hw_⟩ := HS.out; obtain ⟨D1, p1, D2, p2, D3, p3, rfl, rfl, rfl, ⟨t1_, t2_, t3_⟩, r1_, r2_, r3_⟩ := hw_.reads; have BK6 := aM hu_; have HWR := aM hw_; have HQ := aM (And.intro t1_ (And.intro t2_ (And.intro t3_ (And.intro r1_ (And.intro r2_ r3_))))); clear hu_ hw_ t1_ t2_ t3_ r1_ r2_ r3_ HS; (try clear hz2_); have hz2_ := zc4 BK2.out; (try clear hz3_); have hz3_ := zc3_ BK3.out; (try clear hz4_); have hz4_ := zc4 BK4.out; (try clear hz6_); have hz6_ := zc4 BK6.out;) | ((with_reducible refine gC 29 rfl ?_); refine gL 28 Try.func29 #[.agg #[.int .i64 y0, .slice D1 m1.length p1, .slice D2 m2.length p2, .slice D3 m3.length p3]] ?_; (refine (spec_WheelOk.calls k y0 D1 p1 m1 D2 p2 m2 D3 p3 m3 false _ HQ.out.2.2.2.1 HQ.out.1 HQ.out.2.2.2.2.1 HQ.out.2.1 HQ.out.2.2.2.2.2 HQ.out.2.2.1 AP.out).mono ?_); rintro e w25 ⟨rfl, hb⟩; refine ⟨_, rfl, ?_⟩; replace HWR := aM (HWR.out.below hb); clear HQ; replace BK2 := zBB BK2 hb; replace BK3 := zBB BK3 hb; replace BK4 := zBB BK4 hb; replace BK6 := zBB BK6 hb; replace HB := zLB HB.out hb; clear hb; (try clear hz2_); have hz2_ := zc4 BK2.out; (try clear hz3_); have hz3_ := zc3_ BK3.out; (try clear hz4_); have hz4_ := zc4 BK4.out; (try clear hz6_); have hz6_ := zc4 BK6.out;) | ((with_reducible refine gC 72 rfl ?_); refine gL 31 Try.func72 #[.agg #[.int .i64 y0, .slice A1 l1.length c1, .slice A2 l2.length c2, .slice A3 l3.length c3]] ?_; (refine (spec_l8Copy.callsW k y0 A1 c1 l1 A2 c2 l2 A3 c3 l3 y0 y1 y2 y3 _ ?s1 HC1.out ?s2 HC2.out ?s3 HC3.out AC.out).mono ?_); (case s1 => exact Kd.C_below HR1.out HB.out); (case s2 => exact Kd.C_below HR2.out HB.out); (case s3 => exact Kd.C_below HR3.out HB.out); rintro e w28_ ⟨v1, v2, v3, rfl, hw_, hb⟩; obtain ⟨E1, s1, E2, s2, E3, s3, rfl, rfl, rfl, _, _, _, _⟩ := hw_.reads; refine ⟨_, rfl, ?_⟩; have HWX := aM (hw_.lower HB.out.size); clear hw_; replace BK2 := zBB BK2 hb; replace BK3 := zBB BK3 hb; replace BK4 := zBB BK4 hb; replace BK6 := zBB BK6 hb; replace HB := zLB HB.out hb; clear hb; (try clear hz2_); have hz2_ := zc4 BK2.out; (try clear hz3_); have hz3_ := zc3_ BK3.out; (try clear hz4_); have hz4_ := zc4 BK4.out; (try clear hz6_); have hz6_ := zc4 BK6.out;) | ((with_reducible refine gate_store (t := 25) (p := 4) rfl ?_); refine store_event (t := 25) (p := 4) (v := ?voF6_) (w1 := ((((w28_.setCell ⟨g4, 0, none⟩ (.int .i64 y0)).setCell ⟨g4, 1, none⟩ (.slice E1 y1.length s1)).setCell ⟨g4, 2, none⟩ (.slice E2 y2.length s2)).setCell ⟨g4, 3, none⟩ (.slice E3 y3.length s3))) ?hg ?ho ?hn ?hr ?_; (case ho => rfl); (case hg => rfl); (case hn => rfl); (case hr => (have hs0_ := (blk_cell BK4.out 0).trans rfl; have hf0_ := blk_frozen BK4.out 0; have hs1_ := (blk_cell BK4.out 1).trans rfl; have hf1_ := blk_frozen BK4.out 1; have hs2_ := (blk_cell BK4.out 2).trans rfl; have hf2_ := blk_frozen BK4.out 2; have hs3_ := (blk_cell BK4.out 3).trans rfl; have hf3_ := blk_frozen BK4.out 3; first | (go_simp; done) | (go_simp; rfl))); intro wF hw_; have HK_ := set4_kept hw_; have BKn := aM (set4_blk hw_ BK4.out rfl); have HBn := aM (set4_below hw_ HB.out GE4.out); have HF := aM (((HWX.out.types BK4.out (by decide) (by decide)).kept HK_ (fun _ h_ => h_.2)).mono (ok' := fun _ => True) (fun _ _ => trivial)); clear hw_ BK4 HB; have BK4 := BKn; have HB := HBn; clear BKn HBn HK_))
       refine bodyPost_ret (results_ct rfl _ _ g4 25 #[.int .i64 y0, .slice E1 y1.length s1, .slice E2 y2.length s2, .slice E3 y3.length s3] (0, 0) _ rfl (by exact BK4.out) Try.underlying25 rfl (by kernel_rfl)) rfl ?_
       exact ⟨_, _, _, rfl, HF.out, HB.out⟩
      | true =>
       rw [if_pos rfl] at h
       simp only [Option.some.injEq, Prod.mk.injEq] at h
       obtain ⟨rfl, rfl, rfl, rfl, rfl⟩ := h
       go_enter Try.func31, Try.ntmps31
       go_wp2_with (first | ((with_reducible refine gD 2 rfl ?_); refine bE 2 #[.int .i64 y0, .slice A1 l1.length c1, .slice A2 l2.length c2, .slice A3 l3.length c3] 25 ?_; intro g2 hg w2_ hbox hb; have GE2 := aM (zg HB.out hg : w.heap.size ≤ g2);  have BK2 := aM hbox;  replace HB := zLB HB.out hb; clear hb; clear hbox hg; (try clear hz2_); have hz2_ := zc4 BK2.out;) | ((with_reducible refine gD 3 rfl ?_); refine bE 3 #[.int .i64 x0, .int .i64 x1, .int .i64 x2] 46 ?_; intro g3 hg w3_ hbox hb; have GE3 := aM (zg HB.out hg : w.heap.size ≤ g3); have N2_3 := aM (zN BK2.out hg : g2 ≠ g3); have BK3 := aM hbox; replace BK2 := zBB BK2 hb; replace HB := zLB HB.out hb; clear hb; clear hbox hg; (try clear hz2_); have hz2_ := zc4 BK2.out; (try clear hz3_); have hz3_ := zc3_ BK3.out;) | ((with_reducible refine gD 4 rfl ?_); refine bE 4 #[.int .i64 0, .slice none 0 0, .slice none 0 0, .slice none 0 0] 25 ?_; intro g4 hg w4_ hbox hb; have GE4 := aM (zg HB.out hg : w.heap.size ≤ g4); have N2_4 := aM (zN BK2.out hg : g2 ≠ g4); have N3_4 := aM (zN BK3.out hg : g3 ≠ g4); have BK4 := aM hbox; replace BK2 := zBB BK2 hb; replace BK3 := zBB BK3 hb; replace HB := zLB HB.out hb; clear hb; clear hbox hg; (try clear hz2_); have hz2_ := zc4 BK2.out; (try clear hz3_); have hz3_ := zc3_ BK3.out; (try clear hz4_); have hz4_ := zc4 BK4.out;) | ((with_reducible refine gC 72 rfl ?_); refine gL 8 Try.func72 #[.agg #[.int .i64 y0, .slice A1 l1.length c1, .slice A2 l2.length c2, .slice A3 l3.length c3]] ?_; (refine (spec_l8Copy.callsW k y0 A1 c1 l1 A2 c2 l2 A3 c3 l3 y0 y1 y2 y3 _ ?s1 HC1.out ?s2 HC2.out ?s3 HC3.out AC.out).mono ?_); (case s1 => exact Kd.C_below HR1.out HB.out); (case s2 => exact Kd.C_below HR2.out HB.out); (case s3 => exact Kd.C_below HR3.out HB.out); rintro e w8_ ⟨v1, v2, v3, rfl, hw_, hb⟩; obtain ⟨B1, q1, B2, q2, B3, q3, rfl, rfl, rfl, _, _, _, _⟩ := hw_.reads; refine ⟨_, rfl, ?_⟩; have F2 := aM (blk_lt BK2.out); have F3 := aM (blk_lt BK3.out); have F4 := aM (blk_lt BK4.out); obtain ⟨n0, hn0_⟩ : ∃ n0, n0 = _ := ⟨_, rfl⟩; have HWR := aM ((hw_.bound.mono (ok' := fun k_ => n0 ≤ k_) (fun k_ h_ => by rw [hn0_]; exact h_.2.1)).lower HB.out.size); have FN := aM (hb.size); rw [← hn0_] at F2 F3 F4 FN; clear hw_ hn0_; replace BK2 := zBB BK2 hb; replace BK3 := zBB BK3 hb; replace BK4 := zBB BK4 hb; replace HB := zLB HB.out hb; clear hb; (try clear hz2_); have hz2_ := zc4 BK2.out; (try clear hz3_); have hz3_ := zc3_ BK3.out; (try clear hz4_); have hz4_ := zc4 BK4.out;) | ((with_reducible refine gD 6 rfl ?_); refine bE 6 #[.int .i64 0, .slice none 0 0, .slice none 0 0, .slice none 0 0] 25 ?_; intro g6 hg w6_ hbox hb; have GE6 := aM (zg HB.out hg : w.heap.size ≤ g6); have N2_6 := aM (zN BK2.out hg : g2 ≠ g6); have N3_6 := aM (zN BK3.out hg : g3 ≠ g6); have N4_6 := aM (zN BK4.out hg : g4 ≠ g6); replace HWR := aM (HWR.out.below hb); have FN6 := aM (by rw [hg]; exact FN.out : n0 ≤ g6); clear FN; have BK6 := aM hbox; replace BK2 := zBB BK2 hb; replace BK3 := zBB BK3 hb; replace BK4 := zBB BK4 hb; replace HB := zLB HB.out hb; clear hb; clear hbox hg; (try clear hz2_); have hz2_ := zc4 BK2.out; (try clear hz3_); have hz3_ := zc3_ BK3.out; (try clear hz4_); have hz4_ := zc4 BK4.out; (try clear hz6_); have hz6_ := zc4 BK6.out;) | ((with_reducible refine gate_store (t := 25) (p := 6) rfl ?_); refine store_event (t := 25) (p := 6) (v := ?vo69_) (w1 := ((((w6_.setCell ⟨g6, 0, none⟩ (.int .i64 y0)).setCell ⟨g6, 1, none⟩ (.slice B1 y1.length q1)).setCell ⟨g6, 2, none⟩ (.slice B2 y2.length q2)).setCell ⟨g6, 3, none⟩ (.slice B3 y3.length q3))) ?hg ?ho ?hn ?hr ?_; (case ho => rfl); (case hg => rfl); (case hn => rfl); (case hr => (have hs0_ := (blk_cell BK6.out 0).trans rfl; have hf0_ := blk_frozen BK6.out 0; have hs1_ := (blk_cell BK6.out 1).trans rfl; have hf1_ := blk_frozen BK6.out 1; have hs2_ := (blk_cell BK6.out 2).trans rfl; have hf2_ := blk_frozen BK6.out 2; have hs3_ := (blk_cell BK6.out 3).trans rfl; have hf3_ := blk_frozen BK6.out 3; (try clear hz2_); have hz2_ := zc4 BK2.out; (try clear hz3_); have hz3_ := zc3_ BK3.out; (try clear hz4_); have hz4_ := zc4 BK4.out; first | (go_simp; done) | (go_simp; rfl))); intro w8 hw_; have HK_ := set4_kept hw_; have BKn := aM (set4_blk hw_ BK6.out rfl); have HBn := aM (set4_below hw_ HB.out GE6.out); replace BK2 := aM (blk_kept BK2.out HK_ (N2_6.out)); replace BK3 := aM (blk_kept BK3.out HK_ (N3_6.out)); replace BK4 := aM (blk_kept BK4.out HK_ (N4_6.out)); replace HWR := aM (((HWR.out.types BK6.out (by decide) (by decide)).kept HK_ (fun _ h_ => h_.2)).mono (ok' := fun k_ => n0 ≤ k_) (fun _ h_ => h_.1)); clear hw_ BK6 HB; have BK6 := BKn; have HB := HBn; clear BKn HBn HK_; (try clear hz2_); have hz2_ := zc4 BK2.out; (try clear hz3_); have hz3_ := zc3_ BK3.out; (try clear hz4_); have hz4_ := zc4 BK4.out; (try clear hz6_); have hz6_ := zc4 BK6.out;) | ((with_reducible refine gC 29 rfl ?_); refine gL 10 Try.func29 #[.agg #[.int .i64 y0, .slice A1 l1.length c1, .slice A2 l2.length c2, .slice A3 l3.length c3]] ?_; (refine (spec_WheelOk.calls k y0 A1 c1 l1 A2 c2 l2 A3 c3 l3 true _ ?s1 ?t1 ?s2 ?t2 ?s3 ?t3 AO.out).mono ?_); (case s1 => exact Kd.C_below HR1.out HB.out); (case s2 => exact Kd.C_below HR2.out HB.out); (case s3 => exact Kd.C_below HR3.out HB.out); (case t1 => exact HC1.out); (case t2 => exact HC2.out); (case t3 => exact HC3.out); rintro e w10 ⟨rfl, hb⟩; refine ⟨_, rfl, ?_⟩; replace BK2 := zBB BK2 hb; replace BK3 := zBB BK3 hb; replace BK4 := zBB BK4 hb; replace BK6 := zBB BK6 hb; replace HWR := aM (HWR.out.below hb); replace HB := zLB HB.out hb; clear hb; (try clear hz2_); have hz2_ := zc4 BK2.out; (try clear hz3_); have hz3_ := zc3_ BK3.out; (try clear hz4_); have hz4_ := zc4 BK4.out; (try clear hz6_); have hz6_ := zc4 BK6.out;) | ((with_reducible refine gC 73 rfl ?_); refine gL 26 Try.func73 #[.pointer (some ⟨g6, 0, none⟩), .agg #[.int .i64 x0, .int .i64 x1, .int .i64 x2]] ?_; (refine (spec_l8Put.calls y0 x0 x1 x2 y1 y2 y3 g6 w.heap.size (fun k_ => n0 ≤ k_) w _ HB.out GE6.out ⟨_, _, _, BK6.out, HWR.out⟩ AL.out m1 m2 m3 AV.out).mono ?_); rintro e w23 ⟨rfl, hs_, hb, hk_⟩; refine ⟨_, rfl, ?_⟩; replace BK2 := aM (blk_kept BK2.out hk_ (fun h_ => h_.elim (fun h_ => by have f_ := F2.out; omega) N2_6.out)); replace BK3 := aM (blk_kept BK3.out hk_ (fun h_ => h_.elim (fun h_ => by have f_ := F3.out; omega) N3_6.out)); replace BK4 := aM (blk_kept BK4.out hk_ (fun h_ => h_.elim (fun h_ => by have f_ := F4.out; omega) N4_6.out)); have q_ := blk_lt BK6.out; clear BK6 HB HWR; have HB := aM hb; have HS := aM (hs_.mono (ok' := fun k_ => n0 ≤ k_) (fun k_ h_ => h_.elim id (fun h_ => by have f_ := FN6.out; omega))); clear hb hk_ hs_ q_; obtain ⟨u1, u2, u3, hu_, hw_⟩ := HS.out; obtain ⟨D1, p1, D2, p2, D3, p3, rfl, rfl, rfl, ⟨t1_, t2_, t3_⟩, r1_, r2_, r3_⟩ := hw_.reads; have BK6 := aM hu_; have HWR := aM hw_; have HQ := aM (And.intro t1_ (And.intro t2_ (And.intro t3_ (And.intro r1_ (And.intro r2_ r3_))))); clear hu_ hw_ t1_ t2_ t3_ r1_ r2_ r3_ HS; (try clear hz2_); have hz2_ := zc4 BK2.out; (try clear hz3_); have hz3_ := zc3_ BK3.out; (try clear hz4_); have hz4_ := zc4 BK4.out; (try clear hz6_); have hz6_ := zc4 BK6.out;) | ((with_reducible refine gC 29 rfl ?_); refine gL 28 Try.func29 #[.agg #[.int .i64 y0, .slice D1 m1.length p1, .slice D2 m2.length p2, .slice D3 m3.length p3]] ?_; (refine (spec_WheelOk.calls k y0 D1 p1 m1 D2 p2 m2 D3 p3 m3 true _ HQ.out.2.2.2.1 HQ.out.1 HQ.out.2.2.2.2.1 HQ.out.2.1 HQ.out.2.2.2.2.2 HQ.out.2.2.1 AP.out).mono ?_); rintro e w25 ⟨rfl, hb⟩; refine ⟨_, rfl, ?_⟩; replace HWR := aM (HWR.out.below hb); clear HQ; replace BK2 := zBB BK2 hb; replace BK3 := zBB BK3 hb; replace BK4 := zBB BK4 hb; replace BK6 := zBB BK6 hb; replace HB := zLB HB.out hb; clear hb; (try clear hz2_); have hz2_ := zc4 BK2.out; (try clear hz3_); have hz3_ := zc3_ BK3.out; (try clear hz4_); have hz4_ := zc4 BK4.out; (try clear hz6_); have hz6_ := zc4 BK6.out;) | ((with_reducible refine gate_store (t := 25) (p := 4) rfl ?_); refine store_event (t := 25) (p := 4) (v := ?voF8_) (w1 := ((((w25.setCell ⟨g4, 0, none⟩ (.int .i64 y0)).setCell ⟨g4, 1, none⟩ (.slice D1 m1.length p1)).setCell ⟨g4, 2, none⟩ (.slice D2 m2.length p2)).setCell ⟨g4, 3, none⟩ (.slice D3 m3.length p3))) ?hg ?ho ?hn ?hr ?_; (case ho => rfl); (case hg => rfl); (case hn => rfl); (case hr => (have hs0_ := (blk_cell BK4.out 0).trans rfl; have hf0_ := blk_frozen BK4.out 0; have hs1_ := (blk_cell BK4.out 1).trans rfl; have hf1_ := blk_frozen BK4.out 1; have hs2_ := (blk_cell BK4.out 2).trans rfl; have hf2_ := blk_frozen BK4.out 2; have hs3_ := (blk_cell BK4.out 3).trans rfl; have hf3_ := blk_frozen BK4.out 3; first | (go_simp; done) | (go_simp; rfl))); intro wF hw_; have HK_ := set4_kept hw_; have BKn := aM (set4_blk hw_ BK4.out rfl); have HBn := aM (set4_below hw_ HB.out GE4.out); have HF := aM (((HWR.out.types BK4.out (by decide) (by decide)).kept HK_ (fun _ h_ => h_.2)).mono (ok' := fun _ => True) (fun _ _ => trivial)); clear hw_ BK4 HB; have BK4 := BKn; have HB := HBn; clear BKn HBn HK_))
       refine bodyPost_ret (results_ct rfl _ _ g4 25 #[.int .i64 y0, .slice D1 m1.length p1, .slice D2 m2.length p2, .slice D3 m3.length p3] (0, 0) _ rfl (by exact BK4.out) Try.underlying25 rfl (by kernel_rfl)) rfl ?_
       exact ⟨_, _, _, rfl, HF.out, HB.out⟩
     ·rw [if_neg hl] at h
      exact absurd h (by simp)
 ·rw [if_neg ey] at h
  exact absurd h (by simp)
theorem spec_Put.calls (k : Nat) (a : Int) (A1 : Option Addr) (c1 : Nat) (l1 : List (List S46)) (A2 : Option Addr) (c2 : Nat) (l2 : List (List S46)) (A3 : Option Addr) (c3 : Nat) (l3 : List S46) (x0 x1 x2 : Int) (r1 : Int) (r2 r3 : List (List S46)) (r4 : List S46) (r5 : Bool) (w : World) (hr1 : Kd.C (Kd.slice 46 k46) w A1 l1.length l1) (hc1 : l1.length ≤ c1) (hr2 : Kd.C (Kd.slice 46 k46) w A2 l2.length l2) (hc2 : l2.length ≤ c2) (hr3 : Kd.C k46 w A3 l3.length l3) (hc3 : l3.length ≤ c3) (h : spec_Put.f k a l1 l2 l3 x0 x1 x2 = some (r1, r2, r3, r4, r5)) :
  Calls Try.prog 31 #[.agg #[.int .i64 a, .slice A1 l1.length c1, .slice A2 l2.length c2, .slice A3 l3.length c3], .agg #[.int .i64 x0, .int .i64 x1, .int .i64 x2]] w fun e w' => ∃ v1_ v2_ v3_ : Value, e = .returned (.tuple #[.agg #[.int .i64 r1, v1_, v2_, v3_], .bool r5]) ∧ Kd.S (Kd.slice 46 k46) 23 w' w.heap.size (fun k_ => some k_ ≠ (v2_ : Value).ownBlock ∧ some k_ ≠ (v3_ : Value).ownBlock) v1_ r2 ∧ Kd.S (Kd.slice 46 k46) 23 w' w.heap.size (fun k_ => some k_ ≠ (v1_ : Value).ownBlock ∧ some k_ ≠ (v3_ : Value).ownBlock) v2_ r3 ∧ Kd.R k46 46 w' w.heap.size (fun _ => True) v3_ r4 ∧ Below w.heap.size w w' := by
 refine (spec_Put.callsW k a A1 c1 l1 A2 c2 l2 A3 c3 l3 x0 x1 x2 r1 r2 r3 r4 r5 w hr1 hc1 hr2 hc2 hr3 hc3 h).mono ?_
 rintro e w' ⟨v1, v2, v3, rfl, hw, hb⟩
 obtain ⟨s1, s2, s3⟩ := hw.split
 exact ⟨v1, v2, v3, rfl, Kd.S_mono s1 (fun _ h => h.2), Kd.S_mono s2 (fun _ h => h.2), Kd.R_mono s3 (fun _ _ => trivial), hb⟩

end Go.Proofs.Ytggenhomnbnodaa.QFnTicks
