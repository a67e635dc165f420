/- What the Go functions that the law FnTimes reaches answer: each as a Lean function, with its walk. Written by a program of this session. Conditions: those that each theorem names. -/
import Derived.Test.YtggenhomnbnodaaQFnTimesx0
import Derived.Test.YtggenhomnbnodaaQFnTimesx1
import Derived.Test.YtggenhomnbnodaaQFnTimesx2
import Derived.Test.YtggenhomnbnodaaQFnTimesx3
import Derived.Test.YtggenhomnbnodaaQFnTimesx6
import Derived.Test.YtggenhomnbnodaaQFnTimesx7
import Derived.Test.YtggenhomnbnodaaQFnTimesx8
import Derived.Test.YtggenhomnbnodaaQFnTimesx9
namespace Go.Proofs.Ytggenhomnbnodaa.QFnTimes
open Go.RowKit Go.Proofs.YtggenhomnbnodaaW.PrintWords Go.Proofs.YtggenhomnbnodaaW.PrintLast Go.Proofs.YtggenhomnbnodaaW.PrintMore
attribute [local go_sem] max2_int min2_int max_two min_two max_three min_three max_four min_four   -- for this text's walks alone
set_option linter.unusedVariables false
set_option linter.unusedSimpArgs false

attribute [local go_sem high] eqA46
set_option maxHeartbeats 8000000 in
set_option maxRecDepth 100000 in
theorem impl_TickOn.wrong (k : Nat) (A1 : Option Addr) (c1 : Nat) (l1 : List (List S46)) (A2 : Option Addr) (c2 : Nat) (l2 : List (List S46)) (A3 : Option Addr) (c3 : Nat) (l3 : List S46) (y0 : Int) (y1 y2 : List (List S46)) (y3 : List S46) (w : World) (hr1 : Kd.C (Kd.slice 46 k46) w A1 l1.length l1) (hc1 : l1.length ≤ c1) (hr2 : Kd.C (Kd.slice 46 k46) w A2 l2.length l2) (hc2 : l2.length ≤ c2) (hr3 : Kd.C k46 w A3 l3.length l3) (hc3 : l3.length ≤ c3) (hac : impl_copyWheel.f k y0 l1 l2 l3 = some (y0, y1, y2, y3)) (hao : impl_WheelOk.f k y0 l1 l2 l3 = some false) :
  Calls Try.prog 37 #[.agg #[.int .i64 y0, .slice A1 l1.length c1, .slice A2 l2.length c2, .slice A3 l3.length c3]] w fun e w' => ∃ (v1_ v2_ v3_ v4_ : Value) (PW PD : Nat → Prop), e = .returned (.tuple #[.agg #[.int .i64 y0, v1_, v2_, v3_], v4_]) ∧ WR w' w.heap.size PW v1_ v2_ v3_ y1 y2 y3 ∧ Kd.R k46 46 w' w.heap.size PD v4_ [] ∧ (∀ k, PW k → ¬ PD k) ∧ Below w.heap.size w w' := by
 have hu25 := Try.underlying25
 have hu46 := Try.underlying46
 have AC := aM hac
 have AO := aM hao
 clear hac hao
 have HR1 := aM hr1
 have HR2 := aM hr2
 have HR3 := aM hr3
 have HC1 := aM hc1
 have HC2 := aM hc2
 have HC3 := aM hc3
 have HB := aM (Below.refl w.heap.size w)
 clear hr1 hr2 hr3 hc1 hc2 hc3
 go_enter Try.func37, Try.ntmps37
 go_wp2_with (first | ((with_reducible refine gD 1 rfl ?_); refine bE 1 #[.int .i64 y0, .slice A1 l1.length c1, .slice A2 l2.length c2, .slice A3 l3.length c3] 25 ?_; intro g1 hg w1_ hbox hb; have GE1 := aM (zg HB.out hg : w.heap.size ≤ g1); have BK1 := aM hbox; clear hbox hg;   replace HB := zLB HB.out hb; clear hb; (try clear hz1_); have hz1_ := zc4 BK1.out;) | ((with_reducible refine gD 2 rfl ?_); refine bE 2 #[.int .i64 0, .slice none 0 0, .slice none 0 0, .slice none 0 0] 25 ?_; intro g2 hg w2_ hbox hb; have GE2 := aM (zg HB.out hg : w.heap.size ≤ g2); have N1_2 := aM (zN BK1.out hg : g1 ≠ g2); have BK2 := aM hbox; clear hbox hg; replace BK1 := zBB BK1 hb;  replace HB := zLB HB.out hb; clear hb; (try clear hz1_); have hz1_ := zc4 BK1.out; (try clear hz2_); have hz2_ := zc4 BK2.out;) | ((with_reducible refine gC 74 rfl ?_); refine gL 11 Try.func74 #[.agg #[.int .i64 y0, .slice A1 l1.length c1, .slice A2 l2.length c2, .slice A3 l3.length c3]] ?_; (refine (impl_copyWheel.callsW k y0 A1 c1 l1 A2 c2 l2 A3 c3 l3 y0 y1 y2 y3 _ ?s1 HC1.out ?s2 HC2.out ?s3 HC3.out AC.out).mono ?_); (case s1 => exact Kd.C_below HR1.out HB.out); (case s2 => exact Kd.C_below HR2.out HB.out); (case s3 => exact Kd.C_below HR3.out HB.out); rintro e w11_ ⟨v1, v2, v3, rfl, hw_, hb⟩; obtain ⟨B1, q1, B2, q2, B3, q3, rfl, rfl, rfl, _, _, _, _⟩ := hw_.reads; refine ⟨_, rfl, ?_⟩; have F1 := aM (blk_lt BK1.out); have F2 := aM (blk_lt BK2.out); obtain ⟨n0, hn0_⟩ : ∃ n0, n0 = _ := ⟨_, rfl⟩; have HWR := aM ((hw_.bound.mono (ok' := fun k_ => n0 ≤ k_) (fun k_ h_ => by rw [hn0_]; exact h_.2.1)).lower HB.out.size); have FN := aM (hb.size); rw [← hn0_] at F1 F2 FN; clear hw_ hn0_; replace BK1 := zBB BK1 hb; replace BK2 := zBB BK2 hb;  replace HB := zLB HB.out hb; clear hb; (try clear hz1_); have hz1_ := zc4 BK1.out; (try clear hz2_); have hz2_ := zc4 BK2.out;) | ((with_reducible refine gD 4 rfl ?_); refine bE 4 #[.int .i64 0, .slice none 0 0, .slice none 0 0, .slice none 0 0] 25 ?_; intro g4 hg w4_ hbox hb; have GE4 := aM (zg HB.out hg : w.heap.size ≤ g4); have N1_4 := aM (zN BK1.out hg : g1 ≠ g4); have N2_4 := aM (zN BK2.out hg : g2 ≠ g4); have BK4 := aM hbox; have FN4 := aM (by rw [hg]; exact FN.out : n0 ≤ g4); clear FN hbox hg; replace BK1 := zBB BK1 hb; replace BK2 := zBB BK2 hb; replace HWR := aM (HWR.out.below hb); replace HB := zLB HB.out hb; clear hb; (try clear hz1_); have hz1_ := zc4 BK1.out; (try clear hz2_); have hz2_ := zc4 BK2.out; (try clear hz4_); have hz4_ := zc4 BK4.out;) | ((with_reducible refine gate_store (t := 25) (p := 4) rfl ?_); refine store_event (t := 25) (p := 4) (v := ?vo21_) (w1 := ((((w4_.setCell ⟨g4, 0, none⟩ (.int .i64 y0)).setCell ⟨g4, 1, none⟩ (.slice B1 y1.length q1)).setCell ⟨g4, 2, none⟩ (.slice B2 y2.length q2)).setCell ⟨g4, 3, none⟩ (.slice B3 y3.length q3))) ?hg ?ho ?hn ?hr ?_; (case ho => rfl); (case hg => rfl); (case hn => rfl); (case hr => (have hs0_ := (blk_cell BK4.out 0).trans rfl; have hf0_ := blk_frozen BK4.out 0; have hs1_ := (blk_cell BK4.out 1).trans rfl; have hf1_ := blk_frozen BK4.out 1; have hs2_ := (blk_cell BK4.out 2).trans rfl; have hf2_ := blk_frozen BK4.out 2; have hs3_ := (blk_cell BK4.out 3).trans rfl; have hf3_ := blk_frozen BK4.out 3;(try clear hz1_); have hz1_ := zc4 BK1.out; (try clear hz2_); have hz2_ := zc4 BK2.out; first | (go_simp; done) | (go_simp; rfl))); intro w5_ hw_; have HK_ := set4_kept hw_; have BKn := aM (set4_blk hw_ BK4.out rfl); have HBn := aM (set4_below hw_ HB.out GE4.out); replace BK1 := aM (blk_kept BK1.out HK_ (N1_4.out)); replace BK2 := aM (blk_kept BK2.out HK_ (N2_4.out)); replace HWR := aM ((HWR.out.types BK4.out (by decide) (by decide)).kept HK_ (fun _ h_ => h_.2)); clear hw_ BK4 HB; have BK4 := BKn; have HB := HBn; clear BKn HBn HK_; (try clear hz1_); have hz1_ := zc4 BK1.out; (try clear hz2_); have hz2_ := zc4 BK2.out; (try clear hz4_); have hz4_ := zc4 BK4.out;) | ((with_reducible refine gC 30 rfl ?_); refine gL 13 Try.func30 #[.agg #[.int .i64 y0, .slice A1 l1.length c1, .slice A2 l2.length c2, .slice A3 l3.length c3]] ?_; (refine (impl_WheelOk.calls k y0 A1 c1 l1 A2 c2 l2 A3 c3 l3 false _ ?s1 ?t1 ?s2 ?t2 ?s3 ?t3 AO.out).mono ?_); (case s1 => exact Kd.C_below HR1.out HB.out); (case s2 => exact Kd.C_below HR2.out HB.out); (case s3 => exact Kd.C_below HR3.out HB.out); (case t1 => exact HC1.out); (case t2 => exact HC2.out); (case t3 => exact HC3.out); rintro e w13_ ⟨rfl, hb⟩; refine ⟨_, rfl, ?_⟩; replace BK1 := zBB BK1 hb; replace BK2 := zBB BK2 hb; replace BK4 := zBB BK4 hb; replace HWR := aM (HWR.out.below hb); replace HB := zLB HB.out hb; clear hb; (try clear hz1_); have hz1_ := zc4 BK1.out; (try clear hz2_); have hz2_ := zc4 BK2.out; (try clear hz4_); have hz4_ := zc4 BK4.out;) | ((with_reducible refine gate_store (t := 25) (p := 2) rfl ?_); refine store_event (t := 25) (p := 2) (v := ?vo20_) (w1 := ((((w13_.setCell ⟨g2, 0, none⟩ (.int .i64 y0)).setCell ⟨g2, 1, none⟩ (.slice B1 y1.length q1)).setCell ⟨g2, 2, none⟩ (.slice B2 y2.length q2)).setCell ⟨g2, 3, none⟩ (.slice B3 y3.length q3))) ?hg ?ho ?hn ?hr ?_; (case ho => rfl); (case hg => rfl); (case hn => rfl); (case hr => (have hs0_ := (blk_cell BK2.out 0).trans rfl; have hf0_ := blk_frozen BK2.out 0; have hs1_ := (blk_cell BK2.out 1).trans rfl; have hf1_ := blk_frozen BK2.out 1; have hs2_ := (blk_cell BK2.out 2).trans rfl; have hf2_ := blk_frozen BK2.out 2; have hs3_ := (blk_cell BK2.out 3).trans rfl; have hf3_ := blk_frozen BK2.out 3;(try clear hz1_); have hz1_ := zc4 BK1.out; (try clear hz4_); have hz4_ := zc4 BK4.out; first | (go_simp; done) | (go_simp; rfl))); intro wF hw_; have HK_ := set4_kept hw_; have BKn := aM (set4_blk hw_ BK2.out rfl); have HBn := aM (set4_below hw_ HB.out GE2.out); have HF := aM ((HWR.out.types BK2.out (by decide) (by decide)).kept HK_ (fun _ h_ => h_.2));  clear hw_ BK2 HB; have BK2 := BKn; have HB := HBn; clear BKn HBn HK_))
 refine bodyPost_ret (results_ct rfl _ _ g2 25 #[.int .i64 y0, .slice B1 y1.length q1, .slice B2 y2.length q2, .slice B3 y3.length q3] (0, 0) _ rfl (by exact BK2.out) Try.underlying25 rfl (by kernel_rfl)) rfl ?_
 exact ⟨_, _, _, _, _, fun _ => False, rfl, HF.out, Kd.R_nil _ _ _ _ _, fun _ _ h_ => h_, HB.out⟩
set_option maxHeartbeats 8000000 in
set_option maxRecDepth 100000 in
theorem impl_TickOn.late (k : Nat) (A1 : Option Addr) (c1 : Nat) (l1 : List (List S46)) (A2 : Option Addr) (c2 : Nat) (l2 : List (List S46)) (A3 : Option Addr) (c3 : Nat) (l3 : List S46) (y0 : Int) (y1 y2 : List (List S46)) (y3 : List S46) (w : World) (hr1 : Kd.C (Kd.slice 46 k46) w A1 l1.length l1) (hc1 : l1.length ≤ c1) (hr2 : Kd.C (Kd.slice 46 k46) w A2 l2.length l2) (hc2 : l2.length ≤ c2) (hr3 : Kd.C k46 w A3 l3.length l3) (hc3 : l3.length ≤ c3) (hac : impl_copyWheel.f k y0 l1 l2 l3 = some (y0, y1, y2, y3)) (hao : impl_WheelOk.f k y0 l1 l2 l3 = some true) (hm : y0 = 2147483647) :
  Calls Try.prog 37 #[.agg #[.int .i64 y0, .slice A1 l1.length c1, .slice A2 l2.length c2, .slice A3 l3.length c3]] w fun e w' => ∃ (v1_ v2_ v3_ v4_ : Value) (PW PD : Nat → Prop), e = .returned (.tuple #[.agg #[.int .i64 y0, v1_, v2_, v3_], v4_]) ∧ WR w' w.heap.size PW v1_ v2_ v3_ y1 y2 y3 ∧ Kd.R k46 46 w' w.heap.size PD v4_ [] ∧ (∀ k, PW k → ¬ PD k) ∧ Below w.heap.size w w' := by
 have hu25 := Try.underlying25
 have hu46 := Try.underlying46
 have AC := aM hac
 have AO := aM hao
 clear hac hao
 have HR1 := aM hr1
 have HR2 := aM hr2
 have HR3 := aM hr3
 have HC1 := aM hc1
 have HC2 := aM hc2
 have HC3 := aM hc3
 have HB := aM (Below.refl w.heap.size w)
 clear hr1 hr2 hr3 hc1 hc2 hc3
 obtain ⟨m1_, m2_⟩ := zt hm
 clear hm
 go_enter Try.func37, Try.ntmps37
 go_wp2_with (first | ((with_reducible refine gD 1 rfl ?_); refine bE 1 #[.int .i64 y0, .slice A1 l1.length c1, .slice A2 l2.length c2, .slice A3 l3.length c3] 25 ?_; intro g1 hg w1_ hbox hb; have GE1 := aM (zg HB.out hg : w.heap.size ≤ g1); have BK1 := aM hbox; clear hbox hg;   replace HB := zLB HB.out hb; clear hb; (try clear hz1_); have hz1_ := zc4 BK1.out;) | ((with_reducible refine gD 2 rfl ?_); refine bE 2 #[.int .i64 0, .slice none 0 0, .slice none 0 0, .slice none 0 0] 25 ?_; intro g2 hg w2_ hbox hb; have GE2 := aM (zg HB.out hg : w.heap.size ≤ g2); have N1_2 := aM (zN BK1.out hg : g1 ≠ g2); have BK2 := aM hbox; clear hbox hg; replace BK1 := zBB BK1 hb;  replace HB := zLB HB.out hb; clear hb; (try clear hz1_); have hz1_ := zc4 BK1.out; (try clear hz2_); have hz2_ := zc4 BK2.out;) | ((with_reducible refine gC 74 rfl ?_); refine gL 11 Try.func74 #[.agg #[.int .i64 y0, .slice A1 l1.length c1, .slice A2 l2.length c2, .slice A3 l3.length c3]] ?_; (refine (impl_copyWheel.callsW k y0 A1 c1 l1 A2 c2 l2 A3 c3 l3 y0 y1 y2 y3 _ ?s1 HC1.out ?s2 HC2.out ?s3 HC3.out AC.out).mono ?_); (case s1 => exact Kd.C_below HR1.out HB.out); (case s2 => exact Kd.C_below HR2.out HB.out); (case s3 => exact Kd.C_below HR3.out HB.out); rintro e w11_ ⟨v1, v2, v3, rfl, hw_, hb⟩; obtain ⟨B1, q1, B2, q2, B3, q3, rfl, rfl, rfl, _, _, _, _⟩ := hw_.reads; refine ⟨_, rfl, ?_⟩; have F1 := aM (blk_lt BK1.out); have F2 := aM (blk_lt BK2.out); obtain ⟨n0, hn0_⟩ : ∃ n0, n0 = _ := ⟨_, rfl⟩; have HWR := aM ((hw_.bound.mono (ok' := fun k_ => n0 ≤ k_) (fun k_ h_ => by rw [hn0_]; exact h_.2.1)).lower HB.out.size); have FN := aM (hb.size); rw [← hn0_] at F1 F2 FN; clear hw_ hn0_; replace BK1 := zBB BK1 hb; replace BK2 := zBB BK2 hb;  replace HB := zLB HB.out hb; clear hb; (try clear hz1_); have hz1_ := zc4 BK1.out; (try clear hz2_); have hz2_ := zc4 BK2.out;) | ((with_reducible refine gD 4 rfl ?_); refine bE 4 #[.int .i64 0, .slice none 0 0, .slice none 0 0, .slice none 0 0] 25 ?_; intro g4 hg w4_ hbox hb; have GE4 := aM (zg HB.out hg : w.heap.size ≤ g4); have N1_4 := aM (zN BK1.out hg : g1 ≠ g4); have N2_4 := aM (zN BK2.out hg : g2 ≠ g4); have BK4 := aM hbox; have FN4 := aM (by rw [hg]; exact FN.out : n0 ≤ g4); clear FN hbox hg; replace BK1 := zBB BK1 hb; replace BK2 := zBB BK2 hb; replace HWR := aM (HWR.out.below hb); replace HB := zLB HB.out hb; clear hb; (try clear hz1_); have hz1_ := zc4 BK1.out; (try clear hz2_); have hz2_ := zc4 BK2.out; (try clear hz4_); have hz4_ := zc4 BK4.out;) | ((with_reducible refine gate_store (t := 25) (p := 4) rfl ?_); refine store_event (t := 25) (p := 4) (v := ?vo23_) (w1 := ((((w4_.setCell ⟨g4, 0, none⟩ (.int .i64 y0)).setCell ⟨g4, 1, none⟩ (.slice B1 y1.length q1)).setCell ⟨g4, 2, none⟩ (.slice B2 y2.length q2)).setCell ⟨g4, 3, none⟩ (.slice B3 y3.length q3))) ?hg ?ho ?hn ?hr ?_; (case ho => rfl); (case hg => rfl); (case hn => rfl); (case hr => (have hs0_ := (blk_cell BK4.out 0).trans rfl; have hf0_ := blk_frozen BK4.out 0; have hs1_ := (blk_cell BK4.out 1).trans rfl; have hf1_ := blk_frozen BK4.out 1; have hs2_ := (blk_cell BK4.out 2).trans rfl; have hf2_ := blk_frozen BK4.out 2; have hs3_ := (blk_cell BK4.out 3).trans rfl; have hf3_ := blk_frozen BK4.out 3;(try clear hz1_); have hz1_ := zc4 BK1.out; (try clear hz2_); have hz2_ := zc4 BK2.out; first | (go_simp; done) | (go_simp; rfl))); intro w5_ hw_; have HK_ := set4_kept hw_; have BKn := aM (set4_blk hw_ BK4.out rfl); have HBn := aM (set4_below hw_ HB.out GE4.out); replace BK1 := aM (blk_kept BK1.out HK_ (N1_4.out)); replace BK2 := aM (blk_kept BK2.out HK_ (N2_4.out)); replace HWR := aM ((HWR.out.types BK4.out (by decide) (by decide)).kept HK_ (fun _ h_ => h_.2)); clear hw_ BK4 HB; have BK4 := BKn; have HB := HBn; clear BKn HBn HK_; (try clear hz1_); have hz1_ := zc4 BK1.out; (try clear hz2_); have hz2_ := zc4 BK2.out; (try clear hz4_); have hz4_ := zc4 BK4.out;) | ((with_reducible refine gC 30 rfl ?_); refine gL 13 Try.func30 #[.agg #[.int .i64 y0, .slice A1 l1.length c1, .slice A2 l2.length c2, .slice A3 l3.length c3]] ?_; (refine (impl_WheelOk.calls k y0 A1 c1 l1 A2 c2 l2 A3 c3 l3 true _ ?s1 ?t1 ?s2 ?t2 ?s3 ?t3 AO.out).mono ?_); (case s1 => exact Kd.C_below HR1.out HB.out); (case s2 => exact Kd.C_below HR2.out HB.out); (case s3 => exact Kd.C_below HR3.out HB.out); (case t1 => exact HC1.out); (case t2 => exact HC2.out); (case t3 => exact HC3.out); rintro e w13_ ⟨rfl, hb⟩; refine ⟨_, rfl, ?_⟩; replace BK1 := zBB BK1 hb; replace BK2 := zBB BK2 hb; replace BK4 := zBB BK4 hb; replace HWR := aM (HWR.out.below hb); replace HB := zLB HB.out hb; clear hb; (try clear hz1_); have hz1_ := zc4 BK1.out; (try clear hz2_); have hz2_ := zc4 BK2.out; (try clear hz4_); have hz4_ := zc4 BK4.out;) | ((with_reducible refine gate_store (t := 25) (p := 2) rfl ?_); refine store_event (t := 25) (p := 2) (v := ?vo22_) (w1 := ((((w13_.setCell ⟨g2, 0, none⟩ (.int .i64 y0)).setCell ⟨g2, 1, none⟩ (.slice B1 y1.length q1)).setCell ⟨g2, 2, none⟩ (.slice B2 y2.length q2)).setCell ⟨g2, 3, none⟩ (.slice B3 y3.length q3))) ?hg ?ho ?hn ?hr ?_; (case ho => rfl); (case hg => rfl); (case hn => rfl); (case hr => (have hs0_ := (blk_cell BK2.out 0).trans rfl; have hf0_ := blk_frozen BK2.out 0; have hs1_ := (blk_cell BK2.out 1).trans rfl; have hf1_ := blk_frozen BK2.out 1; have hs2_ := (blk_cell BK2.out 2).trans rfl; have hf2_ := blk_frozen BK2.out 2; have hs3_ := (blk_cell BK2.out 3).trans rfl; have hf3_ := blk_frozen BK2.out 3;(try clear hz1_); have hz1_ := zc4 BK1.out; (try clear hz4_); have hz4_ := zc4 BK4.out; first | (go_simp; done) | (go_simp; rfl))); intro wF hw_; have HK_ := set4_kept hw_; have BKn := aM (set4_blk hw_ BK2.out rfl); have HBn := aM (set4_below hw_ HB.out GE2.out); have HF := aM ((HWR.out.types BK2.out (by decide) (by decide)).kept HK_ (fun _ h_ => h_.2));  clear hw_ BK2 HB; have BK2 := BKn; have HB := HBn; clear BKn HBn HK_))
 refine bodyPost_ret (results_ct rfl _ _ g2 25 #[.int .i64 y0, .slice B1 y1.length q1, .slice B2 y2.length q2, .slice B3 y3.length q3] (0, 0) _ rfl (by exact BK2.out) Try.underlying25 rfl (by kernel_rfl)) rfl ?_
 exact ⟨_, _, _, _, _, fun _ => False, rfl, HF.out, Kd.R_nil _ _ _ _ _, fun _ _ h_ => h_, HB.out⟩
set_option maxHeartbeats 8000000 in
set_option maxRecDepth 100000 in
theorem impl_TickOn.quiet (k : Nat) (A1 : Option Addr) (c1 : Nat) (l1 : List (List S46)) (A2 : Option Addr) (c2 : Nat) (l2 : List (List S46)) (A3 : Option Addr) (c3 : Nat) (l3 : List S46) (y0 : Int) (y1 y2 : List (List S46)) (y3 : List S46) (w : World) (hr1 : Kd.C (Kd.slice 46 k46) w A1 l1.length l1) (hc1 : l1.length ≤ c1) (hr2 : Kd.C (Kd.slice 46 k46) w A2 l2.length l2) (hc2 : l2.length ≤ c2) (hr3 : Kd.C k46 w A3 l3.length l3) (hc3 : l3.length ≤ c3) (hac : impl_copyWheel.f k y0 l1 l2 l3 = some (y0, y1, y2, y3)) (hao : impl_WheelOk.f k y0 l1 l2 l3 = some true) (n s : Int) (m1 : List (List S46)) (d : List S46) (h0 : 0 ≤ y0) (hM : y0 < 2147483647) (e1 : y1.length = 8) (e2 : y2.length = 8) (hn : n = y0 + 1) (hs : s = n % 8) (hld : d.length ≤ 1000000) (hm1 : m1 = y1.set s.toNat []) (hdd : d = y1.getD s.toNat []) (hne : ¬ s = 0) :
  Calls Try.prog 37 #[.agg #[.int .i64 y0, .slice A1 l1.length c1, .slice A2 l2.length c2, .slice A3 l3.length c3]] w fun e w' => ∃ (v1_ v2_ v3_ v4_ : Value) (PW PD : Nat → Prop), e = .returned (.tuple #[.agg #[.int .i64 n, v1_, v2_, v3_], v4_]) ∧ WR w' w.heap.size PW v1_ v2_ v3_ m1 y2 y3 ∧ Kd.R k46 46 w' w.heap.size PD v4_ d ∧ (∀ k, PW k → ¬ PD k) ∧ Below w.heap.size w w' := by
 have hu25 := Try.underlying25
 have hu46 := Try.underlying46
 have AC := aM hac
 have AO := aM hao
 clear hac hao
 have HR1 := aM hr1
 have HR2 := aM hr2
 have HR3 := aM hr3
 have HC1 := aM hc1
 have HC2 := aM hc2
 have HC3 := aM hc3
 have HB := aM (Below.refl w.heap.size w)
 clear hr1 hr2 hr3 hc1 hc2 hc3
 have HDE := aM hdd
 have HLD := aM hld
 have H8 := aM (And.intro (show 0 < y1.length by omega) (show 0 < y2.length by omega))
 have hs0 : 0 ≤ s := by omega
 have hs8 : s < (y1.length : Int) := by omega
 have H0 := aM hs0
 have H8n := aM hs8
 have p1 := eq_true hs0
 have p2 := eq_true hs8
 have en : wrap64 (y0 + 1) = n := by unfold wrap64; omega
 have em : Int.tmod n 8 = s := by rw [hs]; exact Int.tmod_eq_emod_of_nonneg (by omega)
 obtain ⟨l1_, l2_⟩ := zf (show ¬ y0 = 2147483647 by omega)
 have HM1 := aM (show m1 = y1.set s.toNat [] from by rw [hm1])
 obtain ⟨n1_, n2_⟩ := zf hne
 clear hn hs hld hm1 hdd hne h0 hM e1 e2 hs0 hs8
 go_enter Try.func37, Try.ntmps37
 go_wp2_with (first | ((with_reducible refine gD 1 rfl ?_); refine bE 1 #[.int .i64 y0, .slice A1 l1.length c1, .slice A2 l2.length c2, .slice A3 l3.length c3] 25 ?_; intro g1 hg w1_ hbox hb; have GE1 := aM (zg HB.out hg : w.heap.size ≤ g1); have BK1 := aM hbox; clear hbox hg;   replace HB := zLB HB.out hb; clear hb; (try clear hz1_); have hz1_ := zc4 BK1.out;) | ((with_reducible refine gD 2 rfl ?_); refine bE 2 #[.int .i64 0, .slice none 0 0, .slice none 0 0, .slice none 0 0] 25 ?_; intro g2 hg w2_ hbox hb; have GE2 := aM (zg HB.out hg : w.heap.size ≤ g2); have N1_2 := aM (zN BK1.out hg : g1 ≠ g2); have BK2 := aM hbox; clear hbox hg; replace BK1 := zBB BK1 hb;  replace HB := zLB HB.out hb; clear hb; (try clear hz1_); have hz1_ := zc4 BK1.out; (try clear hz2_); have hz2_ := zc4 BK2.out;) | ((with_reducible refine gC 74 rfl ?_); refine gL 11 Try.func74 #[.agg #[.int .i64 y0, .slice A1 l1.length c1, .slice A2 l2.length c2, .slice A3 l3.length c3]] ?_; (refine (impl_copyWheel.callsW k y0 A1 c1 l1 A2 c2 l2 A3 c3 l3 y0 y1 y2 y3 _ ?s1 HC1.out ?s2 HC2.out ?s3 HC3.out AC.out).mono ?_); (case s1 => exact Kd.C_below HR1.out HB.out); (case s2 => exact Kd.C_below HR2.out HB.out); (case s3 => exact Kd.C_below HR3.out HB.out); rintro e w11_ ⟨v1, v2, v3, rfl, hw_, hb⟩; obtain ⟨gN, cN, gF, cF, A3_, c3_, rfl, rfl, rfl⟩ := hw_.forms H8.out.1 H8.out.2; refine ⟨_, rfl, ?_⟩; have F1 := aM (blk_lt BK1.out); have F2 := aM (blk_lt BK2.out); obtain ⟨n0, hn0_⟩ : ∃ n0, n0 = _ := ⟨_, rfl⟩; have HWR := aM ((hw_.bound.mono (ok' := fun k_ => n0 ≤ k_) (fun k_ h_ => by rw [hn0_]; exact h_.2.1)).lower HB.out.size); have FN := aM (hb.size); have HNB := aM (HB.out.size); rw [← hn0_] at F1 F2 FN HNB; clear hw_ hn0_; replace BK1 := zBB BK1 hb; replace BK2 := zBB BK2 hb;  replace HB := zLB HB.out hb; clear hb; (try clear hz1_); have hz1_ := zc4 BK1.out; (try clear hz2_); have hz2_ := zc4 BK2.out;) | ((with_reducible refine gD 4 rfl ?_); refine bE 4 #[.int .i64 0, .slice none 0 0, .slice none 0 0, .slice none 0 0] 25 ?_; intro g4 hg w4_ hbox hb; have GE4 := aM (zg HB.out hg : w.heap.size ≤ g4); have N1_4 := aM (zN BK1.out hg : g1 ≠ g4); have N2_4 := aM (zN BK2.out hg : g2 ≠ g4); have BK4 := aM hbox; have FN4 := aM (by rw [hg]; exact FN.out : n0 ≤ g4); clear FN hbox hg; replace BK1 := zBB BK1 hb; replace BK2 := zBB BK2 hb; replace HWR := aM (HWR.out.below hb); replace HB := zLB HB.out hb; clear hb; (try clear hz1_); have hz1_ := zc4 BK1.out; (try clear hz2_); have hz2_ := zc4 BK2.out; (try clear hz4_); have hz4_ := zc4 BK4.out;) | ((with_reducible refine gate_store (t := 25) (p := 4) rfl ?_); refine store_event (t := 25) (p := 4) (v := ?vo24_) (w1 := ((((w4_.setCell ⟨g4, 0, none⟩ (.int .i64 y0)).setCell ⟨g4, 1, none⟩ (.slice (some ⟨gN, 0, none⟩) y1.length cN)).setCell ⟨g4, 2, none⟩ (.slice (some ⟨gF, 0, none⟩) y2.length cF)).setCell ⟨g4, 3, none⟩ (.slice A3_ y3.length c3_))) ?hg ?ho ?hn ?hr ?_; (case ho => rfl); (case hg => rfl); (case hn => rfl); (case hr => (have hs0_ := (blk_cell BK4.out 0).trans rfl; have hf0_ := blk_frozen BK4.out 0; have hs1_ := (blk_cell BK4.out 1).trans rfl; have hf1_ := blk_frozen BK4.out 1; have hs2_ := (blk_cell BK4.out 2).trans rfl; have hf2_ := blk_frozen BK4.out 2; have hs3_ := (blk_cell BK4.out 3).trans rfl; have hf3_ := blk_frozen BK4.out 3;(try clear hz1_); have hz1_ := zc4 BK1.out; (try clear hz2_); have hz2_ := zc4 BK2.out; first | (go_simp; done) | (go_simp; rfl))); intro w5_ hw_; have HK_ := set4_kept hw_; have BKn := aM (set4_blk hw_ BK4.out rfl); have HBn := aM (set4_below hw_ HB.out GE4.out); replace BK1 := aM (blk_kept BK1.out HK_ (N1_4.out)); replace BK2 := aM (blk_kept BK2.out HK_ (N2_4.out)); replace HWR := aM ((HWR.out.types BK4.out (by decide) (by decide)).kept HK_ (fun _ h_ => h_.2)); clear hw_ BK4 HB; have BK4 := BKn; have HB := HBn; clear BKn HBn HK_; (try clear hz1_); have hz1_ := zc4 BK1.out; (try clear hz2_); have hz2_ := zc4 BK2.out; (try clear hz4_); have hz4_ := zc4 BK4.out;) | ((with_reducible refine gC 30 rfl ?_); refine gL 13 Try.func30 #[.agg #[.int .i64 y0, .slice A1 l1.length c1, .slice A2 l2.length c2, .slice A3 l3.length c3]] ?_; (refine (impl_WheelOk.calls k y0 A1 c1 l1 A2 c2 l2 A3 c3 l3 true _ ?s1 ?t1 ?s2 ?t2 ?s3 ?t3 AO.out).mono ?_); (case s1 => exact Kd.C_below HR1.out HB.out); (case s2 => exact Kd.C_below HR2.out HB.out); (case s3 => exact Kd.C_below HR3.out HB.out); (case t1 => exact HC1.out); (case t2 => exact HC2.out); (case t3 => exact HC3.out); rintro e w13_ ⟨rfl, hb⟩; refine ⟨_, rfl, ?_⟩; replace BK1 := zBB BK1 hb; replace BK2 := zBB BK2 hb; replace BK4 := zBB BK4 hb; replace HWR := aM (HWR.out.below hb); replace HB := zLB HB.out hb; clear hb; (try clear hz1_); have hz1_ := zc4 BK1.out; (try clear hz2_); have hz2_ := zc4 BK2.out; (try clear hz4_); have hz4_ := zc4 BK4.out;) | ((with_reducible refine gate_store (t := 3) (p := 24) rfl ?_); refine store_event (t := 3) (p := 24) (v := ?vo25_) (w1 := (w13_.setCell ⟨g4, 0, none⟩ (.int .i64 n))) ?hg ?ho ?hn ?hr ?_; (case ho => rfl); (case hg => rfl); (case hn => rfl); (case hr => (have hs0_ := (blk_cell BK4.out 0).trans rfl; have hf0_ := blk_frozen BK4.out 0; have hs1_ := (blk_cell BK4.out 1).trans rfl; have hf1_ := blk_frozen BK4.out 1; have hs2_ := (blk_cell BK4.out 2).trans rfl; have hf2_ := blk_frozen BK4.out 2; have hs3_ := (blk_cell BK4.out 3).trans rfl; have hf3_ := blk_frozen BK4.out 3;(try clear hz1_); have hz1_ := zc4 BK1.out; (try clear hz2_); have hz2_ := zc4 BK2.out; first | (go_simp; done) | (go_simp; rfl))); intro w24_ hw_; have HK_ := set1_kept hw_; have BKn := aM (by rw [hw_]; exact blk_put BK4.out 0 _ rfl : w24_.heap[g4]? = some (.cells #[.int .i64 n, .slice (some ⟨gN, 0, none⟩) y1.length cN, .slice (some ⟨gF, 0, none⟩) y2.length cF, .slice A3_ y3.length c3_] 25 (0, 0))); have HBn := aM (by rw [hw_]; exact HB.out.setCell GE4.out _ : Below w.heap.size w w24_); replace BK1 := aM (blk_kept BK1.out HK_ (N1_4.out)); replace BK2 := aM (blk_kept BK2.out HK_ (N2_4.out)); replace HWR := aM (HWR.out.kept HK_ (fun _ h_ => h_.2));  clear hw_ BK4 HB; have BK4 := BKn; have HB := HBn; clear BKn HBn HK_; obtain ⟨oki, As, cs, hx_, hR_, hok_, hfz_, hgo_, hgl_, hsw_⟩ := HWR.out.near_take H0.out H8n.out; rw [← HDE.out] at hx_ hR_; have HR := aM hR_; have HOK := aM hok_; have HFZ := aM hfz_; have HGO := aM hgo_; have HGL := aM hgl_; have HSW := aM hsw_; clear hR_ hok_ hfz_ hgo_ hgl_ hsw_; (try clear hz1_); have hz1_ := zc4 BK1.out; (try clear hz2_); have hz2_ := zc4 BK2.out; (try clear hz4_); have hz4_ := zc4 BK4.out;) | ((with_reducible refine gate_store (t := 23) (p := 37) rfl ?_); refine store_event (t := 23) (p := 37) (v := ?vo26_) (w1 := (w24_.setCell ⟨gN, s.toNat, none⟩ (.slice none 0 0))) ?hg ?ho ?hn ?hr ?_; (case ho => rfl); (case hg => rfl); (case hn => rfl); (case hr => (have hf_ := HFZ.out s.toNat; (try clear hz1_); have hz1_ := zc4 BK1.out; (try clear hz2_); have hz2_ := zc4 BK2.out; (try clear hz4_); have hz4_ := zc4 BK4.out; first | (go_simp; done) | (go_simp; rfl))); intro w37_ hw_; have HK_ := set1_kept hw_; have HWN := aM (by rw [hw_]; exact HSW.out (fun _ => False) _ w24_ _ [] (Nat.le_refl _) (Kept.refl _ _) (fun _ _ _ h_ => h_) (Kd.R_nil _ _ _ _ _) : WR w37_ w.heap.size (fun k => (((n0 ≤ k) ∧ k ≠ g4) ∧ ¬ oki k) ∨ w24_.heap.size ≤ k) (.slice (some ⟨gN, 0, none⟩) y1.length cN) (.slice (some ⟨gF, 0, none⟩) y2.length cF) (.slice A3_ y3.length c3_) (y1.set s.toNat []) y2 y3); have HBn := aM (by rw [hw_]; exact HB.out.setCell (Nat.le_trans HNB.out HGO.out.1) _ : Below w.heap.size w w37_); replace BK1 := aM (blk_kept BK1.out HK_ (fun e_ => by have a_ := F1.out; have b_ := HGO.out.1; have c_ : g1 = gN := e_; omega)); replace BK2 := aM (blk_kept BK2.out HK_ (fun e_ => by have a_ := F2.out; have b_ := HGO.out.1; have c_ : g2 = gN := e_; omega)); replace BK4 := aM (blk_kept BK4.out HK_ (fun e_ => HGO.out.2 (Eq.symm e_))); have HD := aM (Kd.R_kept HR.out HK_ (fun k_ h_ e_ => (HOK.out k_ h_).2.1 e_)); clear hw_ HB HWR hx_; have HB := HBn; have HWR := HWN; clear HBn HWN HK_; rw [← HM1.out] at HWR; (try clear hz1_); have hz1_ := zc4 BK1.out; (try clear hz2_); have hz2_ := zc4 BK2.out; (try clear hz4_); have hz4_ := zc4 BK4.out;) | ((with_reducible refine gate_store (t := 25) (p := 2) rfl ?_); refine store_event (t := 25) (p := 2) (v := ?vo27_) (w1 := ((((w37_.setCell ⟨g2, 0, none⟩ (.int .i64 n)).setCell ⟨g2, 1, none⟩ (.slice (some ⟨gN, 0, none⟩) y1.length cN)).setCell ⟨g2, 2, none⟩ (.slice (some ⟨gF, 0, none⟩) y2.length cF)).setCell ⟨g2, 3, none⟩ (.slice A3_ y3.length c3_))) ?hg ?ho ?hn ?hr ?_; (case ho => rfl); (case hg => rfl); (case hn => rfl); (case hr => (have hs0_ := (blk_cell BK2.out 0).trans rfl; have hf0_ := blk_frozen BK2.out 0; have hs1_ := (blk_cell BK2.out 1).trans rfl; have hf1_ := blk_frozen BK2.out 1; have hs2_ := (blk_cell BK2.out 2).trans rfl; have hf2_ := blk_frozen BK2.out 2; have hs3_ := (blk_cell BK2.out 3).trans rfl; have hf3_ := blk_frozen BK2.out 3;(try clear hz1_); have hz1_ := zc4 BK1.out; (try clear hz4_); have hz4_ := zc4 BK4.out; first | (go_simp; done) | (go_simp; rfl))); intro wF hw_; have HK_ := set4_kept hw_; have BKn := aM (set4_blk hw_ BK2.out rfl); have HBn := aM (set4_below hw_ HB.out GE2.out); have HF := aM ((HWR.out.types BK2.out (by decide) (by decide)).kept HK_ (fun _ h_ => h_.2)); replace HD := aM (Kd.R_kept (Kd.R_types HD.out BK2.out (by decide)) HK_ (fun _ h_ => h_.2)); clear hw_ BK2 HB; have BK2 := BKn; have HB := HBn; clear BKn HBn HK_))
 refine bodyPost_ret (results_ct rfl _ _ g2 25 #[.int .i64 n, .slice (some ⟨gN, 0, none⟩) y1.length cN, .slice (some ⟨gF, 0, none⟩) y2.length cF, .slice A3_ y3.length c3_] (0, 0) _ rfl (by exact BK2.out) Try.underlying25 rfl (by kernel_rfl)) rfl ?_
 exact ⟨_, _, _, _, _, _, rfl, HF.out, HD.out, fun k_ h_ h2_ => h_.1.elim (fun a_ => a_.2 h2_.1) (fun a_ => by have b_ := (HOK.out k_ h2_.1).2.2; omega), HB.out⟩
def impl_TickOn.T9 : Bool × List (List Nat × List Nat) := (true, [([], []), ([0], [0]), ([], []), ([1, 2], [1, 2]), ([3], [3]), ([], []), ([5], [5]), ([4, 6], [4, 6]), ([7, 7, 0, 1, 2, 3, 4, 5, 6, 7], [7])])
def impl_TickOn.B9 : List Nat := [0, 1, 0, 7, 15, 0, 32, 127, 255]
theorem impl_TickOn.tab9 : rtab .any (opsOf Try.f37 9) = impl_TickOn.T9 := by kernel_rfl
theorem impl_TickOn.bits9 : waitsOk impl_TickOn.T9.2 impl_TickOn.B9 = true := by kernel_rfl
set_option maxHeartbeats 8000000 in
set_option maxRecDepth 100000 in
theorem impl_TickOn.turn (k : Nat) (A1 : Option Addr) (c1 : Nat) (l1 : List (List S46)) (A2 : Option Addr) (c2 : Nat) (l2 : List (List S46)) (A3 : Option Addr) (c3 : Nat) (l3 : List S46) (y0 : Int) (y1 y2 : List (List S46)) (y3 : List S46) (w : World) (hr1 : Kd.C (Kd.slice 46 k46) w A1 l1.length l1) (hc1 : l1.length ≤ c1) (hr2 : Kd.C (Kd.slice 46 k46) w A2 l2.length l2) (hc2 : l2.length ≤ c2) (hr3 : Kd.C k46 w A3 l3.length l3) (hc3 : l3.length ≤ c3) (hac : impl_copyWheel.f k y0 l1 l2 l3 = some (y0, y1, y2, y3)) (hao : impl_WheelOk.f k y0 l1 l2 l3 = some true) (n s : Int) (m1 : List (List S46)) (d : List S46) (h0 : 0 ≤ y0) (hM : y0 < 2147483647) (e1 : y1.length = 8) (e2 : y2.length = 8) (hn : n = y0 + 1) (hs : s = n % 8) (hld : d.length ≤ 1000000) (hm1 : m1 = y1.set s.toNat []) (hdd : d = y1.getD s.toNat []) (kk : Int) (m2 : List (List S46)) (xf mv : List S46) (hz : s = 0) (hk : kk = n / 8 % 8) (hm2 : m2 = y2.set kk.toNat []) (hxf : xf = y2.getD kk.toNat []) (hlf : xf.length ≤ 1000000) (hlr : y3.length ≤ 1000000) (hmv : mv = xf ++ y3) (r2 r3 : List (List S46)) (r4 r5 : List S46) (hF : moveF n mv m1 m2 [] d = some (r2, r3, r4, r5)) :
  Calls Try.prog 37 #[.agg #[.int .i64 y0, .slice A1 l1.length c1, .slice A2 l2.length c2, .slice A3 l3.length c3]] w fun e w' => ∃ (v1_ v2_ v3_ v4_ : Value) (PW PD : Nat → Prop), e = .returned (.tuple #[.agg #[.int .i64 n, v1_, v2_, v3_], v4_]) ∧ WR w' w.heap.size PW v1_ v2_ v3_ r2 r3 r4 ∧ Kd.R k46 46 w' w.heap.size PD v4_ r5 ∧ (∀ k, PW k → ¬ PD k) ∧ Below w.heap.size w w' := by
 have hu25 := Try.underlying25
 have hu46 := Try.underlying46
 have AC := aM hac
 have AO := aM hao
 clear hac hao
 have HR1 := aM hr1
 have HR2 := aM hr2
 have HR3 := aM hr3
 have HC1 := aM hc1
 have HC2 := aM hc2
 have HC3 := aM hc3
 have HB := aM (Below.refl w.heap.size w)
 clear hr1 hr2 hr3 hc1 hc2 hc3
 have HDE := aM hdd
 have HLD := aM hld
 have H8 := aM (And.intro (show 0 < y1.length by omega) (show 0 < y2.length by omega))
 have hs0 : 0 ≤ s := by omega
 have hs8 : s < (y1.length : Int) := by omega
 have H0 := aM hs0
 have H8n := aM hs8
 have p1 := eq_true hs0
 have p2 := eq_true hs8
 have en : wrap64 (y0 + 1) = n := by unfold wrap64; omega
 have em : Int.tmod n 8 = s := by rw [hs]; exact Int.tmod_eq_emod_of_nonneg (by omega)
 obtain ⟨l1_, l2_⟩ := zf (show ¬ y0 = 2147483647 by omega)
 have HM1 := aM (show m1 = y1.set s.toNat [] from by rw [hm1])
 obtain ⟨n1_, n2_⟩ := zt hz
 have hk0 : 0 ≤ kk := by omega
 have hk8 : kk < (y2.length : Int) := by omega
 have HK0 := aM hk0
 have HK8 := aM hk8
 have p3 := eq_true hk0
 have p4 := eq_true hk8
 have ek : Int.tmod (wrap64 (Int.tdiv n 8)) 8 = kk := by
  rw [hk, Int.tdiv_eq_ediv_of_nonneg (by omega), show wrap64 (n / 8) = n / 8 by unfold wrap64; omega]
  exact Int.tmod_eq_emod_of_nonneg (by omega)
 have HM2 := aM hm2
 have HXF := aM hxf
 have HLF := aM hlf
 have HLR := aM hlr
 have HMV := aM hmv
 have HMF := aM hF
 have HMVL := aM (show mv.length ≤ 2000000 by rw [hmv, List.length_append]; omega)
 clear hn hs hld hm1 hdd hz hk hm2 hxf hlf hlr hmv hF h0 hM e1 e2 hs0 hs8 hk0 hk8
 go_enter Try.func37, Try.ntmps37
 try go_wp2_with (first | ((with_reducible refine gD 1 rfl ?_); refine bE 1 #[.int .i64 y0, .slice A1 l1.length c1, .slice A2 l2.length c2, .slice A3 l3.length c3] 25 ?_; intro g1 hg w1_ hbox hb; have GE1 := aM (zg HB.out hg : w.heap.size ≤ g1); have BK1 := aM hbox; clear hbox hg;   replace HB := zLB HB.out hb; clear hb; (try clear hz1_); have hz1_ := zc4 BK1.out;) | ((with_reducible refine gD 2 rfl ?_); refine bE 2 #[.int .i64 0, .slice none 0 0, .slice none 0 0, .slice none 0 0] 25 ?_; intro g2 hg w2_ hbox hb; have GE2 := aM (zg HB.out hg : w.heap.size ≤ g2); have N1_2 := aM (zN BK1.out hg : g1 ≠ g2); have BK2 := aM hbox; clear hbox hg; replace BK1 := zBB BK1 hb;  replace HB := zLB HB.out hb; clear hb; (try clear hz1_); have hz1_ := zc4 BK1.out; (try clear hz2_); have hz2_ := zc4 BK2.out;) | ((with_reducible refine gC 74 rfl ?_); refine gL 11 Try.func74 #[.agg #[.int .i64 y0, .slice A1 l1.length c1, .slice A2 l2.length c2, .slice A3 l3.length c3]] ?_; (refine (impl_copyWheel.callsW k y0 A1 c1 l1 A2 c2 l2 A3 c3 l3 y0 y1 y2 y3 _ ?s1 HC1.out ?s2 HC2.out ?s3 HC3.out AC.out).mono ?_); (case s1 => exact Kd.C_below HR1.out HB.out); (case s2 => exact Kd.C_below HR2.out HB.out); (case s3 => exact Kd.C_below HR3.out HB.out); rintro e w11_ ⟨v1, v2, v3, rfl, hw_, hb⟩; obtain ⟨gN, cN, gF, cF, A3_, c3_, rfl, rfl, rfl⟩ := hw_.forms H8.out.1 H8.out.2; refine ⟨_, rfl, ?_⟩; have F1 := aM (blk_lt BK1.out); have F2 := aM (blk_lt BK2.out); obtain ⟨n0, hn0_⟩ : ∃ n0, n0 = _ := ⟨_, rfl⟩; have HWR := aM ((hw_.bound.mono (ok' := fun k_ => n0 ≤ k_) (fun k_ h_ => by rw [hn0_]; exact h_.2.1)).lower HB.out.size); have FN := aM (hb.size); have HNB := aM (HB.out.size); rw [← hn0_] at F1 F2 FN HNB; clear hw_ hn0_; replace BK1 := zBB BK1 hb; replace BK2 := zBB BK2 hb;  replace HB := zLB HB.out hb; clear hb; (try clear hz1_); have hz1_ := zc4 BK1.out; (try clear hz2_); have hz2_ := zc4 BK2.out;) | ((with_reducible refine gD 4 rfl ?_); refine bE 4 #[.int .i64 0, .slice none 0 0, .slice none 0 0, .slice none 0 0] 25 ?_; intro g4 hg w4_ hbox hb; have GE4 := aM (zg HB.out hg : w.heap.size ≤ g4); have N1_4 := aM (zN BK1.out hg : g1 ≠ g4); have N2_4 := aM (zN BK2.out hg : g2 ≠ g4); have BK4 := aM hbox; have FN4 := aM (by rw [hg]; exact FN.out : n0 ≤ g4); clear FN hbox hg; replace BK1 := zBB BK1 hb; replace BK2 := zBB BK2 hb; replace HWR := aM (HWR.out.below hb); replace HB := zLB HB.out hb; clear hb; (try clear hz1_); have hz1_ := zc4 BK1.out; (try clear hz2_); have hz2_ := zc4 BK2.out; (try clear hz4_); have hz4_ := zc4 BK4.out;) | ((with_reducible refine gate_store (t := 25) (p := 4) rfl ?_); refine store_event (t := 25) (p := 4) (v := ?vo28_) (w1 := ((((w4_.setCell ⟨g4, 0, none⟩ (.int .i64 y0)).setCell ⟨g4, 1, none⟩ (.slice (some ⟨gN, 0, none⟩) y1.length cN)).setCell ⟨g4, 2, none⟩ (.slice (some ⟨gF, 0, none⟩) y2.length cF)).setCell ⟨g4, 3, none⟩ (.slice A3_ y3.length c3_))) ?hg ?ho ?hn ?hr ?_; (case ho => rfl); (case hg => rfl); (case hn => rfl); (case hr => (have hs0_ := (blk_cell BK4.out 0).trans rfl; have hf0_ := blk_frozen BK4.out 0; have hs1_ := (blk_cell BK4.out 1).trans rfl; have hf1_ := blk_frozen BK4.out 1; have hs2_ := (blk_cell BK4.out 2).trans rfl; have hf2_ := blk_frozen BK4.out 2; have hs3_ := (blk_cell BK4.out 3).trans rfl; have hf3_ := blk_frozen BK4.out 3;(try clear hz1_); have hz1_ := zc4 BK1.out; (try clear hz2_); have hz2_ := zc4 BK2.out; first | (go_simp; done) | (go_simp; rfl))); intro w5_ hw_; have HK_ := set4_kept hw_; have BKn := aM (set4_blk hw_ BK4.out rfl); have HBn := aM (set4_below hw_ HB.out GE4.out); replace BK1 := aM (blk_kept BK1.out HK_ (N1_4.out)); replace BK2 := aM (blk_kept BK2.out HK_ (N2_4.out)); replace HWR := aM ((HWR.out.types BK4.out (by decide) (by decide)).kept HK_ (fun _ h_ => h_.2)); clear hw_ BK4 HB; have BK4 := BKn; have HB := HBn; clear BKn HBn HK_; (try clear hz1_); have hz1_ := zc4 BK1.out; (try clear hz2_); have hz2_ := zc4 BK2.out; (try clear hz4_); have hz4_ := zc4 BK4.out;) | ((with_reducible refine gC 30 rfl ?_); refine gL 13 Try.func30 #[.agg #[.int .i64 y0, .slice A1 l1.length c1, .slice A2 l2.length c2, .slice A3 l3.length c3]] ?_; (refine (impl_WheelOk.calls k y0 A1 c1 l1 A2 c2 l2 A3 c3 l3 true _ ?s1 ?t1 ?s2 ?t2 ?s3 ?t3 AO.out).mono ?_); (case s1 => exact Kd.C_below HR1.out HB.out); (case s2 => exact Kd.C_below HR2.out HB.out); (case s3 => exact Kd.C_below HR3.out HB.out); (case t1 => exact HC1.out); (case t2 => exact HC2.out); (case t3 => exact HC3.out); rintro e w13_ ⟨rfl, hb⟩; refine ⟨_, rfl, ?_⟩; replace BK1 := zBB BK1 hb; replace BK2 := zBB BK2 hb; replace BK4 := zBB BK4 hb; replace HWR := aM (HWR.out.below hb); replace HB := zLB HB.out hb; clear hb; (try clear hz1_); have hz1_ := zc4 BK1.out; (try clear hz2_); have hz2_ := zc4 BK2.out; (try clear hz4_); have hz4_ := zc4 BK4.out;) | ((with_reducible refine gate_store (t := 3) (p := 24) rfl ?_); refine store_event (t := 3) (p := 24) (v := ?vo29_) (w1 := (w13_.setCell ⟨g4, 0, none⟩ (.int .i64 n))) ?hg ?ho ?hn ?hr ?_; (case ho => rfl); (case hg => rfl); (case hn => rfl); (case hr => (have hs0_ := (blk_cell BK4.out 0).trans rfl; have hf0_ := blk_frozen BK4.out 0; have hs1_ := (blk_cell BK4.out 1).trans rfl; have hf1_ := blk_frozen BK4.out 1; have hs2_ := (blk_cell BK4.out 2).trans rfl; have hf2_ := blk_frozen BK4.out 2; have hs3_ := (blk_cell BK4.out 3).trans rfl; have hf3_ := blk_frozen BK4.out 3;(try clear hz1_); have hz1_ := zc4 BK1.out; (try clear hz2_); have hz2_ := zc4 BK2.out; first | (go_simp; done) | (go_simp; rfl))); intro w24_ hw_; have L24 := aM (Nat.lt_of_lt_of_le (blk_lt BK4.out) (set1_kept hw_).1); have HK_ := set1_kept hw_; have BKn := aM (by rw [hw_]; exact blk_put BK4.out 0 _ rfl : w24_.heap[g4]? = some (.cells #[.int .i64 n, .slice (some ⟨gN, 0, none⟩) y1.length cN, .slice (some ⟨gF, 0, none⟩) y2.length cF, .slice A3_ y3.length c3_] 25 (0, 0))); have HBn := aM (by rw [hw_]; exact HB.out.setCell GE4.out _ : Below w.heap.size w w24_); replace BK1 := aM (blk_kept BK1.out HK_ (N1_4.out)); replace BK2 := aM (blk_kept BK2.out HK_ (N2_4.out)); replace HWR := aM (HWR.out.kept HK_ (fun _ h_ => h_.2));  clear hw_ BK4 HB; have BK4 := BKn; have HB := HBn; clear BKn HBn HK_; obtain ⟨oki, As, cs, hx_, hR_, hok_, hfz_, hgo_, hgl_, hsw_⟩ := HWR.out.near_take H0.out H8n.out; rw [← HDE.out] at hx_ hR_; have HR := aM hR_; have HOK := aM hok_; have HFZ := aM hfz_; have HGO := aM hgo_; have HGL := aM hgl_; have HSW := aM hsw_; clear hR_ hok_ hfz_ hgo_ hgl_ hsw_; (try clear hz1_); have hz1_ := zc4 BK1.out; (try clear hz2_); have hz2_ := zc4 BK2.out; (try clear hz4_); have hz4_ := zc4 BK4.out;) | ((with_reducible refine gate_store (t := 23) (p := 37) rfl ?_); refine store_event (t := 23) (p := 37) (v := ?vo30_) (w1 := (w24_.setCell ⟨gN, s.toNat, none⟩ (.slice none 0 0))) ?hg ?ho ?hn ?hr ?_; (case ho => rfl); (case hg => rfl); (case hn => rfl); (case hr => (have hf_ := HFZ.out s.toNat; (try clear hz1_); have hz1_ := zc4 BK1.out; (try clear hz2_); have hz2_ := zc4 BK2.out; (try clear hz4_); have hz4_ := zc4 BK4.out; first | (go_simp; done) | (go_simp; rfl))); intro w37_ hw_; have HK_ := set1_kept hw_; have HWN := aM (by rw [hw_]; exact HSW.out (fun _ => False) _ w24_ _ [] (Nat.le_refl _) (Kept.refl _ _) (fun _ _ _ h_ => h_) (Kd.R_nil _ _ _ _ _) : WR w37_ w.heap.size (fun k => (((n0 ≤ k) ∧ k ≠ g4) ∧ ¬ oki k) ∨ w24_.heap.size ≤ k) (.slice (some ⟨gN, 0, none⟩) y1.length cN) (.slice (some ⟨gF, 0, none⟩) y2.length cF) (.slice A3_ y3.length c3_) (y1.set s.toNat []) y2 y3); have HBn := aM (by rw [hw_]; exact HB.out.setCell (Nat.le_trans HNB.out HGO.out.1) _ : Below w.heap.size w w37_); replace BK1 := aM (blk_kept BK1.out HK_ (fun e_ => by have a_ := F1.out; have b_ := HGO.out.1; have c_ : g1 = gN := e_; omega)); replace BK2 := aM (blk_kept BK2.out HK_ (fun e_ => by have a_ := F2.out; have b_ := HGO.out.1; have c_ : g2 = gN := e_; omega)); replace BK4 := aM (blk_kept BK4.out HK_ (fun e_ => HGO.out.2 (Eq.symm e_))); have HD := aM (Kd.R_kept HR.out HK_ (fun k_ h_ e_ => (HOK.out k_ h_).2.1 e_)); have Z37 := aM HK_.1; clear hw_ HB HWR hx_; have HB := HBn; have HWR := HWN; clear HBn HWN HK_; rw [← HM1.out] at HWR; replace HWR := aM (HWR.out.bound.mono (ok' := (fun k => (((((n0 ≤ k) ∧ k ≠ g4)) ∧ ¬ oki k) ∨ w24_.heap.size ≤ k) ∧ k < w37_.heap.size)) (fun k_ h_ => ⟨h_.1, h_.2.2.1⟩)); (try clear hz1_); have hz1_ := zc4 BK1.out; (try clear hz2_); have hz2_ := zc4 BK2.out; (try clear hz4_); have hz4_ := zc4 BK4.out;))
 replace BK1 := zBD BK1
 replace BK2 := zBD BK2
 replace BK4 := zBD BK4
 replace HB := zLD HB
 replace HD := zRD HD
 replace HWR := aM HWR.out.drew
 have ZD : Aside0 (w37_.heap.size ≤ w37_.drew.heap.size) := ⟨Nat.le_refl _⟩
 skip
 obtain ⟨okf, Af, cf, hxf_, hRf_, hokf_, hfzf_, hgof_, hglf_, hswf_⟩ := HWR.out.far_take HK0.out HK8.out
 rw [← HXF.out] at hxf_ hRf_
 have HR3q := HWR.out.rest_reads rfl
 have HX := aM hxf_
 have HRF := aM hRf_
 have HOKF := aM hokf_
 have HFZF := aM hfzf_
 have HGOF := aM hgof_
 have HGLF := aM hglf_
 have HSWF := aM hswf_
 have HR3_ := aM HR3q
 clear hxf_ hRf_ hokf_ hfzf_ hgof_ hglf_ hswf_ HR3q
 refine start_ (n := 9) (S := fun w' => w'.cell? ⟨g4, 2, none⟩ = some (.slice (some ⟨gF, 0, none⟩) y2.length cF) ∧ w'.cell? ⟨g4, 3, none⟩ = some (.slice A3_ y3.length c3_) ∧ w'.cell? ⟨gF, kk.toNat, none⟩ = some (.slice Af xf.length cf)) (ds := []) (fB 9 0) (by kernel_rfl) rfl rfl ⟨(blk_cell BK4.out 2).trans rfl, (blk_cell BK4.out 3).trans rfl, HX.out⟩ (fun hHeld => ?_); refine with_tabW impl_TickOn.tab9 impl_TickOn.bits9 (fun HT_ HW_ => ?_)
 generalize w37_.drew = w38_ at BK1 BK2 BK4 HB HD HWR ZD HX HRF HOKF HFZF HGLF HSWF HR3_ hHeld ⊢
 refine pY 0 46 (fB 9 1) HT_.out ?_
 refine pY 2 48 (fB 9 5) HT_.out ?_
 refine pY 5 51 (fB 9 37) HT_.out ?_
 refine tY 1 47 (fB 9 39) HT_.out HW_.out hHeld ?_
 refine pY 3 49 (fB 9 47) HT_.out ?_
 refine tY 4 50 (fB 9 63) HT_.out HW_.out hHeld ?_
 refine tY 6 52 (fB 9 127) HT_.out HW_.out hHeld ?_
 refine oN 7 53 (fB 9 255) HT_.out fun K hK => ?_
 refine Kd.R_append_rows_step k46 (w0 := w) w.heap.size (by rfl) (.tmp 50) (.tmp 52) 23 46 (.agg #[(.int .i64 0), (.int .i64 0), (.int .i64 0)]) 24 rfl Try.underlying23 info46 rfl (by decide) (by omega) (.slice Af xf.length cf) xf y3 _ _ _ (fun k => okf k ∨ w38_.heap.size ≤ k) (fun _ => False) rfl rfl ?aO ?aR (fun _ _ h => h) (fun _ h => h.elim) ?aF ?aB ?aS ?aL ?_; (case aO => exact (Kd.R_mono HRF.out (fun k h => .inl h))); (case aR => exact HR3_.out); (case aF => exact (fun k hk => .inr hk)); (case aB => exact HB.out); (case aS => exact HB.out.size); (case aL => (have h1_ := HLF.out; have h2_ := HLR.out; omega)); intro vm w53_ ho hb hg hat; clear hat; rw [← HMV.out] at ho; obtain ⟨Am, cm, rfl⟩ := Kd.R_slice ho; have HKM := aM (Kept.of_grown hg (Kept.refl w38_ okf) (fun k_ hk_ => .inl (HRF.out.1 k_ hk_))); have HM := aM (Kd.R_mono (Kd.R_bound ho) (ok' := fun k_ => (okf k_ ∨ w38_.heap.size ≤ k_) ∧ k_ < w53_.heap.size) (fun k_ h_ => ⟨h_.1, h_.2.2.1⟩)); replace HD := aM (Kd.R_kept HD.out HKM.out (fun k_ h_ h2_ => by have a_ := (HOKF.out k_ h2_).1; have l_ := (HOK.out k_ h_).2.2; rcases a_.1 with c_ | c_; exact c_.2 h_; omega)); have HXM := aM (cell_kept HX.out HKM.out (fun h_ => (HOKF.out gF h_).2.1 rfl)); replace BK1 := aM (blk_kept BK1.out HKM.out (fun h_ => by have a_ := (HOKF.out g1 h_).1; have f_ := F1.out; have n_ := FN4.out; have l_ := L24.out; rcases a_.1 with c_ | c_; (have d_ := c_.1.1; omega); omega)); replace BK2 := aM (blk_kept BK2.out HKM.out (fun h_ => by have a_ := (HOKF.out g2 h_).1; have f_ := F2.out; have n_ := FN4.out; have l_ := L24.out; rcases a_.1 with c_ | c_; (have d_ := c_.1.1; omega); omega)); replace BK4 := aM (blk_kept BK4.out HKM.out (fun h_ => by have a_ := (HOKF.out g4 h_).1; have l_ := L24.out; rcases a_.1 with c_ | c_; exact c_.1.2 rfl; omega)); clear HB; have HB := aM hb; clear ho hb hg
 refine hK.out _ _ ⟨(blk_cell BK4.out 2).trans rfl, (blk_cell BK4.out 3).trans rfl, HXM.out⟩ fun hHeld => ?_; clear hK K
 refine nZ 53 ?_
 refine pY 8 7 (fB 9 511) HT_.out ?_
 refine done_ (done_of HT_.out (by kernel_rfl)) ?_
 go_wp2_with (first | ((with_reducible refine gate_store (t := 23) (p := 57) rfl ?_); refine store_event (t := 23) (p := 57) (v := ?vo31_) (w1 := (w53_.setCell ⟨gF, kk.toNat, none⟩ (.slice none 0 0))) ?hg ?ho ?hn ?hr ?_; (case ho => rfl); (case hg => rfl); (case hn => rfl); (case hr => (have hxm_ := HXM.out; have hf_ : w53_.frozen? ⟨gF, kk.toNat, none⟩ = false := frozen_kept (HFZF.out kk.toNat) HGLF.out HKM.out (fun h_ => (HOKF.out gF h_).2.1 rfl); (try clear hz1_); have hz1_ := zc4 BK1.out; (try clear hz2_); have hz2_ := zc4 BK2.out; (try clear hz4_); have hz4_ := zc4 BK4.out; first | (go_simp; done) | (go_simp; rfl))); intro w57_ hw_; have HK_ := set1_kept hw_; have HWN := aM (by rw [hw_]; exact HSWF.out okf w53_.heap.size w53_ _ [] HKM.out.1 HKM.out (fun _ _ h_ => h_) (Kd.R_nil _ _ _ _ _) : WR w57_ w.heap.size (fun k => ((((((n0 ≤ k) ∧ k ≠ g4) ∧ ¬ oki k) ∨ w24_.heap.size ≤ k) ∧ k < w37_.heap.size) ∧ ¬ okf k) ∨ w53_.heap.size ≤ k) (.slice (some ⟨gN, 0, none⟩) y1.length cN) (.slice (some ⟨gF, 0, none⟩) y2.length cF) (.slice A3_ y3.length c3_) m1 (y2.set kk.toNat []) y3); have HGB := aM (by have a_ := HGOF.out; have l_ := L24.out; have f_ := FN4.out; rcases a_.1 with c_ | c_; exact c_.1.1; omega : n0 ≤ gF); have HBn := aM (by rw [hw_]; exact HB.out.setCell (Nat.le_trans HNB.out HGB.out) _ : Below w.heap.size w w57_); replace BK1 := aM (blk_kept BK1.out HK_ (fun e_ => by have a_ := HGOF.out; have f_ := F1.out; have n_ := FN4.out; have l_ := L24.out; have e2_ : g1 = gF := e_; subst e2_; rcases a_.1 with c_ | c_; (have d_ := c_.1.1; omega); omega)); replace BK2 := aM (blk_kept BK2.out HK_ (fun e_ => by have a_ := HGOF.out; have f_ := F2.out; have n_ := FN4.out; have l_ := L24.out; have e2_ : g2 = gF := e_; subst e2_; rcases a_.1 with c_ | c_; (have d_ := c_.1.1; omega); omega)); replace BK4 := aM (blk_kept BK4.out HK_ (fun e_ => by have a_ := HGOF.out; have l_ := L24.out; have e2_ : g4 = gF := e_; subst e2_; rcases a_.1 with c_ | c_; exact c_.1.2 rfl; omega)); replace HD := aM (Kd.R_kept HD.out HK_ (fun k_ h_ e_ => by have a_ := HGOF.out; have l_ := (HOK.out k_ h_).2.2; have e2_ : k_ = gF := e_; subst e2_; rcases a_.1 with c_ | c_; exact c_.2 h_; omega)); replace HM := aM (Kd.R_kept HM.out HK_ (fun k_ h_ e_ => by have e2_ : k_ = gF := e_; rcases h_.1 with c_ | c_; exact (HOKF.out k_ c_).2.1 e2_; (have l_ := HGLF.out; omega))); have Z57 := aM HK_.1; clear hw_ HB HWR; have HB := HBn; have HWR := HWN; clear HBn HWN HK_; rw [← HM2.out] at HWR; (try clear hz1_); have hz1_ := zc4 BK1.out; (try clear hz2_); have hz2_ := zc4 BK2.out; (try clear hz4_); have hz4_ := zc4 BK4.out;) | ((with_reducible refine gate_store (t := 23) (p := 58) rfl ?_); refine store_event (t := 23) (p := 58) (v := ?vo32_) (w1 := (w57_.setCell ⟨g4, 3, none⟩ (.slice none 0 0))) ?hg ?ho ?hn ?hr ?_; (case ho => rfl); (case hg => rfl); (case hn => rfl); (case hr => (have hs0_ := (blk_cell BK4.out 0).trans rfl; have hf0_ := blk_frozen BK4.out 0; have hs1_ := (blk_cell BK4.out 1).trans rfl; have hf1_ := blk_frozen BK4.out 1; have hs2_ := (blk_cell BK4.out 2).trans rfl; have hf2_ := blk_frozen BK4.out 2; have hs3_ := (blk_cell BK4.out 3).trans rfl; have hf3_ := blk_frozen BK4.out 3;(try clear hz1_); have hz1_ := zc4 BK1.out; (try clear hz2_); have hz2_ := zc4 BK2.out; first | (go_simp; done) | (go_simp; rfl))); intro w58_ hw_; have HK_ := set1_kept hw_; have BKn := aM (by rw [hw_]; exact blk_put BK4.out 3 _ rfl : w58_.heap[g4]? = some (.cells #[.int .i64 n, .slice (some ⟨gN, 0, none⟩) y1.length cN, .slice (some ⟨gF, 0, none⟩) y2.length cF, .slice none 0 0] 25 (0, 0))); have HBn := aM (by rw [hw_]; exact HB.out.setCell GE4.out _ : Below w.heap.size w w58_); replace HD := aM (Kd.R_kept (Kd.R_types HD.out BK4.out (by decide)) HK_ (fun _ h_ => h_.2)); replace HM := aM (Kd.R_kept (Kd.R_types HM.out BK4.out (by decide)) HK_ (fun _ h_ => h_.2)); replace HWR := aM (((HWR.out.types BK4.out (by decide) (by decide)).kept HK_ (fun _ h_ => h_.2)).rest_nil.bound.mono (ok' := fun k_ => ((((((((n0 ≤ k_) ∧ k_ ≠ g4) ∧ ¬ oki k_) ∨ w24_.heap.size ≤ k_) ∧ k_ < w37_.heap.size) ∧ ¬ okf k_) ∨ w53_.heap.size ≤ k_) ∧ k_ ≠ g4) ∧ k_ < w58_.heap.size) (fun k_ h_ => ⟨h_.1, h_.2.2.1⟩)); replace BK1 := aM (blk_kept BK1.out HK_ (N1_4.out)); replace BK2 := aM (blk_kept BK2.out HK_ (N2_4.out)); have Z58 := aM HK_.1; clear hw_ BK4 HB; have BK4 := BKn; have HB := HBn; clear BKn HBn HK_; (try clear hz1_); have hz1_ := zc4 BK1.out; (try clear hz2_); have hz2_ := zc4 BK2.out; (try clear hz4_); have hz4_ := zc4 BK4.out;))
 have HTI : Aside0 (TI n g4 n0 w.heap.size w58_ m1 m2 [] d (.slice As d.length cs) mv (.slice Am mv.length cm)) := aM (by
  have z24 := L24.out
  have z37 := Z37.out
  have zd := ZD.out
  have z53 := HKM.out.1
  have z57 := Z57.out
  have z58 := Z58.out
  have f4 := FN4.out
  refine ⟨_, _, _, ⟨_, _, _, BK4.out, HWR.out⟩, HD.out, HM.out, ⟨fun k_ h_ h2_ => ?_, fun k_ h_ h2_ => ?_, fun k_ h_ h2_ => ?_⟩, fun k_ h_ => ?_⟩
  ·have l_ := (HOK.out k_ h2_.1).2.2
   rcases h_.1.1 with c_ | c_
   ·rcases c_.1.1 with e_ | e_
    ·exact e_.2 h2_.1
    ·omega
   ·omega
  ·have b_ := h2_.1.2
   rcases h_.1.1 with c_ | c_
   ·rcases h2_.1.1 with e_ | e_
    ·exact c_.2 e_
    ·have := c_.1.2; omega
   ·omega
  ·have l_ := (HOK.out k_ h_.1).2.2
   rcases h2_.1.1 with e_ | e_
   ·rcases (HOKF.out k_ e_).1.1 with c_ | c_
    ·exact c_.2 h_.1
    ·omega
   ·omega
  ·rcases h_ with h_ | h_ | h_
   ·refine ⟨?_, h_.2, h_.1.2⟩
    rcases h_.1.1 with c_ | c_
    ·rcases c_.1.1 with e_ | e_
     ·exact e_.1.1
     ·omega
    ·omega
   ·have l_ := HOK.out k_ h_.1
    exact ⟨l_.1.1, by have := l_.2.2; omega, l_.1.2⟩
   ·have b_ := h_.1.2
    rcases h_.1.1 with e_ | e_
    ·have a_ := (HOKF.out k_ e_).1
     refine ⟨?_, by omega, h_.2⟩
     rcases a_.1 with c_ | c_
     ·exact c_.1.1
     ·omega
    ·exact ⟨by omega, by omega, h_.2⟩)
 have HN0 := aM (Nat.le_of_lt (Nat.lt_of_le_of_lt FN4.out (blk_lt BK4.out)) : n0 ≤ w58_.heap.size)
 clear HWR HD HM BK4 HRF HOKF HFZF HGOF HGLF HSWF HR3_ HKM HX HXM ZD Z57 Z58 L24 HR HOK HFZ HGO HGL HSW HGB Z37 HXF HM1 HM2 HDE HLD HLF HLR HK0 HK8 H0 H8n H8 em ek p1 p2 p3 p4 l1_ l2_ n1_ n2_ en hHeld
 go_loopg [5, 61] mv.length (fun gk v5 v61 w' => ∃ (j : Nat) (q1 q2 : List (List S46)) (q3 q5 : List S46), v61 = .int .i64 (j : Int) ∧ j ≤ mv.length ∧ mv.length - j ≤ gk ∧ Aside0 (moveF n (mv.drop j) q1 q2 q3 q5 = some (r2, r3, r4, r5)) ∧ Aside0 (TI n g4 n0 w.heap.size w' q1 q2 q3 q5 v5 mv (.slice Am mv.length cm)) ∧ Aside0 (w'.heap[g1]? = some (.cells #[.int .i64 y0, .slice A1 l1.length c1, .slice A2 l2.length c2, .slice A3 l3.length c3] 25 (0, 0))) ∧ Aside0 (w'.heap[g2]? = some (.cells #[.int .i64 0, .slice none 0 0, .slice none 0 0, .slice none 0 0] 25 (0, 0))) ∧ Aside0 (Below w.heap.size w w') ∧ Aside0 (w58_.heap.size ≤ w'.heap.size))
 case atStart => exact ⟨0, m1, m2, [], d, rfl, by omega, by omega, HMF, HTI, BK1, BK2, HB, ⟨Nat.le_refl _⟩⟩
 case round =>
  clear HTI BK1 BK2 HB HMF
  obtain ⟨j, q1, q2, q3, q5, rfl, hj, hgk, HA, HT, BK1, BK2, HB, HNW⟩ := hrel
  obtain ⟨Ad, cd, rfl⟩ := HT.out.due_slice
  have HJ := aM hj
  have HGK := aM hgk
  clear hj hgk
  have hc4_ := HT.out.cell0
  by_cases cj : j < mv.length
  ·have hji : (j : Int) < ((mv.length : Nat) : Int) := by omega
   have hj0 : (0 : Int) ≤ (j : Int) := by omega
   obtain ⟨ad, hAm, e0_, e1_, e2_⟩ := at_T46 (HT.out.moved rfl) (j : Int) hj0 hji
   subst hAm
   have HDR := aM (rd46_at mv j cj)
   generalize rd_T46 mv (j : Int) = t at e0_ e1_ e2_ HDR
   obtain ⟨x0, x1, x2⟩ := t
   simp only [Int.toNat_natCast] at e0_ e1_ e2_
   have HA2 := HA.out
   rw [HDR.out] at HA2
   simp only [moveF] at HA2
   have pj1 := eq_true hj0
   have pj2 := eq_true hji
   have pj3 : decide ((j : Int) < ((mv.length : Nat) : Int)) = true := dT hji
   have ej : wrap64 ((j : Int) + 1) = ((j + 1 : Nat) : Int) := by have := HMVL.out; unfold wrap64; omega
   have EJ := aM ej
   clear ej
   have CJ := aM cj
   clear cj hji hj0 HA HDR
   by_cases g1_ : n ≤ x2
   ·rw [if_pos g1_] at HA2
    by_cases g2_ : x2 = n
    ·rw [if_pos g2_] at HA2
     obtain ⟨b1_, b2_⟩ := zt g2_
     by_cases g3_ : q5.length < 1000000
     ·rw [if_pos g3_] at HA2
      have HLQ := aM g3_
      have HAN := aM HA2
      clear HA2 g1_ g2_ g3_
      go_wp2_with (first | ((with_reducible refine gD 9 rfl ?_); refine bE 9 #[.int .i64 0, .int .i64 0, .int .i64 0] 46 ?_; intro g9 hg w9_ hbox hb; have G9 := aM hg; have BK9 := aM hbox; have HB9 := aM hb; have GE9 := aM (zg HB.out hg : w.heap.size ≤ g9); clear hbox hg; replace HB := zLB HB.out hb; have hd0_ := pw_cell_below hb e0_; have hd1_ := pw_cell_below hb e1_; have hd2_ := pw_cell_below hb e2_; clear hb e0_ e1_ e2_; have hz9_ := zc3_ BK9.out;) | ((with_reducible refine gate_store (t := 46) (p := 9) rfl ?_); refine store_event (t := 46) (p := 9) (v := ?vo33_) (w1 := (((w9_.setCell ⟨g9, 0, none⟩ (.int .i64 x0)).setCell ⟨g9, 1, none⟩ (.int .i64 x1)).setCell ⟨g9, 2, none⟩ (.int .i64 x2))) ?hg ?ho ?hn ?hr ?_; (case ho => rfl); (case hg => rfl); (case hn => rfl); (case hr => (have hs0_ := (blk_cell BK9.out 0).trans rfl; have hf0_ := blk_frozen BK9.out 0; have hs1_ := (blk_cell BK9.out 1).trans rfl; have hf1_ := blk_frozen BK9.out 1; have hs2_ := (blk_cell BK9.out 2).trans rfl; have hf2_ := blk_frozen BK9.out 2; first | (go_simp; done) | (go_simp; rfl))); intro w10_ hw_; have BKn := aM (set3_blk hw_ BK9.out); have HBn := aM (set3_below hw_ HB.out GE9.out); have HKr := aM ((Kept.of_below HB9.out (fun k => k = g9)).then_ (set3_kept hw_) (fun _ h_ => .inl h_)); replace HT := aM (HT.out.away HKr.out (fun k_ h_ => by have e_ : k_ = g9 := h_; rw [e_, G9.out]; exact Nat.le_refl _)); replace BK1 := aM (blk_kept BK1.out HKr.out (fun e_ => by have l_ := blk_lt BK1.out; have e2_ : g1 = g9 := e_; rw [e2_, G9.out] at l_; exact Nat.lt_irrefl _ l_)); replace BK2 := aM (blk_kept BK2.out HKr.out (fun e_ => by have l_ := blk_lt BK2.out; have e2_ : g2 = g9 := e_; rw [e2_, G9.out] at l_; exact Nat.lt_irrefl _ l_)); have HN1 := aM (Nat.le_trans HNW.out HKr.out.1); clear hw_ BK9 HB HB9 HKr hd0_ hd1_ hd2_; have BK9 := BKn; have HB := HBn; clear BKn HBn; (try clear hz9_); have hz9_ := zc3_ BK9.out; (try clear hc4_); have hc4_ := HT.out.cell0;) | ((with_reducible refine gate_builtin (b := .append) (xs := #[.tmp 70, .tmp 72]) rfl ?_); at_builtin; obtain ⟨PW, PD, PM, hw_, hd_, hm_, hx_, hb_⟩ := HT.out; refine Kd.R_append k46 (w0 := w) w.heap.size rfl (.tmp 70) (.tmp 72) 23 46 (.agg #[(.int .i64 0), (.int .i64 0), (.int .i64 0)]) 24 rfl Try.underlying23 info46 rfl (by decide) (by omega) (.slice Ad q5.length cd) q5 ⟨x0, x1, x2⟩ [.int .i64 x0, .int .i64 x1, .int .i64 x2] (fun k => PD k ∨ w10_.heap.size ≤ k) (fun _ => False) rfl rfl ?aP (fun _ hk => hk.elim) ?aF ?aO ?aB ?aS ?aL ?_; (case aP => exact k46_mkM _ _ _ (⟨x0, x1, x2⟩ : S46)); (case aF => exact fun _ h_ => .inr h_); (case aO => exact Kd.R_mono hd_ (fun _ h_ => .inl h_)); (case aB => exact HB.out); (case aS => exact HB.out.size); (case aL => (have h1_ := HLQ.out; omega)); intro vn wA ho hb hg hat; clear hat; have HKa := Kept.of_grown hg (Kept.refl w10_ PD) (fun k_ hk_ => .inl (hd_.1 k_ hk_)); have HTn := aM (TI.due ⟨PW, PD, PM, hw_, hm_, hx_, hb_, ho, HKa⟩ (Nat.le_trans HN0.out HN1.out)); replace BK1 := aM (blk_kept BK1.out HKa (fun h_ => by have a_ := (hb_ g1 (.inr (.inl h_))).1; have b_ := F1.out; omega)); replace BK2 := aM (blk_kept BK2.out HKa (fun h_ => by have a_ := (hb_ g2 (.inr (.inl h_))).1; have b_ := F2.out; omega)); clear HB HT hw_ hd_ hm_ hx_ hb_; have HB := aM hb; have HT := HTn; have HNN := aM (Nat.le_trans HN1.out HKa.1); clear HTn HKa ho hb hg;))
      go_roundg (mv.length - (j + 1))
      case measure => have a_ := CJ.out; have b_ := HGK.out; omega
      case rel => exact ⟨j + 1, q1, q2, q3, q5 ++ [⟨x0, x1, x2⟩], by rw [← EJ.out], CJ.out, Nat.le_refl _, HAN, HT, BK1, BK2, HB, HNN⟩
     ·rw [if_neg g3_] at HA2
      exact absurd HA2 (by simp)
    ·rw [if_neg g2_] at HA2
     obtain ⟨b1_, b2_⟩ := zf g2_
     obtain ⟨⟨s1, s2, s3⟩, hsv⟩ : ∃ q, layV n ⟨x0, x1, x2⟩ q1 q2 q3 = q := ⟨_, rfl⟩
     rw [hsv] at HA2
     simp only at HA2
     by_cases g3_ : layOk n ⟨x0, x1, x2⟩ q1 q2 q3 = true
     ·rw [if_pos g3_] at HA2
      have HLO := aM g3_
      have HSV := aM hsv
      have HAN := aM HA2
      clear HA2 g1_ g2_ g3_ hsv
      go_wp2_with (first | ((with_reducible refine gD 9 rfl ?_); refine bE 9 #[.int .i64 0, .int .i64 0, .int .i64 0] 46 ?_; intro g9 hg w9_ hbox hb; have G9 := aM hg; have BK9 := aM hbox; have HB9 := aM hb; have GE9 := aM (zg HB.out hg : w.heap.size ≤ g9); clear hbox hg; replace HB := zLB HB.out hb; have hd0_ := pw_cell_below hb e0_; have hd1_ := pw_cell_below hb e1_; have hd2_ := pw_cell_below hb e2_; clear hb e0_ e1_ e2_; have hz9_ := zc3_ BK9.out;) | ((with_reducible refine gate_store (t := 46) (p := 9) rfl ?_); refine store_event (t := 46) (p := 9) (v := ?vo33_) (w1 := (((w9_.setCell ⟨g9, 0, none⟩ (.int .i64 x0)).setCell ⟨g9, 1, none⟩ (.int .i64 x1)).setCell ⟨g9, 2, none⟩ (.int .i64 x2))) ?hg ?ho ?hn ?hr ?_; (case ho => rfl); (case hg => rfl); (case hn => rfl); (case hr => (have hs0_ := (blk_cell BK9.out 0).trans rfl; have hf0_ := blk_frozen BK9.out 0; have hs1_ := (blk_cell BK9.out 1).trans rfl; have hf1_ := blk_frozen BK9.out 1; have hs2_ := (blk_cell BK9.out 2).trans rfl; have hf2_ := blk_frozen BK9.out 2; first | (go_simp; done) | (go_simp; rfl))); intro w10_ hw_; have BKn := aM (set3_blk hw_ BK9.out); have HBn := aM (set3_below hw_ HB.out GE9.out); have HKr := aM ((Kept.of_below HB9.out (fun k => k = g9)).then_ (set3_kept hw_) (fun _ h_ => .inl h_)); replace HT := aM (HT.out.away HKr.out (fun k_ h_ => by have e_ : k_ = g9 := h_; rw [e_, G9.out]; exact Nat.le_refl _)); replace BK1 := aM (blk_kept BK1.out HKr.out (fun e_ => by have l_ := blk_lt BK1.out; have e2_ : g1 = g9 := e_; rw [e2_, G9.out] at l_; exact Nat.lt_irrefl _ l_)); replace BK2 := aM (blk_kept BK2.out HKr.out (fun e_ => by have l_ := blk_lt BK2.out; have e2_ : g2 = g9 := e_; rw [e2_, G9.out] at l_; exact Nat.lt_irrefl _ l_)); have HN1 := aM (Nat.le_trans HNW.out HKr.out.1); clear hw_ BK9 HB HB9 HKr hd0_ hd1_ hd2_; have BK9 := BKn; have HB := HBn; clear BKn HBn; (try clear hz9_); have hz9_ := zc3_ BK9.out; (try clear hc4_); have hc4_ := HT.out.cell0;) | ((with_reducible refine gC 75 rfl ?_); refine gL 75 Try.func75 #[.pointer (some ⟨g4, 0, none⟩), .agg #[.int .i64 x0, .int .i64 x1, .int .i64 x2]] ?_; obtain ⟨PW, PD, PM, hw_, hd_, hm_, hx_, hb_⟩ := HT.out; (refine (impl_lay.calls n x0 x1 x2 q1 q2 q3 g4 w.heap.size PW w _ HB.out GE4.out hw_ HLO.out s1 s2 s3 HSV.out).mono ?_); rintro e wA ⟨rfl, hs_, hb, hk_⟩; refine ⟨_, rfl, ?_⟩; have HTn := aM (TI.laid ⟨PW, PD, PM, hd_, hm_, hx_, hb_, hs_, hk_⟩ (Nat.le_trans HN0.out HN1.out)); replace BK1 := aM (blk_kept BK1.out hk_ (fun h_ => h_.elim (fun h_ => by have a_ := (hb_ g1 (.inl h_)).1; have b_ := F1.out; omega) N1_4.out)); replace BK2 := aM (blk_kept BK2.out hk_ (fun h_ => h_.elim (fun h_ => by have a_ := (hb_ g2 (.inl h_)).1; have b_ := F2.out; omega) N2_4.out)); clear HB HT hw_ hd_ hm_ hx_ hb_; have HB := aM hb; have HT := HTn; have HNN := aM (Nat.le_trans HN1.out hk_.1); clear HTn hs_ hb hk_;))
      go_roundg (mv.length - (j + 1))
      case measure => have a_ := CJ.out; have b_ := HGK.out; omega
      case rel => exact ⟨j + 1, s1, s2, s3, q5, by rw [← EJ.out], CJ.out, Nat.le_refl _, HAN, HT, BK1, BK2, HB, HNN⟩
     ·rw [if_neg g3_] at HA2
      exact absurd HA2 (by simp)
   ·rw [if_neg g1_] at HA2
    exact absurd HA2 (by simp)
  ·have hje : j = mv.length := by have := HJ.out; omega
   subst hje
   have HA2 := HA.out
   rw [List.drop_length] at HA2
   simp only [moveF, Option.some.injEq, Prod.mk.injEq] at HA2
   obtain ⟨rfl, rfl, rfl, rfl⟩ := HA2
   have pj3 : decide (((mv.length : Nat) : Int) < ((mv.length : Nat) : Int)) = false := dF (by omega)
   clear cj
   obtain ⟨PW, PD, PM, ⟨u1, u2, u3, hu_, hw_⟩, hd_, hm_, ⟨hx_, _, _⟩, hb_⟩ := HT.out
   obtain ⟨D1, p1, D2, p2, D3, p3, rfl, rfl, rfl, _, _, _, _⟩ := hw_.reads
   have BK4 := aM hu_
   have HWR := aM hw_
   have HD := aM hd_
   have HXX := aM hx_
   clear hu_ hw_ hd_ hm_ hx_ hb_ HT HA hc4_
   have hz1_ := zc4 BK1.out
   have hz2_ := zc4 BK2.out
   have hz4_ := zc4 BK4.out
   go_wp2_with (first | ((with_reducible refine gate_store (t := 25) (p := 2) rfl ?_); refine store_event (t := 25) (p := 2) (v := ?vo34_) (w1 := ((((wr.setCell ⟨g2, 0, none⟩ (.int .i64 n)).setCell ⟨g2, 1, none⟩ (.slice D1 q1.length p1)).setCell ⟨g2, 2, none⟩ (.slice D2 q2.length p2)).setCell ⟨g2, 3, none⟩ (.slice D3 q3.length p3))) ?hg ?ho ?hn ?hr ?_; (case ho => rfl); (case hg => rfl); (case hn => rfl); (case hr => (have hs0_ := (blk_cell BK2.out 0).trans rfl; have hf0_ := blk_frozen BK2.out 0; have hs1_ := (blk_cell BK2.out 1).trans rfl; have hf1_ := blk_frozen BK2.out 1; have hs2_ := (blk_cell BK2.out 2).trans rfl; have hf2_ := blk_frozen BK2.out 2; have hs3_ := (blk_cell BK2.out 3).trans rfl; have hf3_ := blk_frozen BK2.out 3;(try clear hz1_); have hz1_ := zc4 BK1.out; (try clear hz4_); have hz4_ := zc4 BK4.out; first | (go_simp; done) | (go_simp; rfl))); intro wF hw_; have HK_ := set4_kept hw_; have BKn := aM (set4_blk hw_ BK2.out rfl); have HBn := aM (set4_below hw_ HB.out GE2.out); have HF := aM ((HWR.out.types BK2.out (by decide) (by decide)).kept HK_ (fun _ h_ => h_.2)); replace HD := aM (Kd.R_kept (Kd.R_types HD.out BK2.out (by decide)) HK_ (fun _ h_ => h_.2)); clear hw_ BK2 HB; have BK2 := BKn; have HB := HBn; clear BKn HBn HK_))
   refine bodyPost_ret (results_ct rfl _ _ g2 25 #[.int .i64 n, .slice D1 q1.length p1, .slice D2 q2.length p2, .slice D3 q3.length p3] (0, 0) _ rfl (by exact BK2.out) Try.underlying25 rfl (by kernel_rfl)) rfl ?_
   exact ⟨_, _, _, _, _, _, rfl, HF.out, HD.out, fun k_ h_ h2_ => HXX.out k_ h_.1 h2_.1, HB.out⟩
def impl_TickOn.f (k : Nat) (a : Int) (l1 l2 : List (List S46)) (l3 : List S46) : Option (Int × List (List S46) × List (List S46) × List S46 × List S46) :=
 (impl_copyWheel.f k a l1 l2 l3).bind fun c => (if c.1 = a then (impl_WheelOk.f k a l1 l2 l3).bind fun b => (if b = true then (if a = 2147483647 then some (c.1, c.2.1, c.2.2.1, c.2.2.2, []) else tickF c.1 c.2.1 c.2.2.1 c.2.2.2) else some (c.1, c.2.1, c.2.2.1, c.2.2.2, [])) else none)
theorem impl_TickOn.callsW (k : Nat) (a : Int) (A1 : Option Addr) (c1 : Nat) (l1 : List (List S46)) (A2 : Option Addr) (c2 : Nat) (l2 : List (List S46)) (A3 : Option Addr) (c3 : Nat) (l3 : List S46) (r1 : Int) (r2 r3 : List (List S46)) (r4 r5 : List S46) (w : World) (hr1 : Kd.C (Kd.slice 46 k46) w A1 l1.length l1) (hc1 : l1.length ≤ c1) (hr2 : Kd.C (Kd.slice 46 k46) w A2 l2.length l2) (hc2 : l2.length ≤ c2) (hr3 : Kd.C k46 w A3 l3.length l3) (hc3 : l3.length ≤ c3) (h : impl_TickOn.f k a l1 l2 l3 = some (r1, r2, r3, r4, r5)) :
  Calls Try.prog 37 #[.agg #[.int .i64 a, .slice A1 l1.length c1, .slice A2 l2.length c2, .slice A3 l3.length c3]] w fun e w' => ∃ (v1_ v2_ v3_ v4_ : Value) (PW PD : Nat → Prop), e = .returned (.tuple #[.agg #[.int .i64 r1, v1_, v2_, v3_], v4_]) ∧ WR w' w.heap.size PW v1_ v2_ v3_ r2 r3 r4 ∧ Kd.R k46 46 w' w.heap.size PD v4_ r5 ∧ (∀ k, PW k → ¬ PD k) ∧ Below w.heap.size w w' := by
 unfold impl_TickOn.f at h
 obtain ⟨⟨y0, y1, y2, y3⟩, ⟨hac⟩, h⟩ := zO h
 simp only at h
 by_cases ey : y0 = a
 ·rw [if_pos ey] at h
  subst ey
  obtain ⟨b, ⟨hao⟩, h⟩ := zO h
  cases b with
  | false =>
   rw [if_neg (by simp)] at h
   simp only [Option.some.injEq, Prod.mk.injEq] at h
   obtain ⟨rfl, rfl, rfl, rfl, rfl⟩ := h
   exact impl_TickOn.wrong k A1 c1 l1 A2 c2 l2 A3 c3 l3 y0 y1 y2 y3 w hr1 hc1 hr2 hc2 hr3 hc3 hac hao
  | true =>
   rw [if_pos rfl] at h
   by_cases em : y0 = 2147483647
   ·rw [if_pos em] at h
    simp only [Option.some.injEq, Prod.mk.injEq] at h
    obtain ⟨rfl, rfl, rfl, rfl, rfl⟩ := h
    exact impl_TickOn.late k A1 c1 l1 A2 c2 l2 A3 c3 l3 y0 y1 y2 y3 w hr1 hc1 hr2 hc2 hr3 hc3 hac hao em
   ·rw [if_neg em] at h
    unfold tickF at h
    by_cases ok : tickOk y0 y1 y2 y3 = true
    ·rw [if_pos ok] at h
     obtain ⟨h1, h2, h3, h4, h5, h6, h7⟩ := tickOk_spec ok
     by_cases ez : (y0 + 1) % 8 = 0
     ·rw [if_pos ez] at h
      obtain ⟨⟨s2, s3, s4, s5⟩, ⟨hF⟩, h⟩ := zO h
      simp only [Option.some.injEq, Prod.mk.injEq] at h
      obtain ⟨rfl, rfl, rfl, rfl, rfl⟩ := h
      exact impl_TickOn.turn k A1 c1 l1 A2 c2 l2 A3 c3 l3 y0 y1 y2 y3 w hr1 hc1 hr2 hc2 hr3 hc3 hac hao (y0 + 1) ((y0 + 1) % 8) _ _ h1 h2 h3 h4 rfl rfl (getD_len y1 h5 _) rfl rfl ((y0 + 1) / 8 % 8) _ _ _ ez rfl rfl rfl (getD_len y2 h6 _) h7 rfl s2 s3 s4 s5 hF
     ·rw [if_neg ez] at h
      simp only [Option.some.injEq, Prod.mk.injEq] at h
      obtain ⟨rfl, rfl, rfl, rfl, rfl⟩ := h
      exact impl_TickOn.quiet k A1 c1 l1 A2 c2 l2 A3 c3 l3 y0 y1 y2 y3 w hr1 hc1 hr2 hc2 hr3 hc3 hac hao (y0 + 1) ((y0 + 1) % 8) _ _ h1 h2 h3 h4 rfl rfl (getD_len y1 h5 _) rfl rfl ez
    ·rw [if_neg ok] at h
     exact absurd h (by simp)
 ·rw [if_neg ey] at h
  exact absurd h (by simp)
def impl_Advance.l (k : Nat) : Nat → Int → List (List S46) → List (List S46) → List S46 → List S46 → Option (Int × List (List S46) × List (List S46) × List S46 × List S46)
 | 0, a, l1, l2, l3, d => some (a, l1, l2, l3, d)
 | m + 1, a, l1, l2, l3, d => (impl_TickOn.f k a l1 l2 l3).bind fun r => (if d.length + r.2.2.2.2.length < 1000000 then impl_Advance.l k m r.1 r.2.1 r.2.2.1 r.2.2.2.1 (d ++ r.2.2.2.2) else none)
def impl_Advance.f (k : Nat) (a : Int) (l1 l2 : List (List S46)) (l3 : List S46) (t : Int) : Option (Int × List (List S46) × List (List S46) × List S46 × List S46) :=
 (impl_copyWheel.f k a l1 l2 l3).bind fun c => (if c.1 = a then (impl_within.f t 0 200).bind fun u => (if u = true then impl_Advance.l k t.toNat c.1 c.2.1 c.2.2.1 c.2.2.2 [] else some (c.1, c.2.1, c.2.2.1, c.2.2.2, [])) else none)
set_option maxHeartbeats 8000000 in
set_option maxRecDepth 100000 in
theorem impl_Advance.stay (k : Nat) (A1 : Option Addr) (c1 : Nat) (l1 : List (List S46)) (A2 : Option Addr) (c2 : Nat) (l2 : List (List S46)) (A3 : Option Addr) (c3 : Nat) (l3 : List S46) (y0 : Int) (y1 y2 : List (List S46)) (y3 : List S46) (t : Int) (w : World) (hr1 : Kd.C (Kd.slice 46 k46) w A1 l1.length l1) (hc1 : l1.length ≤ c1) (hr2 : Kd.C (Kd.slice 46 k46) w A2 l2.length l2) (hc2 : l2.length ≤ c2) (hr3 : Kd.C k46 w A3 l3.length l3) (hc3 : l3.length ≤ c3) (hac : impl_copyWheel.f k y0 l1 l2 l3 = some (y0, y1, y2, y3)) (haw : impl_within.f t 0 200 = some false) :
  Calls Try.prog 39 #[.agg #[.int .i64 y0, .slice A1 l1.length c1, .slice A2 l2.length c2, .slice A3 l3.length c3], .int .i64 t] w fun e w' => ∃ (v1_ v2_ v3_ v4_ : Value) (PW PD : Nat → Prop), e = .returned (.tuple #[.agg #[.int .i64 y0, v1_, v2_, v3_], v4_]) ∧ WR w' w.heap.size PW v1_ v2_ v3_ y1 y2 y3 ∧ Kd.R k46 46 w' w.heap.size PD v4_ [] ∧ (∀ k, PW k → ¬ PD k) ∧ Below w.heap.size w w' := by
 have hu25 := Try.underlying25
 have AC := aM hac
 have AW := aM haw
 clear hac haw
 have HR1 := aM hr1
 have HR2 := aM hr2
 have HR3 := aM hr3
 have HC1 := aM hc1
 have HC2 := aM hc2
 have HC3 := aM hc3
 have HB := aM (Below.refl w.heap.size w)
 clear hr1 hr2 hr3 hc1 hc2 hc3
 go_enter Try.func39, Try.ntmps39
 go_wp2_with (first | ((with_reducible refine gD 2 rfl ?_); refine bE 2 #[.int .i64 y0, .slice A1 l1.length c1, .slice A2 l2.length c2, .slice A3 l3.length c3] 25 ?_; intro g2 hg w2_ hbox hb; have GE2 := aM (zg HB.out hg : w.heap.size ≤ g2); have BK2 := aM hbox; clear hbox hg;   replace HB := zLB HB.out hb; clear hb; (try clear hz2_); have hz2_ := zc4 BK2.out;) | ((with_reducible refine gD 4 rfl ?_); refine bE 4 #[.int .i64 0, .slice none 0 0, .slice none 0 0, .slice none 0 0] 25 ?_; intro g4 hg w4_ hbox hb; have GE4 := aM (zg HB.out hg : w.heap.size ≤ g4); have N2_4 := aM (zN BK2.out hg : g2 ≠ g4); have BK4 := aM hbox; clear hbox hg; replace BK2 := zBB BK2 hb;  replace HB := zLB HB.out hb; clear hb; (try clear hz2_); have hz2_ := zc4 BK2.out; (try clear hz4_); have hz4_ := zc4 BK4.out;) | ((with_reducible refine gC 74 rfl ?_); refine gL 12 Try.func74 #[.agg #[.int .i64 y0, .slice A1 l1.length c1, .slice A2 l2.length c2, .slice A3 l3.length c3]] ?_; (refine (impl_copyWheel.callsW k y0 A1 c1 l1 A2 c2 l2 A3 c3 l3 y0 y1 y2 y3 _ ?s1 HC1.out ?s2 HC2.out ?s3 HC3.out AC.out).mono ?_); (case s1 => exact Kd.C_below HR1.out HB.out); (case s2 => exact Kd.C_below HR2.out HB.out); (case s3 => exact Kd.C_below HR3.out HB.out); rintro e w12_ ⟨v1, v2, v3, rfl, hw_, hb⟩; obtain ⟨B1, q1, B2, q2, B3, q3, rfl, rfl, rfl, _, _, _, _⟩ := hw_.reads; refine ⟨_, rfl, ?_⟩; have F2 := aM (blk_lt BK2.out); have F4 := aM (blk_lt BK4.out); obtain ⟨n0, hn0_⟩ : ∃ n0, n0 = _ := ⟨_, rfl⟩; have HWR := aM ((hw_.bound.mono (ok' := fun k_ => n0 ≤ k_) (fun k_ h_ => by rw [hn0_]; exact h_.2.1)).lower HB.out.size); have FN := aM (hb.size); rw [← hn0_] at F2 F4 FN; clear hw_ hn0_; replace BK2 := zBB BK2 hb; replace BK4 := zBB BK4 hb;  replace HB := zLB HB.out hb; clear hb; (try clear hz2_); have hz2_ := zc4 BK2.out; (try clear hz4_); have hz4_ := zc4 BK4.out;) | ((with_reducible refine gD 6 rfl ?_); refine bE 6 #[.int .i64 0, .slice none 0 0, .slice none 0 0, .slice none 0 0] 25 ?_; intro g6 hg w6_ hbox hb; have GE6 := aM (zg HB.out hg : w.heap.size ≤ g6); have N2_6 := aM (zN BK2.out hg : g2 ≠ g6); have N4_6 := aM (zN BK4.out hg : g4 ≠ g6); have BK6 := aM hbox; have FN6 := aM (by rw [hg]; exact FN.out : n0 ≤ g6); clear FN hbox hg; replace BK2 := zBB BK2 hb; replace BK4 := zBB BK4 hb; replace HWR := aM (HWR.out.below hb); replace HB := zLB HB.out hb; clear hb; (try clear hz2_); have hz2_ := zc4 BK2.out; (try clear hz4_); have hz4_ := zc4 BK4.out; (try clear hz6_); have hz6_ := zc4 BK6.out;) | ((with_reducible refine gate_store (t := 25) (p := 6) rfl ?_); refine store_event (t := 25) (p := 6) (v := ?vo35_) (w1 := ((((w6_.setCell ⟨g6, 0, none⟩ (.int .i64 y0)).setCell ⟨g6, 1, none⟩ (.slice B1 y1.length q1)).setCell ⟨g6, 2, none⟩ (.slice B2 y2.length q2)).setCell ⟨g6, 3, none⟩ (.slice B3 y3.length q3))) ?hg ?ho ?hn ?hr ?_; (case ho => rfl); (case hg => rfl); (case hn => rfl); (case hr => (have hs0_ := (blk_cell BK6.out 0).trans rfl; have hf0_ := blk_frozen BK6.out 0; have hs1_ := (blk_cell BK6.out 1).trans rfl; have hf1_ := blk_frozen BK6.out 1; have hs2_ := (blk_cell BK6.out 2).trans rfl; have hf2_ := blk_frozen BK6.out 2; have hs3_ := (blk_cell BK6.out 3).trans rfl; have hf3_ := blk_frozen BK6.out 3;(try clear hz2_); have hz2_ := zc4 BK2.out; (try clear hz4_); have hz4_ := zc4 BK4.out; first | (go_simp; done) | (go_simp; rfl))); intro w7_ hw_; have HK_ := set4_kept hw_; have BKn := aM (set4_blk hw_ BK6.out rfl); have HBn := aM (set4_below hw_ HB.out GE6.out); replace BK2 := aM (blk_kept BK2.out HK_ (N2_6.out)); replace BK4 := aM (blk_kept BK4.out HK_ (N4_6.out)); replace HWR := aM ((HWR.out.types BK6.out (by decide) (by decide)).kept HK_ (fun _ h_ => h_.2)); replace HWR := aM (HWR.out.bound.mono (ok' := fun k_ => (n0 ≤ k_ ∧ k_ ≠ g6) ∧ k_ < w7_.heap.size) (fun _ h_ => ⟨h_.1, h_.2.2.1⟩)); clear hw_ BK6 HB; have BK6 := BKn; have HB := HBn; clear BKn HBn HK_; (try clear hz2_); have hz2_ := zc4 BK2.out; (try clear hz4_); have hz4_ := zc4 BK4.out; (try clear hz6_); have hz6_ := zc4 BK6.out;) | ((with_reducible refine gC 69 rfl ?_); refine gL 14 Try.func69 #[.int .i64 t, .int .i64 0, .int .i64 200] ?_; (refine (impl_within.calls t 0 200 false _ AW.out).mono ?_); rintro e w14_ ⟨rfl, hd_⟩; have hb := hd_.below; clear hd_; refine ⟨_, rfl, ?_⟩; replace BK2 := zBB BK2 hb; replace BK4 := zBB BK4 hb; replace BK6 := zBB BK6 hb; replace HWR := aM (HWR.out.below hb); have Z14 := aM hb.size; replace HB := zLB HB.out hb; clear hb; (try clear hz2_); have hz2_ := zc4 BK2.out; (try clear hz4_); have hz4_ := zc4 BK4.out; (try clear hz6_); have hz6_ := zc4 BK6.out;) | ((with_reducible refine gate_store (t := 25) (p := 4) rfl ?_); refine store_event (t := 25) (p := 4) (v := ?vo36_) (w1 := ((((w14_.setCell ⟨g4, 0, none⟩ (.int .i64 y0)).setCell ⟨g4, 1, none⟩ (.slice B1 y1.length q1)).setCell ⟨g4, 2, none⟩ (.slice B2 y2.length q2)).setCell ⟨g4, 3, none⟩ (.slice B3 y3.length q3))) ?hg ?ho ?hn ?hr ?_; (case ho => rfl); (case hg => rfl); (case hn => rfl); (case hr => (have hs0_ := (blk_cell BK4.out 0).trans rfl; have hf0_ := blk_frozen BK4.out 0; have hs1_ := (blk_cell BK4.out 1).trans rfl; have hf1_ := blk_frozen BK4.out 1; have hs2_ := (blk_cell BK4.out 2).trans rfl; have hf2_ := blk_frozen BK4.out 2; have hs3_ := (blk_cell BK4.out 3).trans rfl; have hf3_ := blk_frozen BK4.out 3;(try clear hz2_); have hz2_ := zc4 BK2.out; (try clear hz6_); have hz6_ := zc4 BK6.out; first | (go_simp; done) | (go_simp; rfl))); intro wF hw_; have HK_ := set4_kept hw_; have BKn := aM (set4_blk hw_ BK4.out rfl); have HBn := aM (set4_below hw_ HB.out GE4.out); have HF := aM ((HWR.out.types BK4.out (by decide) (by decide)).kept HK_ (fun _ h_ => h_.2)); clear hw_ BK4 HB; have BK4 := BKn; have HB := HBn; clear BKn HBn HK_))
 refine bodyPost_ret (results_ct rfl _ _ g4 25 #[.int .i64 y0, .slice B1 y1.length q1, .slice B2 y2.length q2, .slice B3 y3.length q3] (0, 0) _ rfl (by exact BK4.out) Try.underlying25 rfl (by kernel_rfl)) rfl ?_
 exact ⟨_, _, _, _, _, fun _ => False, rfl, HF.out, Kd.R_nil _ _ _ _ _, fun _ _ h_ => h_, HB.out⟩
set_option maxHeartbeats 8000000 in
set_option maxRecDepth 100000 in
theorem impl_Advance.run (k : Nat) (A1 : Option Addr) (c1 : Nat) (l1 : List (List S46)) (A2 : Option Addr) (c2 : Nat) (l2 : List (List S46)) (A3 : Option Addr) (c3 : Nat) (l3 : List S46) (y0 : Int) (y1 y2 : List (List S46)) (y3 : List S46) (t : Int) (w : World) (hr1 : Kd.C (Kd.slice 46 k46) w A1 l1.length l1) (hc1 : l1.length ≤ c1) (hr2 : Kd.C (Kd.slice 46 k46) w A2 l2.length l2) (hc2 : l2.length ≤ c2) (hr3 : Kd.C k46 w A3 l3.length l3) (hc3 : l3.length ≤ c3) (hac : impl_copyWheel.f k y0 l1 l2 l3 = some (y0, y1, y2, y3)) (haw : impl_within.f t 0 200 = some true) (h0 : 0 ≤ t) (h200 : t ≤ 200) (r1 : Int) (r2 r3 : List (List S46)) (r4 r5 : List S46) (hF : impl_Advance.l k t.toNat y0 y1 y2 y3 [] = some (r1, r2, r3, r4, r5)) :
  Calls Try.prog 39 #[.agg #[.int .i64 y0, .slice A1 l1.length c1, .slice A2 l2.length c2, .slice A3 l3.length c3], .int .i64 t] w fun e w' => ∃ (v1_ v2_ v3_ v4_ : Value) (PW PD : Nat → Prop), e = .returned (.tuple #[.agg #[.int .i64 r1, v1_, v2_, v3_], v4_]) ∧ WR w' w.heap.size PW v1_ v2_ v3_ r2 r3 r4 ∧ Kd.R k46 46 w' w.heap.size PD v4_ r5 ∧ (∀ k, PW k → ¬ PD k) ∧ Below w.heap.size w w' := by
 have hu25 := Try.underlying25
 have AC := aM hac
 have AW := aM haw
 clear hac haw
 have HR1 := aM hr1
 have HR2 := aM hr2
 have HR3 := aM hr3
 have HC1 := aM hc1
 have HC2 := aM hc2
 have HC3 := aM hc3
 have HB := aM (Below.refl w.heap.size w)
 clear hr1 hr2 hr3 hc1 hc2 hc3
 have HMF := aM hF
 have H0 := aM h0
 have H2 := aM h200
 clear hF h0 h200
 go_enter Try.func39, Try.ntmps39
 try go_wp2_with (first | ((with_reducible refine gD 2 rfl ?_); refine bE 2 #[.int .i64 y0, .slice A1 l1.length c1, .slice A2 l2.length c2, .slice A3 l3.length c3] 25 ?_; intro g2 hg w2_ hbox hb; have GE2 := aM (zg HB.out hg : w.heap.size ≤ g2); have BK2 := aM hbox; clear hbox hg;   replace HB := zLB HB.out hb; clear hb; (try clear hz2_); have hz2_ := zc4 BK2.out;) | ((with_reducible refine gD 4 rfl ?_); refine bE 4 #[.int .i64 0, .slice none 0 0, .slice none 0 0, .slice none 0 0] 25 ?_; intro g4 hg w4_ hbox hb; have GE4 := aM (zg HB.out hg : w.heap.size ≤ g4); have N2_4 := aM (zN BK2.out hg : g2 ≠ g4); have BK4 := aM hbox; clear hbox hg; replace BK2 := zBB BK2 hb;  replace HB := zLB HB.out hb; clear hb; (try clear hz2_); have hz2_ := zc4 BK2.out; (try clear hz4_); have hz4_ := zc4 BK4.out;) | ((with_reducible refine gC 74 rfl ?_); refine gL 12 Try.func74 #[.agg #[.int .i64 y0, .slice A1 l1.length c1, .slice A2 l2.length c2, .slice A3 l3.length c3]] ?_; (refine (impl_copyWheel.callsW k y0 A1 c1 l1 A2 c2 l2 A3 c3 l3 y0 y1 y2 y3 _ ?s1 HC1.out ?s2 HC2.out ?s3 HC3.out AC.out).mono ?_); (case s1 => exact Kd.C_below HR1.out HB.out); (case s2 => exact Kd.C_below HR2.out HB.out); (case s3 => exact Kd.C_below HR3.out HB.out); rintro e w12_ ⟨v1, v2, v3, rfl, hw_, hb⟩; obtain ⟨B1, q1, B2, q2, B3, q3, rfl, rfl, rfl, _, _, _, _⟩ := hw_.reads; refine ⟨_, rfl, ?_⟩; have F2 := aM (blk_lt BK2.out); have F4 := aM (blk_lt BK4.out); obtain ⟨n0, hn0_⟩ : ∃ n0, n0 = _ := ⟨_, rfl⟩; have HWR := aM ((hw_.bound.mono (ok' := fun k_ => n0 ≤ k_) (fun k_ h_ => by rw [hn0_]; exact h_.2.1)).lower HB.out.size); have FN := aM (hb.size); rw [← hn0_] at F2 F4 FN; clear hw_ hn0_; replace BK2 := zBB BK2 hb; replace BK4 := zBB BK4 hb;  replace HB := zLB HB.out hb; clear hb; (try clear hz2_); have hz2_ := zc4 BK2.out; (try clear hz4_); have hz4_ := zc4 BK4.out;) | ((with_reducible refine gD 6 rfl ?_); refine bE 6 #[.int .i64 0, .slice none 0 0, .slice none 0 0, .slice none 0 0] 25 ?_; intro g6 hg w6_ hbox hb; have GE6 := aM (zg HB.out hg : w.heap.size ≤ g6); have N2_6 := aM (zN BK2.out hg : g2 ≠ g6); have N4_6 := aM (zN BK4.out hg : g4 ≠ g6); have BK6 := aM hbox; have FN6 := aM (by rw [hg]; exact FN.out : n0 ≤ g6); clear FN hbox hg; replace BK2 := zBB BK2 hb; replace BK4 := zBB BK4 hb; replace HWR := aM (HWR.out.below hb); replace HB := zLB HB.out hb; clear hb; (try clear hz2_); have hz2_ := zc4 BK2.out; (try clear hz4_); have hz4_ := zc4 BK4.out; (try clear hz6_); have hz6_ := zc4 BK6.out;) | ((with_reducible refine gate_store (t := 25) (p := 6) rfl ?_); refine store_event (t := 25) (p := 6) (v := ?vo37_) (w1 := ((((w6_.setCell ⟨g6, 0, none⟩ (.int .i64 y0)).setCell ⟨g6, 1, none⟩ (.slice B1 y1.length q1)).setCell ⟨g6, 2, none⟩ (.slice B2 y2.length q2)).setCell ⟨g6, 3, none⟩ (.slice B3 y3.length q3))) ?hg ?ho ?hn ?hr ?_; (case ho => rfl); (case hg => rfl); (case hn => rfl); (case hr => (have hs0_ := (blk_cell BK6.out 0).trans rfl; have hf0_ := blk_frozen BK6.out 0; have hs1_ := (blk_cell BK6.out 1).trans rfl; have hf1_ := blk_frozen BK6.out 1; have hs2_ := (blk_cell BK6.out 2).trans rfl; have hf2_ := blk_frozen BK6.out 2; have hs3_ := (blk_cell BK6.out 3).trans rfl; have hf3_ := blk_frozen BK6.out 3;(try clear hz2_); have hz2_ := zc4 BK2.out; (try clear hz4_); have hz4_ := zc4 BK4.out; first | (go_simp; done) | (go_simp; rfl))); intro w7_ hw_; have HK_ := set4_kept hw_; have BKn := aM (set4_blk hw_ BK6.out rfl); have HBn := aM (set4_below hw_ HB.out GE6.out); replace BK2 := aM (blk_kept BK2.out HK_ (N2_6.out)); replace BK4 := aM (blk_kept BK4.out HK_ (N4_6.out)); replace HWR := aM ((HWR.out.types BK6.out (by decide) (by decide)).kept HK_ (fun _ h_ => h_.2)); replace HWR := aM (HWR.out.bound.mono (ok' := fun k_ => (n0 ≤ k_ ∧ k_ ≠ g6) ∧ k_ < w7_.heap.size) (fun _ h_ => ⟨h_.1, h_.2.2.1⟩)); clear hw_ BK6 HB; have BK6 := BKn; have HB := HBn; clear BKn HBn HK_; (try clear hz2_); have hz2_ := zc4 BK2.out; (try clear hz4_); have hz4_ := zc4 BK4.out; (try clear hz6_); have hz6_ := zc4 BK6.out;) | ((with_reducible refine gC 69 rfl ?_); refine gL 14 Try.func69 #[.int .i64 t, .int .i64 0, .int .i64 200] ?_; (refine (impl_within.calls t 0 200 true _ AW.out).mono ?_); rintro e w14_ ⟨rfl, hd_⟩; have hb := hd_.below; clear hd_; refine ⟨_, rfl, ?_⟩; replace BK2 := zBB BK2 hb; replace BK4 := zBB BK4 hb; replace BK6 := zBB BK6 hb; replace HWR := aM (HWR.out.below hb); have Z14 := aM hb.size; replace HB := zLB HB.out hb; clear hb; (try clear hz2_); have hz2_ := zc4 BK2.out; (try clear hz4_); have hz4_ := zc4 BK4.out; (try clear hz6_); have hz6_ := zc4 BK6.out;))
 have HTI : Aside0 (TI y0 g6 n0 w.heap.size w14_ y1 y2 y3 [] (.slice none 0 0) [] (.slice none 0 0)) := aM ⟨_, fun _ => False, fun _ => False, ⟨_, _, _, BK6.out, HWR.out⟩, Kd.R_nil _ _ _ _ _, Kd.R_nil _ _ _ _ _, ⟨fun _ _ h_ => h_, fun _ _ h_ => h_, fun _ h_ _ => h_⟩, fun k_ h_ => by have z2_ := Z14.out; rcases h_ with h_ | h_ | h_; exact ⟨h_.1.1, by omega, h_.1.2⟩; exact h_.elim; exact h_.elim⟩
 have HN0 := aM (Nat.le_of_lt (Nat.lt_of_le_of_lt FN6.out (blk_lt BK6.out)) : n0 ≤ w14_.heap.size)
 clear HWR BK6 
 go_loopg [7, 8] t.toNat (fun gk v7 v8 w' => ∃ (j : Nat) (q0 : Int) (q1 q2 : List (List S46)) (q3 q5 : List S46), v8 = .int .i64 (j : Int) ∧ (j : Int) ≤ t ∧ t.toNat - j ≤ gk ∧ Aside0 (impl_Advance.l k (t.toNat - j) q0 q1 q2 q3 q5 = some (r1, r2, r3, r4, r5)) ∧ Aside0 (TI q0 g6 n0 w.heap.size w' q1 q2 q3 q5 v7 [] (.slice none 0 0)) ∧ Aside0 (w'.heap[g2]? = some (.cells #[.int .i64 y0, .slice A1 l1.length c1, .slice A2 l2.length c2, .slice A3 l3.length c3] 25 (0, 0))) ∧ Aside0 (w'.heap[g4]? = some (.cells #[.int .i64 0, .slice none 0 0, .slice none 0 0, .slice none 0 0] 25 (0, 0))) ∧ Aside0 (Below w.heap.size w w') ∧ Aside0 (w14_.heap.size ≤ w'.heap.size))
 case atStart => exact ⟨0, y0, y1, y2, y3, [], rfl, H0.out, by omega, HMF, HTI, BK2, BK4, HB, ⟨Nat.le_refl _⟩⟩
 case round =>
  clear HTI BK2 BK4 HB HMF
  obtain ⟨j, q0, q1, q2, q3, q5, rfl, hj, hgk, HA, HT, BK2, BK4, HB, HNW⟩ := hrel
  obtain ⟨Ad, cd, rfl⟩ := HT.out.due_slice
  have HJ := aM hj
  have HGK := aM hgk
  clear hj hgk
  obtain ⟨PW, PD, PM, ⟨u1, u2, u3, hu_, hw_⟩, hd_, hm_, ⟨hx_, _, _⟩, hb_⟩ := HT.out
  obtain ⟨D1, p1, D2, p2, D3, p3, rfl, rfl, rfl, ⟨t1_, t2_, t3_⟩, e1_, e2_, e3_⟩ := hw_.reads
  have BK6 := aM hu_
  have HWR := aM hw_
  have HD := aM hd_
  have HXX := aM hx_
  have HBB := aM hb_
  have HQ := aM (And.intro t1_ (And.intro t2_ (And.intro t3_ (And.intro e1_ (And.intro e2_ e3_)))))
  clear hu_ hw_ hd_ hm_ hx_ hb_ HT t1_ t2_ t3_ e1_ e2_ e3_
  have hz2_ := zc4 BK2.out
  have hz4_ := zc4 BK4.out
  have hz6_ := zc4 BK6.out
  by_cases cj : (j : Int) < t
  ·have hjt : t.toNat - j = (t.toNat - (j + 1)) + 1 := by omega
   have HA2 := HA.out
   rw [hjt] at HA2
   simp only [impl_Advance.l] at HA2
   obtain ⟨⟨s0, s1, s2, s3, s5⟩, AT, HA2⟩ := zO HA2
   simp only at HA2
   have pj1 := eq_true cj
   have pj2 : decide ((j : Int) < t) = true := dT cj
   have ej : wrap64 ((j : Int) + 1) = ((j + 1 : Nat) : Int) := by have := H2.out; unfold wrap64; omega
   have EJ := aM ej
   have CJ := aM cj
   clear cj HA hjt ej
   by_cases g3_ : q5.length + s5.length < 1000000
   ·rw [if_pos g3_] at HA2
    have HLQ := aM g3_
    have HAN := aM HA2
    clear HA2 g3_
    go_wp2_with (first | ((with_reducible refine gC 37 rfl ?_); refine gL 24 Try.func37 #[.agg #[.int .i64 q0, .slice D1 q1.length p1, .slice D2 q2.length p2, .slice D3 q3.length p3]] ?_; (refine (impl_TickOn.callsW k q0 D1 p1 q1 D2 p2 q2 D3 p3 q3 s0 s1 s2 s3 s5 _ HQ.out.2.2.2.1 HQ.out.1 HQ.out.2.2.2.2.1 HQ.out.2.1 HQ.out.2.2.2.2.2 HQ.out.2.2.1 AT.out).mono ?_); rintro e wt_ ⟨z1, z2, z3, z4, PW2, PD2, rfl, hw_, hd_, _, hb⟩; obtain ⟨E1, n1, E2, n2, E3, n3, rfl, rfl, rfl, _, _, _, _⟩ := hw_.reads; obtain ⟨Am, cm, rfl⟩ := Kd.R_slice hd_; refine ⟨_, rfl, ?_⟩; have HWN := aM ((hw_.bound.mono (ok' := fun k_ => wr.heap.size ≤ k_) (fun k_ h_ => h_.2.1)).lower HB.out.size); have HM := aM (Kd.R_lower hd_ HB.out.size); clear hw_ hd_ HQ HWR; replace HD := zRB HD hb; have Zt := aM hb.size; replace BK2 := zBB BK2 hb; replace BK4 := zBB BK4 hb; replace BK6 := zBB BK6 hb;  replace HB := zLB HB.out hb; clear hb; (try clear hz2_); have hz2_ := zc4 BK2.out; (try clear hz4_); have hz4_ := zc4 BK4.out; (try clear hz6_); have hz6_ := zc4 BK6.out;) | ((with_reducible refine gD 9 rfl ?_); refine bE 9 #[.int .i64 0, .slice none 0 0, .slice none 0 0, .slice none 0 0] 25 ?_; intro g9 hg w9_ hbox hb; have GE9 := aM (zg HB.out hg : w.heap.size ≤ g9); have N2_9 := aM (zN BK2.out hg : g2 ≠ g9); have N4_9 := aM (zN BK4.out hg : g4 ≠ g9); have N6_9 := aM (zN BK6.out hg : g6 ≠ g9); have BK9 := aM hbox; clear hbox hg; replace HWN := aM (HWN.out.below hb); replace HM := zRB HM hb; replace HD := zRB HD hb; replace Zt := aM (Nat.le_trans Zt.out hb.size); replace BK2 := zBB BK2 hb; replace BK4 := zBB BK4 hb; replace BK6 := zBB BK6 hb;  replace HB := zLB HB.out hb; clear hb; (try clear hz2_); have hz2_ := zc4 BK2.out; (try clear hz4_); have hz4_ := zc4 BK4.out; (try clear hz6_); have hz6_ := zc4 BK6.out; have hz9_ := zc4 BK9.out;) | ((with_reducible refine gate_store (t := 25) (p := 9) rfl ?_); refine store_event (t := 25) (p := 9) (v := ?vo38_) (w1 := ((((w9_.setCell ⟨g9, 0, none⟩ (.int .i64 s0)).setCell ⟨g9, 1, none⟩ (.slice E1 s1.length n1)).setCell ⟨g9, 2, none⟩ (.slice E2 s2.length n2)).setCell ⟨g9, 3, none⟩ (.slice E3 s3.length n3))) ?hg ?ho ?hn ?hr ?_; (case ho => rfl); (case hg => rfl); (case hn => rfl); (case hr => (have hs0_ := (blk_cell BK9.out 0).trans rfl; have hf0_ := blk_frozen BK9.out 0; have hs1_ := (blk_cell BK9.out 1).trans rfl; have hf1_ := blk_frozen BK9.out 1; have hs2_ := (blk_cell BK9.out 2).trans rfl; have hf2_ := blk_frozen BK9.out 2; have hs3_ := (blk_cell BK9.out 3).trans rfl; have hf3_ := blk_frozen BK9.out 3;(try clear hz2_); have hz2_ := zc4 BK2.out; (try clear hz4_); have hz4_ := zc4 BK4.out; (try clear hz6_); have hz6_ := zc4 BK6.out; first | (go_simp; done) | (go_simp; rfl))); intro wa_ hw_; have HK_ := set4_kept hw_; have BKn := aM (set4_blk hw_ BK9.out rfl); have HBn := aM (set4_below hw_ HB.out GE9.out); replace HWN := aM (((HWN.out.types BK9.out (by decide) (by decide)).kept HK_ (fun _ h_ => h_.2)).mono (ok' := fun k_ => wr.heap.size ≤ k_) (fun _ h_ => h_.1)); replace HM := aM (Kd.R_mono (Kd.R_kept (Kd.R_types HM.out BK9.out (by decide)) HK_ (fun _ h_ => h_.2)) (fun _ h_ => h_.1)); replace HD := aM (Kd.R_mono (Kd.R_kept (Kd.R_types HD.out BK9.out (by decide)) HK_ (fun _ h_ => h_.2)) (fun _ h_ => h_.1)); replace Zt := aM (Nat.le_trans Zt.out HK_.1); replace BK2 := aM (blk_kept BK2.out HK_ (N2_9.out)); replace BK4 := aM (blk_kept BK4.out HK_ (N4_9.out)); replace BK6 := aM (blk_kept BK6.out HK_ (N6_9.out)); clear hw_ BK9 HB; have BK9 := BKn; have HB := HBn; clear BKn HBn HK_; (try clear hz2_); have hz2_ := zc4 BK2.out; (try clear hz4_); have hz4_ := zc4 BK4.out; (try clear hz6_); have hz6_ := zc4 BK6.out; (try clear hz9_); have hz9_ := zc4 BK9.out;) | ((with_reducible refine gate_store (t := 25) (p := 6) rfl ?_); refine store_event (t := 25) (p := 6) (v := ?vo39_) (w1 := ((((wa_.setCell ⟨g6, 0, none⟩ (.int .i64 s0)).setCell ⟨g6, 1, none⟩ (.slice E1 s1.length n1)).setCell ⟨g6, 2, none⟩ (.slice E2 s2.length n2)).setCell ⟨g6, 3, none⟩ (.slice E3 s3.length n3))) ?hg ?ho ?hn ?hr ?_; (case ho => rfl); (case hg => rfl); (case hn => rfl); (case hr => (have hs0_ := (blk_cell BK6.out 0).trans rfl; have hf0_ := blk_frozen BK6.out 0; have hs1_ := (blk_cell BK6.out 1).trans rfl; have hf1_ := blk_frozen BK6.out 1; have hs2_ := (blk_cell BK6.out 2).trans rfl; have hf2_ := blk_frozen BK6.out 2; have hs3_ := (blk_cell BK6.out 3).trans rfl; have hf3_ := blk_frozen BK6.out 3;(try clear hz2_); have hz2_ := zc4 BK2.out; (try clear hz4_); have hz4_ := zc4 BK4.out; have hz9q_ := zc4 BK9.out;  first | (go_simp; done) | (go_simp; rfl))); intro wb_ hw_; have HK_ := set4_kept hw_; have BKn := aM (set4_blk hw_ BK6.out rfl); have HBn := aM (set4_below hw_ HB.out GE6.out); replace HWN := aM (((HWN.out.types BK6.out (by decide) (by decide)).kept HK_ (fun _ h_ => h_.2)).mono (ok' := fun k_ => wr.heap.size ≤ k_ ∧ k_ ≠ g6) (fun _ h_ => h_)); replace HM := aM (Kd.R_mono (Kd.R_kept (Kd.R_types HM.out BK6.out (by decide)) HK_ (fun _ h_ => h_.2)) (fun _ h_ => h_.1)); replace HD := aM (Kd.R_mono (Kd.R_kept (Kd.R_types HD.out BK6.out (by decide)) HK_ (fun _ h_ => h_.2)) (fun _ h_ => h_.1)); replace Zt := aM (Nat.le_trans Zt.out HK_.1); replace BK2 := aM (blk_kept BK2.out HK_ (N2_6.out)); replace BK4 := aM (blk_kept BK4.out HK_ (N4_6.out)); replace BK9 := aM (blk_kept BK9.out HK_ (fun e_ => N6_9.out (Eq.symm e_))); clear hw_ BK6 HB; have BK6 := BKn; have HB := HBn; clear BKn HBn HK_; (try clear hz2_); have hz2_ := zc4 BK2.out; (try clear hz4_); have hz4_ := zc4 BK4.out; (try clear hz6_); have hz6_ := zc4 BK6.out;) | ((with_reducible refine gate_builtin (b := .append) (xs := #[.tmp 28, .tmp 29]) rfl ?_); at_builtin; refine Kd.R_append_rows k46 (w0 := w) w.heap.size rfl (.tmp 28) (.tmp 29) 23 46 (.agg #[(.int .i64 0), (.int .i64 0), (.int .i64 0)]) 24 rfl Try.underlying23 info46 rfl (by decide) (by omega) (.slice Ad q5.length cd) q5 s5 _ _ _ (fun k => PD k ∨ wb_.heap.size ≤ k) (fun _ => False) rfl rfl ?aO ?aR (fun _ _ h => h) (fun _ h => h.elim) ?aF ?aB ?aS ?aL ?_; (case aO => exact (Kd.R_mono HD.out (fun _ h_ => .inl h_))); (case aR => exact (Kd.R_reads' HM.out).2.2); (case aF => exact (fun _ h_ => .inr h_)); (case aB => exact HB.out); (case aS => exact HB.out.size); (case aL => (have h1_ := HLQ.out; omega)); intro vn wc_ ho hb hg hat; clear hat; have HKa := Kept.of_grown hg (Kept.refl wb_ PD) (fun k_ hk_ => .inl (HD.out.1 k_ hk_)); have hbw_ : ∀ k, ((wr.heap.size ≤ k ∧ k ≠ g6) ∧ k < wb_.heap.size) ∨ PD k ∨ False → n0 ≤ k ∧ k < wb_.heap.size ∧ k ≠ g6 := fun k_ h_ => (by have a_ := HN0.out; have b_ := HNW.out; have c_ := Zt.out; rcases h_ with h_ | h_ | h_; exact ⟨by omega, h_.2, h_.1.2⟩; exact ⟨(HBB.out k_ (.inr (.inl h_))).1, by have d_ := (HBB.out k_ (.inr (.inl h_))).2.1; omega, (HBB.out k_ (.inr (.inl h_))).2.2⟩; exact h_.elim); have HTn : Aside0 (TI s0 g6 n0 w.heap.size wc_ s1 s2 s3 (q5 ++ s5) vn [] (.slice none 0 0)) := aM (TI.due ⟨_, PD, fun _ => False, ⟨_, _, _, BK6.out, HWN.out.bound.mono (ok' := fun k => (wr.heap.size ≤ k ∧ k ≠ g6) ∧ k < wb_.heap.size) (fun _ h_ => ⟨h_.1, h_.2.2.1⟩)⟩, Kd.R_nil _ _ _ _ _, ⟨fun k_ h_ h2_ => (by have a_ := (HBB.out k_ (.inr (.inl h2_))).2.1; omega), fun _ _ h_ => h_, fun _ _ h_ => h_⟩, hbw_, ho, HKa⟩ (Nat.le_trans HN0.out (Nat.le_trans HNW.out Zt.out))); replace BK2 := aM (blk_kept BK2.out HKa (fun h_ => by have a_ := (HBB.out g2 (.inr (.inl h_))).1; have b_ := F2.out; omega)); replace BK4 := aM (blk_kept BK4.out HKa (fun h_ => by have a_ := (HBB.out g4 (.inr (.inl h_))).1; have b_ := F4.out; omega)); have HNN : Aside0 (w14_.heap.size ≤ wc_.heap.size) := ⟨Nat.le_trans (Nat.le_trans HNW.out Zt.out) HKa.1⟩; clear HB HD hbw_ HM HWN BK6 BK9; have HB := aM hb; clear ho hb hg HKa))
    go_roundg (t.toNat - (j + 1))
    case measure => have a_ := CJ.out; have b_ := HGK.out; omega
    case rel => exact ⟨j + 1, s0, s1, s2, s3, q5 ++ s5, by rw [← EJ.out], by have a_ := CJ.out; omega, Nat.le_refl _, HAN, HTn, BK2, BK4, HB, HNN⟩
   ·rw [if_neg g3_] at HA2
    exact absurd HA2 (by simp)
  ·have hje : t.toNat - j = 0 := by have := HJ.out; omega
   have HA2 := HA.out
   rw [hje] at HA2
   simp only [impl_Advance.l, Option.some.injEq, Prod.mk.injEq] at HA2
   obtain ⟨rfl, rfl, rfl, rfl, rfl⟩ := HA2
   have pj1 := eq_false cj
   have pj2 : decide ((j : Int) < t) = false := dF cj
   clear cj hje HA
   go_wp2_with (first | ((with_reducible refine gate_store (t := 25) (p := 4) rfl ?_); refine store_event (t := 25) (p := 4) (v := ?vo40_) (w1 := ((((wr.setCell ⟨g4, 0, none⟩ (.int .i64 q0)).setCell ⟨g4, 1, none⟩ (.slice D1 q1.length p1)).setCell ⟨g4, 2, none⟩ (.slice D2 q2.length p2)).setCell ⟨g4, 3, none⟩ (.slice D3 q3.length p3))) ?hg ?ho ?hn ?hr ?_; (case ho => rfl); (case hg => rfl); (case hn => rfl); (case hr => (have hs0_ := (blk_cell BK4.out 0).trans rfl; have hf0_ := blk_frozen BK4.out 0; have hs1_ := (blk_cell BK4.out 1).trans rfl; have hf1_ := blk_frozen BK4.out 1; have hs2_ := (blk_cell BK4.out 2).trans rfl; have hf2_ := blk_frozen BK4.out 2; have hs3_ := (blk_cell BK4.out 3).trans rfl; have hf3_ := blk_frozen BK4.out 3;(try clear hz2_); have hz2_ := zc4 BK2.out; (try clear hz6_); have hz6_ := zc4 BK6.out; first | (go_simp; done) | (go_simp; rfl))); intro wF hw_; have HK_ := set4_kept hw_; have BKn := aM (set4_blk hw_ BK4.out rfl); have HBn := aM (set4_below hw_ HB.out GE4.out); have HF := aM ((HWR.out.types BK4.out (by decide) (by decide)).kept HK_ (fun _ h_ => h_.2)); replace HD := aM (Kd.R_kept (Kd.R_types HD.out BK4.out (by decide)) HK_ (fun _ h_ => h_.2)); clear hw_ BK4 HB; have BK4 := BKn; have HB := HBn; clear BKn HBn HK_))
   refine bodyPost_ret (results_ct rfl _ _ g4 25 #[.int .i64 q0, .slice D1 q1.length p1, .slice D2 q2.length p2, .slice D3 q3.length p3] (0, 0) _ rfl (by exact BK4.out) Try.underlying25 rfl (by kernel_rfl)) rfl ?_
   exact ⟨_, _, _, _, _, _, rfl, HF.out, HD.out, fun k_ h_ h2_ => HXX.out k_ h_.1 h2_.1, HB.out⟩
theorem impl_Advance.callsW (k : Nat) (a : Int) (A1 : Option Addr) (c1 : Nat) (l1 : List (List S46)) (A2 : Option Addr) (c2 : Nat) (l2 : List (List S46)) (A3 : Option Addr) (c3 : Nat) (l3 : List S46) (t : Int) (r1 : Int) (r2 r3 : List (List S46)) (r4 r5 : List S46) (w : World) (hr1 : Kd.C (Kd.slice 46 k46) w A1 l1.length l1) (hc1 : l1.length ≤ c1) (hr2 : Kd.C (Kd.slice 46 k46) w A2 l2.length l2) (hc2 : l2.length ≤ c2) (hr3 : Kd.C k46 w A3 l3.length l3) (hc3 : l3.length ≤ c3) (h : impl_Advance.f k a l1 l2 l3 t = some (r1, r2, r3, r4, r5)) :
  Calls Try.prog 39 #[.agg #[.int .i64 a, .slice A1 l1.length c1, .slice A2 l2.length c2, .slice A3 l3.length c3], .int .i64 t] w fun e w' => ∃ (v1_ v2_ v3_ v4_ : Value) (PW PD : Nat → Prop), e = .returned (.tuple #[.agg #[.int .i64 r1, v1_, v2_, v3_], v4_]) ∧ WR w' w.heap.size PW v1_ v2_ v3_ r2 r3 r4 ∧ Kd.R k46 46 w' w.heap.size PD v4_ r5 ∧ (∀ k, PW k → ¬ PD k) ∧ Below w.heap.size w w' := by
 unfold impl_Advance.f at h
 obtain ⟨⟨y0, y1, y2, y3⟩, ⟨hac⟩, hh⟩ := zO h
 clear h
 have h := hh
 clear hh
 simp only at h
 by_cases ey : y0 = a
 ·rw [if_pos ey] at h
  subst ey
  obtain ⟨u, ⟨haw⟩, h⟩ := zO h
  cases u with
  | false =>
   rw [if_neg (by simp)] at h
   simp only [Option.some.injEq, Prod.mk.injEq] at h
   obtain ⟨rfl, rfl, rfl, rfl, rfl⟩ := h
   exact impl_Advance.stay k A1 c1 l1 A2 c2 l2 A3 c3 l3 y0 y1 y2 y3 t w hr1 hc1 hr2 hc2 hr3 hc3 hac haw
  | true =>
   rw [if_pos rfl] at h
   have hin : 0 ≤ t ∧ t ≤ 200 := by
    unfold impl_within.f at haw
    split at haw
    ·rename_i hc
     simp only [Option.some.injEq, decide_eq_true_eq] at haw
     exact ⟨hc, haw⟩
    ·exact absurd haw (by simp)
   exact impl_Advance.run k A1 c1 l1 A2 c2 l2 A3 c3 l3 y0 y1 y2 y3 t w hr1 hc1 hr2 hc2 hr3 hc3 hac haw hin.1 hin.2 r1 r2 r3 r4 r5 h
 ·rw [if_neg ey] at h
  exact absurd h (by simp)
theorem impl_Advance.calls (k : Nat) (a : Int) (A1 : Option Addr) (c1 : Nat) (l1 : List (List S46)) (A2 : Option Addr) (c2 : Nat) (l2 : List (List S46)) (A3 : Option Addr) (c3 : Nat) (l3 : List S46) (t : Int) (r1 : Int) (r2 r3 : List (List S46)) (r4 : List S46) (r5 : List S46) (w : World) (hr1 : Kd.C (Kd.slice 46 k46) w A1 l1.length l1) (hc1 : l1.length ≤ c1) (hr2 : Kd.C (Kd.slice 46 k46) w A2 l2.length l2) (hc2 : l2.length ≤ c2) (hr3 : Kd.C k46 w A3 l3.length l3) (hc3 : l3.length ≤ c3) (h : impl_Advance.f k a l1 l2 l3 t = some (r1, r2, r3, r4, r5)) :
  Calls Try.prog 39 #[.agg #[.int .i64 a, .slice A1 l1.length c1, .slice A2 l2.length c2, .slice A3 l3.length c3], .int .i64 t] w fun e w' => ∃ v1_ v2_ v3_ v4_ : Value, e = .returned (.tuple #[.agg #[.int .i64 r1, v1_, v2_, v3_], v4_]) ∧ Kd.S (Kd.slice 46 k46) 23 w' w.heap.size (fun k_ => some k_ ≠ (v2_ : Value).ownBlock ∧ some k_ ≠ (v3_ : Value).ownBlock ∧ some k_ ≠ (v4_ : Value).ownBlock) v1_ r2 ∧ Kd.S (Kd.slice 46 k46) 23 w' w.heap.size (fun k_ => some k_ ≠ (v1_ : Value).ownBlock ∧ some k_ ≠ (v3_ : Value).ownBlock ∧ some k_ ≠ (v4_ : Value).ownBlock) v2_ r3 ∧ Kd.R k46 46 w' w.heap.size (fun k_ => some k_ ≠ (v4_ : Value).ownBlock) v3_ r4 ∧ Kd.R k46 46 w' w.heap.size (fun k_ => some k_ ≠ (v3_ : Value).ownBlock) v4_ r5 ∧ Below w.heap.size w w' := by
 refine (impl_Advance.callsW k a A1 c1 l1 A2 c2 l2 A3 c3 l3 t r1 r2 r3 r4 r5 w hr1 hc1 hr2 hc2 hr3 hc3 h).mono ?_
 rintro e w' ⟨v1, v2, v3, v4, PW, PD, rfl, hw, hd, hx, hb⟩
 have o4 := hd.1
 obtain ⟨s1, s2, s3⟩ := hw.split
 have o3 := s3.1
 exact ⟨v1, v2, v3, v4, rfl, Kd.S_mono s1 (fun k_ h => ⟨h.2.1, h.2.2, fun e => hx k_ h.1 (o4 k_ e.symm)⟩), Kd.S_mono s2 (fun k_ h => ⟨h.2.1, h.2.2, fun e => hx k_ h.1 (o4 k_ e.symm)⟩), Kd.R_mono s3 (fun k_ h e => hx k_ h.1 (o4 k_ e.symm)), Kd.R_mono hd (fun k_ h e => hx k_ (o3 k_ e.symm).1 h), hb⟩

-- function 113: below what is taken by its contract

-- function 103: below what is taken by its contract

-- function 97: below what is taken by its contract

-- function 108: below what is taken by its contract

-- function 98: below what is taken by its contract

-- function 106: below what is taken by its contract

-- function 107: below what is taken by its contract

-- function 94: below what is taken by its contract

-- function 109: below what is taken by its contract

-- function 110: below what is taken by its contract

-- function 99: below what is taken by its contract

-- function 114: below what is taken by its contract

-- function 112: below what is taken by its contract

-- function 111: below what is taken by its contract

-- function 100: below what is taken by its contract

-- function 101: below what is taken by its contract

-- function 102: below what is taken by its contract

-- function 104: below what is taken by its contract

-- function 105: below what is taken by its contract

-- function 93: below what is taken by its contract

def slices_Sort.f (l0 : List Int) : Option (List Int) := if l0.length < 4611686018427387904 then some (l0.mergeSort fun x y => decide (x ≤ y)) else none
set_option maxHeartbeats 8000000 in
theorem slices_Sort.calls (P0_ : Nat → Prop) (u9000_ : Value) (l0 : List Int) (r : List Int) (w0 w : World) (hB : Below w0.heap.size w0 w) (ho0 : Kd.R (Kd.int .i64) 3 w w0.heap.size P0_ u9000_ l0) (h : slices_Sort.f l0 = some r) :
  Calls Try.prog 79 #[u9000_] w fun e w' => e = .returned (.tuple #[]) ∧ Kd.R (Kd.int .i64) 3 w' w0.heap.size (fun k_ => (P0_ k_ ∨ w.heap.size ≤ k_)) u9000_ r ∧ Below w0.heap.size w0 w' ∧ Kept w w' (fun k_ => P0_ k_) := by
 unfold slices_Sort.f at h
 by_cases hl : l0.length < 4611686018427387904
 ·rw [if_pos hl] at h
  obtain rfl := Option.some.inj h
  have HO : w.ownsRow w0.heap.size 3 1 u9000_ l0.length (l0.map (Value.int .i64)) := Kd.own_of_R (enc := Value.int .i64) (h1 := fun _ => rfl) ho0
  rcases HO.2 with ⟨rfl, hn⟩ | ⟨g, cap, cur, rfl, hg, hh, hc1, hc2, hc3, hc4⟩
  ·obtain rfl : l0 = [] := List.length_eq_zero_iff.mp hn
   refine (Any.slices_Sort_int_none Try.lays189 none 0 w).mono ?_
   rintro e w' ⟨rfl, rfl⟩
   have e0 : ([] : List Int).mergeSort (fun x y => decide (x ≤ y)) = [] := by simp
   rw [e0]
   exact ⟨rfl, Kd.R_mono ho0 (fun k_ hk => .inl hk), hB, Kept.refl _ _⟩
  ·have hlt : g < w.heap.size := (Array.getElem?_eq_some_iff.1 hh).1
   have hs : (l0.mergeSort fun x y => decide (x ≤ y)).length = l0.length := List.length_mergeSort _
   have hH := holds_of_blockI hh (by simpa using hc4)
   refine (Any.slices_Sort_int Try.lays189 g 0 cap l0 w hH hlt hl).mono ?_
   rintro e w' ⟨rfl, n, os, rfl⟩
   have hown := ownsRow_sortedI (n := n) (os := os) (ts := l0.mergeSort fun x y => decide (x ≤ y)) (ss := l0) hs hg hh hc1 hc2 hc3
   have hgr := grownBy_sortedI (w := w) (g := g) (n := n) (os := os) (l0.mergeSort fun x y => decide (x ≤ y)).toArray
   refine ⟨rfl, ?_, hB.grown hgr hB.size (fun k hk => by simp at hk; omega), Kept.of_grown hgr (Kept.refl _ _) (fun k hk => by simp at hk; subst hk; exact .inl (ho0.1 _ rfl))⟩
   exact Kd.R_of_own (enc := Value.int .i64) (h1 := fun _ => rfl) (by rw [hs]; exact hown) (fun k hk => .inl (ho0.1 k hk))
 ·rw [if_neg hl] at h
  exact absurd h (by simp)

open Go.Proofs.YtggenhomnbnodaaW.PrintWords renaming blk_drewN → bN, blk_drew → bD, blk_alloc → bA, blk_cell → bC, blk_below → bB, below_set → bS
def impl_DueBy.l0 : Nat → Int → List Int → List (S46) → Int → Int → Option (List Int)
 | 0, _, _, _, _, _ => none
 | k + 1, x1, x5, x9, x10, x11 => if x11 < x10 then (if 0 ≤ x11 then (if x11 < (x9.length : Int) then (if ((rd_T46 x9 x11).f2) ≤ x1 then (if x5.length < 17592186044416 then (impl_DueBy.l0 k x1 (x5 ++ [(rd_T46 x9 x11).f0]) x9 x10 (wrap64 (x11 + 1))) else (none)) else (impl_DueBy.l0 k x1 x5 x9 x10 (wrap64 (x11 + 1)))) else (none)) else (none)) else ((slices_Sort.f x5).bind fun t196 => (some t196))
def impl_DueBy.f (k : Nat) (a0_0 : Int) (l0_1 : List (List (S46))) (l0_2 : List (List (S46))) (l0_3 : List (S46)) (a1 : Int) : Option (List Int) := (impl_Timers.f k a0_0 l0_1 l0_2 l0_3).bind fun t188 => (impl_DueBy.l0 k a1 ([] : List Int) t188 (t188.length : Int) 0)
set_option maxHeartbeats 8000000 in
set_option maxRecDepth 100000 in
theorem impl_DueBy.calls (k : Nat) (a0_0 : Int) (A0_1 : Option Addr) (c0_1 : Nat) (l0_1 : List (List (S46))) (A0_2 : Option Addr) (c0_2 : Nat) (l0_2 : List (List (S46))) (A0_3 : Option Addr) (c0_3 : Nat) (l0_3 : List (S46)) (a1 : Int) (r : List Int) (w : World) (hr0_1 : Kd.C (Kd.slice 46 k46) w A0_1 l0_1.length l0_1) (hc0_1 : l0_1.length ≤ c0_1) (hr0_2 : Kd.C (Kd.slice 46 k46) w A0_2 l0_2.length l0_2) (hc0_2 : l0_2.length ≤ c0_2) (hr0_3 : Kd.C k46 w A0_3 l0_3.length l0_3) (hc0_3 : l0_3.length ≤ c0_3) (h : impl_DueBy.f k a0_0 l0_1 l0_2 l0_3 a1 = some r) :
  Calls Try.prog 41 #[.agg #[.int .i64 a0_0, .slice A0_1 l0_1.length c0_1, .slice A0_2 l0_2.length c0_2, .slice A0_3 l0_3.length c0_3], .int .i64 a1] w fun e w' => ∃ v0_ : Value, e = .returned (v0_) ∧ Kd.R (Kd.int .i64) 3 w' w.heap.size (fun _ => True) v0_ r ∧ Below w.heap.size w w' := by
 have hu25 := Try.underlying25
 have hu46 := Try.underlying46
 have HR0_1 := aM hr0_1
 have HC0_1 := aM hc0_1
 clear hr0_1 hc0_1
 have HR0_2 := aM hr0_2
 have HC0_2 := aM hc0_2
 clear hr0_2 hc0_2
 have HR0_3 := aM hr0_3
 have HC0_3 := aM hc0_3
 clear hr0_3 hc0_3
 have HB := aM (Below.refl w.heap.size w)
 unfold impl_DueBy.f at h; have H := h
 clear h
 obtain ⟨t188, A3, H⟩ := zO H; try dsimp only at H
 have H' := aM H
 clear H
 go_enter Try.func41, Try.ntmps41
 go_wp2_with (first | ((with_reducible refine gD 2 rfl ?_); refine bE 2 #[.int .i64 a0_0, .slice A0_1 l0_1.length c0_1, .slice A0_2 l0_2.length c0_2, .slice A0_3 l0_3.length c0_3] 25 ?_; intro gb187 hg w4 hbox hb; have BK187 := aM hbox; have GW187 := aM (zg (zL HB.out) hg : w.heap.size ≤ gb187); have GE187 := GW187; replace HB := zLB (zL HB.out) hb; clear hb hbox hg; have hcz5 := zc4 BK187.out; have hfz5 := zf4 BK187.out) | ((with_reducible refine gC 25 rfl ?_); refine gL 9 Try.func25 #[.agg #[.int .i64 a0_0, .slice A0_1 l0_1.length c0_1, .slice A0_2 l0_2.length c0_2, .slice A0_3 l0_3.length c0_3]] ?_; (with_reducible refine (impl_Timers.calls k a0_0 _ _ l0_1 _ _ l0_2 _ _ l0_3 t188 _ ?side1 ?side2 ?side3 ?side4 ?side5 ?side6 A3.out).mono ?_); (case side1 => exact zC (Kd.C_below HR0_1.out HB.out)); (case side2 => exact HC0_1.out); (case side3 => exact zC (Kd.C_below HR0_2.out HB.out)); (case side4 => exact HC0_2.out); (case side5 => exact zC (Kd.C_below HR0_3.out HB.out)); (case side6 => exact HC0_3.out); rintro e w6 ⟨v189, rfl, ho0, hb⟩; refine ⟨_, rfl, ?_⟩; have HO190 := aM (Kd.R_lower ho0 (below_size (zL1 HB.out GE187.out))); replace BK187 := zBB BK187 hb; replace HB := zLB (zL1 HB.out GE187.out) hb; clear ho0 hb; obtain ⟨Ao7, co7, eo7⟩ := Kd.R_slice HO190.out; subst eo7))
 go_loopg [5, 11] k (fun kq v5 v11 w' => ∃ (x5_1 : List Int) (x11_1 : Int), v11 = .int .i64 x11_1 ∧ Aside0 (impl_DueBy.l0 kq a1 x5_1 t188 (t188.length : Int) x11_1 = some r) ∧ Aside0 (kq ≤ k) ∧ Aside0 (Kd.R (Kd.int .i64) 3 w' w.heap.size (fun _ => True) v5 x5_1) ∧ Aside0 (Kd.R k46 46 w' w.heap.size (fun _ => True) (.slice Ao7 t188.length co7) t188) ∧ Aside0 (w'.heap[gb187]? = some (.cells #[.int .i64 a0_0, (.slice A0_1 l0_1.length c0_1), (.slice A0_2 l0_2.length c0_2), (.slice A0_3 l0_3.length c0_3)] 25 (0, 0))) ∧ Aside0 (Below w.heap.size w w'))
 case atStart => exact ⟨(([] : List Int)), (0), zV, H', ⟨Nat.le_refl _⟩, ⟨by first | exact Kd.R_nil _ _ _ _ _ | exact Kd.N_nil _ _ _ _ _ | exact Kd.V_nil _ _ _ _ _ | exact Kd.Q_nil _ _ _ _ _ | exact Kd.S_nil _ _ _ _ _⟩, ⟨zR HO190.out⟩, ⟨zB BK187.out⟩, ⟨zL1 HB.out GE187.out⟩⟩
 case round =>
  clear H'
  try clear c2
  try clear p2
  try clear c4
  try clear hcz5; try clear hfz5
  try clear BK187
  obtain ⟨x5_1, x11_1, rfl, HA, HK1, HO_5, HO_9, BK187, HB⟩ := hrel
  cases gk with
  | zero => exact absurd HA.out (by simp [impl_DueBy.l0])
  | succ k1 =>
   have H := HA.out
   clear HA
   simp only [impl_DueBy.l0] at H
   by_cases c8 : x11_1 < (t188.length : Int)
   ·rw [if_pos c8] at H
    have c8b0 := dT c8
    clear c8
    by_cases c9 : 0 ≤ x11_1
    ·rw [if_pos c9] at H
     have c9b0 := dT c9
     clear c9
     by_cases c10 : x11_1 < (t188.length : Int)
     ·rw [if_pos c10] at H
      have c10b0 := dT c10
      clear c10
      by_cases c11 : ((rd_T46 t188 x11_1).f2) ≤ a1
      ·rw [if_pos c11] at H
       have c11b0 := dT c11
       clear c11
       by_cases c12 : x5_1.length < 17592186044416
       ·rw [if_pos c12] at H
        have LMc12 := aM c12
        clear c12
        generalize hy193 : (x5_1 ++ [(rd_T46 t188 x11_1).f0]) = y193 at H; (try rw [Option.bind_some] at H); have Ny193 := aM hy193.symm; clear hy193
        have H' := aM H
        clear H
        have p191 : 0 ≤ (x11_1 : Int) := zD
        have q191 : x11_1 < (t188.length : Int) := zD
        obtain ⟨ad191, e191, hx191_0, hx191_1, hx191_2⟩ := at_T46 (Kd.R_reads' HO_9.out).2.2 x11_1 p191 q191
        cases e191
        replace p191 := eq_true p191
        replace q191 := eq_true q191
        go_wp2_with (first | ((with_reducible refine gD 7 rfl ?_); refine bE 7 #[.int .i64 0, .int .i64 0, .int .i64 0] 46 ?_; intro gb192 hg w13 hbox hb; replace HO_5 := zRB HO_5 hb; replace HO_9 := aM (Kd.R_below (Kd.R_elderB (zR HO_9.out) gb192 (Nat.le_of_eq hg.symm)) hb); have BK192 := aM hbox; have GW192 := aM (zg (zL1 HB.out GE187.out) hg : w.heap.size ≤ gb192); have GE192 := GW192; replace HB := zLB (zL1 HB.out GE187.out) hb; have NB187_192 := aM (zN BK187.out hg : gb187 ≠ gb192); have NB192_187 := aM (zM BK187.out hg : gb192 ≠ gb187); replace BK187 := zBB BK187 hb; clear hb hbox hg; have hnb14 := NB192_187.out; have hnc14 := NB187_192.out; have hcz15_0 : w13.cell? ⟨gb192, 0, none⟩ = some (.int .i64 0) := (bC BK192.out 0).trans rfl; have hcz15_1 : w13.cell? ⟨gb192, 1, none⟩ = some (.int .i64 0) := (bC BK192.out 1).trans rfl; have hcz15_2 : w13.cell? ⟨gb192, 2, none⟩ = some (.int .i64 0) := (bC BK192.out 2).trans rfl; have hfz15_0 := blk_frozen BK192.out 0; have hfz15_1 := blk_frozen BK192.out 1; have hfz15_2 := blk_frozen BK192.out 2) | ((with_reducible refine gate_builtin (b := .append) (xs := #[.tmp 19, .tmp 22]) rfl ?_); at_builtin; refine Kd.R_append (Kd.int .i64) (w0 := w) w.heap.size rfl (.tmp 19) (.tmp 22) 54 3 (.int .i64 0) 8 rfl Try.underlying54 info3 rfl (by decide) (by omega) u5 x5_1 ((rd_T46 t188 x11_1).f0) [.int .i64 ((rd_T46 t188 x11_1).f0)] (fun _ => True) (fun _ => False) rfl (by first | (go_simp; done) | (go_simp; rfl)) ?aP (fun _ hk => hk.elim) ?aF ?aO ?aB ?aS ?aL ?_; (case aP => exact rfl); (case aB => exact (zL2 HB.out GE187.out GE192.out)); (case aF => exact (fun _ _ => trivial)); (case aO => exact (by (with_reducible repeat (first | apply Kd.R_alloc | apply Kd.R_drewN | apply Kd.R_drew)); exact Kd.R_mono (Kd.R_far (p := ⟨gb192, 2, none⟩) (Kd.R_far (p := ⟨gb192, 1, none⟩) (Kd.R_far (p := ⟨gb192, 0, none⟩) (Kd.R_types HO_5.out BK192.out (by decide)) (fun _ hk => hk.2) (.int .i64 ((rd_T46 t188 x11_1).f0))) (fun _ hk => hk.2) (.int .i64 ((rd_T46 t188 x11_1).f1))) (fun _ hk => hk.2) (.int .i64 ((rd_T46 t188 x11_1).f2))) (fun _ hk => trivial))); (case aS => exact (below_size (zL2 HB.out GE187.out GE192.out))); (case aL => have := LMc12.out; omega); intro v194 w16 ho hb hg hat; rw [← Ny193.out] at ho; replace HO_9 := aM (Kd.R_over' (by (with_reducible repeat (first | apply Kd.R_alloc | apply Kd.R_drewN | apply Kd.R_drew)); exact (Kd.R_mono (Kd.R_far (p := ⟨gb192, 2, none⟩) (Kd.R_far (p := ⟨gb192, 1, none⟩) (Kd.R_far (p := ⟨gb192, 0, none⟩) (Kd.R_mono HO_9.out (fun k_ hk => (⟨hk, hk.2⟩ : _ ∧ k_ ≠ gb192))) (fun _ hk => hk.2) (.int .i64 ((rd_T46 t188 x11_1).f0))) (fun _ hk => hk.2) (.int .i64 ((rd_T46 t188 x11_1).f1))) (fun _ hk => hk.2) (.int .i64 ((rd_T46 t188 x11_1).f2))) (fun _ h_ => h_.1))) (Kd.R_typed (by (with_reducible repeat (first | apply Kd.R_alloc | apply Kd.R_drewN | apply Kd.R_drew)); exact (Kd.R_mono (Kd.R_far (p := ⟨gb192, 2, none⟩) (Kd.R_far (p := ⟨gb192, 1, none⟩) (Kd.R_far (p := ⟨gb192, 0, none⟩) (Kd.R_types HO_5.out BK192.out (by decide)) (fun _ hk => hk.2) (.int .i64 ((rd_T46 t188 x11_1).f0))) (fun _ hk => hk.2) (.int .i64 ((rd_T46 t188 x11_1).f1))) (fun _ hk => hk.2) (.int .i64 ((rd_T46 t188 x11_1).f2))) (fun _ h_ => h_.1)))) (by decide) hg); replace BK187 := aM (blk_grown (g := gb187) (o := .cells #[.int .i64 a0_0, .slice A0_1 l0_1.length c0_1, .slice A0_2 l0_2.length c0_2, .slice A0_3 l0_3.length c0_3] 25 (0, 0)) (by (with_reducible repeat (first | refine bN ?_ _ | refine bD ?_ | refine bA ?_ _)); refine blk_far ?_ NB187_192.out _; (with_reducible repeat (first | refine bN ?_ _ | refine bD ?_ | refine bA ?_ _)); refine blk_far ?_ NB187_192.out _; (with_reducible repeat (first | refine bN ?_ _ | refine bD ?_ | refine bA ?_ _)); refine blk_far ?_ NB187_192.out _; exact zB BK187.out) hg (Kd.R_ne HO_5.out BK187.out (by decide))); replace BK192 := aM (blk_grown (g := gb192) (o := .cells #[.int .i64 ((rd_T46 t188 x11_1).f0), .int .i64 ((rd_T46 t188 x11_1).f1), .int .i64 ((rd_T46 t188 x11_1).f2)] 46 (0, 0)) (by (with_reducible repeat (first | refine bN ?_ _ | refine bD ?_ | refine bA ?_ _)); refine blk_put (cs := #[.int .i64 ((rd_T46 t188 x11_1).f0), .int .i64 ((rd_T46 t188 x11_1).f1), .int .i64 0]) ?_ 2 _ rfl; (with_reducible repeat (first | refine bN ?_ _ | refine bD ?_ | refine bA ?_ _)); refine blk_put (cs := #[.int .i64 ((rd_T46 t188 x11_1).f0), .int .i64 0, .int .i64 0]) ?_ 1 _ rfl; (with_reducible repeat (first | refine bN ?_ _ | refine bD ?_ | refine bA ?_ _)); refine blk_put (cs := #[.int .i64 0, .int .i64 0, .int .i64 0]) ?_ 0 _ rfl; exact zB BK192.out) hg (Kd.R_ne HO_5.out BK192.out (by decide))); replace HB := aM hb; have HO195 := aM (ho); clear HO_5; clear ho hb hg hat))
        go_roundg k1
        case measure => have := HK1.out; omega
        case rel => exact ⟨(y193), (wrap64 (x11_1 + 1)), zV, H', ⟨by have := HK1.out; omega⟩, ⟨zR HO195.out⟩, ⟨zRm HO_9.out (fun _ hk => trivial)⟩, ⟨zB BK187.out⟩, ⟨zL2 HB.out GE187.out GE192.out⟩⟩
       ·rw [if_neg c12] at H
        exact absurd H (by simp)
      ·rw [if_neg c11] at H
       have c11b0 := dF c11
       clear c11
       have H' := aM H
       clear H
       have p191 : 0 ≤ (x11_1 : Int) := zD
       have q191 : x11_1 < (t188.length : Int) := zD
       obtain ⟨ad191, e191, hx191_0, hx191_1, hx191_2⟩ := at_T46 (Kd.R_reads' HO_9.out).2.2 x11_1 p191 q191
       cases e191
       replace p191 := eq_true p191
       replace q191 := eq_true q191
       go_wp2_with (first | ((with_reducible refine gD 7 rfl ?_); refine bE 7 #[.int .i64 0, .int .i64 0, .int .i64 0] 46 ?_; intro gb192 hg w17 hbox hb; replace HO_5 := zRB HO_5 hb; replace HO_9 := aM (Kd.R_below (Kd.R_elderB (zR HO_9.out) gb192 (Nat.le_of_eq hg.symm)) hb); have BK192 := aM hbox; have GW192 := aM (zg (zL1 HB.out GE187.out) hg : w.heap.size ≤ gb192); have GE192 := GW192; replace HB := zLB (zL1 HB.out GE187.out) hb; have NB187_192 := aM (zN BK187.out hg : gb187 ≠ gb192); have NB192_187 := aM (zM BK187.out hg : gb192 ≠ gb187); replace BK187 := zBB BK187 hb; clear hb hbox hg; have hnb18 := NB192_187.out; have hnc18 := NB187_192.out; have hcz19_0 : w17.cell? ⟨gb192, 0, none⟩ = some (.int .i64 0) := (bC BK192.out 0).trans rfl; have hcz19_1 : w17.cell? ⟨gb192, 1, none⟩ = some (.int .i64 0) := (bC BK192.out 1).trans rfl; have hcz19_2 : w17.cell? ⟨gb192, 2, none⟩ = some (.int .i64 0) := (bC BK192.out 2).trans rfl; have hfz19_0 := blk_frozen BK192.out 0; have hfz19_1 := blk_frozen BK192.out 1; have hfz19_2 := blk_frozen BK192.out 2))
       go_roundg k1
       case measure => have := HK1.out; omega
       case rel => exact ⟨(x5_1), (wrap64 (x11_1 + 1)), zV, H', ⟨by have := HK1.out; omega⟩, ⟨by (with_reducible repeat (first | apply Kd.R_alloc | apply Kd.R_drewN | apply Kd.R_drew)); exact Kd.R_mono (Kd.R_far (p := ⟨gb192, 2, none⟩) (Kd.R_far (p := ⟨gb192, 1, none⟩) (Kd.R_far (p := ⟨gb192, 0, none⟩) (Kd.R_types HO_5.out BK192.out (by decide)) (fun _ hk => hk.2) (.int .i64 ((rd_T46 t188 x11_1).f0))) (fun _ hk => hk.2) (.int .i64 ((rd_T46 t188 x11_1).f1))) (fun _ hk => hk.2) (.int .i64 ((rd_T46 t188 x11_1).f2))) (fun _ hk => trivial)⟩, ⟨by (with_reducible repeat (first | apply Kd.R_alloc | apply Kd.R_drewN | apply Kd.R_drew)); exact Kd.R_mono (Kd.R_far (p := ⟨gb192, 2, none⟩) (Kd.R_far (p := ⟨gb192, 1, none⟩) (Kd.R_far (p := ⟨gb192, 0, none⟩) (Kd.R_mono HO_9.out (fun k_ hk => (⟨hk, hk.2⟩ : _ ∧ k_ ≠ gb192))) (fun _ hk => hk.2) (.int .i64 ((rd_T46 t188 x11_1).f0))) (fun _ hk => hk.2) (.int .i64 ((rd_T46 t188 x11_1).f1))) (fun _ hk => hk.2) (.int .i64 ((rd_T46 t188 x11_1).f2))) (fun _ hk => trivial)⟩, ⟨by (with_reducible repeat (first | refine bN ?_ _ | refine bD ?_ | refine bA ?_ _)); refine blk_far ?_ NB187_192.out _; (with_reducible repeat (first | refine bN ?_ _ | refine bD ?_ | refine bA ?_ _)); refine blk_far ?_ NB187_192.out _; (with_reducible repeat (first | refine bN ?_ _ | refine bD ?_ | refine bA ?_ _)); refine blk_far ?_ NB187_192.out _; exact zB BK187.out⟩, ⟨zL2 HB.out GE187.out GE192.out⟩⟩
     ·rw [if_neg c10] at H
      exact absurd H (by simp)
    ·rw [if_neg c9] at H
     exact absurd H (by simp)
   ·rw [if_neg c8] at H
    have c8b0 := dF c8
    clear c8
    obtain ⟨t196, A20, H⟩ := zO H; try dsimp only at H
    obtain rfl := Option.some.inj H
    obtain ⟨Ao21, co21, eo21⟩ := Kd.R_slice HO_5.out
    subst eo21
    go_wp2_with (first | ((with_reducible refine gC 79 rfl ?_); refine gL 26 Try.func79 #[.slice Ao21 x5_1.length co21] ?_; (with_reducible refine (slices_Sort.calls (fun k_ => some k_ = (.slice Ao21 x5_1.length co21 : Value).ownBlock) (.slice Ao21 x5_1.length co21) x5_1 t196 w _ ?side1 ?side2 A20.out).mono ?_); (case side1 => exact zL1 HB.out GE187.out); (case side2 => exact Kd.R_tight rfl HO_5.out); rintro e w22 ⟨rfl, hy0, hb, hkp⟩; refine ⟨_, rfl, ?_⟩; replace HO_9 := aM (Kd.R_mono (ok' := fun k_ => True) (Kd.R_keptB ((Kd.R_apart' HO_9.out (Kd.R_typed HO_5.out) (by decide))) hkp (fun k_ hk_ hs_ => (hk_.2) hs_)) (fun k_ hk_ => trivial)); replace BK187 := aM (blk_kept (zB BK187.out) hkp (fun hs_ => (fun e_ => (Kd.R_ne HO_5.out BK187.out (by decide)) e_) hs_)); replace HO_5 := aM (Kd.R_reok rfl hy0 (fun k_ e_ => HO_5.out.1 k_ e_)); replace HB := aM hb; (try clear hb); (try clear hkp); (try clear hy0)))
    go_ret
    exact ⟨_, zW, zR HO_5.out, zL1 HB.out GE187.out⟩

open Go.Proofs.YtggenhomnbnodaaW.PrintWords renaming blk_drewN → bN, blk_drew → bD, blk_alloc → bA, blk_cell → bC, blk_below → bB, below_set → bS
def laws_big.f (l0 : List Int) : Option (Bool) := some (decide ((l0.length : Int) > 1048576))
set_option maxHeartbeats 8000000 in
set_option maxRecDepth 100000 in
theorem laws_big.calls (A0 : Option Addr) (c0 : Nat) (l0 : List Int) (r : Bool) (w : World) (hr0 : Kd.C (Kd.int .u8) w A0 l0.length l0) (hc0 : l0.length ≤ c0) (h : laws_big.f l0 = some r) :
  Calls Try.prog 45 #[.slice A0 l0.length c0] w fun e w' => e = .returned (.bool r) ∧ Drawn0 w w' := by
 have HR0 := aM hr0
 have HC0 := aM hc0
 clear hr0 hc0
 unfold laws_big.f at h; have H := h
 clear h
 obtain rfl := Option.some.inj H
 go_enter Try.func45, Try.ntmps45
 go_wp2
 go_ret
 exact ⟨zV, zU⟩

open Go.Proofs.YtggenhomnbnodaaW.PrintWords renaming blk_drewN → bN, blk_drew → bD, blk_alloc → bA, blk_cell → bC, blk_below → bB, below_set → bS
def laws_sameTimers.l0 : Nat → List (S46) → List (S46) → Int → Option (Bool)
 | 0, _, _, _ => none
 | k + 1, x0, x1, x5 => if x5 < (x0.length : Int) then (if 0 ≤ x5 then (if x5 < (x1.length : Int) then (if (!(((rd_T46 x0 x5).f0) == ((rd_T46 x1 x5).f0)) || (!(((rd_T46 x0 x5).f1) == ((rd_T46 x1 x5).f1)) || (!(((rd_T46 x0 x5).f2) == ((rd_T46 x1 x5).f2))))) = true then (some false) else (laws_sameTimers.l0 k x0 x1 (wrap64 (x5 + 1)))) else (none)) else (none)) else (some true)
def laws_sameTimers.f (k : Nat) (l0 : List (S46)) (l1 : List (S46)) : Option (Bool) := if (l0.length : Int) = (l1.length : Int) then (laws_sameTimers.l0 k l0 l1 0) else (some false)
set_option maxHeartbeats 8000000 in
set_option maxRecDepth 100000 in
theorem laws_sameTimers.calls (k : Nat) (A0 : Option Addr) (c0 : Nat) (l0 : List (S46)) (A1 : Option Addr) (c1 : Nat) (l1 : List (S46)) (r : Bool) (w : World) (hr0 : Kd.C k46 w A0 l0.length l0) (hc0 : l0.length ≤ c0) (hr1 : Kd.C k46 w A1 l1.length l1) (hc1 : l1.length ≤ c1) (h : laws_sameTimers.f k l0 l1 = some r) :
  Calls Try.prog 51 #[.slice A0 l0.length c0, .slice A1 l1.length c1] w fun e w' => e = .returned (.bool r) ∧ Drawn0 w w' := by
 have hu46 := Try.underlying46
 have HR0 := aM hr0
 have HC0 := aM hc0
 clear hr0 hc0
 have HR1 := aM hr1
 have HC1 := aM hc1
 clear hr1 hc1
 unfold laws_sameTimers.f at h; have H := h
 clear h
 by_cases c3 : (l0.length : Int) = (l1.length : Int)
 ·rw [if_pos c3] at H
  obtain ⟨c3b0, c3b1⟩ := zt c3
  have c3b2 : (l0.length == l1.length) = true := by first | simpa using c3 | (simp at c3 ⊢; omega)
  clear c3
  have H' := aM H
  clear H
  go_enter Try.func51, Try.ntmps51
  go_wp2
  repeat (go_quiet (fail); try go_wp2)
  go_loopg [5] k (fun kq v5 w' => ∃ (x5_1 : Int), v5 = .int .i64 x5_1 ∧ Aside0 (laws_sameTimers.l0 kq l0 l1 x5_1 = some r) ∧ Aside0 (kq ≤ k) ∧ Drawn0 w w')
  case atStart => exact ⟨(0), zV, H', ⟨Nat.le_refl _⟩, zU⟩
  case round =>
   clear H'
   try clear c1
   try clear p2
   try clear c3
   try clear c3b0
   try clear c3b1
   try clear c3b2
   obtain ⟨x5_1, rfl, HA, HK1, ⟨m1, rfl⟩⟩ := hrel
   cases gk with
   | zero => exact absurd HA.out (by simp [laws_sameTimers.l0])
   | succ k1 =>
    have H := HA.out
    clear HA
    simp only [laws_sameTimers.l0] at H
    by_cases c4 : x5_1 < (l0.length : Int)
    ·rw [if_pos c4] at H
     have c4b0 := dT c4
     clear c4
     by_cases c5 : 0 ≤ x5_1
     ·rw [if_pos c5] at H
      have c5b0 := dT c5
      clear c5
      by_cases c6 : x5_1 < (l1.length : Int)
      ·rw [if_pos c6] at H
       have c6b0 := dT c6
       clear c6
       by_cases c7 : (!(((rd_T46 l0 x5_1).f0) == ((rd_T46 l1 x5_1).f0)) || (!(((rd_T46 l0 x5_1).f1) == ((rd_T46 l1 x5_1).f1)) || (!(((rd_T46 l0 x5_1).f2) == ((rd_T46 l1 x5_1).f2))))) = true
       ·rw [if_pos c7] at H
        have c7b0 := c7
        clear c7
        obtain rfl := Option.some.inj H
        have p197 : 0 ≤ (x5_1 : Int) := zD
        have q197 : x5_1 < (l0.length : Int) := zD
        obtain ⟨ad197, e197, hx197_0, hx197_1, hx197_2⟩ := at_T46 HR0.out x5_1 p197 q197
        cases e197
        replace p197 := eq_true p197
        replace q197 := eq_true q197
        have p198 : 0 ≤ (x5_1 : Int) := zD
        have q198 : x5_1 < (l1.length : Int) := zD
        obtain ⟨ad198, e198, hx198_0, hx198_1, hx198_2⟩ := at_T46 HR1.out x5_1 p198 q198
        cases e198
        replace p198 := eq_true p198
        replace q198 := eq_true q198
        go_wp2
        repeat (go_quiet (fail); try go_wp2)
        go_ret
        exact ⟨zV, zU⟩
       ·rw [if_neg c7] at H
        have c7b0 : (!(((rd_T46 l0 x5_1).f0) == ((rd_T46 l1 x5_1).f0)) || (!(((rd_T46 l0 x5_1).f1) == ((rd_T46 l1 x5_1).f1)) || (!(((rd_T46 l0 x5_1).f2) == ((rd_T46 l1 x5_1).f2))))) = false := by simpa using c7
        clear c7
        have H' := aM H
        clear H
        have p197 : 0 ≤ (x5_1 : Int) := zD
        have q197 : x5_1 < (l0.length : Int) := zD
        obtain ⟨ad197, e197, hx197_0, hx197_1, hx197_2⟩ := at_T46 HR0.out x5_1 p197 q197
        cases e197
        replace p197 := eq_true p197
        replace q197 := eq_true q197
        have p198 : 0 ≤ (x5_1 : Int) := zD
        have q198 : x5_1 < (l1.length : Int) := zD
        obtain ⟨ad198, e198, hx198_0, hx198_1, hx198_2⟩ := at_T46 HR1.out x5_1 p198 q198
        cases e198
        replace p198 := eq_true p198
        replace q198 := eq_true q198
        go_wp2
        repeat (go_quiet (fail); try go_wp2)
        go_roundg k1
        case measure => have := HK1.out; omega
        case rel => exact ⟨(wrap64 (x5_1 + 1)), zV, H', ⟨by have := HK1.out; omega⟩, zU⟩
      ·rw [if_neg c6] at H
       exact absurd H (by simp)
     ·rw [if_neg c5] at H
      exact absurd H (by simp)
    ·rw [if_neg c4] at H
     have c4b0 := dF c4
     clear c4
     obtain rfl := Option.some.inj H
     go_wp2
     repeat (go_quiet (fail); try go_wp2)
     go_ret
     exact ⟨zV, zU⟩
 ·rw [if_neg c3] at H
  obtain ⟨c3b0, c3b1⟩ := zf c3
  have c3b2 : (l0.length == l1.length) = false := by first | simpa using c3 | (simp at c3 ⊢; omega)
  obtain rfl := Option.some.inj H
  go_enter Try.func51, Try.ntmps51
  go_wp2
  repeat (go_quiet (fail); try go_wp2)
  go_ret
  exact ⟨zV, zU⟩

end Go.Proofs.Ytggenhomnbnodaa.QFnTimes
