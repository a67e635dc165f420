/- What the Go functions that the law FnTimes reaches answer: each as a Lean function, with its walk. Written by a program of this session. Conditions: those that each theorem names. -/
import Derived.Test.YtggenhomnbnodaaQFnTimesx0
import Derived.Test.YtggenhomnbnodaaQFnTimesx6
import Derived.Test.YtggenhomnbnodaaQFnTimesx7
import Derived.Test.YtggenhomnbnodaaQFnTimesx8
namespace Go.Proofs.Ytggenhomnbnodaa.QFnTimes
open Go.RowKit Go.Proofs.YtggenhomnbnodaaW.PrintWords Go.Proofs.YtggenhomnbnodaaW.PrintLast Go.Proofs.YtggenhomnbnodaaW.PrintMore
attribute [local go_sem] max2_int min2_int max_two min_two max_three min_three max_four min_four   -- for this text's walks alone
set_option linter.unusedVariables false
set_option linter.unusedSimpArgs false

def impl_copyWheel.f (k : Nat) (a0_0 : Int) (l0_1 l0_2 : List (List S46)) (l0_3 : List S46) : Option (Int × List (List S46) × List (List S46) × List S46) :=
 (impl_copySlots.f k l0_1).bind fun t319 => ((impl_copySlots.f k l0_2).bind fun t322 => (if ([] : List (S46)).length + l0_3.length < 5864062014805 then (some (a0_0, t319, t322, (([] : List (S46)) ++ l0_3))) else (none)))
def impl_copyWheel.T1 : Bool × List (List Nat × List Nat) := (true, [([], []), ([0], [0]), ([], []), ([2], [2]), ([3], [3]), ([], []), ([5], [5]), ([6, 4], [6]), ([], []), ([8], [8]), ([9, 7], [9]), ([1, 4, 7, 10], [1, 4, 7, 10]), ([11, 10, 0, 1, 2, 3, 4, 5, 6, 7, 8, 9, 10, 11], [11])])
def impl_copyWheel.B1 : List Nat := [0, 1, 0, 4, 12, 0, 32, 124, 0, 256, 1020, 2047, 4095]
theorem impl_copyWheel.tab1 : rtab .any (opsOf Try.f74 1) = impl_copyWheel.T1 := by kernel_rfl
theorem impl_copyWheel.bits1 : waitsOk impl_copyWheel.T1.2 impl_copyWheel.B1 = true := by kernel_rfl
set_option maxHeartbeats 8000000 in
set_option maxRecDepth 100000 in
theorem impl_copyWheel.callsW (k : Nat) (a : Int) (A1 : Option Addr) (c1 : Nat) (l1 : List (List S46)) (A2 : Option Addr) (c2 : Nat) (l2 : List (List S46)) (A3 : Option Addr) (c3 : Nat) (l3 : List S46) (r1 : Int) (r2 r3 : List (List S46)) (r4 : List S46) (w : World) (hr1 : Kd.C (Kd.slice 46 k46) w A1 l1.length l1) (hc1 : l1.length ≤ c1) (hr2 : Kd.C (Kd.slice 46 k46) w A2 l2.length l2) (hc2 : l2.length ≤ c2) (hr3 : Kd.C k46 w A3 l3.length l3) (hc3 : l3.length ≤ c3) (h : impl_copyWheel.f k a l1 l2 l3 = some (r1, r2, r3, r4)) :
  Calls Try.prog 74 #[.agg #[.int .i64 a, .slice A1 l1.length c1, .slice A2 l2.length c2, .slice A3 l3.length c3]] w fun e w' => ∃ v1_ v2_ v3_ : Value, e = .returned (.agg #[.int .i64 r1, v1_, v2_, v3_]) ∧ WR w' w.heap.size (fun _ => True) v1_ v2_ v3_ r2 r3 r4 ∧ Below w.heap.size w w' := by
 have hu25 := Try.underlying25
 unfold impl_copyWheel.f at h
 obtain ⟨t1, A1_, h⟩ := zO h
 obtain ⟨t2, A2_, h⟩ := zO h
 try simp only [Option.bind_some] at h
 have hl3 : l3.length < 5864062014805 := by
  by_cases c : l3.length < 5864062014805
  ·exact c
  ·rw [if_neg (by simpa using c)] at h; exact absurd h (by simp)
 rw [if_pos (by simpa using hl3)] at h
 simp only [Option.some.injEq, Prod.mk.injEq, List.nil_append] at h
 obtain ⟨rfl, rfl, rfl, rfl⟩ := h
 have HR1 := aM hr1
 have HR2 := aM hr2
 have HR3 := aM hr3
 have HC1 := aM hc1
 have HC2 := aM hc2
 have HC3 := aM hc3
 have HL3 := aM hl3
 clear hr1 hr2 hr3 hc1 hc2 hc3 hl3
 go_enter Try.func74, Try.ntmps74
 try go_wp2_with (first | ((with_reducible refine gD 1 rfl ?_); refine bE 1 #[.int .i64 a, .slice A1 l1.length c1, .slice A2 l2.length c2, .slice A3 l3.length c3] 25 ?_; intro g1 hg w2 hbox hb; have BK1 := aM hbox; have HB := aM hb; clear hbox hb hg) | ((with_reducible refine gD 2 rfl ?_); refine bE 2 #[.int .i64 0, .slice none 0 0, .slice none 0 0, .slice none 0 0] 25 ?_; intro g2 hg w3 hbox hb; have BK2 := aM hbox; have NB := aM (zN BK1.out hg : g1 ≠ g2); have GE := aM (zg HB.out hg : w.heap.size ≤ g2); replace BK1 := zBB BK1 hb; replace HB := zLB HB.out hb; clear hbox hb hg))
 replace BK1 := zBD BK1
 replace BK2 := zBD BK2
 replace HB := zLD HB
 refine start_ (n := 13) (S := fun w' => w'.cell? ⟨g1, 0, none⟩ = some (.int .i64 a) ∧ w'.cell? ⟨g1, 1, none⟩ = some (.slice A1 l1.length c1) ∧ w'.cell? ⟨g1, 2, none⟩ = some (.slice A2 l2.length c2) ∧ w'.cell? ⟨g1, 3, none⟩ = some (.slice A3 l3.length c3)) (ds := [12]) (fB 13 0) (by kernel_rfl) rfl rfl ⟨(blk_cell BK1.out 0).trans rfl, (blk_cell BK1.out 1).trans rfl, (blk_cell BK1.out 2).trans rfl, (blk_cell BK1.out 3).trans rfl⟩ (fun hHeld => ?_); refine with_tabW impl_copyWheel.tab1 impl_copyWheel.bits1 (fun HT_ HW_ => ?_)
 generalize w3.drew = w4 at BK1 BK2 HB hHeld ⊢
 refine pY 0 3 (fB 13 1) HT_.out ?_
 refine pY 2 5 (fB 13 5) HT_.out ?_
 refine pY 5 8 (fB 13 37) HT_.out ?_
 refine pY 8 11 (fB 13 293) HT_.out ?_
 refine tY 1 4 (fB 13 295) HT_.out HW_.out hHeld ?_
 refine tY 3 6 (fB 13 303) HT_.out HW_.out hHeld ?_
 refine tY 6 9 (fB 13 367) HT_.out HW_.out hHeld ?_
 refine tY 9 12 (fB 13 879) HT_.out HW_.out hHeld ?_
 refine oN 4 7 (fB 13 895) HT_.out fun K hK => ?_
 refine gS Try.func92 #[.slice A1 l1.length c1] ?_
 refine (impl_copySlots.calls k _ _ l1 t1 _ ?side1 ?side2 A1_.out).mono ?_
 (case side1 => exact Kd.C_below HR1.out HB.out)
 (case side2 => exact HC1.out)
 rintro e w5 ⟨v1, rfl, ho, hb⟩
 refine ⟨_, rfl, ?_⟩
 have S1 := aM (Kd.S_lower (Kd.S_mono (Kd.S_bound ho) (ok' := fun k_ => w4.heap.size ≤ k_ ∧ k_ < w5.heap.size) (fun _ h_ => ⟨h_.2.1, h_.2.2.1⟩)) HB.out.size)
 have Zw5 := aM (hb.size : w4.heap.size ≤ w5.heap.size)
 replace BK1 := zBB BK1 hb
 replace BK2 := zBB BK2 hb
 replace HB := zLB HB.out hb
 clear hb ho
 refine hK.out _ _ ⟨(blk_cell BK1.out 0).trans rfl, (blk_cell BK1.out 1).trans rfl, (blk_cell BK1.out 2).trans rfl, (blk_cell BK1.out 3).trans rfl⟩ fun hHeld => ?_; clear hK K
 refine nZ 7 ?_
 refine oN 7 10 (fB 13 1023) HT_.out fun K hK => ?_
 refine gS Try.func92 #[.slice A2 l2.length c2] ?_
 refine (impl_copySlots.calls k _ _ l2 t2 _ ?side1 ?side2 A2_.out).mono ?_
 (case side1 => exact Kd.C_below HR2.out HB.out)
 (case side2 => exact HC2.out)
 rintro e w6 ⟨v2, rfl, ho, hb⟩
 refine ⟨_, rfl, ?_⟩
 have S2 := aM (Kd.S_lower (Kd.S_mono (Kd.S_bound ho) (ok' := fun k_ => w5.heap.size ≤ k_ ∧ k_ < w6.heap.size) (fun _ h_ => ⟨h_.2.1, h_.2.2.1⟩)) HB.out.size)
 replace S1 := aM (Kd.S_below S1.out hb)
 have Zw6 := aM (hb.size : w5.heap.size ≤ w6.heap.size)
 replace BK1 := zBB BK1 hb
 replace BK2 := zBB BK2 hb
 replace HB := zLB HB.out hb
 clear hb ho
 refine hK.out _ _ ⟨(blk_cell BK1.out 0).trans rfl, (blk_cell BK1.out 1).trans rfl, (blk_cell BK1.out 2).trans rfl, (blk_cell BK1.out 3).trans rfl⟩ fun hHeld => ?_; clear hK K
 refine nZ 10 ?_
 have HWR : Aside0 (WR w6 w.heap.size (fun _ => True) v1 v2 (.slice none 0 0) t1 t2 []) := ⟨⟨_, _, fun _ => False, ⟨fun _ _ => trivial, fun _ _ => trivial, fun _ _ => trivial⟩, ⟨fun k_ a_ b_ => by have y_ := a_; have z_ := b_; (try simp only at y_ z_); omega, fun _ _ h_ => h_, fun _ _ h_ => h_⟩, S1.out, S2.out, Kd.R_nil _ _ _ _ _⟩⟩
 clear S1 S2 Zw5 Zw6
 refine oN 10 13 (fB 13 2047) HT_.out fun K hK => ?_
 obtain ⟨P1, P2, P3, hp_, ⟨d1, d2, d3⟩, s1, s2, s3⟩ := HWR.out
 refine Kd.R_append_rows_step k46 (w0 := w) w.heap.size (by rfl) (.const (.slice none 0 0)) (.tmp 12) 23 46 (.agg #[(.int .i64 0), (.int .i64 0), (.int .i64 0)]) 24 rfl Try.underlying23 info46 rfl (by decide) (by omega) (.slice none 0 0) [] l3 _ _ _ (fun k => P3 k ∨ w6.heap.size ≤ k) (fun _ => False) rfl rfl ?aO ?aR (fun _ _ h => h) (fun _ h => h.elim) ?aF ?aB ?aS ?aL ?_
 (case aO => exact Kd.R_mono s3 (fun k h => .inl h))
 (case aR => exact Kd.C_below HR3.out HB.out)
 (case aF => exact fun k hk => .inr hk)
 (case aB => exact HB.out)
 (case aS => exact HB.out.size)
 (case aL => (have h1_ := HL3.out; simp only [List.length_nil]; omega))
 intro vn w9 ho hb hg hat
 clear hat
 rw [List.nil_append] at ho
 have HK := Kept.of_grown hg (Kept.refl w6 P3) (fun k hk => .inl (s3.1 k hk))
 have HWN : Aside0 (WR w9 w.heap.size (fun _ => True) v1 v2 vn t1 t2 l3) := ⟨⟨fun k => P1 k ∧ k < w6.heap.size, fun k => P2 k ∧ k < w6.heap.size, _, ⟨fun _ _ => trivial, fun _ _ => trivial, fun _ _ => trivial⟩, ⟨fun k h h2 => d1 k h.1 h2.1, fun k h2 h => h.elim (fun h => d2 k h2.1 h) (fun h => by have := h2.2; omega), fun k h2 h => h.elim (fun h => d3 k h2.1 h) (fun h => by have := h2.2; omega)⟩, Kd.S_kept (Kd.S_mono (Kd.S_bound s1) (fun k h => ⟨h.1, h.2.2.1⟩)) HK (fun k h h1 => d2 k h.1 h1), Kd.S_kept (Kd.S_mono (Kd.S_bound s2) (fun k h => ⟨h.1, h.2.2.1⟩)) HK (fun k h h1 => d3 k h.1 h1), ho⟩⟩
 have e1_ := Kd.R_ne s3 BK1.out (by decide)
 have e2_ := Kd.R_ne s3 BK2.out (by decide)
 replace BK1 := aM (blk_grown BK1.out hg e1_)
 replace BK2 := aM (blk_grown BK2.out hg e2_)
 replace HB := aM hb
 clear e1_ e2_ HK s1 s2 s3 d1 d2 d3 hp_ HWR hb hg ho
 obtain ⟨B1, q1, B2, q2, B3, q3, rfl, rfl, rfl, _, _, _, _⟩ := HWN.out.reads
 refine hK.out _ _ ⟨(blk_cell BK1.out 0).trans rfl, (blk_cell BK1.out 1).trans rfl, (blk_cell BK1.out 2).trans rfl, (blk_cell BK1.out 3).trans rfl⟩ fun hHeld => ?_; clear hK K
 refine nZ 13 ?_
 refine pY 11 14 (fB 13 4095) HT_.out ?_
 refine last_ (i := 12) (N := none) (fB 13 8191) rfl rfl (one_of HT_.out (by kernel_rfl)) (by decide) (fun K hK => ?_)
 have hs0 := (blk_cell BK2.out 0).trans rfl
 have hf0 := blk_frozen BK2.out 0
 have hs1 := (blk_cell BK2.out 1).trans rfl
 have hf1 := blk_frozen BK2.out 1
 have hs2 := (blk_cell BK2.out 2).trans rfl
 have hf2 := blk_frozen BK2.out 2
 have hs3 := (blk_cell BK2.out 3).trans rfl
 have hf3 := blk_frozen BK2.out 3
 have hnb := NB.out
 have hnc := NB.out.symm
 refine skip_ (w1 := ?_) (by rfl) rfl ?_ ?_
 rotate_left
 ·go_simp
  rfl
 refine hK.out _ _ ?_
 clear hK K
 refine done_ (done_of HT_.out (by kernel_rfl)) ?_
 try go_wp2
 refine bodyPost_ret (results_cell_row rfl _ _ g2 25 #[.int .i64 a, .slice B1 t1.length q1, .slice B2 t2.length q2, .slice B3 l3.length q3] (0, 0) _ rfl (by refine zB ?_; exact zp4 BK2.out) Try.underlying25 rfl (by kernel_rfl)) rfl ?_
 exact ⟨_, _, _, rfl, (((((HWN.out.types BK2.out (by decide) (by decide)).far (p := ⟨g2, 0, none⟩) (fun _ h => h.2) _).far (p := ⟨g2, 1, none⟩) (fun _ h => h.2) _).far (p := ⟨g2, 2, none⟩) (fun _ h => h.2) _).far (p := ⟨g2, 3, none⟩) (fun _ h => h.2) _).mono (fun _ _ => trivial), zL1 HB.out GE.out⟩
def impl_lay.T1 : Bool × List (List Nat × List Nat) := (true, [([], []), ([0], [0]), ([1], [1]), ([], []), ([3], [3]), ([4], [4]), ([5], [5]), ([6], [6]), ([2, 7], [2, 7]), ([8, 0, 1, 2, 3, 4, 5, 6, 7, 8], [8])])
def impl_lay.B1 : List Nat := [0, 1, 3, 0, 8, 24, 56, 120, 255, 511]
theorem impl_lay.tab1 : rtab .any (opsOf Try.f75 1) = impl_lay.T1 := by kernel_rfl
theorem impl_lay.bits1 : waitsOk impl_lay.T1.2 impl_lay.B1 = true := by kernel_rfl
def impl_lay.T2 : Bool × List (List Nat × List Nat) := (true, [([], []), ([], []), ([1], [1]), ([2], [2]), ([3], [3]), ([], []), ([5], [5]), ([4, 6], [4, 6]), ([0, 0, 1, 2, 3, 4, 5, 6, 7], [0]), ([8, 0, 1, 2, 3, 4, 5, 6, 7], [8]), ([9, 7, 7, 0, 1, 2, 3, 4, 5, 6, 7], [7, 9])])
def impl_lay.B2 : List Nat := [0, 0, 2, 6, 14, 0, 32, 126, 255, 511, 1023]
theorem impl_lay.tab2 : rtab .any (opsOf Try.f75 2) = impl_lay.T2 := by kernel_rfl
theorem impl_lay.bits2 : waitsOk impl_lay.T2.2 impl_lay.B2 = true := by kernel_rfl
def impl_lay.T4 : Bool × List (List Nat × List Nat) := (true, [([], []), ([0], [0]), ([1], [1]), ([2], [2]), ([], []), ([4], [4]), ([5], [5]), ([], []), ([7], [7]), ([8], [8]), ([9], [9]), ([], []), ([11], [11]), ([12], [12]), ([10, 13], [10, 13]), ([14], [14]), ([], []), ([16], [16]), ([15, 17], [15, 17]), ([3, 6, 0, 1, 2, 3, 4, 5, 6, 7, 8, 9, 10, 11, 12, 13, 14, 15, 16, 17, 18], [3, 6]), ([19, 18, 18, 0, 1, 2, 3, 4, 5, 6, 7, 8, 9, 10, 11, 12, 13, 14, 15, 16, 17, 18], [18, 19])])
def impl_lay.B4 : List Nat := [0, 1, 3, 7, 0, 16, 48, 0, 128, 384, 896, 0, 2048, 6144, 16256, 32640, 0, 65536, 262016, 524287, 1048575]
theorem impl_lay.tab4 : rtab .any (opsOf Try.f75 4) = impl_lay.T4 := by kernel_rfl
theorem impl_lay.bits4 : waitsOk impl_lay.T4.2 impl_lay.B4 = true := by kernel_rfl
def impl_lay.T7 : Bool × List (List Nat × List Nat) := (true, [([], []), ([0], [0]), ([1], [1]), ([2], [2]), ([], []), ([], []), ([5], [5]), ([6], [6]), ([7], [7]), ([], []), ([8, 9], [8, 9]), ([10], [10]), ([], []), ([12], [12]), ([11, 13], [11, 13]), ([3, 4, 0, 1, 2, 3, 4, 5, 6, 7, 8, 9, 10, 11, 12, 13, 14], [3, 4]), ([15, 14, 14, 0, 1, 2, 3, 4, 5, 6, 7, 8, 9, 10, 11, 12, 13, 14], [14, 15])])
def impl_lay.B7 : List Nat := [0, 1, 3, 7, 0, 0, 32, 96, 224, 0, 992, 2016, 0, 4096, 16352, 32767, 65535]
theorem impl_lay.tab7 : rtab .any (opsOf Try.f75 7) = impl_lay.T7 := by kernel_rfl
theorem impl_lay.bits7 : waitsOk impl_lay.T7.2 impl_lay.B7 = true := by kernel_rfl
set_option maxHeartbeats 8000000 in
set_option maxRecDepth 100000 in
theorem impl_lay.near (a x0 x1 x2 : Int) (l1 l2 m : List (List S46)) (l3 : List S46) (g base : Nat) (ok : Nat → Prop) (w0 w : World) (hB : Below base w0 w) (hbg : base ≤ g) (H : WS a g base w ok l1 l2 l3)
  (ha : 0 ≤ a) (ha2 : a ≤ 2147483647) (hx : 0 ≤ x2) (hx2 : x2 ≤ 2147483647) (hl : l1.length = 8) (hlen : (l1.getD (x2 % 8).toNat []).length ≤ 1000000) (hc : x2 / 8 - a / 8 = 0) (hm : m = (l1.set (x2 % 8).toNat (l1.getD (x2 % 8).toNat [] ++ [⟨x0, x1, x2⟩]))) :
  Calls Try.prog 75 #[.pointer (some ⟨g, 0, none⟩), .agg #[.int .i64 x0, .int .i64 x1, .int .i64 x2]] w fun e w' => e = .returned (.tuple #[]) ∧ WS a g base w' (fun k => ok k ∨ w.heap.size ≤ k) m l2 l3 ∧ Below base w0 w' ∧ Kept w w' (fun k => ok k ∨ k = g) := by
 obtain ⟨v1, v2, v3, hbk, hwr⟩ := H
 obtain ⟨P1, P2, P3, ⟨o1, o2, o3⟩, ⟨d1, d2, d3⟩, s1, s2, s3⟩ := hwr.types hbk (by decide) (by decide)
 have hbk0 := hbk
 obtain ⟨g1, cap, rfl, hg1, hg1l, cells1, hcells1⟩ := Kd.S_form s1 (by omega)
 have hp : Kd.S (Kd.slice 46 k46) 23 w base P1 (.slice (some ⟨g1, 0, none⟩) l1.length cap) l1 := s1
 obtain ⟨i, hi⟩ : ∃ i : Int, i = x2 % 8 := ⟨_, rfl⟩
 rw [← hi] at hlen
 have h0 : 0 ≤ i := by omega
 have h8 : i < (l1.length : Int) := by omega
 obtain ⟨oki, c, hcl, hM, hcc, hoki, HH⟩ := Kd.S_lend hp [] i h0 h8
 obtain ⟨vs, hv, hR⟩ := hM
 subst hv
 have hxs : w.cell? ⟨g1, i.toNat, none⟩ = some vs := by
  have := hcc 0 vs rfl
  have e : i.toNat * (Kd.slice 46 k46).sz + 0 = i.toNat := Nat.mul_one _
  rwa [e] at this
 have hfz : w.frozen? ⟨g1, i.toNat, none⟩ = false := by simp [World.frozen?, hcells1]
 obtain ⟨As, cs, rfl⟩ := Kd.R_slice hR
 have gne : g1 ≠ g := fun e => (o1 _ ((Kd.S_R hp).1 g1 rfl)).2 e
 have hRok : ∀ k, oki k → P1 k ∧ k ≠ g1 := hoki
 generalize hxi : l1.getD i.toNat [] = xi at *
 have BK := aM hbk0
 have HX := aM hxs
 have HC1 := aM hcells1
 have HRR := aM hR
 have HHH := aM HH
 have HO := aM (And.intro o1 (And.intro o2 o3))
 have HD := aM (And.intro d1 (And.intro d2 d3))
 have HS1 := aM s1
 have HS2 := aM s2
 have HS3 := aM s3
 have HOK := aM hRok
 have HB := aM hB
 have GN := aM gne
 have HLEN := aM hlen
 have HBG := aM hbg
 have HG1 := aM hg1
 have HHI := aM hi
 have HXI := aM hxi
 have p1 : (0 ≤ i) = True := eq_true h0
 have p2 : (i < ((l1.length : Nat) : Int)) = True := eq_true h8
 have htm : Int.tmod x2 8 = i := by rw [hi]; exact Int.tmod_eq_emod_of_nonneg hx
 have hq : wrap64 (wrap64 (Int.tdiv x2 8) - wrap64 (Int.tdiv a 8)) = 0 := by
  rw [Int.tdiv_eq_ediv_of_nonneg hx, Int.tdiv_eq_ediv_of_nonneg ha]
  unfold wrap64
  omega
 obtain ⟨q1, q2⟩ := zt hq
 have HM := aM hm
 clear hm hbk hbk0 hxs hcells1 hfz hR HH o1 o2 o3 d1 d2 d3 s1 s2 s3 hRok hoki hB gne hlen hbg hg1 hg1l hp hcl hcc hwr hi hxi h0 h8 ha ha2 hx hx2 hl hc
 have hu46 := Try.underlying46
 have hu25 := Try.underlying25
 go_enter Try.func75, Try.ntmps75
 go_wp2_with (first | ((with_reducible refine gD 3 rfl ?_); refine bE 3 #[.int .i64 x0, .int .i64 x1, .int .i64 x2] 46 ?_; intro gt hg w2 hbox hb; have BT := aM hbox; have GT := aM hg; have HB1 := aM hb; clear hbox hg hb))
 have BK2 := aM (blk_drew (blk_below BK.out HB1.out))
 have BT2 := zBD BT
 have HB2 := zLD HB1
 clear BT HB1
 refine start_ (n := 10) (S := fun w' => w'.cell? ⟨gt, 2, none⟩ = some (.int .i64 x2) ∧ w'.cell? ⟨g, 0, none⟩ = some (.int .i64 a)) (ds := []) (fB 10 0) (by kernel_rfl) rfl rfl ⟨(blk_cell BT2.out 2).trans rfl, (blk_cell BK2.out 0).trans rfl⟩ (fun hHeld => ?_); refine with_tabW impl_lay.tab1 impl_lay.bits1 (fun HT_ HW_ => ?_)
 generalize w2.drew = w3 at BK2 BT2 HB2 hHeld ⊢
 refine pY 0 6 (fB 10 1) HT_.out ?_
 refine pY 3 9 (fB 10 9) HT_.out ?_
 refine pY 4 10 (fB 10 25) HT_.out ?_
 refine pY 5 11 (fB 10 57) HT_.out ?_
 refine tY 1 7 (fB 10 59) HT_.out HW_.out hHeld ?_
 refine pY 2 8 (fB 10 63) HT_.out ?_
 refine tY 6 12 (fB 10 127) HT_.out HW_.out hHeld ?_
 refine pY 7 13 (fB 10 255) HT_.out ?_
 refine pY 8 14 (fB 10 511) HT_.out ?_
 refine pY 9 4 (fB 10 1023) HT_.out ?_
 refine done_ (done_of HT_.out (by kernel_rfl)) ?_
 have hcz := (blk_cell BT2.out 2).trans rfl
 try go_wp2
 obtain ⟨yb, hyb⟩ : ∃ yb : List S46, yb = [⟨x0, x1, x2⟩] := ⟨_, rfl⟩
 have NY := aM hyb
 clear hyb
 have BK3 := zBD BK2
 have BT3 := zBD BT2
 have HB3 := zLD HB2
 clear BK2 BT2 HB2
 refine start_ (n := 21) (S := fun w' => w'.cell? ⟨g, 1, none⟩ = some (.slice (some ⟨g1, 0, none⟩) l1.length cap) ∧ w'.cell? ⟨gt, 0, none⟩ = some (.int .i64 x0) ∧ w'.cell? ⟨gt, 1, none⟩ = some (.int .i64 x1) ∧ w'.cell? ⟨gt, 2, none⟩ = some (.int .i64 x2) ∧ w'.cell? ⟨g1, i.toNat, none⟩ = some (.slice As xi.length cs)) (ds := [20]) (fB 21 0) (by kernel_rfl) rfl rfl ⟨(blk_cell BK3.out 1).trans rfl, (blk_cell BT3.out 0).trans rfl, (blk_cell BT3.out 1).trans rfl, (blk_cell BT3.out 2).trans rfl, (HB3.out.cell (World.block_lt_of_cell? w _ HX.out)).trans HX.out⟩ (fun hHeld => ?_); refine with_tabW impl_lay.tab4 impl_lay.bits4 (fun HT_ HW_ => ?_)
 generalize w3.drew = w4 at BK3 BT3 HB3 hHeld ⊢
 refine pY 0 28 (fB 21 1) HT_.out ?_
 refine pY 1 29 (fB 21 3) HT_.out ?_
 refine pY 2 30 (fB 21 7) HT_.out ?_
 refine pY 4 32 (fB 21 23) HT_.out ?_
 refine pY 7 35 (fB 21 151) HT_.out ?_
 refine pY 8 36 (fB 21 407) HT_.out ?_
 refine pY 9 37 (fB 21 919) HT_.out ?_
 refine pY 11 39 (fB 21 2967) HT_.out ?_
 refine tY 3 31 (fB 21 2975) HT_.out HW_.out hHeld ?_
 refine tY 5 33 (fB 21 3007) HT_.out HW_.out hHeld ?_
 refine pY 6 34 (fB 21 3071) HT_.out ?_
 refine tY 10 38 (fB 21 4095) HT_.out HW_.out hHeld ?_
 refine tY 12 40 (fB 21 8191) HT_.out HW_.out hHeld ?_
 refine pY 13 41 (fB 21 16383) HT_.out ?_
 refine pY 14 42 (fB 21 32767) HT_.out ?_
 refine tY 15 43 (fB 21 65535) HT_.out HW_.out hHeld ?_
 refine tY 16 44 (fB 21 131071) HT_.out HW_.out hHeld ?_
 refine oN 17 45 (fB 21 262143) HT_.out fun K hK => ?_
 refine Kd.R_lit_step k46 _ 46 ?hg (N := 45) ?hd (xs := ([⟨x0, x1, x2⟩] : List S46)) (inner := [.int .i64 x0, .int .i64 x1, .int .i64 x2]) (ok := fun _ => True) (okp := fun _ => True) ?hr ?hp (fun _ hk => hk) trivial (Below.refl _ _) (Nat.le_refl _) (by simp) ?_; (case hd => rfl); (case hg => rfl); (case hr => first | (go_simp; done) | (go_simp; rfl)); (case hp => exact Reps.c3 (k46_mkM _ _ _ (⟨x0, x1, x2⟩ : S46)) (Reps.none _ _))
 intro vb w5 hrow hb5 hg_ hn_
 clear hg_ hn_
 rw [← NY.out] at hrow
 obtain ⟨Ab, cb, rfl⟩ := Kd.R_slice hrow
 have HRB := aM (Kd.R_reads' hrow)
 have BK4 := zBB BK3 hb5
 have BT4 := zBB BT3 hb5
 have HB4 := zLB HB3.out hb5
 clear hrow hb5 BK3 BT3 HB3
 refine hK.out _ _ ⟨(blk_cell BK4.out 1).trans rfl, (blk_cell BT4.out 0).trans rfl, (blk_cell BT4.out 1).trans rfl, (blk_cell BT4.out 2).trans rfl, (HB4.out.cell (World.block_lt_of_cell? w _ HX.out)).trans HX.out⟩ fun hHeld => ?_; clear hK K
 refine nZ 45 ?_
 refine oN 18 46 (fB 21 524287) HT_.out fun K hK => ?_
 have HBW := aM (below_then HB.out (Nat.le_trans HBG.out (Nat.le_of_lt (blk_lt BK.out))) HB4.out)
 have hbs : base ≤ w5.heap.size := Nat.le_trans (Nat.le_trans HBG.out (Nat.le_of_lt (blk_lt BK.out))) HB4.out.size
 refine Kd.R_append_rows_step k46 (w0 := w0) base (by rfl) (.tmp 43) (.tmp 45) 23 46 (.agg #[(.int .i64 0), (.int .i64 0), (.int .i64 0)]) 24 rfl Try.underlying23 info46 rfl (by decide) (by omega) _ xi yb _ _ _ (fun k => oki k ∨ (P1 k ∨ w.heap.size ≤ k) ∧ w5.heap.size ≤ k) (fun _ => False) rfl rfl ?aO ?aR (fun _ _ h => h) (fun _ h => h.elim) ?aF ?aB ?aS ?aL ?_
 (case aO => exact Kd.R_mono (Kd.R_below HRR.out HB4.out) (fun k h => .inl h))
 (case aR => exact HRB.out.2.2)
 (case aF => exact fun k hk => .inr ⟨.inr (Nat.le_trans HB4.out.size hk), hk⟩)
 (case aB => exact HBW.out)
 (case aS => exact hbs)
 (case aL => (have h1_ := HLEN.out; have h2_ : yb.length = 1 := (by rw [NY.out]; rfl); omega))
 intro vn w6 ho hb6 hg6 hat6
 clear hat6
 obtain ⟨yn, hyn⟩ : ∃ yn, yn = xi ++ yb := ⟨_, rfl⟩
 rw [← hyn] at ho
 have NYN := aM hyn
 clear hyn
 have hrk : ∀ k, (Value.slice As xi.length cs).ownBlock = some k → oki k := fun k hk => HRR.out.1 k hk
 have hoP : ∀ k, oki k → P1 k := fun k hk => (HOK.out k hk).1
 have HK6 := aM (Kept.of_grown hg6 (Kept.of_below HB4.out (fun k => oki k)) (fun k hk => .inl (hrk k hk)))
 have BK5 := aM (blk_grown BK4.out hg6 (fun e => (HO.out.1 g (hoP g (hrk g e.symm))).2 rfl))
 have BT5 := aM (blk_grown BT4.out hg6 (fun e => by have h_ := Kd.R_lt HRR.out gt e.symm; rw [GT.out] at h_; exact Nat.lt_irrefl _ h_))
 have HX5 := aM (cell_grown hg6 ((HB4.out.cell (World.block_lt_of_cell? w _ HX.out)).trans HX.out) (fun e => (HOK.out g1 (hrk g1 e.symm)).2 rfl))
 have HC5 := aM (blk_grown (blk_below HC1.out HB4.out) hg6 (fun e => (HOK.out g1 (hrk g1 e.symm)).2 rfl))
 have HH5 := aM (Kd.H_grown (Kd.H_widen (Kd.H_below (Kd.H_mono HHH.out (ok' := fun k => P1 k ∨ w.heap.size ≤ k) (fun k h => .inl h)) HB4.out)) hg6 (fun k hk => .inl (hrk k hk)))
 obtain ⟨An, cn, rfl⟩ := Kd.R_slice ho
 have HRN := aM ho
 have HB6 := aM hb6
 have HW5 := aM HB4.out.size
 have HG5 := aM (Nat.lt_of_lt_of_le (blk_lt HC1.out) HB4.out.size)
 clear ho hb6 hg6 hrk hoP hbs HBW HB4 BK4 BT4
 refine hK.out _ _ ⟨(blk_cell BK5.out 1).trans rfl, (blk_cell BT5.out 0).trans rfl, (blk_cell BT5.out 1).trans rfl, (blk_cell BT5.out 2).trans rfl, HX5.out⟩ fun hHeld => ?_; clear hK K
 refine nZ 46 ?_
 refine pY 19 47 (fB 21 1048575) HT_.out ?_
 refine last_ (i := 20) (N := none) (fB 21 2097151) rfl rfl (one_of HT_.out (by kernel_rfl)) (by decide) (fun K hK => ?_)
 have hxs6 := HX5.out
 have hfs6 : w6.frozen? ⟨g1, i.toNat, none⟩ = false := blk_frozen HC5.out _
 refine skip_ (w1 := ?_) (by rfl) rfl ?_ ?_
 rotate_left
 ·go_simp
  rfl
 refine hK.out _ _ ?_
 clear hK K
 refine done_ (done_of HT_.out (by kernel_rfl)) ?_
 try go_wp2
 go_end0
 have h0 : 0 ≤ i := of_eq_true p1
 have h8 : i < ((l1.length : Nat) : Int) := of_eq_true p2
 obtain ⟨hS, hG⟩ := slot_put HH5.out h0 h8 HRN.out (fun k hk => hk) (fun k hk => hk.elim (fun h => (HOK.out k h).2) (fun h e => by have h1_ := HG5.out; have h2_ := h.2; omega))
 have HKF := Kept.of_grown hG (HK6.out.mono (S' := P1) (fun k hk => (HOK.out k hk).1)) (fun k hk => .inl (by injection hk with hk; subst hk; exact (Kd.S_R HS1.out).1 _ rfl))
 rw [HM.out, ← HHI.out, HXI.out, ← NY.out, ← NYN.out]
 refine ⟨rfl, ws_near (blk_far BK5.out (fun e => GN.out e.symm) _) HO.out HD.out hS HS2.out HS3.out HKF, ?_, HKF.mono (fun k hk => .inl (HO.out.1 k hk).1)⟩
 exact HB6.out.grown hG (Nat.le_trans (Nat.le_trans HBG.out (Nat.le_of_lt (blk_lt BK.out))) HK6.out.1) (fun k hk => by injection hk with hk; subst hk; exact HG1.out)
set_option maxHeartbeats 8000000 in
set_option maxRecDepth 100000 in
theorem impl_lay.far (a x0 x1 x2 : Int) (l1 l2 m : List (List S46)) (l3 : List S46) (g base : Nat) (ok : Nat → Prop) (w0 w : World) (hB : Below base w0 w) (hbg : base ≤ g) (H : WS a g base w ok l1 l2 l3)
  (ha : 0 ≤ a) (ha2 : a ≤ 2147483647) (hx : 0 ≤ x2) (hx2 : x2 ≤ 2147483647) (hl : l2.length = 8) (hlen : (l2.getD (x2 / 8 % 8).toNat []).length ≤ 1000000) (hc : x2 / 8 - a / 8 ≠ 0) (hc2 : x2 / 8 - a / 8 < 8) (hm : m = (l2.set (x2 / 8 % 8).toNat (l2.getD (x2 / 8 % 8).toNat [] ++ [⟨x0, x1, x2⟩]))) :
  Calls Try.prog 75 #[.pointer (some ⟨g, 0, none⟩), .agg #[.int .i64 x0, .int .i64 x1, .int .i64 x2]] w fun e w' => e = .returned (.tuple #[]) ∧ WS a g base w' (fun k => ok k ∨ w.heap.size ≤ k) l1 m l3 ∧ Below base w0 w' ∧ Kept w w' (fun k => ok k ∨ k = g) := by
 obtain ⟨v1, v2, v3, hbk, hwr⟩ := H
 obtain ⟨P1, P2, P3, ⟨o1, o2, o3⟩, ⟨d1, d2, d3⟩, s1, s2, s3⟩ := hwr.types hbk (by decide) (by decide)
 have hbk0 := hbk
 obtain ⟨g1, cap, rfl, hg1, hg1l, cells1, hcells1⟩ := Kd.S_form s2 (by omega)
 have hp : Kd.S (Kd.slice 46 k46) 23 w base P2 (.slice (some ⟨g1, 0, none⟩) l2.length cap) l2 := s2
 obtain ⟨i, hi⟩ : ∃ i : Int, i = x2 / 8 % 8 := ⟨_, rfl⟩
 rw [← hi] at hlen
 have h0 : 0 ≤ i := by omega
 have h8 : i < (l2.length : Int) := by omega
 obtain ⟨oki, c, hcl, hM, hcc, hoki, HH⟩ := Kd.S_lend hp [] i h0 h8
 obtain ⟨vs, hv, hR⟩ := hM
 subst hv
 have hxs : w.cell? ⟨g1, i.toNat, none⟩ = some vs := by
  have := hcc 0 vs rfl
  have e : i.toNat * (Kd.slice 46 k46).sz + 0 = i.toNat := Nat.mul_one _
  rwa [e] at this
 have hfz : w.frozen? ⟨g1, i.toNat, none⟩ = false := by simp [World.frozen?, hcells1]
 obtain ⟨As, cs, rfl⟩ := Kd.R_slice hR
 have gne : g1 ≠ g := fun e => (o2 _ ((Kd.S_R hp).1 g1 rfl)).2 e
 have hRok : ∀ k, oki k → P2 k ∧ k ≠ g1 := hoki
 generalize hxi : l2.getD i.toNat [] = xi at *
 have BK := aM hbk0
 have HX := aM hxs
 have HC1 := aM hcells1
 have HRR := aM hR
 have HHH := aM HH
 have HO := aM (And.intro o1 (And.intro o2 o3))
 have HD := aM (And.intro d1 (And.intro d2 d3))
 have HS1 := aM s1
 have HS2 := aM s2
 have HS3 := aM s3
 have HOK := aM hRok
 have HB := aM hB
 have GN := aM gne
 have HLEN := aM hlen
 have HBG := aM hbg
 have HG1 := aM hg1
 have HHI := aM hi
 have HXI := aM hxi
 have p1 : (0 ≤ i) = True := eq_true h0
 have p2 : (i < ((l2.length : Nat) : Int)) = True := eq_true h8
 have htm : Int.tmod (wrap64 (Int.tdiv x2 8)) 8 = i := by
  rw [hi, Int.tdiv_eq_ediv_of_nonneg hx, show wrap64 (x2 / 8) = x2 / 8 by unfold wrap64; omega]; exact Int.tmod_eq_emod_of_nonneg (by omega)
 obtain ⟨q, hq⟩ : ∃ q, wrap64 (wrap64 (Int.tdiv x2 8) - wrap64 (Int.tdiv a 8)) = q := ⟨_, rfl⟩
 have hqq : q = x2 / 8 - a / 8 := by
  rw [← hq]
  rw [Int.tdiv_eq_ediv_of_nonneg hx, Int.tdiv_eq_ediv_of_nonneg ha]
  unfold wrap64
  omega
 obtain ⟨q1, q2⟩ := zf (show ¬ q = 0 by omega)
 have q3 : (q < 8) = True := eq_true (by omega)
 have q4 : decide (q < 8) = true := by simp [q3]
 clear hqq
 have HM := aM hm
 clear hm hbk hbk0 hxs hcells1 hfz hR HH o1 o2 o3 d1 d2 d3 s1 s2 s3 hRok hoki hB gne hlen hbg hg1 hg1l hp hcl hcc hwr hi hxi h0 h8 ha ha2 hx hx2 hl hc hc2
 have hu46 := Try.underlying46
 have hu25 := Try.underlying25
 go_enter Try.func75, Try.ntmps75
 go_wp2_with (first | ((with_reducible refine gD 3 rfl ?_); refine bE 3 #[.int .i64 x0, .int .i64 x1, .int .i64 x2] 46 ?_; intro gt hg w2 hbox hb; have BT := aM hbox; have GT := aM hg; have HB1 := aM hb; clear hbox hg hb))
 have BK2 := aM (blk_drew (blk_below BK.out HB1.out))
 have BT2 := zBD BT
 have HB2 := zLD HB1
 clear BT HB1
 refine start_ (n := 10) (S := fun w' => w'.cell? ⟨gt, 2, none⟩ = some (.int .i64 x2) ∧ w'.cell? ⟨g, 0, none⟩ = some (.int .i64 a)) (ds := []) (fB 10 0) (by kernel_rfl) rfl rfl ⟨(blk_cell BT2.out 2).trans rfl, (blk_cell BK2.out 0).trans rfl⟩ (fun hHeld => ?_); refine with_tabW impl_lay.tab1 impl_lay.bits1 (fun HT_ HW_ => ?_)
 generalize w2.drew = w3 at BK2 BT2 HB2 hHeld ⊢
 refine pY 0 6 (fB 10 1) HT_.out ?_
 refine pY 3 9 (fB 10 9) HT_.out ?_
 refine pY 4 10 (fB 10 25) HT_.out ?_
 refine pY 5 11 (fB 10 57) HT_.out ?_
 refine tY 1 7 (fB 10 59) HT_.out HW_.out hHeld ?_
 refine pY 2 8 (fB 10 63) HT_.out ?_
 refine tY 6 12 (fB 10 127) HT_.out HW_.out hHeld ?_
 refine pY 7 13 (fB 10 255) HT_.out ?_
 refine pY 8 14 (fB 10 511) HT_.out ?_
 refine pY 9 4 (fB 10 1023) HT_.out ?_
 refine done_ (done_of HT_.out (by kernel_rfl)) ?_
 have hcz := (blk_cell BT2.out 2).trans rfl
 try go_wp2
 obtain ⟨yb, hyb⟩ : ∃ yb : List S46, yb = [⟨x0, x1, x2⟩] := ⟨_, rfl⟩
 have NY := aM hyb
 clear hyb
 have BK3 := zBD BK2
 have BT3 := zBD BT2
 have HB3 := zLD HB2
 clear BK2 BT2 HB2
 refine start_ (n := 17) (S := fun w' => w'.cell? ⟨g, 2, none⟩ = some (.slice (some ⟨g1, 0, none⟩) l2.length cap) ∧ w'.cell? ⟨gt, 0, none⟩ = some (.int .i64 x0) ∧ w'.cell? ⟨gt, 1, none⟩ = some (.int .i64 x1) ∧ w'.cell? ⟨gt, 2, none⟩ = some (.int .i64 x2) ∧ w'.cell? ⟨g1, i.toNat, none⟩ = some (.slice As xi.length cs)) (ds := [16]) (fB 17 0) (by kernel_rfl) rfl rfl ⟨(blk_cell BK3.out 2).trans rfl, (blk_cell BT3.out 0).trans rfl, (blk_cell BT3.out 1).trans rfl, (blk_cell BT3.out 2).trans rfl, (HB3.out.cell (World.block_lt_of_cell? w _ HX.out)).trans HX.out⟩ (fun hHeld => ?_); refine with_tabW impl_lay.tab7 impl_lay.bits7 (fun HT_ HW_ => ?_)
 generalize w3.drew = w4 at BK3 BT3 HB3 hHeld ⊢
 refine pY 0 55 (fB 17 1) HT_.out ?_
 refine pY 1 56 (fB 17 3) HT_.out ?_
 refine pY 2 57 (fB 17 7) HT_.out ?_
 refine pY 4 59 (fB 17 23) HT_.out ?_
 refine pY 5 60 (fB 17 55) HT_.out ?_
 refine pY 6 61 (fB 17 119) HT_.out ?_
 refine pY 7 62 (fB 17 247) HT_.out ?_
 refine pY 9 64 (fB 17 759) HT_.out ?_
 refine tY 3 58 (fB 17 767) HT_.out HW_.out hHeld ?_
 refine tY 8 63 (fB 17 1023) HT_.out HW_.out hHeld ?_
 refine pY 10 65 (fB 17 2047) HT_.out ?_
 refine tY 11 66 (fB 17 4095) HT_.out HW_.out hHeld ?_
 refine tY 12 67 (fB 17 8191) HT_.out HW_.out hHeld ?_
 refine oN 13 68 (fB 17 16383) HT_.out fun K hK => ?_
 refine Kd.R_lit_step k46 _ 46 ?hg (N := 68) ?hd (xs := ([⟨x0, x1, x2⟩] : List S46)) (inner := [.int .i64 x0, .int .i64 x1, .int .i64 x2]) (ok := fun _ => True) (okp := fun _ => True) ?hr ?hp (fun _ hk => hk) trivial (Below.refl _ _) (Nat.le_refl _) (by simp) ?_; (case hd => rfl); (case hg => rfl); (case hr => first | (go_simp; done) | (go_simp; rfl)); (case hp => exact Reps.c3 (k46_mkM _ _ _ (⟨x0, x1, x2⟩ : S46)) (Reps.none _ _))
 intro vb w5 hrow hb5 hg_ hn_
 clear hg_ hn_
 rw [← NY.out] at hrow
 obtain ⟨Ab, cb, rfl⟩ := Kd.R_slice hrow
 have HRB := aM (Kd.R_reads' hrow)
 have BK4 := zBB BK3 hb5
 have BT4 := zBB BT3 hb5
 have HB4 := zLB HB3.out hb5
 clear hrow hb5 BK3 BT3 HB3
 refine hK.out _ _ ⟨(blk_cell BK4.out 2).trans rfl, (blk_cell BT4.out 0).trans rfl, (blk_cell BT4.out 1).trans rfl, (blk_cell BT4.out 2).trans rfl, (HB4.out.cell (World.block_lt_of_cell? w _ HX.out)).trans HX.out⟩ fun hHeld => ?_; clear hK K
 refine nZ 68 ?_
 refine oN 14 69 (fB 17 32767) HT_.out fun K hK => ?_
 have HBW := aM (below_then HB.out (Nat.le_trans HBG.out (Nat.le_of_lt (blk_lt BK.out))) HB4.out)
 have hbs : base ≤ w5.heap.size := Nat.le_trans (Nat.le_trans HBG.out (Nat.le_of_lt (blk_lt BK.out))) HB4.out.size
 refine Kd.R_append_rows_step k46 (w0 := w0) base (by rfl) (.tmp 66) (.tmp 68) 23 46 (.agg #[(.int .i64 0), (.int .i64 0), (.int .i64 0)]) 24 rfl Try.underlying23 info46 rfl (by decide) (by omega) _ xi yb _ _ _ (fun k => oki k ∨ (P2 k ∨ w.heap.size ≤ k) ∧ w5.heap.size ≤ k) (fun _ => False) rfl rfl ?aO ?aR (fun _ _ h => h) (fun _ h => h.elim) ?aF ?aB ?aS ?aL ?_
 (case aO => exact Kd.R_mono (Kd.R_below HRR.out HB4.out) (fun k h => .inl h))
 (case aR => exact HRB.out.2.2)
 (case aF => exact fun k hk => .inr ⟨.inr (Nat.le_trans HB4.out.size hk), hk⟩)
 (case aB => exact HBW.out)
 (case aS => exact hbs)
 (case aL => (have h1_ := HLEN.out; have h2_ : yb.length = 1 := (by rw [NY.out]; rfl); omega))
 intro vn w6 ho hb6 hg6 hat6
 clear hat6
 obtain ⟨yn, hyn⟩ : ∃ yn, yn = xi ++ yb := ⟨_, rfl⟩
 rw [← hyn] at ho
 have NYN := aM hyn
 clear hyn
 have hrk : ∀ k, (Value.slice As xi.length cs).ownBlock = some k → oki k := fun k hk => HRR.out.1 k hk
 have hoP : ∀ k, oki k → P2 k := fun k hk => (HOK.out k hk).1
 have HK6 := aM (Kept.of_grown hg6 (Kept.of_below HB4.out (fun k => oki k)) (fun k hk => .inl (hrk k hk)))
 have BK5 := aM (blk_grown BK4.out hg6 (fun e => (HO.out.2.1 g (hoP g (hrk g e.symm))).2 rfl))
 have BT5 := aM (blk_grown BT4.out hg6 (fun e => by have h_ := Kd.R_lt HRR.out gt e.symm; rw [GT.out] at h_; exact Nat.lt_irrefl _ h_))
 have HX5 := aM (cell_grown hg6 ((HB4.out.cell (World.block_lt_of_cell? w _ HX.out)).trans HX.out) (fun e => (HOK.out g1 (hrk g1 e.symm)).2 rfl))
 have HC5 := aM (blk_grown (blk_below HC1.out HB4.out) hg6 (fun e => (HOK.out g1 (hrk g1 e.symm)).2 rfl))
 have HH5 := aM (Kd.H_grown (Kd.H_widen (Kd.H_below (Kd.H_mono HHH.out (ok' := fun k => P2 k ∨ w.heap.size ≤ k) (fun k h => .inl h)) HB4.out)) hg6 (fun k hk => .inl (hrk k hk)))
 obtain ⟨An, cn, rfl⟩ := Kd.R_slice ho
 have HRN := aM ho
 have HB6 := aM hb6
 have HW5 := aM HB4.out.size
 have HG5 := aM (Nat.lt_of_lt_of_le (blk_lt HC1.out) HB4.out.size)
 clear ho hb6 hg6 hrk hoP hbs HBW HB4 BK4 BT4
 refine hK.out _ _ ⟨(blk_cell BK5.out 2).trans rfl, (blk_cell BT5.out 0).trans rfl, (blk_cell BT5.out 1).trans rfl, (blk_cell BT5.out 2).trans rfl, HX5.out⟩ fun hHeld => ?_; clear hK K
 refine nZ 69 ?_
 refine pY 15 70 (fB 17 65535) HT_.out ?_
 refine last_ (i := 16) (N := none) (fB 17 131071) rfl rfl (one_of HT_.out (by kernel_rfl)) (by decide) (fun K hK => ?_)
 have hxs6 := HX5.out
 have hfs6 : w6.frozen? ⟨g1, i.toNat, none⟩ = false := blk_frozen HC5.out _
 refine skip_ (w1 := ?_) (by rfl) rfl ?_ ?_
 rotate_left
 ·go_simp
  rfl
 refine hK.out _ _ ?_
 clear hK K
 refine done_ (done_of HT_.out (by kernel_rfl)) ?_
 try go_wp2
 go_end0
 have h0 : 0 ≤ i := of_eq_true p1
 have h8 : i < ((l2.length : Nat) : Int) := of_eq_true p2
 obtain ⟨hS, hG⟩ := slot_put HH5.out h0 h8 HRN.out (fun k hk => hk) (fun k hk => hk.elim (fun h => (HOK.out k h).2) (fun h e => by have h1_ := HG5.out; have h2_ := h.2; omega))
 have HKF := Kept.of_grown hG (HK6.out.mono (S' := P2) (fun k hk => (HOK.out k hk).1)) (fun k hk => .inl (by injection hk with hk; subst hk; exact (Kd.S_R HS2.out).1 _ rfl))
 rw [HM.out, ← HHI.out, HXI.out, ← NY.out, ← NYN.out]
 refine ⟨rfl, ws_far (blk_far BK5.out (fun e => GN.out e.symm) _) HO.out HD.out hS HS1.out HS3.out HKF, ?_, HKF.mono (fun k hk => .inl (HO.out.2.1 k hk).1)⟩
 exact HB6.out.grown hG (Nat.le_trans (Nat.le_trans HBG.out (Nat.le_of_lt (blk_lt BK.out))) HK6.out.1) (fun k hk => by injection hk with hk; subst hk; exact HG1.out)
set_option maxHeartbeats 8000000 in
set_option maxRecDepth 100000 in
theorem impl_lay.rest (a x0 x1 x2 : Int) (l1 l2 : List (List S46)) (l3 m : List S46) (g base : Nat) (ok : Nat → Prop) (w0 w : World) (hB : Below base w0 w) (hbg : base ≤ g) (H : WS a g base w ok l1 l2 l3)
  (ha : 0 ≤ a) (ha2 : a ≤ 2147483647) (hx : 0 ≤ x2) (hx2 : x2 ≤ 2147483647) (hlen : l3.length ≤ 1000000) (hc : x2 / 8 - a / 8 ≠ 0) (hc2 : ¬ x2 / 8 - a / 8 < 8) (hm : m = l3 ++ [⟨x0, x1, x2⟩]) :
  Calls Try.prog 75 #[.pointer (some ⟨g, 0, none⟩), .agg #[.int .i64 x0, .int .i64 x1, .int .i64 x2]] w fun e w' => e = .returned (.tuple #[]) ∧ WS a g base w' (fun k => ok k ∨ w.heap.size ≤ k) l1 l2 m ∧ Below base w0 w' ∧ Kept w w' (fun k => ok k ∨ k = g) := by
 obtain ⟨v1, v2, v3, hbk, hwr⟩ := H
 obtain ⟨P1, P2, P3, ⟨o1, o2, o3⟩, ⟨d1, d2, d3⟩, s1, s2, s3⟩ := hwr.types hbk (by decide) (by decide)
 obtain ⟨A3, c3, rfl⟩ := Kd.R_slice s3
 have BK := aM hbk
 have HO := aM (And.intro o1 (And.intro o2 o3))
 have HD := aM (And.intro d1 (And.intro d2 d3))
 have HS1 := aM s1
 have HS2 := aM s2
 have HS3 := aM s3
 have HB := aM hB
 have HLEN := aM hlen
 have HBG := aM hbg
 have HM := aM hm
 have e1 : wrap64 (Int.tdiv x2 8) = x2 / 8 := by rw [Int.tdiv_eq_ediv_of_nonneg hx]; unfold wrap64; omega
 have e2 : wrap64 (Int.tdiv a 8) = a / 8 := by rw [Int.tdiv_eq_ediv_of_nonneg ha]; unfold wrap64; omega
 have e3 : wrap64 (x2 / 8 - a / 8) = x2 / 8 - a / 8 := by unfold wrap64; omega
 obtain ⟨q, hq⟩ : ∃ q, wrap64 (wrap64 (Int.tdiv x2 8) - wrap64 (Int.tdiv a 8)) = q := ⟨_, rfl⟩
 have hqq : q = x2 / 8 - a / 8 := by rw [← hq, e1, e2, e3]
 obtain ⟨q1, q2⟩ := zf (show ¬ q = 0 by omega)
 have q3 : (q < 8) = False := eq_false (by omega)
 have q4 : decide (q < 8) = false := by simp [q3]
 clear hqq e1 e2 e3
 clear hm hbk o1 o2 o3 d1 d2 d3 s1 s2 s3 hwr hlen hbg hB ha ha2 hx hx2 hc hc2
 have hu46 := Try.underlying46
 have hu25 := Try.underlying25
 go_enter Try.func75, Try.ntmps75
 go_wp2_with (first | ((with_reducible refine gD 3 rfl ?_); refine bE 3 #[.int .i64 x0, .int .i64 x1, .int .i64 x2] 46 ?_; intro gt hg w2 hbox hb; have BT := aM hbox; have GT := aM hg; have HB1 := aM hb; clear hbox hg hb))
 have BK2 := aM (blk_drew (blk_below BK.out HB1.out))
 have BT2 := zBD BT
 have HB2 := zLD HB1
 clear BT HB1
 refine start_ (n := 10) (S := fun w' => w'.cell? ⟨gt, 2, none⟩ = some (.int .i64 x2) ∧ w'.cell? ⟨g, 0, none⟩ = some (.int .i64 a)) (ds := []) (fB 10 0) (by kernel_rfl) rfl rfl ⟨(blk_cell BT2.out 2).trans rfl, (blk_cell BK2.out 0).trans rfl⟩ (fun hHeld => ?_); refine with_tabW impl_lay.tab1 impl_lay.bits1 (fun HT_ HW_ => ?_)
 generalize w2.drew = w3 at BK2 BT2 HB2 hHeld ⊢
 refine pY 0 6 (fB 10 1) HT_.out ?_
 refine pY 3 9 (fB 10 9) HT_.out ?_
 refine pY 4 10 (fB 10 25) HT_.out ?_
 refine pY 5 11 (fB 10 57) HT_.out ?_
 refine tY 1 7 (fB 10 59) HT_.out HW_.out hHeld ?_
 refine pY 2 8 (fB 10 63) HT_.out ?_
 refine tY 6 12 (fB 10 127) HT_.out HW_.out hHeld ?_
 refine pY 7 13 (fB 10 255) HT_.out ?_
 refine pY 8 14 (fB 10 511) HT_.out ?_
 refine pY 9 4 (fB 10 1023) HT_.out ?_
 refine done_ (done_of HT_.out (by kernel_rfl)) ?_
 have hcz := (blk_cell BT2.out 2).trans rfl
 try go_wp2
 obtain ⟨yb, hyb⟩ : ∃ yb : List S46, yb = [⟨x0, x1, x2⟩] := ⟨_, rfl⟩
 have NY := aM hyb
 clear hyb
 have BK3 := zBD BK2
 have BT3 := zBD BT2
 have HB3 := zLD HB2
 clear BK2 BT2 HB2 hcz
 refine start_ (n := 11) (S := fun w' => w'.cell? ⟨g, 3, none⟩ = some (.slice A3 l3.length c3) ∧ w'.cell? ⟨gt, 0, none⟩ = some (.int .i64 x0) ∧ w'.cell? ⟨gt, 1, none⟩ = some (.int .i64 x1) ∧ w'.cell? ⟨gt, 2, none⟩ = some (.int .i64 x2)) (ds := [10]) (fB 11 0) (by kernel_rfl) rfl rfl ⟨(blk_cell BK3.out 3).trans rfl, (blk_cell BT3.out 0).trans rfl, (blk_cell BT3.out 1).trans rfl, (blk_cell BT3.out 2).trans rfl⟩ (fun hHeld => ?_); refine with_tabW impl_lay.tab2 impl_lay.bits2 (fun HT_ HW_ => ?_)
 generalize w3.drew = w4 at BK3 BT3 HB3 hHeld ⊢
 refine pY 0 15 (fB 11 1) HT_.out ?_
 refine pY 1 16 (fB 11 3) HT_.out ?_
 refine pY 2 17 (fB 11 7) HT_.out ?_
 refine pY 3 18 (fB 11 15) HT_.out ?_
 refine tY 4 19 (fB 11 31) HT_.out HW_.out hHeld ?_
 refine tY 5 20 (fB 11 63) HT_.out HW_.out hHeld ?_
 refine oN 6 21 (fB 11 127) HT_.out fun K hK => ?_
 refine Kd.R_lit_step k46 _ 46 ?hg (N := 21) ?hd (xs := ([⟨x0, x1, x2⟩] : List S46)) (inner := [.int .i64 x0, .int .i64 x1, .int .i64 x2]) (ok := fun _ => True) (okp := fun _ => True) ?hr ?hp (fun _ hk => hk) trivial (Below.refl _ _) (Nat.le_refl _) (by simp) ?_; (case hd => rfl); (case hg => rfl); (case hr => first | (go_simp; done) | (go_simp; rfl)); (case hp => exact Reps.c3 (k46_mkM _ _ _ (⟨x0, x1, x2⟩ : S46)) (Reps.none _ _))
 intro vb w5 hrow hb5 hg_ hn_
 clear hg_ hn_
 rw [← NY.out] at hrow
 obtain ⟨Ab, cb, rfl⟩ := Kd.R_slice hrow
 have HRB := aM (Kd.R_reads' hrow)
 have BK4 := zBB BK3 hb5
 have BT4 := zBB BT3 hb5
 have HB4 := zLB HB3.out hb5
 clear hrow hb5 BK3 BT3 HB3
 refine hK.out _ _ ⟨(blk_cell BK4.out 3).trans rfl, (blk_cell BT4.out 0).trans rfl, (blk_cell BT4.out 1).trans rfl, (blk_cell BT4.out 2).trans rfl⟩ fun hHeld => ?_; clear hK K
 refine nZ 21 ?_
 refine oN 7 22 (fB 11 255) HT_.out fun K hK => ?_
 have HBW := aM (below_then HB.out (Nat.le_trans HBG.out (Nat.le_of_lt (blk_lt BK.out))) HB4.out)
 have hbs : base ≤ w5.heap.size := Nat.le_trans (Nat.le_trans HBG.out (Nat.le_of_lt (blk_lt BK.out))) HB4.out.size
 refine Kd.R_append_rows_step k46 (w0 := w0) base (by rfl) (.tmp 19) (.tmp 21) 23 46 (.agg #[(.int .i64 0), (.int .i64 0), (.int .i64 0)]) 24 rfl Try.underlying23 info46 rfl (by decide) (by omega) _ l3 yb _ _ _ (fun k => P3 k ∨ w.heap.size ≤ k) (fun _ => False) rfl rfl ?aO ?aR (fun _ _ h => h) (fun _ h => h.elim) ?aF ?aB ?aS ?aL ?_
 (case aO => exact Kd.R_mono (Kd.R_below HS3.out HB4.out) (fun k h => .inl h))
 (case aR => exact HRB.out.2.2)
 (case aF => exact fun k hk => .inr (Nat.le_trans HB4.out.size hk))
 (case aB => exact HBW.out)
 (case aS => exact hbs)
 (case aL => (have h1_ := HLEN.out; have h2_ : yb.length = 1 := (by rw [NY.out]; rfl); omega))
 intro vn w6 ho hb6 hg6 hat6
 clear hat6
 obtain ⟨yn, hyn⟩ : ∃ yn, yn = l3 ++ yb := ⟨_, rfl⟩
 rw [← hyn] at ho
 have NYN := aM hyn
 clear hyn
 have hrk : ∀ k, (Value.slice A3 l3.length c3).ownBlock = some k → P3 k := fun k hk => HS3.out.1 k hk
 have HK6 := aM (Kept.of_grown hg6 (Kept.of_below HB4.out (fun k => P3 k)) (fun k hk => .inl (hrk k hk)))
 have BK5 := aM (blk_grown BK4.out hg6 (fun e => (HO.out.2.2 g (hrk g e.symm)).2 rfl))
 have BT5 := aM (blk_grown BT4.out hg6 (fun e => by have h_ := Kd.R_lt HS3.out gt e.symm; rw [GT.out] at h_; exact Nat.lt_irrefl _ h_))
 obtain ⟨An, cn, rfl⟩ := Kd.R_slice ho
 have HRN := aM ho
 have HB6 := aM hb6
 clear ho hb6 hg6 hrk hbs HBW HB4 BK4 BT4
 refine hK.out _ _ ⟨(blk_cell BK5.out 3).trans rfl, (blk_cell BT5.out 0).trans rfl, (blk_cell BT5.out 1).trans rfl, (blk_cell BT5.out 2).trans rfl⟩ fun hHeld => ?_; clear hK K
 refine nZ 22 ?_
 refine pY 8 23 (fB 11 511) HT_.out ?_
 refine pY 9 24 (fB 11 1023) HT_.out ?_
 refine last_ (i := 10) (N := none) (fB 11 2047) rfl rfl (one_of HT_.out (by kernel_rfl)) (by decide) (fun K hK => ?_)
 have hcs6 := (blk_cell BK5.out 3).trans rfl
 have hfs6 := blk_frozen BK5.out 3
 refine skip_ (w1 := ?_) (by rfl) rfl ?_ ?_
 rotate_left
 ·go_simp
  rfl
 refine hK.out _ _ ?_
 clear hK K
 refine done_ (done_of HT_.out (by kernel_rfl)) ?_
 try go_wp2
 go_end0
 have HKF := (HK6.out.mono (S' := fun k => P3 k ∨ k = g) (fun k hk => .inl hk)).setCell (p := ⟨g, 3, none⟩) (.inl (.inr rfl)) (.slice An yn.length cn)
 rw [HM.out, ← NY.out, ← NYN.out]
 refine ⟨rfl, ws_rest (blk_put BK5.out 3 _ rfl) HO.out HD.out (Kd.R_far (p := ⟨g, 3, none⟩) HRN.out (fun k hk => hk.elim (fun h => (HO.out.2.2 k h).2) (fun h e => by have h_ := blk_lt BK.out; have e_ : k = g := e; omega)) _) HS1.out HS2.out HKF, ?_, HKF.mono (fun k hk => hk.elim (fun h => .inl (HO.out.2.2 k h).1) .inr)⟩
 exact HB6.out.setCell HBG.out _
theorem impl_lay.calls (a x0 x1 x2 : Int) (l1 l2 : List (List S46)) (l3 : List S46) (g base : Nat) (ok : Nat → Prop) (w0 w : World) (hB : Below base w0 w) (hbg : base ≤ g) (H : WS a g base w ok l1 l2 l3) (h : layOk a ⟨x0, x1, x2⟩ l1 l2 l3 = true) (m1 m2 : List (List S46)) (m3 : List S46) (hm : layV a ⟨x0, x1, x2⟩ l1 l2 l3 = (m1, m2, m3)) :
  Calls Try.prog 75 #[.pointer (some ⟨g, 0, none⟩), .agg #[.int .i64 x0, .int .i64 x1, .int .i64 x2]] w fun e w' => e = .returned (.tuple #[]) ∧ WS a g base w' (fun k => ok k ∨ w.heap.size ≤ k) m1 m2 m3 ∧ Below base w0 w' ∧ Kept w w' (fun k => ok k ∨ k = g) := by
 obtain ⟨h1, h2, h3, h4, h5, h6, h7, h8, h9⟩ := layOk_spec h
 simp only at h3 h4
 unfold layV at hm
 simp only at hm
 by_cases c : x2 / 8 - a / 8 = 0
 ·rw [if_pos c] at hm
  simp only [Prod.mk.injEq] at hm
  obtain ⟨e1, rfl, rfl⟩ := hm
  exact impl_lay.near a x0 x1 x2 l1 l2 m1 l3 g base ok w0 w hB hbg H h1 h2 h3 h4 h5 (getD_len l1 h7 _) c e1.symm
 ·rw [if_neg c] at hm
  by_cases c2 : x2 / 8 - a / 8 < 8
  ·rw [if_pos c2] at hm
   simp only [Prod.mk.injEq] at hm
   obtain ⟨rfl, e1, rfl⟩ := hm
   exact impl_lay.far a x0 x1 x2 l1 l2 m2 l3 g base ok w0 w hB hbg H h1 h2 h3 h4 h6 (getD_len l2 h8 _) c c2 e1.symm
  ·rw [if_neg c2] at hm
   simp only [Prod.mk.injEq] at hm
   obtain ⟨rfl, rfl, e1⟩ := hm
   exact impl_lay.rest a x0 x1 x2 l1 l2 l3 m3 g base ok w0 w hB hbg H h1 h2 h3 h4 h9 c c2 e1.symm

end Go.Proofs.Ytggenhomnbnodaa.QFnTimes
