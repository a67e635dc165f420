/- What the Go functions that the law FnTicks reaches answer: each as a Lean function, with its walk. Written by a program of this session. Conditions: those that each theorem names. -/
import Derived.Test.YtggenhomnbnodaaQFnTicksx0
import Derived.Test.YtggenhomnbnodaaQFnTicksx4
import Derived.Test.YtggenhomnbnodaaQFnTicksx6
import Derived.Test.YtggenhomnbnodaaQFnTicksx7
import Derived.Test.YtggenhomnbnodaaQFnTicksx8
namespace Go.Proofs.Ytggenhomnbnodaa.QFnTicks
open Go.RowKit Go.Proofs.YtggenhomnbnodaaW.PrintWords Go.Proofs.YtggenhomnbnodaaW.PrintLast Go.Proofs.YtggenhomnbnodaaW.PrintMore
attribute [local go_sem] max2_int min2_int max_two min_two max_three min_three max_four min_four   -- for this text's walks alone
set_option linter.unusedVariables false
set_option linter.unusedSimpArgs false

def impl_lay.T1 : Bool × List (List Nat × List Nat) := (true, [([], []), ([0], [0]), ([1], [1]), ([], []), ([3], [3]), ([4], [4]), ([5], [5]), ([6], [6]), ([2, 7], [2, 7]), ([8, 0, 1, 2, 3, 4, 5, 6, 7, 8], [8])])
def impl_lay.B1 : List Nat := [0, 1, 3, 0, 8, 24, 56, 120, 255, 511]
theorem impl_lay.tab1 : rtab .any (opsOf Try.f75 1) = impl_lay.T1 := by kernel_rfl
theorem impl_lay.bits1 : waitsOk impl_lay.T1.2 impl_lay.B1 = true := by kernel_rfl
def impl_lay.T2 : Bool × List (List Nat × List Nat) := (true, [([], []), ([], []), ([1], [1]), ([2], [2]), ([3], [3]), ([], []), ([5], [5]), ([4, 6], [4, 6]), ([0, 0, 1, 2, 3, 4, 5, 6, 7], [0]), ([8, 0, 1, 2, 3, 4, 5, 6, 7], [8]), ([9, 7, 7, 0, 1, 2, 3, 4, 5, 6, 7], [7, 9])])
def impl_lay.B2 : List Nat := [0, 0, 2, 6, 14, 0, 32, 126, 255, 511, 1023]
theorem impl_lay.tab2 : rtab .any (opsOf Try.f75 2) = impl_lay.T2 := by kernel_rfl
theorem impl_lay.bits2 : waitsOk impl_lay.T2.2 impl_lay.B2 = true := by kernel_rfl
def impl_lay.T4 : Bool × List (List Nat × List Nat) := (true, [([], []), ([0], [0]), ([1], [1]), ([2], [2]), ([], []), ([4], [4]), ([5], [5]), ([], []), ([7], [7]), ([8], [8]), ([9], [9]), ([], []), ([11], [11]), ([12], [12]), ([10, 13], [10, 13]), ([14], [14]), ([], []), ([16], [16]), ([15, 17], [15, 17]), ([3, 6, 0, 1, 2, 3, 4, 5, 6, 7, 8, 9, 10, 11, 12, 13, 14, 15, 16, 17, 18], [3, 6]), ([19, 18, 18, 0, 1, 2, 3, 4, 5, 6, 7, 8, 9, 10, 11, 12, 13, 14, 15, 16, 17, 18], [18, 19])])
def impl_lay.B4 : List Nat := [0, 1, 3, 7, 0, 16, 48, 0, 128, 384, 896, 0, 2048, 6144, 16256, 32640, 0, 65536, 262016, 524287, 1048575]
theorem impl_lay.tab4 : rtab .any (opsOf Try.f75 4) = impl_lay.T4 := by kernel_rfl
theorem impl_lay.bits4 : waitsOk impl_lay.T4.2 impl_lay.B4 = true := by kernel_rfl
def impl_lay.T7 : Bool × List (List Nat × List Nat) := (true, [([], []), ([0], [0]), ([1], [1]), ([2], [2]), ([], []), ([], []), ([5], [5]), ([6], [6]), ([7], [7]), ([], []), ([8, 9], [8, 9]), ([10], [10]), ([], []), ([12], [12]), ([11, 13], [11, 13]), ([3, 4, 0, 1, 2, 3, 4, 5, 6, 7, 8, 9, 10, 11, 12, 13, 14], [3, 4]), ([15, 14, 14, 0, 1, 2, 3, 4, 5, 6, 7, 8, 9, 10, 11, 12, 13, 14], [14, 15])])
def impl_lay.B7 : List Nat := [0, 1, 3, 7, 0, 0, 32, 96, 224, 0, 992, 2016, 0, 4096, 16352, 32767, 65535]
theorem impl_lay.tab7 : rtab .any (opsOf Try.f75 7) = impl_lay.T7 := by kernel_rfl
theorem impl_lay.bits7 : waitsOk impl_lay.T7.2 impl_lay.B7 = true := by kernel_rfl
set_option maxHeartbeats 8000000 in
set_option maxRecDepth 100000 in
theorem impl_lay.near (a x0 x1 x2 : Int) (l1 l2 m : List (List S46)) (l3 : List S46) (g base : Nat) (ok : Nat → Prop) (w0 w : World) (hB : Below base w0 w) (hbg : base ≤ g) (H : WS a g base w ok l1 l2 l3)
  (ha : 0 ≤ a) (ha2 : a ≤ 2147483647) (hx : 0 ≤ x2) (hx2 : x2 ≤ 2147483647) (hl : l1.length = 8) (hlen : (l1.getD (x2 % 8).toNat []).length ≤ 1000000) (hc : x2 / 8 - a / 8 = 0) (hm : m = (l1.set (x2 % 8).toNat (l1.getD (x2 % 8).toNat [] ++ [⟨x0, x1, x2⟩]))) :
  Calls Try.prog 75 #[.pointer (some ⟨g, 0, none⟩), .agg #[.int .i64 x0, .int .i64 x1, .int .i64 x2]] w fun e w' => e = .returned (.tuple #[]) ∧ WS a g base w' (fun k => ok k ∨ w.heap.size ≤ k) m l2 l3 ∧ Below base w0 w' ∧ Kept w w' (fun k => ok k ∨ k = g) := by
 obtain ⟨v1, v2, v3, hbk, hwr⟩ := H
 obtain ⟨P1, P2, P3, ⟨o1, o2, o3⟩, ⟨d1, d2, d3⟩, s1, s2, s3⟩ := hwr.types hbk (by decide) (by decide)
 have hbk0 := hbk
 obtain ⟨g1, cap, rfl, hg1, hg1l, cells1, hcells1⟩ := Kd.S_form s1 (by omega)
 have hp : Kd.S (Kd.slice 46 k46) 23 w base P1 (.slice (some ⟨g1, 0, none⟩) l1.length cap) l1 := s1
 obtain ⟨i, hi⟩ : ∃ i : Int, i = x2 % 8 := ⟨_, rfl⟩
 rw [← hi] at hlen
 have h0 : 0 ≤ i := by omega
 have h8 : i < (l1.length : Int) := by omega
 obtain ⟨oki, c, hcl, hM, hcc, hoki, HH⟩ := Kd.S_lend hp [] i h0 h8
 obtain ⟨vs, hv, hR⟩ := hM
 subst hv
 have hxs : w.cell? ⟨g1, i.toNat, none⟩ = some vs := by
  have := hcc 0 vs rfl
  have e : i.toNat * (Kd.slice 46 k46).sz + 0 = i.toNat := Nat.mul_one _
  rwa [e] at this
 have hfz : w.frozen? ⟨g1, i.toNat, none⟩ = false := by simp [World.frozen?, hcells1]
 obtain ⟨As, cs, rfl⟩ := Kd.R_slice hR
 have gne : g1 ≠ g := fun e => (o1 _ ((Kd.S_R hp).1 g1 rfl)).2 e
 have hRok : ∀ k, oki k → P1 k ∧ k ≠ g1 := hoki
 generalize hxi : l1.getD i.toNat [] = xi at *
 have BK := aM hbk0
 have HX := aM hxs
 have HC1 := aM hcells1
 have HRR := aM hR
 have HHH := aM HH
 have HO := aM (And.intro o1 (And.intro o2 o3))
 have HD := aM (And.intro d1 (And.intro d2 d3))
 have HS1 := aM s1
 have HS2 := aM s2
 have HS3 := aM s3
 have HOK := aM hRok
 have HB := aM hB
 have GN := aM gne
 have HLEN := aM hlen
 have HBG := aM hbg
 have HG1 := aM hg1
 have HHI := aM hi
 have HXI := aM hxi
 have p1 : (0 ≤ i) = True := eq_true h0
 have p2 : (i < ((l1.length : Nat) : Int)) = True := eq_true h8
 have htm : Int.tmod x2 8 = i := by rw [hi]; exact Int.tmod_eq_emod_of_nonneg hx
 have hq : wrap64 (wrap64 (Int.tdiv x2 8) - wrap64 (Int.tdiv a 8)) = 0 := by
  rw [Int.tdiv_eq_ediv_of_nonneg hx, Int.tdiv_eq_ediv_of_nonneg ha]
  unfold wrap64
  omega
 obtain ⟨q1, q2⟩ := zt hq
 have HM := aM hm
 clear hm hbk hbk0 hxs hcells1 hfz hR HH o1 o2 o3 d1 d2 d3 s1 s2 s3 hRok hoki hB gne hlen hbg hg1 hg1l hp hcl hcc hwr hi hxi h0 h8 ha ha2 hx hx2 hl hc
 have hu46 := Try.underlying46
 have hu25 := Try.underlying25
 go_enter Try.func75, Try.ntmps75
 go_wp2_with (first | ((with_reducible refine gD 3 rfl ?_); refine bE 3 #[.int .i64 x0, .int .i64 x1, .int .i64 x2] 46 ?_; intro gt hg w2 hbox hb; have BT := aM hbox; have GT := aM hg; have HB1 := aM hb; clear hbox hg hb))
 have BK2 := aM (blk_drew (blk_below BK.out HB1.out))
 have BT2 := zBD BT
 have HB2 := zLD HB1
 clear BT HB1
 refine start_ (n := 10) (S := fun w' => w'.cell? ⟨gt, 2, none⟩ = some (.int .i64 x2) ∧ w'.cell? ⟨g, 0, none⟩ = some (.int .i64 a)) (ds := []) (fB 10 0) (by kernel_rfl) rfl rfl ⟨(blk_cell BT2.out 2).trans rfl, (blk_cell BK2.out 0).trans rfl⟩ (fun hHeld => ?_); refine with_tabW impl_lay.tab1 impl_lay.bits1 (fun HT_ HW_ => ?_)
 generalize w2.drew = w3 at BK2 BT2 HB2 hHeld ⊢
 refine pY 0 6 (fB 10 1) HT_.out ?_
 refine pY 3 9 (fB 10 9) HT_.out ?_
 refine pY 4 10 (fB 10 25) HT_.out ?_
 refine pY 5 11 (fB 10 57) HT_.out ?_
 refine tY 1 7 (fB 10 59) HT_.out HW_.out hHeld ?_
 refine pY 2 8 (fB 10 63) HT_.out ?_
 refine tY 6 12 (fB 10 127) HT_.out HW_.out hHeld ?_
 refine pY 7 13 (fB 10 255) HT_.out ?_
 refine pY 8 14 (fB 10 511) HT_.out ?_
 refine pY 9 4 (fB 10 1023) HT_.out ?_
 refine done_ (done_of HT_.out (by kernel_rfl)) ?_
 have hcz := (blk_cell BT2.out 2).trans rfl
 try go_wp2
 obtain ⟨yb, hyb⟩ : ∃ yb : List S46, yb = [⟨x0, x1, x2⟩] := ⟨_, rfl⟩
 have NY := aM hyb
 clear hyb
 have BK3 := zBD BK2
 have BT3 := zBD BT2
 have HB3 := zLD HB2
 clear BK2 BT2 HB2
 refine start_ (n := 21) (S := fun w' => w'.cell? ⟨g, 1, none⟩ = some (.slice (some ⟨g1, 0, none⟩) l1.length cap) ∧ w'.cell? ⟨gt, 0, none⟩ = some (.int .i64 x0) ∧ w'.cell? ⟨gt, 1, none⟩ = some (.int .i64 x1) ∧ w'.cell? ⟨gt, 2, none⟩ = some (.int .i64 x2) ∧ w'.cell? ⟨g1, i.toNat, none⟩ = some (.slice As xi.length cs)) (ds := [20]) (fB 21 0) (by kernel_rfl) rfl rfl ⟨(blk_cell BK3.out 1).trans rfl, (blk_cell BT3.out 0).trans rfl, (blk_cell BT3.out 1).trans rfl, (blk_cell BT3.out 2).trans rfl, (HB3.out.cell (World.block_lt_of_cell? w _ HX.out)).trans HX.out⟩ (fun hHeld => ?_); refine with_tabW impl_lay.tab4 impl_lay.bits4 (fun HT_ HW_ => ?_)
 generalize w3.drew = w4 at BK3 BT3 HB3 hHeld ⊢
 refine pY 0 28 (fB 21 1) HT_.out ?_
 refine pY 1 29 (fB 21 3) HT_.out ?_
 refine pY 2 30 (fB 21 7) HT_.out ?_
 refine pY 4 32 (fB 21 23) HT_.out ?_
 refine pY 7 35 (fB 21 151) HT_.out ?_
 refine pY 8 36 (fB 21 407) HT_.out ?_
 refine pY 9 37 (fB 21 919) HT_.out ?_
 refine pY 11 39 (fB 21 2967) HT_.out ?_
 refine tY 3 31 (fB 21 2975) HT_.out HW_.out hHeld ?_
 refine tY 5 33 (fB 21 3007) HT_.out HW_.out hHeld ?_
 refine pY 6 34 (fB 21 3071) HT_.out ?_
 refine tY 10 38 (fB 21 4095) HT_.out HW_.out hHeld ?_
 refine tY 12 40 (fB 21 8191) HT_.out HW_.out hHeld ?_
 refine pY 13 41 (fB 21 16383) HT_.out ?_
 refine pY 14 42 (fB 21 32767) HT_.out ?_
 refine tY 15 43 (fB 21 65535) HT_.out HW_.out hHeld ?_
 refine tY 16 44 (fB 21 131071) HT_.out HW_.out hHeld ?_
 refine oN 17 45 (fB 21 262143) HT_.out fun K hK => ?_
 refine Kd.R_lit_step k46 _ 46 ?hg (N := 45) ?hd (xs := ([⟨x0, x1, x2⟩] : List S46)) (inner := [.int .i64 x0, .int .i64 x1, .int .i64 x2]) (ok := fun _ => True) (okp := fun _ => True) ?hr ?hp (fun _ hk => hk) trivial (Below.refl _ _) (Nat.le_refl _) (by simp) ?_; (case hd => rfl); (case hg => rfl); (case hr => first | (go_simp; done) | (go_simp; rfl)); (case hp => exact Reps.c3 (k46_mkM _ _ _ (⟨x0, x1, x2⟩ : S46)) (Reps.none _ _))
 intro vb w5 hrow hb5 hg_ hn_
 clear hg_ hn_
 rw [← NY.out] at hrow
 obtain ⟨Ab, cb, rfl⟩ := Kd.R_slice hrow
 have HRB := aM (Kd.R_reads' hrow)
 have BK4 := zBB BK3 hb5
 have BT4 := zBB BT3 hb5
 have HB4 := zLB HB3.out hb5
 clear hrow hb5 BK3 BT3 HB3
 refine hK.out _ _ ⟨(blk_cell BK4.out 1).trans rfl, (blk_cell BT4.out 0).trans rfl, (blk_cell BT4.out 1).trans rfl, (blk_cell BT4.out 2).trans rfl, (HB4.out.cell (World.block_lt_of_cell? w _ HX.out)).trans HX.out⟩ fun hHeld => ?_; clear hK K
 refine nZ 45 ?_
 refine oN 18 46 (fB 21 524287) HT_.out fun K hK => ?_
 have HBW := aM (below_then HB.out (Nat.le_trans HBG.out (Nat.le_of_lt (blk_lt BK.out))) HB4.out)
 have hbs : base ≤ w5.heap.size := Nat.le_trans (Nat.le_trans HBG.out (Nat.le_of_lt (blk_lt BK.out))) HB4.out.size
 refine Kd.R_append_rows_step k46 (w0 := w0) base (by rfl) (.tmp 43) (.tmp 45) 23 46 (.agg #[(.int .i64 0), (.int .i64 0), (.int .i64 0)]) 24 rfl Try.underlying23 info46 rfl (by decide) (by omega) _ xi yb _ _ _ (fun k => oki k ∨ (P1 k ∨ w.heap.size ≤ k) ∧ w5.heap.size ≤ k) (fun _ => False) rfl rfl ?aO ?aR (fun _ _ h => h) (fun _ h => h.elim) ?aF ?aB ?aS ?aL ?_
 (case aO => exact Kd.R_mono (Kd.R_below HRR.out HB4.out) (fun k h => .inl h))
 (case aR => exact HRB.out.2.2)
 (case aF => exact fun k hk => .inr ⟨.inr (Nat.le_trans HB4.out.size hk), hk⟩)
 (case aB => exact HBW.out)
 (case aS => exact hbs)
 (case aL => (have h1_ := HLEN.out; have h2_ : yb.length = 1 := (by rw [NY.out]; rfl); omega))
 intro vn w6 ho hb6 hg6 hat6
 clear hat6
 obtain ⟨yn, hyn⟩ : ∃ yn, yn = xi ++ yb := ⟨_, rfl⟩
 rw [← hyn] at ho
 have NYN := aM hyn
 clear hyn
 have hrk : ∀ k, (Value.slice As xi.length cs).ownBlock = some k → oki k := fun k hk => HRR.out.1 k hk
 have hoP : ∀ k, oki k → P1 k := fun k hk => (HOK.out k hk).1
 have HK6 := aM (Kept.of_grown hg6 (Kept.of_below HB4.out (fun k => oki k)) (fun k hk => .inl (hrk k hk)))
 have BK5 := aM (blk_grown BK4.out hg6 (fun e => (HO.out.1 g (hoP g (hrk g e.symm))).2 rfl))
 have BT5 := aM (blk_grown BT4.out hg6 (fun e => by have h_ := Kd.R_lt HRR.out gt e.symm; rw [GT.out] at h_; exact Nat.lt_irrefl _ h_))
 have HX5 := aM (cell_grown hg6 ((HB4.out.cell (World.block_lt_of_cell? w _ HX.out)).trans HX.out) (fun e => (HOK.out g1 (hrk g1 e.symm)).2 rfl))
 have HC5 := aM (blk_grown (blk_below HC1.out HB4.out) hg6 (fun e => (HOK.out g1 (hrk g1 e.symm)).2 rfl))
 have HH5 := aM (Kd.H_grown (Kd.H_widen (Kd.H_below (Kd.H_mono HHH.out (ok' := fun k => P1 k ∨ w.heap.size ≤ k) (fun k h => .inl h)) HB4.out)) hg6 (fun k hk => .inl (hrk k hk)))
 obtain ⟨An, cn, rfl⟩ := Kd.R_slice ho
 have HRN := aM ho
 have HB6 := aM hb6
 have HW5 := aM HB4.out.size
 have HG5 := aM (Nat.lt_of_lt_of_le (blk_lt HC1.out) HB4.out.size)
 clear ho hb6 hg6 hrk hoP hbs HBW HB4 BK4 BT4
 refine hK.out _ _ ⟨(blk_cell BK5.out 1).trans rfl, (blk_cell BT5.out 0).trans rfl, (blk_cell BT5.out 1).trans rfl, (blk_cell BT5.out 2).trans rfl, HX5.out⟩ fun hHeld => ?_; clear hK K
 refine nZ 46 ?_
 refine pY 19 47 (fB 21 1048575) HT_.out ?_
 refine last_ (i := 20) (N := none) (fB 21 2097151) rfl rfl (one_of HT_.out (by kernel_rfl)) (by decide) (fun K hK => ?_)
 have hxs6 := HX5.out
 have hfs6 : w6.frozen? ⟨g1, i.toNat, none⟩ = false := blk_frozen HC5.out _
 refine skip_ (w1 := ?_) (by rfl) rfl ?_ ?_
 rotate_left
 ·go_simp
  rfl
 refine hK.out _ _ ?_
 clear hK K
 refine done_ (done_of HT_.out (by kernel_rfl)) ?_
 try go_wp2
 go_end0
 have h0 : 0 ≤ i := of_eq_true p1
 have h8 : i < ((l1.length : Nat) : Int) := of_eq_true p2
 obtain ⟨hS, hG⟩ := slot_put HH5.out h0 h8 HRN.out (fun k hk => hk) (fun k hk => hk.elim (fun h => (HOK.out k h).2) (fun h e => by have h1_ := HG5.out; have h2_ := h.2; omega))
 have HKF := Kept.of_grown hG (HK6.out.mono (S' := P1) (fun k hk => (HOK.out k hk).1)) (fun k hk => .inl (by injection hk with hk; subst hk; exact (Kd.S_R HS1.out).1 _ rfl))
 rw [HM.out, ← HHI.out, HXI.out, ← NY.out, ← NYN.out]
 refine ⟨rfl, ws_near (blk_far BK5.out (fun e => GN.out e.symm) _) HO.out HD.out hS HS2.out HS3.out HKF, ?_, HKF.mono (fun k hk => .inl (HO.out.1 k hk).1)⟩
 exact HB6.out.grown hG (Nat.le_trans (Nat.le_trans HBG.out (Nat.le_of_lt (blk_lt BK.out))) HK6.out.1) (fun k hk => by injection hk with hk; subst hk; exact HG1.out)
set_option maxHeartbeats 8000000 in
set_option maxRecDepth 100000 in
theorem impl_lay.far (a x0 x1 x2 : Int) (l1 l2 m : List (List S46)) (l3 : List S46) (g base : Nat) (ok : Nat → Prop) (w0 w : World) (hB : Below base w0 w) (hbg : base ≤ g) (H : WS a g base w ok l1 l2 l3)
  (ha : 0 ≤ a) (ha2 : a ≤ 2147483647) (hx : 0 ≤ x2) (hx2 : x2 ≤ 2147483647) (hl : l2.length = 8) (hlen : (l2.getD (x2 / 8 % 8).toNat []).length ≤ 1000000) (hc : x2 / 8 - a / 8 ≠ 0) (hc2 : x2 / 8 - a / 8 < 8) (hm : m = (l2.set (x2 / 8 % 8).toNat (l2.getD (x2 / 8 % 8).toNat [] ++ [⟨x0, x1, x2⟩]))) :
  Calls Try.prog 75 #[.pointer (some ⟨g, 0, none⟩), .agg #[.int .i64 x0, .int .i64 x1, .int .i64 x2]] w fun e w' => e = .returned (.tuple #[]) ∧ WS a g base w' (fun k => ok k ∨ w.heap.size ≤ k) l1 m l3 ∧ Below base w0 w' ∧ Kept w w' (fun k => ok k ∨ k = g) := by
 obtain ⟨v1, v2, v3, hbk, hwr⟩ := H
 obtain ⟨P1, P2, P3, ⟨o1, o2, o3⟩, ⟨d1, d2, d3⟩, s1, s2, s3⟩ := hwr.types hbk (by decide) (by decide)
 have hbk0 := hbk
 obtain ⟨g1, cap, rfl, hg1, hg1l, cells1, hcells1⟩ := Kd.S_form s2 (by omega)
 have hp : Kd.S (Kd.slice 46 k46) 23 w base P2 (.slice (some ⟨g1, 0, none⟩) l2.length cap) l2 := s2
 obtain ⟨i, hi⟩ : ∃ i : Int, i = x2 / 8 % 8 := ⟨_, rfl⟩
 rw [← hi] at hlen
 have h0 : 0 ≤ i := by omega
 have h8 : i < (l2.length : Int) := by omega
 obtain ⟨oki, c, hcl, hM, hcc, hoki, HH⟩ := Kd.S_lend hp [] i h0 h8
 obtain ⟨vs, hv, hR⟩ := hM
 subst hv
 have hxs : w.cell? ⟨g1, i.toNat, none⟩ = some vs := by
  have := hcc 0 vs rfl
  have e : i.toNat * (Kd.slice 46 k46).sz + 0 = i.toNat := Nat.mul_one _
  rwa [e] at this
 have hfz : w.frozen? ⟨g1, i.toNat, none⟩ = false := by simp [World.frozen?, hcells1]
 obtain ⟨As, cs, rfl⟩ := Kd.R_slice hR
 have gne : g1 ≠ g := fun e => (o2 _ ((Kd.S_R hp).1 g1 rfl)).2 e
 have hRok : ∀ k, oki k → P2 k ∧ k ≠ g1 := hoki
 generalize hxi : l2.getD i.toNat [] = xi at *
 have BK := aM hbk0
 have HX := aM hxs
 have HC1 := aM hcells1
 have HRR := aM hR
 have HHH := aM HH
 have HO := aM (And.intro o1 (And.intro o2 o3))
 have HD := aM (And.intro d1 (And.intro d2 d3))
 have HS1 := aM s1
 have HS2 := aM s2
 have HS3 := aM s3
 have HOK := aM hRok
 have HB := aM hB
 have GN := aM gne
 have HLEN := aM hlen
 have HBG := aM hbg
 have HG1 := aM hg1
 have HHI := aM hi
 have HXI := aM hxi
 have p1 : (0 ≤ i) = True := eq_true h0
 have p2 : (i < ((l2.length : Nat) : Int)) = True := eq_true h8
 have htm : Int.tmod (wrap64 (Int.tdiv x2 8)) 8 = i := by
  rw [hi, Int.tdiv_eq_ediv_of_nonneg hx, show wrap64 (x2 / 8) = x2 / 8 by unfold wrap64; omega]; exact Int.tmod_eq_emod_of_nonneg (by omega)
 obtain ⟨q, hq⟩ : ∃ q, wrap64 (wrap64 (Int.tdiv x2 8) - wrap64 (Int.tdiv a 8)) = q := ⟨_, rfl⟩
 have hqq : q = x2 / 8 - a / 8 := by
  rw [← hq]
  rw [Int.tdiv_eq_ediv_of_nonneg hx, Int.tdiv_eq_ediv_of_nonneg ha]
  unfold wrap64
  omega
 obtain ⟨q1, q2⟩ := zf (show ¬ q = 0 by omega)
 have q3 : (q < 8) = True := eq_true (by omega)
 have q4 : decide (q < 8) = true := by simp [q3]
 clear hqq
 have HM := aM hm
 clear hm hbk hbk0 hxs hcells1 hfz hR HH o1 o2 o3 d1 d2 d3 s1 s2 s3 hRok hoki hB gne hlen hbg hg1 hg1l hp hcl hcc hwr hi hxi h0 h8 ha ha2 hx hx2 hl hc hc2
 have hu46 := Try.underlying46
 have hu25 := Try.underlying25
 go_enter Try.func75, Try.ntmps75
 go_wp2_with (first | ((with_reducible refine gD 3 rfl ?_); refine bE 3 #[.int .i64 x0, .int .i64 x1, .int .i64 x2] 46 ?_; intro gt hg w2 hbox hb; have BT := aM hbox; have GT := aM hg; have HB1 := aM hb; clear hbox hg hb))
 have BK2 := aM (blk_drew (blk_below BK.out HB1.out))
 have BT2 := zBD BT
 have HB2 := zLD HB1
 clear BT HB1
 refine start_ (n := 10) (S := fun w' => w'.cell? ⟨gt, 2, none⟩ = some (.int .i64 x2) ∧ w'.cell? ⟨g, 0, none⟩ = some (.int .i64 a)) (ds := []) (fB 10 0) (by kernel_rfl) rfl rfl ⟨(blk_cell BT2.out 2).trans rfl, (blk_cell BK2.out 0).trans rfl⟩ (fun hHeld => ?_); refine with_tabW impl_lay.tab1 impl_lay.bits1 (fun HT_ HW_ => ?_)
 generalize w2.drew = w3 at BK2 BT2 HB2 hHeld ⊢
 refine pY 0 6 (fB 10 1) HT_.out ?_
 refine pY 3 9 (fB 10 9) HT_.out ?_
 refine pY 4 10 (fB 10 25) HT_.out ?_
 refine pY 5 11 (fB 10 57) HT_.out ?_
 refine tY 1 7 (fB 10 59) HT_.out HW_.out hHeld ?_
 refine pY 2 8 (fB 10 63) HT_.out ?_
 refine tY 6 12 (fB 10 127) HT_.out HW_.out hHeld ?_
 refine pY 7 13 (fB 10 255) HT_.out ?_
 refine pY 8 14 (fB 10 511) HT_.out ?_
 refine pY 9 4 (fB 10 1023) HT_.out ?_
 refine done_ (done_of HT_.out (by kernel_rfl)) ?_
 have hcz := (blk_cell BT2.out 2).trans rfl
 try go_wp2
 obtain ⟨yb, hyb⟩ : ∃ yb : List S46, yb = [⟨x0, x1, x2⟩] := ⟨_, rfl⟩
 have NY := aM hyb
 clear hyb
 have BK3 := zBD BK2
 have BT3 := zBD BT2
 have HB3 := zLD HB2
 clear BK2 BT2 HB2
 refine start_ (n := 17) (S := fun w' => w'.cell? ⟨g, 2, none⟩ = some (.slice (some ⟨g1, 0, none⟩) l2.length cap) ∧ w'.cell? ⟨gt, 0, none⟩ = some (.int .i64 x0) ∧ w'.cell? ⟨gt, 1, none⟩ = some (.int .i64 x1) ∧ w'.cell? ⟨gt, 2, none⟩ = some (.int .i64 x2) ∧ w'.cell? ⟨g1, i.toNat, none⟩ = some (.slice As xi.length cs)) (ds := [16]) (fB 17 0) (by kernel_rfl) rfl rfl ⟨(blk_cell BK3.out 2).trans rfl, (blk_cell BT3.out 0).trans rfl, (blk_cell BT3.out 1).trans rfl, (blk_cell BT3.out 2).trans rfl, (HB3.out.cell (World.block_lt_of_cell? w _ HX.out)).trans HX.out⟩ (fun hHeld => ?_); refine with_tabW impl_lay.tab7 impl_lay.bits7 (fun HT_ HW_ => ?_)
 generalize w3.drew = w4 at BK3 BT3 HB3 hHeld ⊢
 refine pY 0 55 (fB 17 1) HT_.out ?_
 refine pY 1 56 (fB 17 3) HT_.out ?_
 refine pY 2 57 (fB 17 7) HT_.out ?_
 refine pY 4 59 (fB 17 23) HT_.out ?_
 refine pY 5 60 (fB 17 55) HT_.out ?_
 refine pY 6 61 (fB 17 119) HT_.out ?_
 refine pY 7 62 (fB 17 247) HT_.out ?_
 refine pY 9 64 (fB 17 759) HT_.out ?_
 refine tY 3 58 (fB 17 767) HT_.out HW_.out hHeld ?_
 refine tY 8 63 (fB 17 1023) HT_.out HW_.out hHeld ?_
 refine pY 10 65 (fB 17 2047) HT_.out ?_
 refine tY 11 66 (fB 17 4095) HT_.out HW_.out hHeld ?_
 refine tY 12 67 (fB 17 8191) HT_.out HW_.out hHeld ?_
 refine oN 13 68 (fB 17 16383) HT_.out fun K hK => ?_
 refine Kd.R_lit_step k46 _ 46 ?hg (N := 68) ?hd (xs := ([⟨x0, x1, x2⟩] : List S46)) (inner := [.int .i64 x0, .int .i64 x1, .int .i64 x2]) (ok := fun _ => True) (okp := fun _ => True) ?hr ?hp (fun _ hk => hk) trivial (Below.refl _ _) (Nat.le_refl _) (by simp) ?_; (case hd => rfl); (case hg => rfl); (case hr => first | (go_simp; done) | (go_simp; rfl)); (case hp => exact Reps.c3 (k46_mkM _ _ _ (⟨x0, x1, x2⟩ : S46)) (Reps.none _ _))
 intro vb w5 hrow hb5 hg_ hn_
 clear hg_ hn_
 rw [← NY.out] at hrow
 obtain ⟨Ab, cb, rfl⟩ := Kd.R_slice hrow
 have HRB := aM (Kd.R_reads' hrow)
 have BK4 := zBB BK3 hb5
 have BT4 := zBB BT3 hb5
 have HB4 := zLB HB3.out hb5
 clear hrow hb5 BK3 BT3 HB3
 refine hK.out _ _ ⟨(blk_cell BK4.out 2).trans rfl, (blk_cell BT4.out 0).trans rfl, (blk_cell BT4.out 1).trans rfl, (blk_cell BT4.out 2).trans rfl, (HB4.out.cell (World.block_lt_of_cell? w _ HX.out)).trans HX.out⟩ fun hHeld => ?_; clear hK K
 refine nZ 68 ?_
 refine oN 14 69 (fB 17 32767) HT_.out fun K hK => ?_
 have HBW := aM (below_then HB.out (Nat.le_trans HBG.out (Nat.le_of_lt (blk_lt BK.out))) HB4.out)
 have hbs : base ≤ w5.heap.size := Nat.le_trans (Nat.le_trans HBG.out (Nat.le_of_lt (blk_lt BK.out))) HB4.out.size
 refine Kd.R_append_rows_step k46 (w0 := w0) base (by rfl) (.tmp 66) (.tmp 68) 23 46 (.agg #[(.int .i64 0), (.int .i64 0), (.int .i64 0)]) 24 rfl Try.underlying23 info46 rfl (by decide) (by omega) _ xi yb _ _ _ (fun k => oki k ∨ (P2 k ∨ w.heap.size ≤ k) ∧ w5.heap.size ≤ k) (fun _ => False) rfl rfl ?aO ?aR (fun _ _ h => h) (fun _ h => h.elim) ?aF ?aB ?aS ?aL ?_
 (case aO => exact Kd.R_mono (Kd.R_below HRR.out HB4.out) (fun k h => .inl h))
 (case aR => exact HRB.out.2.2)
 (case aF => exact fun k hk => .inr ⟨.inr (Nat.le_trans HB4.out.size hk), hk⟩)
 (case aB => exact HBW.out)
 (case aS => exact hbs)
 (case aL => (have h1_ := HLEN.out; have h2_ : yb.length = 1 := (by rw [NY.out]; rfl); omega))
 intro vn w6 ho hb6 hg6 hat6
 clear hat6
 obtain ⟨yn, hyn⟩ : ∃ yn, yn = xi ++ yb := ⟨_, rfl⟩
 rw [← hyn] at ho
 have NYN := aM hyn
 clear hyn
 have hrk : ∀ k, (Value.slice As xi.length cs).ownBlock = some k → oki k := fun k hk => HRR.out.1 k hk
 have hoP : ∀ k, oki k → P2 k := fun k hk => (HOK.out k hk).1
 have HK6 := aM (Kept.of_grown hg6 (Kept.of_below HB4.out (fun k => oki k)) (fun k hk => .inl (hrk k hk)))
 have BK5 := aM (blk_grown BK4.out hg6 (fun e => (HO.out.2.1 g (hoP g (hrk g e.symm))).2 rfl))
 have BT5 := aM (blk_grown BT4.out hg6 (fun e => by have h_ := Kd.R_lt HRR.out gt e.symm; rw [GT.out] at h_; exact Nat.lt_irrefl _ h_))
 have HX5 := aM (cell_grown hg6 ((HB4.out.cell (World.block_lt_of_cell? w _ HX.out)).trans HX.out) (fun e => (HOK.out g1 (hrk g1 e.symm)).2 rfl))
 have HC5 := aM (blk_grown (blk_below HC1.out HB4.out) hg6 (fun e => (HOK.out g1 (hrk g1 e.symm)).2 rfl))
 have HH5 := aM (Kd.H_grown (Kd.H_widen (Kd.H_below (Kd.H_mono HHH.out (ok' := fun k => P2 k ∨ w.heap.size ≤ k) (fun k h => .inl h)) HB4.out)) hg6 (fun k hk => .inl (hrk k hk)))
 obtain ⟨An, cn, rfl⟩ := Kd.R_slice ho
 have HRN := aM ho
 have HB6 := aM hb6
 have HW5 := aM HB4.out.size
 have HG5 := aM (Nat.lt_of_lt_of_le (blk_lt HC1.out) HB4.out.size)
 clear ho hb6 hg6 hrk hoP hbs HBW HB4 BK4 BT4
 refine hK.out _ _ ⟨(blk_cell BK5.out 2).trans rfl, (blk_cell BT5.out 0).trans rfl, (blk_cell BT5.out 1).trans rfl, (blk_cell BT5.out 2).trans rfl, HX5.out⟩ fun hHeld => ?_; clear hK K
 refine nZ 69 ?_
 refine pY 15 70 (fB 17 65535) HT_.out ?_
 refine last_ (i := 16) (N := none) (fB 17 131071) rfl rfl (one_of HT_.out (by kernel_rfl)) (by decide) (fun K hK => ?_)
 have hxs6 := HX5.out
 have hfs6 : w6.frozen? ⟨g1, i.toNat, none⟩ = false := blk_frozen HC5.out _
 refine skip_ (w1 := ?_) (by rfl) rfl ?_ ?_
 rotate_left
 ·go_simp
  rfl
 refine hK.out _ _ ?_
 clear hK K
 refine done_ (done_of HT_.out (by kernel_rfl)) ?_
 try go_wp2
 go_end0
 have h0 : 0 ≤ i := of_eq_true p1
 have h8 : i < ((l2.length : Nat) : Int) := of_eq_true p2
 obtain ⟨hS, hG⟩ := slot_put HH5.out h0 h8 HRN.out (fun k hk => hk) (fun k hk => hk.elim (fun h => (HOK.out k h).2) (fun h e => by have h1_ := HG5.out; have h2_ := h.2; omega))
 have HKF := Kept.of_grown hG (HK6.out.mono (S' := P2) (fun k hk => (HOK.out k hk).1)) (fun k hk => .inl (by injection hk with hk; subst hk; exact (Kd.S_R HS2.out).1 _ rfl))
 rw [HM.out, ← HHI.out, HXI.out, ← NY.out, ← NYN.out]
 refine ⟨rfl, ws_far (blk_far BK5.out (fun e => GN.out e.symm) _) HO.out HD.out hS HS1.out HS3.out HKF, ?_, HKF.mono (fun k hk => .inl (HO.out.2.1 k hk).1)⟩
 exact HB6.out.grown hG (Nat.le_trans (Nat.le_trans HBG.out (Nat.le_of_lt (blk_lt BK.out))) HK6.out.1) (fun k hk => by injection hk with hk; subst hk; exact HG1.out)
set_option maxHeartbeats 8000000 in
set_option maxRecDepth 100000 in
theorem impl_lay.rest (a x0 x1 x2 : Int) (l1 l2 : List (List S46)) (l3 m : List S46) (g base : Nat) (ok : Nat → Prop) (w0 w : World) (hB : Below base w0 w) (hbg : base ≤ g) (H : WS a g base w ok l1 l2 l3)
  (ha : 0 ≤ a) (ha2 : a ≤ 2147483647) (hx : 0 ≤ x2) (hx2 : x2 ≤ 2147483647) (hlen : l3.length ≤ 1000000) (hc : x2 / 8 - a / 8 ≠ 0) (hc2 : ¬ x2 / 8 - a / 8 < 8) (hm : m = l3 ++ [⟨x0, x1, x2⟩]) :
  Calls Try.prog 75 #[.pointer (some ⟨g, 0, none⟩), .agg #[.int .i64 x0, .int .i64 x1, .int .i64 x2]] w fun e w' => e = .returned (.tuple #[]) ∧ WS a g base w' (fun k => ok k ∨ w.heap.size ≤ k) l1 l2 m ∧ Below base w0 w' ∧ Kept w w' (fun k => ok k ∨ k = g) := by
 obtain ⟨v1, v2, v3, hbk, hwr⟩ := H
 obtain ⟨P1, P2, P3, ⟨o1, o2, o3⟩, ⟨d1, d2, d3⟩, s1, s2, s3⟩ := hwr.types hbk (by decide) (by decide)
 obtain ⟨A3, c3, rfl⟩ := Kd.R_slice s3
 have BK := aM hbk
 have HO := aM (And.intro o1 (And.intro o2 o3))
 have HD := aM (And.intro d1 (And.intro d2 d3))
 have HS1 := aM s1
 have HS2 := aM s2
 have HS3 := aM s3
 have HB := aM hB
 have HLEN := aM hlen
 have HBG := aM hbg
 have HM := aM hm
 have e1 : wrap64 (Int.tdiv x2 8) = x2 / 8 := by rw [Int.tdiv_eq_ediv_of_nonneg hx]; unfold wrap64; omega
 have e2 : wrap64 (Int.tdiv a 8) = a / 8 := by rw [Int.tdiv_eq_ediv_of_nonneg ha]; unfold wrap64; omega
 have e3 : wrap64 (x2 / 8 - a / 8) = x2 / 8 - a / 8 := by unfold wrap64; omega
 obtain ⟨q, hq⟩ : ∃ q, wrap64 (wrap64 (Int.tdiv x2 8) - wrap64 (Int.tdiv a 8)) = q := ⟨_, rfl⟩
 have hqq : q = x2 / 8 - a / 8 := by rw [← hq, e1, e2, e3]
 obtain ⟨q1, q2⟩ := zf (show ¬ q = 0 by omega)
 have q3 : (q < 8) = False := eq_false (by omega)
 have q4 : decide (q < 8) = false := by simp [q3]
 clear hqq e1 e2 e3
 clear hm hbk o1 o2 o3 d1 d2 d3 s1 s2 s3 hwr hlen hbg hB ha ha2 hx hx2 hc hc2
 have hu46 := Try.underlying46
 have hu25 := Try.underlying25
 go_enter Try.func75, Try.ntmps75
 go_wp2_with (first | ((with_reducible refine gD 3 rfl ?_); refine bE 3 #[.int .i64 x0, .int .i64 x1, .int .i64 x2] 46 ?_; intro gt hg w2 hbox hb; have BT := aM hbox; have GT := aM hg; have HB1 := aM hb; clear hbox hg hb))
 have BK2 := aM (blk_drew (blk_below BK.out HB1.out))
 have BT2 := zBD BT
 have HB2 := zLD HB1
 clear BT HB1
 refine start_ (n := 10) (S := fun w' => w'.cell? ⟨gt, 2, none⟩ = some (.int .i64 x2) ∧ w'.cell? ⟨g, 0, none⟩ = some (.int .i64 a)) (ds := []) (fB 10 0) (by kernel_rfl) rfl rfl ⟨(blk_cell BT2.out 2).trans rfl, (blk_cell BK2.out 0).trans rfl⟩ (fun hHeld => ?_); refine with_tabW impl_lay.tab1 impl_lay.bits1 (fun HT_ HW_ => ?_)
 generalize w2.drew = w3 at BK2 BT2 HB2 hHeld ⊢
 refine pY 0 6 (fB 10 1) HT_.out ?_
 refine pY 3 9 (fB 10 9) HT_.out ?_
 refine pY 4 10 (fB 10 25) HT_.out ?_
 refine pY 5 11 (fB 10 57) HT_.out ?_
 refine tY 1 7 (fB 10 59) HT_.out HW_.out hHeld ?_
 refine pY 2 8 (fB 10 63) HT_.out ?_
 refine tY 6 12 (fB 10 127) HT_.out HW_.out hHeld ?_
 refine pY 7 13 (fB 10 255) HT_.out ?_
 refine pY 8 14 (fB 10 511) HT_.out ?_
 refine pY 9 4 (fB 10 1023) HT_.out ?_
 refine done_ (done_of HT_.out (by kernel_rfl)) ?_
 have hcz := (blk_cell BT2.out 2).trans rfl
 try go_wp2
 obtain ⟨yb, hyb⟩ : ∃ yb : List S46, yb = [⟨x0, x1, x2⟩] := ⟨_, rfl⟩
 have NY := aM hyb
 clear hyb
 have BK3 := zBD BK2
 have BT3 := zBD BT2
 have HB3 := zLD HB2
 clear BK2 BT2 HB2 hcz
 refine start_ (n := 11) (S := fun w' => w'.cell? ⟨g, 3, none⟩ = some (.slice A3 l3.length c3) ∧ w'.cell? ⟨gt, 0, none⟩ = some (.int .i64 x0) ∧ w'.cell? ⟨gt, 1, none⟩ = some (.int .i64 x1) ∧ w'.cell? ⟨gt, 2, none⟩ = some (.int .i64 x2)) (ds := [10]) (fB 11 0) (by kernel_rfl) rfl rfl ⟨(blk_cell BK3.out 3).trans rfl, (blk_cell BT3.out 0).trans rfl, (blk_cell BT3.out 1).trans rfl, (blk_cell BT3.out 2).trans rfl⟩ (fun hHeld => ?_); refine with_tabW impl_lay.tab2 impl_lay.bits2 (fun HT_ HW_ => ?_)
 generalize w3.drew = w4 at BK3 BT3 HB3 hHeld ⊢
 refine pY 0 15 (fB 11 1) HT_.out ?_
 refine pY 1 16 (fB 11 3) HT_.out ?_
 refine pY 2 17 (fB 11 7) HT_.out ?_
 refine pY 3 18 (fB 11 15) HT_.out ?_
 refine tY 4 19 (fB 11 31) HT_.out HW_.out hHeld ?_
 refine tY 5 20 (fB 11 63) HT_.out HW_.out hHeld ?_
 refine oN 6 21 (fB 11 127) HT_.out fun K hK => ?_
 refine Kd.R_lit_step k46 _ 46 ?hg (N := 21) ?hd (xs := ([⟨x0, x1, x2⟩] : List S46)) (inner := [.int .i64 x0, .int .i64 x1, .int .i64 x2]) (ok := fun _ => True) (okp := fun _ => True) ?hr ?hp (fun _ hk => hk) trivial (Below.refl _ _) (Nat.le_refl _) (by simp) ?_; (case hd => rfl); (case hg => rfl); (case hr => first | (go_simp; done) | (go_simp; rfl)); (case hp => exact Reps.c3 (k46_mkM _ _ _ (⟨x0, x1, x2⟩ : S46)) (Reps.none _ _))
 intro vb w5 hrow hb5 hg_ hn_
 clear hg_ hn_
 rw [← NY.out] at hrow
 obtain ⟨Ab, cb, rfl⟩ := Kd.R_slice hrow
 have HRB := aM (Kd.R_reads' hrow)
 have BK4 := zBB BK3 hb5
 have BT4 := zBB BT3 hb5
 have HB4 := zLB HB3.out hb5
 clear hrow hb5 BK3 BT3 HB3
 refine hK.out _ _ ⟨(blk_cell BK4.out 3).trans rfl, (blk_cell BT4.out 0).trans rfl, (blk_cell BT4.out 1).trans rfl, (blk_cell BT4.out 2).trans rfl⟩ fun hHeld => ?_; clear hK K
 refine nZ 21 ?_
 refine oN 7 22 (fB 11 255) HT_.out fun K hK => ?_
 have HBW := aM (below_then HB.out (Nat.le_trans HBG.out (Nat.le_of_lt (blk_lt BK.out))) HB4.out)
 have hbs : base ≤ w5.heap.size := Nat.le_trans (Nat.le_trans HBG.out (Nat.le_of_lt (blk_lt BK.out))) HB4.out.size
 refine Kd.R_append_rows_step k46 (w0 := w0) base (by rfl) (.tmp 19) (.tmp 21) 23 46 (.agg #[(.int .i64 0), (.int .i64 0), (.int .i64 0)]) 24 rfl Try.underlying23 info46 rfl (by decide) (by omega) _ l3 yb _ _ _ (fun k => P3 k ∨ w.heap.size ≤ k) (fun _ => False) rfl rfl ?aO ?aR (fun _ _ h => h) (fun _ h => h.elim) ?aF ?aB ?aS ?aL ?_
 (case aO => exact Kd.R_mono (Kd.R_below HS3.out HB4.out) (fun k h => .inl h))
 (case aR => exact HRB.out.2.2)
 (case aF => exact fun k hk => .inr (Nat.le_trans HB4.out.size hk))
 (case aB => exact HBW.out)
 (case aS => exact hbs)
 (case aL => (have h1_ := HLEN.out; have h2_ : yb.length = 1 := (by rw [NY.out]; rfl); omega))
 intro vn w6 ho hb6 hg6 hat6
 clear hat6
 obtain ⟨yn, hyn⟩ : ∃ yn, yn = l3 ++ yb := ⟨_, rfl⟩
 rw [← hyn] at ho
 have NYN := aM hyn
 clear hyn
 have hrk : ∀ k, (Value.slice A3 l3.length c3).ownBlock = some k → P3 k := fun k hk => HS3.out.1 k hk
 have HK6 := aM (Kept.of_grown hg6 (Kept.of_below HB4.out (fun k => P3 k)) (fun k hk => .inl (hrk k hk)))
 have BK5 := aM (blk_grown BK4.out hg6 (fun e => (HO.out.2.2 g (hrk g e.symm)).2 rfl))
 have BT5 := aM (blk_grown BT4.out hg6 (fun e => by have h_ := Kd.R_lt HS3.out gt e.symm; rw [GT.out] at h_; exact Nat.lt_irrefl _ h_))
 obtain ⟨An, cn, rfl⟩ := Kd.R_slice ho
 have HRN := aM ho
 have HB6 := aM hb6
 clear ho hb6 hg6 hrk hbs HBW HB4 BK4 BT4
 refine hK.out _ _ ⟨(blk_cell BK5.out 3).trans rfl, (blk_cell BT5.out 0).trans rfl, (blk_cell BT5.out 1).trans rfl, (blk_cell BT5.out 2).trans rfl⟩ fun hHeld => ?_; clear hK K
 refine nZ 22 ?_
 refine pY 8 23 (fB 11 511) HT_.out ?_
 refine pY 9 24 (fB 11 1023) HT_.out ?_
 refine last_ (i := 10) (N := none) (fB 11 2047) rfl rfl (one_of HT_.out (by kernel_rfl)) (by decide) (fun K hK => ?_)
 have hcs6 := (blk_cell BK5.out 3).trans rfl
 have hfs6 := blk_frozen BK5.out 3
 refine skip_ (w1 := ?_) (by rfl) rfl ?_ ?_
 rotate_left
 ·go_simp
  rfl
 refine hK.out _ _ ?_
 clear hK K
 refine done_ (done_of HT_.out (by kernel_rfl)) ?_
 try go_wp2
 go_end0
 have HKF := (HK6.out.mono (S' := fun k => P3 k ∨ k = g) (fun k hk => .inl hk)).setCell (p := ⟨g, 3, none⟩) (.inl (.inr rfl)) (.slice An yn.length cn)
 rw [HM.out, ← NY.out, ← NYN.out]
 refine ⟨rfl, ws_rest (blk_put BK5.out 3 _ rfl) HO.out HD.out (Kd.R_far (p := ⟨g, 3, none⟩) HRN.out (fun k hk => hk.elim (fun h => (HO.out.2.2 k h).2) (fun h e => by have h_ := blk_lt BK.out; have e_ : k = g := e; omega)) _) HS1.out HS2.out HKF, ?_, HKF.mono (fun k hk => hk.elim (fun h => .inl (HO.out.2.2 k h).1) .inr)⟩
 exact HB6.out.setCell HBG.out _
theorem impl_lay.calls (a x0 x1 x2 : Int) (l1 l2 : List (List S46)) (l3 : List S46) (g base : Nat) (ok : Nat → Prop) (w0 w : World) (hB : Below base w0 w) (hbg : base ≤ g) (H : WS a g base w ok l1 l2 l3) (h : layOk a ⟨x0, x1, x2⟩ l1 l2 l3 = true) (m1 m2 : List (List S46)) (m3 : List S46) (hm : layV a ⟨x0, x1, x2⟩ l1 l2 l3 = (m1, m2, m3)) :
  Calls Try.prog 75 #[.pointer (some ⟨g, 0, none⟩), .agg #[.int .i64 x0, .int .i64 x1, .int .i64 x2]] w fun e w' => e = .returned (.tuple #[]) ∧ WS a g base w' (fun k => ok k ∨ w.heap.size ≤ k) m1 m2 m3 ∧ Below base w0 w' ∧ Kept w w' (fun k => ok k ∨ k = g) := by
 obtain ⟨h1, h2, h3, h4, h5, h6, h7, h8, h9⟩ := layOk_spec h
 simp only at h3 h4
 unfold layV at hm
 simp only at hm
 by_cases c : x2 / 8 - a / 8 = 0
 ·rw [if_pos c] at hm
  simp only [Prod.mk.injEq] at hm
  obtain ⟨e1, rfl, rfl⟩ := hm
  exact impl_lay.near a x0 x1 x2 l1 l2 m1 l3 g base ok w0 w hB hbg H h1 h2 h3 h4 h5 (getD_len l1 h7 _) c e1.symm
 ·rw [if_neg c] at hm
  by_cases c2 : x2 / 8 - a / 8 < 8
  ·rw [if_pos c2] at hm
   simp only [Prod.mk.injEq] at hm
   obtain ⟨rfl, e1, rfl⟩ := hm
   exact impl_lay.far a x0 x1 x2 l1 l2 m2 l3 g base ok w0 w hB hbg H h1 h2 h3 h4 h6 (getD_len l2 h8 _) c c2 e1.symm
  ·rw [if_neg c2] at hm
   simp only [Prod.mk.injEq] at hm
   obtain ⟨rfl, rfl, e1⟩ := hm
   exact impl_lay.rest a x0 x1 x2 l1 l2 l3 m3 g base ok w0 w hB hbg H h1 h2 h3 h4 h9 c c2 e1.symm

set_option maxHeartbeats 8000000 in
set_option maxRecDepth 100000 in
theorem impl_TickOn.wrong (k : Nat) (A1 : Option Addr) (c1 : Nat) (l1 : List (List S46)) (A2 : Option Addr) (c2 : Nat) (l2 : List (List S46)) (A3 : Option Addr) (c3 : Nat) (l3 : List S46) (y0 : Int) (y1 y2 : List (List S46)) (y3 : List S46) (w : World) (hr1 : Kd.C (Kd.slice 46 k46) w A1 l1.length l1) (hc1 : l1.length ≤ c1) (hr2 : Kd.C (Kd.slice 46 k46) w A2 l2.length l2) (hc2 : l2.length ≤ c2) (hr3 : Kd.C k46 w A3 l3.length l3) (hc3 : l3.length ≤ c3) (hac : impl_copyWheel.f k y0 l1 l2 l3 = some (y0, y1, y2, y3)) (hao : impl_WheelOk.f k y0 l1 l2 l3 = some false) :
  Calls Try.prog 37 #[.agg #[.int .i64 y0, .slice A1 l1.length c1, .slice A2 l2.length c2, .slice A3 l3.length c3]] w fun e w' => ∃ (v1_ v2_ v3_ v4_ : Value) (PW PD : Nat → Prop), e = .returned (.tuple #[.agg #[.int .i64 y0, v1_, v2_, v3_], v4_]) ∧ WR w' w.heap.size PW v1_ v2_ v3_ y1 y2 y3 ∧ Kd.R k46 46 w' w.heap.size PD v4_ [] ∧ (∀ k, PW k → ¬ PD k) ∧ Below w.heap.size w w' := by
 have hu25 := Try.underlying25
 have hu46 := Try.underlying46
 have AC := aM hac
 have AO := aM hao
 clear hac hao
 have HR1 := aM hr1
 have HR2 := aM hr2
 have HR3 := aM hr3
 have HC1 := aM hc1
 have HC2 := aM hc2
 have HC3 := aM hc3
 have HB := aM (Below.refl w.heap.size w)
 clear hr1 hr2 hr3 hc1 hc2 hc3
 go_enter Try.func37, Try.ntmps37
 go_wp2_with (first | ((with_reducible refine gD 1 rfl ?_); refine bE 1 #[.int .i64 y0, .slice A1 l1.length c1, .slice A2 l2.length c2, .slice A3 l3.length c3] 25 ?_; intro g1 hg w1_ hbox hb; have GE1 := aM (zg HB.out hg : w.heap.size ≤ g1); have BK1 := aM hbox; clear hbox hg;   replace HB := zLB HB.out hb; clear hb; (try clear hz1_); have hz1_ := zc4 BK1.out;) | ((with_reducible refine gD 2 rfl ?_); refine bE 2 #[.int .i64 0, .slice none 0 0, .slice none 0 0, .slice none 0 0] 25 ?_; intro g2 hg w2_ hbox hb; have GE2 := aM (zg HB.out hg : w.heap.size ≤ g2); have N1_2 := aM (zN BK1.out hg : g1 ≠ g2); have BK2 := aM hbox; clear hbox hg; replace BK1 := zBB BK1 hb;  replace HB := zLB HB.out hb; clear hb; (try clear hz1_); have hz1_ := zc4 BK1.out; (try clear hz2_); have hz2_ := zc4 BK2.out;) | ((with_reducible refine gC 74 rfl ?_); refine gL 11 Try.func74 #[.agg #[.int .i64 y0, .slice A1 l1.length c1, .slice A2 l2.length c2, .slice A3 l3.length c3]] ?_; (refine (impl_copyWheel.callsW k y0 A1 c1 l1 A2 c2 l2 A3 c3 l3 y0 y1 y2 y3 _ ?s1 HC1.out ?s2 HC2.out ?s3 HC3.out AC.out).mono ?_); (case s1 => exact Kd.C_below HR1.out HB.out); (case s2 => exact Kd.C_below HR2.out HB.out); (case s3 => exact Kd.C_below HR3.out HB.out); rintro e w11_ ⟨v1, v2, v3, rfl, hw_, hb⟩; obtain ⟨B1, q1, B2, q2, B3, q3, rfl, rfl, rfl, _, _, _, _⟩ := hw_.reads; refine ⟨_, rfl, ?_⟩; have F1 := aM (blk_lt BK1.out); have F2 := aM (blk_lt BK2.out); obtain ⟨n0, hn0_⟩ : ∃ n0, n0 = _ := ⟨_, rfl⟩; have HWR := aM ((hw_.bound.mono (ok' := fun k_ => n0 ≤ k_) (fun k_ h_ => by rw [hn0_]; exact h_.2.1)).lower HB.out.size); have FN := aM (hb.size); rw [← hn0_] at F1 F2 FN; clear hw_ hn0_; replace BK1 := zBB BK1 hb; replace BK2 := zBB BK2 hb;  replace HB := zLB HB.out hb; clear hb; (try clear hz1_); have hz1_ := zc4 BK1.out; (try clear hz2_); have hz2_ := zc4 BK2.out;) | ((with_reducible refine gD 4 rfl ?_); refine bE 4 #[.int .i64 0, .slice none 0 0, .slice none 0 0, .slice none 0 0] 25 ?_; intro g4 hg w4_ hbox hb; have GE4 := aM (zg HB.out hg : w.heap.size ≤ g4); have N1_4 := aM (zN BK1.out hg : g1 ≠ g4); have N2_4 := aM (zN BK2.out hg : g2 ≠ g4); have BK4 := aM hbox; have FN4 := aM (by rw [hg]; exact FN.out : n0 ≤ g4); clear FN hbox hg; replace BK1 := zBB BK1 hb; replace BK2 := zBB BK2 hb; replace HWR := aM (HWR.out.below hb); replace HB := zLB HB.out hb; clear hb; (try clear hz1_); have hz1_ := zc4 BK1.out; (try clear hz2_); have hz2_ := zc4 BK2.out; (try clear hz4_); have hz4_ := zc4 BK4.out;) | ((with_reducible refine gate_store (t := 25) (p := 4) rfl ?_); refine store_event (t := 25) (p := 4) (v := ?vo15_) (w1 := ((((w4_.setCell ⟨g4, 0, none⟩ (.int .i64 y0)).setCell ⟨g4, 1, none⟩ (.slice B1 y1.length q1)).setCell ⟨g4, 2, none⟩ (.slice B2 y2.length q2)).setCell ⟨g4, 3, none⟩ (.slice B3 y3.length q3))) ?hg ?ho ?hn ?hr ?_; (case ho => rfl); (case hg => rfl); (case hn => rfl); (case hr => (have hs0_ := (blk_cell BK4.out 0).trans rfl; have hf0_ := blk_frozen BK4.out 0; have hs1_ := (blk_cell BK4.out 1).trans rfl; have hf1_ := blk_frozen BK4.out 1; have hs2_ := (blk_cell BK4.out 2).trans rfl; have hf2_ := blk_frozen BK4.out 2; have hs3_ := (blk_cell BK4.out 3).trans rfl; have hf3_ := blk_frozen BK4.out 3;(try clear hz1_); have hz1_ := zc4 BK1.out; (try clear hz2_); have hz2_ := zc4 BK2.out; first | (go_simp; done) | (go_simp; rfl))); intro w5_ hw_; have HK_ := set4_kept hw_; have BKn := aM (set4_blk hw_ BK4.out rfl); have HBn := aM (set4_below hw_ HB.out GE4.out); replace BK1 := aM (blk_kept BK1.out HK_ (N1_4.out)); replace BK2 := aM (blk_kept BK2.out HK_ (N2_4.out)); replace HWR := aM ((HWR.out.types BK4.out (by decide) (by decide)).kept HK_ (fun _ h_ => h_.2)); clear hw_ BK4 HB; have BK4 := BKn; have HB := HBn; clear BKn HBn HK_; (try clear hz1_); have hz1_ := zc4 BK1.out; (try clear hz2_); have hz2_ := zc4 BK2.out; (try clear hz4_); have hz4_ := zc4 BK4.out;) | ((with_reducible refine gC 30 rfl ?_); refine gL 13 Try.func30 #[.agg #[.int .i64 y0, .slice A1 l1.length c1, .slice A2 l2.length c2, .slice A3 l3.length c3]] ?_; (refine (impl_WheelOk.calls k y0 A1 c1 l1 A2 c2 l2 A3 c3 l3 false _ ?s1 ?t1 ?s2 ?t2 ?s3 ?t3 AO.out).mono ?_); (case s1 => exact Kd.C_below HR1.out HB.out); (case s2 => exact Kd.C_below HR2.out HB.out); (case s3 => exact Kd.C_below HR3.out HB.out); (case t1 => exact HC1.out); (case t2 => exact HC2.out); (case t3 => exact HC3.out); rintro e w13_ ⟨rfl, hb⟩; refine ⟨_, rfl, ?_⟩; replace BK1 := zBB BK1 hb; replace BK2 := zBB BK2 hb; replace BK4 := zBB BK4 hb; replace HWR := aM (HWR.out.below hb); replace HB := zLB HB.out hb; clear hb; (try clear hz1_); have hz1_ := zc4 BK1.out; (try clear hz2_); have hz2_ := zc4 BK2.out; (try clear hz4_); have hz4_ := zc4 BK4.out;) | ((with_reducible refine gate_store (t := 25) (p := 2) rfl ?_); refine store_event (t := 25) (p := 2) (v := ?vo14_) (w1 := ((((w13_.setCell ⟨g2, 0, none⟩ (.int .i64 y0)).setCell ⟨g2, 1, none⟩ (.slice B1 y1.length q1)).setCell ⟨g2, 2, none⟩ (.slice B2 y2.length q2)).setCell ⟨g2, 3, none⟩ (.slice B3 y3.length q3))) ?hg ?ho ?hn ?hr ?_; (case ho => rfl); (case hg => rfl); (case hn => rfl); (case hr => (have hs0_ := (blk_cell BK2.out 0).trans rfl; have hf0_ := blk_frozen BK2.out 0; have hs1_ := (blk_cell BK2.out 1).trans rfl; have hf1_ := blk_frozen BK2.out 1; have hs2_ := (blk_cell BK2.out 2).trans rfl; have hf2_ := blk_frozen BK2.out 2; have hs3_ := (blk_cell BK2.out 3).trans rfl; have hf3_ := blk_frozen BK2.out 3;(try clear hz1_); have hz1_ := zc4 BK1.out; (try clear hz4_); have hz4_ := zc4 BK4.out; first | (go_simp; done) | (go_simp; rfl))); intro wF hw_; have HK_ := set4_kept hw_; have BKn := aM (set4_blk hw_ BK2.out rfl); have HBn := aM (set4_below hw_ HB.out GE2.out); have HF := aM ((HWR.out.types BK2.out (by decide) (by decide)).kept HK_ (fun _ h_ => h_.2));  clear hw_ BK2 HB; have BK2 := BKn; have HB := HBn; clear BKn HBn HK_))
 refine bodyPost_ret (results_ct rfl _ _ g2 25 #[.int .i64 y0, .slice B1 y1.length q1, .slice B2 y2.length q2, .slice B3 y3.length q3] (0, 0) _ rfl (by exact BK2.out) Try.underlying25 rfl (by kernel_rfl)) rfl ?_
 exact ⟨_, _, _, _, _, fun _ => False, rfl, HF.out, Kd.R_nil _ _ _ _ _, fun _ _ h_ => h_, HB.out⟩
set_option maxHeartbeats 8000000 in
set_option maxRecDepth 100000 in
theorem impl_TickOn.late (k : Nat) (A1 : Option Addr) (c1 : Nat) (l1 : List (List S46)) (A2 : Option Addr) (c2 : Nat) (l2 : List (List S46)) (A3 : Option Addr) (c3 : Nat) (l3 : List S46) (y0 : Int) (y1 y2 : List (List S46)) (y3 : List S46) (w : World) (hr1 : Kd.C (Kd.slice 46 k46) w A1 l1.length l1) (hc1 : l1.length ≤ c1) (hr2 : Kd.C (Kd.slice 46 k46) w A2 l2.length l2) (hc2 : l2.length ≤ c2) (hr3 : Kd.C k46 w A3 l3.length l3) (hc3 : l3.length ≤ c3) (hac : impl_copyWheel.f k y0 l1 l2 l3 = some (y0, y1, y2, y3)) (hao : impl_WheelOk.f k y0 l1 l2 l3 = some true) (hm : y0 = 2147483647) :
  Calls Try.prog 37 #[.agg #[.int .i64 y0, .slice A1 l1.length c1, .slice A2 l2.length c2, .slice A3 l3.length c3]] w fun e w' => ∃ (v1_ v2_ v3_ v4_ : Value) (PW PD : Nat → Prop), e = .returned (.tuple #[.agg #[.int .i64 y0, v1_, v2_, v3_], v4_]) ∧ WR w' w.heap.size PW v1_ v2_ v3_ y1 y2 y3 ∧ Kd.R k46 46 w' w.heap.size PD v4_ [] ∧ (∀ k, PW k → ¬ PD k) ∧ Below w.heap.size w w' := by
 have hu25 := Try.underlying25
 have hu46 := Try.underlying46
 have AC := aM hac
 have AO := aM hao
 clear hac hao
 have HR1 := aM hr1
 have HR2 := aM hr2
 have HR3 := aM hr3
 have HC1 := aM hc1
 have HC2 := aM hc2
 have HC3 := aM hc3
 have HB := aM (Below.refl w.heap.size w)
 clear hr1 hr2 hr3 hc1 hc2 hc3
 obtain ⟨m1_, m2_⟩ := zt hm
 clear hm
 go_enter Try.func37, Try.ntmps37
 go_wp2_with (first | ((with_reducible refine gD 1 rfl ?_); refine bE 1 #[.int .i64 y0, .slice A1 l1.length c1, .slice A2 l2.length c2, .slice A3 l3.length c3] 25 ?_; intro g1 hg w1_ hbox hb; have GE1 := aM (zg HB.out hg : w.heap.size ≤ g1); have BK1 := aM hbox; clear hbox hg;   replace HB := zLB HB.out hb; clear hb; (try clear hz1_); have hz1_ := zc4 BK1.out;) | ((with_reducible refine gD 2 rfl ?_); refine bE 2 #[.int .i64 0, .slice none 0 0, .slice none 0 0, .slice none 0 0] 25 ?_; intro g2 hg w2_ hbox hb; have GE2 := aM (zg HB.out hg : w.heap.size ≤ g2); have N1_2 := aM (zN BK1.out hg : g1 ≠ g2); have BK2 := aM hbox; clear hbox hg; replace BK1 := zBB BK1 hb;  replace HB := zLB HB.out hb; clear hb; (try clear hz1_); have hz1_ := zc4 BK1.out; (try clear hz2_); have hz2_ := zc4 BK2.out;) | ((with_reducible refine gC 74 rfl ?_); refine gL 11 Try.func74 #[.agg #[.int .i64 y0, .slice A1 l1.length c1, .slice A2 l2.length c2, .slice A3 l3.length c3]] ?_; (refine (impl_copyWheel.callsW k y0 A1 c1 l1 A2 c2 l2 A3 c3 l3 y0 y1 y2 y3 _ ?s1 HC1.out ?s2 HC2.out ?s3 HC3.out AC.out).mono ?_); (case s1 => exact Kd.C_below HR1.out HB.out); (case s2 => exact Kd.C_below HR2.out HB.out); (case s3 => exact Kd.C_below HR3.out HB.out); rintro e w11_ ⟨v1, v2, v3, rfl, hw_, hb⟩; obtain ⟨B1, q1, B2, q2, B3, q3, rfl, rfl, rfl, _, _, _, _⟩ := hw_.reads; refine ⟨_, rfl, ?_⟩; have F1 := aM (blk_lt BK1.out); have F2 := aM (blk_lt BK2.out); obtain ⟨n0, hn0_⟩ : ∃ n0, n0 = _ := ⟨_, rfl⟩; have HWR := aM ((hw_.bound.mono (ok' := fun k_ => n0 ≤ k_) (fun k_ h_ => by rw [hn0_]; exact h_.2.1)).lower HB.out.size); have FN := aM (hb.size); rw [← hn0_] at F1 F2 FN; clear hw_ hn0_; replace BK1 := zBB BK1 hb; replace BK2 := zBB BK2 hb;  replace HB := zLB HB.out hb; clear hb; (try clear hz1_); have hz1_ := zc4 BK1.out; (try clear hz2_); have hz2_ := zc4 BK2.out;) | ((with_reducible refine gD 4 rfl ?_); refine bE 4 #[.int .i64 0, .slice none 0 0, .slice none 0 0, .slice none 0 0] 25 ?_; intro g4 hg w4_ hbox hb; have GE4 := aM (zg HB.out hg : w.heap.size ≤ g4); have N1_4 := aM (zN BK1.out hg : g1 ≠ g4); have N2_4 := aM (zN BK2.out hg : g2 ≠ g4); have BK4 := aM hbox; have FN4 := aM (by rw [hg]; exact FN.out : n0 ≤ g4); clear FN hbox hg; replace BK1 := zBB BK1 hb; replace BK2 := zBB BK2 hb; replace HWR := aM (HWR.out.below hb); replace HB := zLB HB.out hb; clear hb; (try clear hz1_); have hz1_ := zc4 BK1.out; (try clear hz2_); have hz2_ := zc4 BK2.out; (try clear hz4_); have hz4_ := zc4 BK4.out;) | ((with_reducible refine gate_store (t := 25) (p := 4) rfl ?_); refine store_event (t := 25) (p := 4) (v := ?vo17_) (w1 := ((((w4_.setCell ⟨g4, 0, none⟩ (.int .i64 y0)).setCell ⟨g4, 1, none⟩ (.slice B1 y1.length q1)).setCell ⟨g4, 2, none⟩ (.slice B2 y2.length q2)).setCell ⟨g4, 3, none⟩ (.slice B3 y3.length q3))) ?hg ?ho ?hn ?hr ?_; (case ho => rfl); (case hg => rfl); (case hn => rfl); (case hr => (have hs0_ := (blk_cell BK4.out 0).trans rfl; have hf0_ := blk_frozen BK4.out 0; have hs1_ := (blk_cell BK4.out 1).trans rfl; have hf1_ := blk_frozen BK4.out 1; have hs2_ := (blk_cell BK4.out 2).trans rfl; have hf2_ := blk_frozen BK4.out 2; have hs3_ := (blk_cell BK4.out 3).trans rfl; have hf3_ := blk_frozen BK4.out 3;(try clear hz1_); have hz1_ := zc4 BK1.out; (try clear hz2_); have hz2_ := zc4 BK2.out; first | (go_simp; done) | (go_simp; rfl))); intro w5_ hw_; have HK_ := set4_kept hw_; have BKn := aM (set4_blk hw_ BK4.out rfl); have HBn := aM (set4_below hw_ HB.out GE4.out); replace BK1 := aM (blk_kept BK1.out HK_ (N1_4.out)); replace BK2 := aM (blk_kept BK2.out HK_ (N2_4.out)); replace HWR := aM ((HWR.out.types BK4.out (by decide) (by decide)).kept HK_ (fun _ h_ => h_.2)); clear hw_ BK4 HB; have BK4 := BKn; have HB := HBn; clear BKn HBn HK_; (try clear hz1_); have hz1_ := zc4 BK1.out; (try clear hz2_); have hz2_ := zc4 BK2.out; (try clear hz4_); have hz4_ := zc4 BK4.out;) | ((with_reducible refine gC 30 rfl ?_); refine gL 13 Try.func30 #[.agg #[.int .i64 y0, .slice A1 l1.length c1, .slice A2 l2.length c2, .slice A3 l3.length c3]] ?_; (refine (impl_WheelOk.calls k y0 A1 c1 l1 A2 c2 l2 A3 c3 l3 true _ ?s1 ?t1 ?s2 ?t2 ?s3 ?t3 AO.out).mono ?_); (case s1 => exact Kd.C_below HR1.out HB.out); (case s2 => exact Kd.C_below HR2.out HB.out); (case s3 => exact Kd.C_below HR3.out HB.out); (case t1 => exact HC1.out); (case t2 => exact HC2.out); (case t3 => exact HC3.out); rintro e w13_ ⟨rfl, hb⟩; refine ⟨_, rfl, ?_⟩; replace BK1 := zBB BK1 hb; replace BK2 := zBB BK2 hb; replace BK4 := zBB BK4 hb; replace HWR := aM (HWR.out.below hb); replace HB := zLB HB.out hb; clear hb; (try clear hz1_); have hz1_ := zc4 BK1.out; (try clear hz2_); have hz2_ := zc4 BK2.out; (try clear hz4_); have hz4_ := zc4 BK4.out;) | ((with_reducible refine gate_store (t := 25) (p := 2) rfl ?_); refine store_event (t := 25) (p := 2) (v := ?vo16_) (w1 := ((((w13_.setCell ⟨g2, 0, none⟩ (.int .i64 y0)).setCell ⟨g2, 1, none⟩ (.slice B1 y1.length q1)).setCell ⟨g2, 2, none⟩ (.slice B2 y2.length q2)).setCell ⟨g2, 3, none⟩ (.slice B3 y3.length q3))) ?hg ?ho ?hn ?hr ?_; (case ho => rfl); (case hg => rfl); (case hn => rfl); (case hr => (have hs0_ := (blk_cell BK2.out 0).trans rfl; have hf0_ := blk_frozen BK2.out 0; have hs1_ := (blk_cell BK2.out 1).trans rfl; have hf1_ := blk_frozen BK2.out 1; have hs2_ := (blk_cell BK2.out 2).trans rfl; have hf2_ := blk_frozen BK2.out 2; have hs3_ := (blk_cell BK2.out 3).trans rfl; have hf3_ := blk_frozen BK2.out 3;(try clear hz1_); have hz1_ := zc4 BK1.out; (try clear hz4_); have hz4_ := zc4 BK4.out; first | (go_simp; done) | (go_simp; rfl))); intro wF hw_; have HK_ := set4_kept hw_; have BKn := aM (set4_blk hw_ BK2.out rfl); have HBn := aM (set4_below hw_ HB.out GE2.out); have HF := aM ((HWR.out.types BK2.out (by decide) (by decide)).kept HK_ (fun _ h_ => h_.2));  clear hw_ BK2 HB; have BK2 := BKn; have HB := HBn; clear BKn HBn HK_))
 refine bodyPost_ret (results_ct rfl _ _ g2 25 #[.int .i64 y0, .slice B1 y1.length q1, .slice B2 y2.length q2, .slice B3 y3.length q3] (0, 0) _ rfl (by exact BK2.out) Try.underlying25 rfl (by kernel_rfl)) rfl ?_
 exact ⟨_, _, _, _, _, fun _ => False, rfl, HF.out, Kd.R_nil _ _ _ _ _, fun _ _ h_ => h_, HB.out⟩
set_option maxHeartbeats 8000000 in
set_option maxRecDepth 100000 in
theorem impl_TickOn.quiet (k : Nat) (A1 : Option Addr) (c1 : Nat) (l1 : List (List S46)) (A2 : Option Addr) (c2 : Nat) (l2 : List (List S46)) (A3 : Option Addr) (c3 : Nat) (l3 : List S46) (y0 : Int) (y1 y2 : List (List S46)) (y3 : List S46) (w : World) (hr1 : Kd.C (Kd.slice 46 k46) w A1 l1.length l1) (hc1 : l1.length ≤ c1) (hr2 : Kd.C (Kd.slice 46 k46) w A2 l2.length l2) (hc2 : l2.length ≤ c2) (hr3 : Kd.C k46 w A3 l3.length l3) (hc3 : l3.length ≤ c3) (hac : impl_copyWheel.f k y0 l1 l2 l3 = some (y0, y1, y2, y3)) (hao : impl_WheelOk.f k y0 l1 l2 l3 = some true) (n s : Int) (m1 : List (List S46)) (d : List S46) (h0 : 0 ≤ y0) (hM : y0 < 2147483647) (e1 : y1.length = 8) (e2 : y2.length = 8) (hn : n = y0 + 1) (hs : s = n % 8) (hld : d.length ≤ 1000000) (hm1 : m1 = y1.set s.toNat []) (hdd : d = y1.getD s.toNat []) (hne : ¬ s = 0) :
  Calls Try.prog 37 #[.agg #[.int .i64 y0, .slice A1 l1.length c1, .slice A2 l2.length c2, .slice A3 l3.length c3]] w fun e w' => ∃ (v1_ v2_ v3_ v4_ : Value) (PW PD : Nat → Prop), e = .returned (.tuple #[.agg #[.int .i64 n, v1_, v2_, v3_], v4_]) ∧ WR w' w.heap.size PW v1_ v2_ v3_ m1 y2 y3 ∧ Kd.R k46 46 w' w.heap.size PD v4_ d ∧ (∀ k, PW k → ¬ PD k) ∧ Below w.heap.size w w' := by
 have hu25 := Try.underlying25
 have hu46 := Try.underlying46
 have AC := aM hac
 have AO := aM hao
 clear hac hao
 have HR1 := aM hr1
 have HR2 := aM hr2
 have HR3 := aM hr3
 have HC1 := aM hc1
 have HC2 := aM hc2
 have HC3 := aM hc3
 have HB := aM (Below.refl w.heap.size w)
 clear hr1 hr2 hr3 hc1 hc2 hc3
 have HDE := aM hdd
 have HLD := aM hld
 have H8 := aM (And.intro (show 0 < y1.length by omega) (show 0 < y2.length by omega))
 have hs0 : 0 ≤ s := by omega
 have hs8 : s < (y1.length : Int) := by omega
 have H0 := aM hs0
 have H8n := aM hs8
 have p1 := eq_true hs0
 have p2 := eq_true hs8
 have en : wrap64 (y0 + 1) = n := by unfold wrap64; omega
 have em : Int.tmod n 8 = s := by rw [hs]; exact Int.tmod_eq_emod_of_nonneg (by omega)
 obtain ⟨l1_, l2_⟩ := zf (show ¬ y0 = 2147483647 by omega)
 have HM1 := aM (show m1 = y1.set s.toNat [] from by rw [hm1])
 obtain ⟨n1_, n2_⟩ := zf hne
 clear hn hs hld hm1 hdd hne h0 hM e1 e2 hs0 hs8
 go_enter Try.func37, Try.ntmps37
 go_wp2_with (first | ((with_reducible refine gD 1 rfl ?_); refine bE 1 #[.int .i64 y0, .slice A1 l1.length c1, .slice A2 l2.length c2, .slice A3 l3.length c3] 25 ?_; intro g1 hg w1_ hbox hb; have GE1 := aM (zg HB.out hg : w.heap.size ≤ g1); have BK1 := aM hbox; clear hbox hg;   replace HB := zLB HB.out hb; clear hb; (try clear hz1_); have hz1_ := zc4 BK1.out;) | ((with_reducible refine gD 2 rfl ?_); refine bE 2 #[.int .i64 0, .slice none 0 0, .slice none 0 0, .slice none 0 0] 25 ?_; intro g2 hg w2_ hbox hb; have GE2 := aM (zg HB.out hg : w.heap.size ≤ g2); have N1_2 := aM (zN BK1.out hg : g1 ≠ g2); have BK2 := aM hbox; clear hbox hg; replace BK1 := zBB BK1 hb;  replace HB := zLB HB.out hb; clear hb; (try clear hz1_); have hz1_ := zc4 BK1.out; (try clear hz2_); have hz2_ := zc4 BK2.out;) | ((with_reducible refine gC 74 rfl ?_); refine gL 11 Try.func74 #[.agg #[.int .i64 y0, .slice A1 l1.length c1, .slice A2 l2.length c2, .slice A3 l3.length c3]] ?_; (refine (impl_copyWheel.callsW k y0 A1 c1 l1 A2 c2 l2 A3 c3 l3 y0 y1 y2 y3 _ ?s1 HC1.out ?s2 HC2.out ?s3 HC3.out AC.out).mono ?_); (case s1 => exact Kd.C_below HR1.out HB.out); (case s2 => exact Kd.C_below HR2.out HB.out); (case s3 => exact Kd.C_below HR3.out HB.out); rintro e w11_ ⟨v1, v2, v3, rfl, hw_, hb⟩; obtain ⟨gN, cN, gF, cF, A3_, c3_, rfl, rfl, rfl⟩ := hw_.forms H8.out.1 H8.out.2; refine ⟨_, rfl, ?_⟩; have F1 := aM (blk_lt BK1.out); have F2 := aM (blk_lt BK2.out); obtain ⟨n0, hn0_⟩ : ∃ n0, n0 = _ := ⟨_, rfl⟩; have HWR := aM ((hw_.bound.mono (ok' := fun k_ => n0 ≤ k_) (fun k_ h_ => by rw [hn0_]; exact h_.2.1)).lower HB.out.size); have FN := aM (hb.size); have HNB := aM (HB.out.size); rw [← hn0_] at F1 F2 FN HNB; clear hw_ hn0_; replace BK1 := zBB BK1 hb; replace BK2 := zBB BK2 hb;  replace HB := zLB HB.out hb; clear hb; (try clear hz1_); have hz1_ := zc4 BK1.out; (try clear hz2_); have hz2_ := zc4 BK2.out;) | ((with_reducible refine gD 4 rfl ?_); refine bE 4 #[.int .i64 0, .slice none 0 0, .slice none 0 0, .slice none 0 0] 25 ?_; intro g4 hg w4_ hbox hb; have GE4 := aM (zg HB.out hg : w.heap.size ≤ g4); have N1_4 := aM (zN BK1.out hg : g1 ≠ g4); have N2_4 := aM (zN BK2.out hg : g2 ≠ g4); have BK4 := aM hbox; have FN4 := aM (by rw [hg]; exact FN.out : n0 ≤ g4); clear FN hbox hg; replace BK1 := zBB BK1 hb; replace BK2 := zBB BK2 hb; replace HWR := aM (HWR.out.below hb); replace HB := zLB HB.out hb; clear hb; (try clear hz1_); have hz1_ := zc4 BK1.out; (try clear hz2_); have hz2_ := zc4 BK2.out; (try clear hz4_); have hz4_ := zc4 BK4.out;) | ((with_reducible refine gate_store (t := 25) (p := 4) rfl ?_); refine store_event (t := 25) (p := 4) (v := ?vo18_) (w1 := ((((w4_.setCell ⟨g4, 0, none⟩ (.int .i64 y0)).setCell ⟨g4, 1, none⟩ (.slice (some ⟨gN, 0, none⟩) y1.length cN)).setCell ⟨g4, 2, none⟩ (.slice (some ⟨gF, 0, none⟩) y2.length cF)).setCell ⟨g4, 3, none⟩ (.slice A3_ y3.length c3_))) ?hg ?ho ?hn ?hr ?_; (case ho => rfl); (case hg => rfl); (case hn => rfl); (case hr => (have hs0_ := (blk_cell BK4.out 0).trans rfl; have hf0_ := blk_frozen BK4.out 0; have hs1_ := (blk_cell BK4.out 1).trans rfl; have hf1_ := blk_frozen BK4.out 1; have hs2_ := (blk_cell BK4.out 2).trans rfl; have hf2_ := blk_frozen BK4.out 2; have hs3_ := (blk_cell BK4.out 3).trans rfl; have hf3_ := blk_frozen BK4.out 3;(try clear hz1_); have hz1_ := zc4 BK1.out; (try clear hz2_); have hz2_ := zc4 BK2.out; first | (go_simp; done) | (go_simp; rfl))); intro w5_ hw_; have HK_ := set4_kept hw_; have BKn := aM (set4_blk hw_ BK4.out rfl); have HBn := aM (set4_below hw_ HB.out GE4.out); replace BK1 := aM (blk_kept BK1.out HK_ (N1_4.out)); replace BK2 := aM (blk_kept BK2.out HK_ (N2_4.out)); replace HWR := aM ((HWR.out.types BK4.out (by decide) (by decide)).kept HK_ (fun _ h_ => h_.2)); clear hw_ BK4 HB; have BK4 := BKn; have HB := HBn; clear BKn HBn HK_; (try clear hz1_); have hz1_ := zc4 BK1.out; (try clear hz2_); have hz2_ := zc4 BK2.out; (try clear hz4_); have hz4_ := zc4 BK4.out;) | ((with_reducible refine gC 30 rfl ?_); refine gL 13 Try.func30 #[.agg #[.int .i64 y0, .slice A1 l1.length c1, .slice A2 l2.length c2, .slice A3 l3.length c3]] ?_; (refine (impl_WheelOk.calls k y0 A1 c1 l1 A2 c2 l2 A3 c3 l3 true _ ?s1 ?t1 ?s2 ?t2 ?s3 ?t3 AO.out).mono ?_); (case s1 => exact Kd.C_below HR1.out HB.out); (case s2 => exact Kd.C_below HR2.out HB.out); (case s3 => exact Kd.C_below HR3.out HB.out); (case t1 => exact HC1.out); (case t2 => exact HC2.out); (case t3 => exact HC3.out); rintro e w13_ ⟨rfl, hb⟩; refine ⟨_, rfl, ?_⟩; replace BK1 := zBB BK1 hb; replace BK2 := zBB BK2 hb; replace BK4 := zBB BK4 hb; replace HWR := aM (HWR.out.below hb); replace HB := zLB HB.out hb; clear hb; (try clear hz1_); have hz1_ := zc4 BK1.out; (try clear hz2_); have hz2_ := zc4 BK2.out; (try clear hz4_); have hz4_ := zc4 BK4.out;) | ((with_reducible refine gate_store (t := 3) (p := 24) rfl ?_); refine store_event (t := 3) (p := 24) (v := ?vo19_) (w1 := (w13_.setCell ⟨g4, 0, none⟩ (.int .i64 n))) ?hg ?ho ?hn ?hr ?_; (case ho => rfl); (case hg => rfl); (case hn => rfl); (case hr => (have hs0_ := (blk_cell BK4.out 0).trans rfl; have hf0_ := blk_frozen BK4.out 0; have hs1_ := (blk_cell BK4.out 1).trans rfl; have hf1_ := blk_frozen BK4.out 1; have hs2_ := (blk_cell BK4.out 2).trans rfl; have hf2_ := blk_frozen BK4.out 2; have hs3_ := (blk_cell BK4.out 3).trans rfl; have hf3_ := blk_frozen BK4.out 3;(try clear hz1_); have hz1_ := zc4 BK1.out; (try clear hz2_); have hz2_ := zc4 BK2.out; first | (go_simp; done) | (go_simp; rfl))); intro w24_ hw_; have HK_ := set1_kept hw_; have BKn := aM (by rw [hw_]; exact blk_put BK4.out 0 _ rfl : w24_.heap[g4]? = some (.cells #[.int .i64 n, .slice (some ⟨gN, 0, none⟩) y1.length cN, .slice (some ⟨gF, 0, none⟩) y2.length cF, .slice A3_ y3.length c3_] 25 (0, 0))); have HBn := aM (by rw [hw_]; exact HB.out.setCell GE4.out _ : Below w.heap.size w w24_); replace BK1 := aM (blk_kept BK1.out HK_ (N1_4.out)); replace BK2 := aM (blk_kept BK2.out HK_ (N2_4.out)); replace HWR := aM (HWR.out.kept HK_ (fun _ h_ => h_.2));  clear hw_ BK4 HB; have BK4 := BKn; have HB := HBn; clear BKn HBn HK_; obtain ⟨oki, As, cs, hx_, hR_, hok_, hfz_, hgo_, hgl_, hsw_⟩ := HWR.out.near_take H0.out H8n.out; rw [← HDE.out] at hx_ hR_; have HR := aM hR_; have HOK := aM hok_; have HFZ := aM hfz_; have HGO := aM hgo_; have HGL := aM hgl_; have HSW := aM hsw_; clear hR_ hok_ hfz_ hgo_ hgl_ hsw_; (try clear hz1_); have hz1_ := zc4 BK1.out; (try clear hz2_); have hz2_ := zc4 BK2.out; (try clear hz4_); have hz4_ := zc4 BK4.out;) | ((with_reducible refine gate_store (t := 23) (p := 37) rfl ?_); refine store_event (t := 23) (p := 37) (v := ?vo20_) (w1 := (w24_.setCell ⟨gN, s.toNat, none⟩ (.slice none 0 0))) ?hg ?ho ?hn ?hr ?_; (case ho => rfl); (case hg => rfl); (case hn => rfl); (case hr => (have hf_ := HFZ.out s.toNat; (try clear hz1_); have hz1_ := zc4 BK1.out; (try clear hz2_); have hz2_ := zc4 BK2.out; (try clear hz4_); have hz4_ := zc4 BK4.out; first | (go_simp; done) | (go_simp; rfl))); intro w37_ hw_; have HK_ := set1_kept hw_; have HWN := aM (by rw [hw_]; exact HSW.out (fun _ => False) _ w24_ _ [] (Nat.le_refl _) (Kept.refl _ _) (fun _ _ _ h_ => h_) (Kd.R_nil _ _ _ _ _) : WR w37_ w.heap.size (fun k => (((n0 ≤ k) ∧ k ≠ g4) ∧ ¬ oki k) ∨ w24_.heap.size ≤ k) (.slice (some ⟨gN, 0, none⟩) y1.length cN) (.slice (some ⟨gF, 0, none⟩) y2.length cF) (.slice A3_ y3.length c3_) (y1.set s.toNat []) y2 y3); have HBn := aM (by rw [hw_]; exact HB.out.setCell (Nat.le_trans HNB.out HGO.out.1) _ : Below w.heap.size w w37_); replace BK1 := aM (blk_kept BK1.out HK_ (fun e_ => by have a_ := F1.out; have b_ := HGO.out.1; have c_ : g1 = gN := e_; omega)); replace BK2 := aM (blk_kept BK2.out HK_ (fun e_ => by have a_ := F2.out; have b_ := HGO.out.1; have c_ : g2 = gN := e_; omega)); replace BK4 := aM (blk_kept BK4.out HK_ (fun e_ => HGO.out.2 (Eq.symm e_))); have HD := aM (Kd.R_kept HR.out HK_ (fun k_ h_ e_ => (HOK.out k_ h_).2.1 e_)); clear hw_ HB HWR hx_; have HB := HBn; have HWR := HWN; clear HBn HWN HK_; rw [← HM1.out] at HWR; (try clear hz1_); have hz1_ := zc4 BK1.out; (try clear hz2_); have hz2_ := zc4 BK2.out; (try clear hz4_); have hz4_ := zc4 BK4.out;) | ((with_reducible refine gate_store (t := 25) (p := 2) rfl ?_); refine store_event (t := 25) (p := 2) (v := ?vo21_) (w1 := ((((w37_.setCell ⟨g2, 0, none⟩ (.int .i64 n)).setCell ⟨g2, 1, none⟩ (.slice (some ⟨gN, 0, none⟩) y1.length cN)).setCell ⟨g2, 2, none⟩ (.slice (some ⟨gF, 0, none⟩) y2.length cF)).setCell ⟨g2, 3, none⟩ (.slice A3_ y3.length c3_))) ?hg ?ho ?hn ?hr ?_; (case ho => rfl); (case hg => rfl); (case hn => rfl); (case hr => (have hs0_ := (blk_cell BK2.out 0).trans rfl; have hf0_ := blk_frozen BK2.out 0; have hs1_ := (blk_cell BK2.out 1).trans rfl; have hf1_ := blk_frozen BK2.out 1; have hs2_ := (blk_cell BK2.out 2).trans rfl; have hf2_ := blk_frozen BK2.out 2; have hs3_ := (blk_cell BK2.out 3).trans rfl; have hf3_ := blk_frozen BK2.out 3;(try clear hz1_); have hz1_ := zc4 BK1.out; (try clear hz4_); have hz4_ := zc4 BK4.out; first | (go_simp; done) | (go_simp; rfl))); intro wF hw_; have HK_ := set4_kept hw_; have BKn := aM (set4_blk hw_ BK2.out rfl); have HBn := aM (set4_below hw_ HB.out GE2.out); have HF := aM ((HWR.out.types BK2.out (by decide) (by decide)).kept HK_ (fun _ h_ => h_.2)); replace HD := aM (Kd.R_kept (Kd.R_types HD.out BK2.out (by decide)) HK_ (fun _ h_ => h_.2)); clear hw_ BK2 HB; have BK2 := BKn; have HB := HBn; clear BKn HBn HK_))
 refine bodyPost_ret (results_ct rfl _ _ g2 25 #[.int .i64 n, .slice (some ⟨gN, 0, none⟩) y1.length cN, .slice (some ⟨gF, 0, none⟩) y2.length cF, .slice A3_ y3.length c3_] (0, 0) _ rfl (by exact BK2.out) Try.underlying25 rfl (by kernel_rfl)) rfl ?_
 exact ⟨_, _, _, _, _, _, rfl, HF.out, HD.out, fun k_ h_ h2_ => h_.1.elim (fun a_ => a_.2 h2_.1) (fun a_ => by have b_ := (HOK.out k_ h2_.1).2.2; omega), HB.out⟩
def impl_TickOn.T9 : Bool × List (List Nat × List Nat) := (true, [([], []), ([0], [0]), ([], []), ([1, 2], [1, 2]), ([3], [3]), ([], []), ([5], [5]), ([4, 6], [4, 6]), ([7, 7, 0, 1, 2, 3, 4, 5, 6, 7], [7])])
def impl_TickOn.B9 : List Nat := [0, 1, 0, 7, 15, 0, 32, 127, 255]
theorem impl_TickOn.tab9 : rtab .any (opsOf Try.f37 9) = impl_TickOn.T9 := by kernel_rfl
theorem impl_TickOn.bits9 : waitsOk impl_TickOn.T9.2 impl_TickOn.B9 = true := by kernel_rfl
set_option maxHeartbeats 8000000 in
set_option maxRecDepth 100000 in
theorem impl_TickOn.turn (k : Nat) (A1 : Option Addr) (c1 : Nat) (l1 : List (List S46)) (A2 : Option Addr) (c2 : Nat) (l2 : List (List S46)) (A3 : Option Addr) (c3 : Nat) (l3 : List S46) (y0 : Int) (y1 y2 : List (List S46)) (y3 : List S46) (w : World) (hr1 : Kd.C (Kd.slice 46 k46) w A1 l1.length l1) (hc1 : l1.length ≤ c1) (hr2 : Kd.C (Kd.slice 46 k46) w A2 l2.length l2) (hc2 : l2.length ≤ c2) (hr3 : Kd.C k46 w A3 l3.length l3) (hc3 : l3.length ≤ c3) (hac : impl_copyWheel.f k y0 l1 l2 l3 = some (y0, y1, y2, y3)) (hao : impl_WheelOk.f k y0 l1 l2 l3 = some true) (n s : Int) (m1 : List (List S46)) (d : List S46) (h0 : 0 ≤ y0) (hM : y0 < 2147483647) (e1 : y1.length = 8) (e2 : y2.length = 8) (hn : n = y0 + 1) (hs : s = n % 8) (hld : d.length ≤ 1000000) (hm1 : m1 = y1.set s.toNat []) (hdd : d = y1.getD s.toNat []) (kk : Int) (m2 : List (List S46)) (xf mv : List S46) (hz : s = 0) (hk : kk = n / 8 % 8) (hm2 : m2 = y2.set kk.toNat []) (hxf : xf = y2.getD kk.toNat []) (hlf : xf.length ≤ 1000000) (hlr : y3.length ≤ 1000000) (hmv : mv = xf ++ y3) (r2 r3 : List (List S46)) (r4 r5 : List S46) (hF : moveF n mv m1 m2 [] d = some (r2, r3, r4, r5)) :
  Calls Try.prog 37 #[.agg #[.int .i64 y0, .slice A1 l1.length c1, .slice A2 l2.length c2, .slice A3 l3.length c3]] w fun e w' => ∃ (v1_ v2_ v3_ v4_ : Value) (PW PD : Nat → Prop), e = .returned (.tuple #[.agg #[.int .i64 n, v1_, v2_, v3_], v4_]) ∧ WR w' w.heap.size PW v1_ v2_ v3_ r2 r3 r4 ∧ Kd.R k46 46 w' w.heap.size PD v4_ r5 ∧ (∀ k, PW k → ¬ PD k) ∧ Below w.heap.size w w' := by
 have hu25 := Try.underlying25
 have hu46 := Try.underlying46
 have AC := aM hac
 have AO := aM hao
 clear hac hao
 have HR1 := aM hr1
 have HR2 := aM hr2
 have HR3 := aM hr3
 have HC1 := aM hc1
 have HC2 := aM hc2
 have HC3 := aM hc3
 have HB := aM (Below.refl w.heap.size w)
 clear hr1 hr2 hr3 hc1 hc2 hc3
 have HDE := aM hdd
 have HLD := aM hld
 have H8 := aM (And.intro (show 0 < y1.length by omega) (show 0 < y2.length by omega))
 have hs0 : 0 ≤ s := by omega
 have hs8 : s < (y1.length : Int) := by omega
 have H0 := aM hs0
 have H8n := aM hs8
 have p1 := eq_true hs0
 have p2 := eq_true hs8
 have en : wrap64 (y0 + 1) = n := by unfold wrap64; omega
 have em : Int.tmod n 8 = s := by rw [hs]; exact Int.tmod_eq_emod_of_nonneg (by omega)
 obtain ⟨l1_, l2_⟩ := zf (show ¬ y0 = 2147483647 by omega)
 have HM1 := aM (show m1 = y1.set s.toNat [] from by rw [hm1])
 obtain ⟨n1_, n2_⟩ := zt hz
 have hk0 : 0 ≤ kk := by omega
 have hk8 : kk < (y2.length : Int) := by omega
 have HK0 := aM hk0
 have HK8 := aM hk8
 have p3 := eq_true hk0
 have p4 := eq_true hk8
 have ek : Int.tmod (wrap64 (Int.tdiv n 8)) 8 = kk := by
  rw [hk, Int.tdiv_eq_ediv_of_nonneg (by omega), show wrap64 (n / 8) = n / 8 by unfold wrap64; omega]
  exact Int.tmod_eq_emod_of_nonneg (by omega)
 have HM2 := aM hm2
 have HXF := aM hxf
 have HLF := aM hlf
 have HLR := aM hlr
 have HMV := aM hmv
 have HMF := aM hF
 have HMVL := aM (show mv.length ≤ 2000000 by rw [hmv, List.length_append]; omega)
 clear hn hs hld hm1 hdd hz hk hm2 hxf hlf hlr hmv hF h0 hM e1 e2 hs0 hs8 hk0 hk8
 go_enter Try.func37, Try.ntmps37
 try go_wp2_with (first | ((with_reducible refine gD 1 rfl ?_); refine bE 1 #[.int .i64 y0, .slice A1 l1.length c1, .slice A2 l2.length c2, .slice A3 l3.length c3] 25 ?_; intro g1 hg w1_ hbox hb; have GE1 := aM (zg HB.out hg : w.heap.size ≤ g1); have BK1 := aM hbox; clear hbox hg;   replace HB := zLB HB.out hb; clear hb; (try clear hz1_); have hz1_ := zc4 BK1.out;) | ((with_reducible refine gD 2 rfl ?_); refine bE 2 #[.int .i64 0, .slice none 0 0, .slice none 0 0, .slice none 0 0] 25 ?_; intro g2 hg w2_ hbox hb; have GE2 := aM (zg HB.out hg : w.heap.size ≤ g2); have N1_2 := aM (zN BK1.out hg : g1 ≠ g2); have BK2 := aM hbox; clear hbox hg; replace BK1 := zBB BK1 hb;  replace HB := zLB HB.out hb; clear hb; (try clear hz1_); have hz1_ := zc4 BK1.out; (try clear hz2_); have hz2_ := zc4 BK2.out;) | ((with_reducible refine gC 74 rfl ?_); refine gL 11 Try.func74 #[.agg #[.int .i64 y0, .slice A1 l1.length c1, .slice A2 l2.length c2, .slice A3 l3.length c3]] ?_; (refine (impl_copyWheel.callsW k y0 A1 c1 l1 A2 c2 l2 A3 c3 l3 y0 y1 y2 y3 _ ?s1 HC1.out ?s2 HC2.out ?s3 HC3.out AC.out).mono ?_); (case s1 => exact Kd.C_below HR1.out HB.out); (case s2 => exact Kd.C_below HR2.out HB.out); (case s3 => exact Kd.C_below HR3.out HB.out); rintro e w11_ ⟨v1, v2, v3, rfl, hw_, hb⟩; obtain ⟨gN, cN, gF, cF, A3_, c3_, rfl, rfl, rfl⟩ := hw_.forms H8.out.1 H8.out.2; refine ⟨_, rfl, ?_⟩; have F1 := aM (blk_lt BK1.out); have F2 := aM (blk_lt BK2.out); obtain ⟨n0, hn0_⟩ : ∃ n0, n0 = _ := ⟨_, rfl⟩; have HWR := aM ((hw_.bound.mono (ok' := fun k_ => n0 ≤ k_) (fun k_ h_ => by rw [hn0_]; exact h_.2.1)).lower HB.out.size); have FN := aM (hb.size); have HNB := aM (HB.out.size); rw [← hn0_] at F1 F2 FN HNB; clear hw_ hn0_; replace BK1 := zBB BK1 hb; replace BK2 := zBB BK2 hb;  replace HB := zLB HB.out hb; clear hb; (try clear hz1_); have hz1_ := zc4 BK1.out; (try clear hz2_); have hz2_ := zc4 BK2.out;) | ((with_reducible refine gD 4 rfl ?_); refine bE 4 #[.int .i64 0, .slice none 0 0, .slice none 0 0, .slice none 0 0] 25 ?_; intro g4 hg w4_ hbox hb; have GE4 := aM (zg HB.out hg : w.heap.size ≤ g4); have N1_4 := aM (zN BK1.out hg : g1 ≠ g4); have N2_4 := aM (zN BK2.out hg : g2 ≠ g4); have BK4 := aM hbox; have FN4 := aM (by rw [hg]; exact FN.out : n0 ≤ g4); clear FN hbox hg; replace BK1 := zBB BK1 hb; replace BK2 := zBB BK2 hb; replace HWR := aM (HWR.out.below hb); replace HB := zLB HB.out hb; clear hb; (try clear hz1_); have hz1_ := zc4 BK1.out; (try clear hz2_); have hz2_ := zc4 BK2.out; (try clear hz4_); have hz4_ := zc4 BK4.out;) | ((with_reducible refine gate_store (t := 25) (p := 4) rfl ?_); refine store_event (t := 25) (p := 4) (v := ?vo22_) (w1 := ((((w4_.setCell ⟨g4, 0, none⟩ (.int .i64 y0)).setCell ⟨g4, 1, none⟩ (.slice (some ⟨gN, 0, none⟩) y1.length cN)).setCell ⟨g4, 2, none⟩ (.slice (some ⟨gF, 0, none⟩) y2.length cF)).setCell ⟨g4, 3, none⟩ (.slice A3_ y3.length c3_))) ?hg ?ho ?hn ?hr ?_; (case ho => rfl); (case hg => rfl); (case hn => rfl); (case hr => (have hs0_ := (blk_cell BK4.out 0).trans rfl; have hf0_ := blk_frozen BK4.out 0; have hs1_ := (blk_cell BK4.out 1).trans rfl; have hf1_ := blk_frozen BK4.out 1; have hs2_ := (blk_cell BK4.out 2).trans rfl; have hf2_ := blk_frozen BK4.out 2; have hs3_ := (blk_cell BK4.out 3).trans rfl; have hf3_ := blk_frozen BK4.out 3;(try clear hz1_); have hz1_ := zc4 BK1.out; (try clear hz2_); have hz2_ := zc4 BK2.out; first | (go_simp; done) | (go_simp; rfl))); intro w5_ hw_; have HK_ := set4_kept hw_; have BKn := aM (set4_blk hw_ BK4.out rfl); have HBn := aM (set4_below hw_ HB.out GE4.out); replace BK1 := aM (blk_kept BK1.out HK_ (N1_4.out)); replace BK2 := aM (blk_kept BK2.out HK_ (N2_4.out)); replace HWR := aM ((HWR.out.types BK4.out (by decide) (by decide)).kept HK_ (fun _ h_ => h_.2)); clear hw_ BK4 HB; have BK4 := BKn; have HB := HBn; clear BKn HBn HK_; (try clear hz1_); have hz1_ := zc4 BK1.out; (try clear hz2_); have hz2_ := zc4 BK2.out; (try clear hz4_); have hz4_ := zc4 BK4.out;) | ((with_reducible refine gC 30 rfl ?_); refine gL 13 Try.func30 #[.agg #[.int .i64 y0, .slice A1 l1.length c1, .slice A2 l2.length c2, .slice A3 l3.length c3]] ?_; (refine (impl_WheelOk.calls k y0 A1 c1 l1 A2 c2 l2 A3 c3 l3 true _ ?s1 ?t1 ?s2 ?t2 ?s3 ?t3 AO.out).mono ?_); (case s1 => exact Kd.C_below HR1.out HB.out); (case s2 => exact Kd.C_below HR2.out HB.out); (case s3 => exact Kd.C_below HR3.out HB.out); (case t1 => exact HC1.out); (case t2 => exact HC2.out); (case t3 => exact HC3.out); rintro e w13_ ⟨rfl, hb⟩; refine ⟨_, rfl, ?_⟩; replace BK1 := zBB BK1 hb; replace BK2 := zBB BK2 hb; replace BK4 := zBB BK4 hb; replace HWR := aM (HWR.out.below hb); replace HB := zLB HB.out hb; clear hb; (try clear hz1_); have hz1_ := zc4 BK1.out; (try clear hz2_); have hz2_ := zc4 BK2.out; (try clear hz4_); have hz4_ := zc4 BK4.out;) | ((with_reducible refine gate_store (t := 3) (p := 24) rfl ?_); refine store_event (t := 3) (p := 24) (v := ?vo23_) (w1 := (w13_.setCell ⟨g4, 0, none⟩ (.int .i64 n))) ?hg ?ho ?hn ?hr ?_; (case ho => rfl); (case hg => rfl); (case hn => rfl); (case hr => (have hs0_ := (blk_cell BK4.out 0).trans rfl; have hf0_ := blk_frozen BK4.out 0; have hs1_ := (blk_cell BK4.out 1).trans rfl; have hf1_ := blk_frozen BK4.out 1; have hs2_ := (blk_cell BK4.out 2).trans rfl; have hf2_ := blk_frozen BK4.out 2; have hs3_ := (blk_cell BK4.out 3).trans rfl; have hf3_ := blk_frozen BK4.out 3;(try clear hz1_); have hz1_ := zc4 BK1.out; (try clear hz2_); have hz2_ := zc4 BK2.out; first | (go_simp; done) | (go_simp; rfl))); intro w24_ hw_; have L24 := aM (Nat.lt_of_lt_of_le (blk_lt BK4.out) (set1_kept hw_).1); have HK_ := set1_kept hw_; have BKn := aM (by rw [hw_]; exact blk_put BK4.out 0 _ rfl : w24_.heap[g4]? = some (.cells #[.int .i64 n, .slice (some ⟨gN, 0, none⟩) y1.length cN, .slice (some ⟨gF, 0, none⟩) y2.length cF, .slice A3_ y3.length c3_] 25 (0, 0))); have HBn := aM (by rw [hw_]; exact HB.out.setCell GE4.out _ : Below w.heap.size w w24_); replace BK1 := aM (blk_kept BK1.out HK_ (N1_4.out)); replace BK2 := aM (blk_kept BK2.out HK_ (N2_4.out)); replace HWR := aM (HWR.out.kept HK_ (fun _ h_ => h_.2));  clear hw_ BK4 HB; have BK4 := BKn; have HB := HBn; clear BKn HBn HK_; obtain ⟨oki, As, cs, hx_, hR_, hok_, hfz_, hgo_, hgl_, hsw_⟩ := HWR.out.near_take H0.out H8n.out; rw [← HDE.out] at hx_ hR_; have HR := aM hR_; have HOK := aM hok_; have HFZ := aM hfz_; have HGO := aM hgo_; have HGL := aM hgl_; have HSW := aM hsw_; clear hR_ hok_ hfz_ hgo_ hgl_ hsw_; (try clear hz1_); have hz1_ := zc4 BK1.out; (try clear hz2_); have hz2_ := zc4 BK2.out; (try clear hz4_); have hz4_ := zc4 BK4.out;) | ((with_reducible refine gate_store (t := 23) (p := 37) rfl ?_); refine store_event (t := 23) (p := 37) (v := ?vo24_) (w1 := (w24_.setCell ⟨gN, s.toNat, none⟩ (.slice none 0 0))) ?hg ?ho ?hn ?hr ?_; (case ho => rfl); (case hg => rfl); (case hn => rfl); (case hr => (have hf_ := HFZ.out s.toNat; (try clear hz1_); have hz1_ := zc4 BK1.out; (try clear hz2_); have hz2_ := zc4 BK2.out; (try clear hz4_); have hz4_ := zc4 BK4.out; first | (go_simp; done) | (go_simp; rfl))); intro w37_ hw_; have HK_ := set1_kept hw_; have HWN := aM (by rw [hw_]; exact HSW.out (fun _ => False) _ w24_ _ [] (Nat.le_refl _) (Kept.refl _ _) (fun _ _ _ h_ => h_) (Kd.R_nil _ _ _ _ _) : WR w37_ w.heap.size (fun k => (((n0 ≤ k) ∧ k ≠ g4) ∧ ¬ oki k) ∨ w24_.heap.size ≤ k) (.slice (some ⟨gN, 0, none⟩) y1.length cN) (.slice (some ⟨gF, 0, none⟩) y2.length cF) (.slice A3_ y3.length c3_) (y1.set s.toNat []) y2 y3); have HBn := aM (by rw [hw_]; exact HB.out.setCell (Nat.le_trans HNB.out HGO.out.1) _ : Below w.heap.size w w37_); replace BK1 := aM (blk_kept BK1.out HK_ (fun e_ => by have a_ := F1.out; have b_ := HGO.out.1; have c_ : g1 = gN := e_; omega)); replace BK2 := aM (blk_kept BK2.out HK_ (fun e_ => by have a_ := F2.out; have b_ := HGO.out.1; have c_ : g2 = gN := e_; omega)); replace BK4 := aM (blk_kept BK4.out HK_ (fun e_ => HGO.out.2 (Eq.symm e_))); have HD := aM (Kd.R_kept HR.out HK_ (fun k_ h_ e_ => (HOK.out k_ h_).2.1 e_)); have Z37 := aM HK_.1; clear hw_ HB HWR hx_; have HB := HBn; have HWR := HWN; clear HBn HWN HK_; rw [← HM1.out] at HWR; replace HWR := aM (HWR.out.bound.mono (ok' := (fun k => (((((n0 ≤ k) ∧ k ≠ g4)) ∧ ¬ oki k) ∨ w24_.heap.size ≤ k) ∧ k < w37_.heap.size)) (fun k_ h_ => ⟨h_.1, h_.2.2.1⟩)); (try clear hz1_); have hz1_ := zc4 BK1.out; (try clear hz2_); have hz2_ := zc4 BK2.out; (try clear hz4_); have hz4_ := zc4 BK4.out;))
 replace BK1 := zBD BK1
 replace BK2 := zBD BK2
 replace BK4 := zBD BK4
 replace HB := zLD HB
 replace HD := zRD HD
 replace HWR := aM HWR.out.drew
 have ZD : Aside0 (w37_.heap.size ≤ w37_.drew.heap.size) := ⟨Nat.le_refl _⟩
 skip
 obtain ⟨okf, Af, cf, hxf_, hRf_, hokf_, hfzf_, hgof_, hglf_, hswf_⟩ := HWR.out.far_take HK0.out HK8.out
 rw [← HXF.out] at hxf_ hRf_
 have HR3q := HWR.out.rest_reads rfl
 have HX := aM hxf_
 have HRF := aM hRf_
 have HOKF := aM hokf_
 have HFZF := aM hfzf_
 have HGOF := aM hgof_
 have HGLF := aM hglf_
 have HSWF := aM hswf_
 have HR3_ := aM HR3q
 clear hxf_ hRf_ hokf_ hfzf_ hgof_ hglf_ hswf_ HR3q
 refine start_ (n := 9) (S := fun w' => w'.cell? ⟨g4, 2, none⟩ = some (.slice (some ⟨gF, 0, none⟩) y2.length cF) ∧ w'.cell? ⟨g4, 3, none⟩ = some (.slice A3_ y3.length c3_) ∧ w'.cell? ⟨gF, kk.toNat, none⟩ = some (.slice Af xf.length cf)) (ds := []) (fB 9 0) (by kernel_rfl) rfl rfl ⟨(blk_cell BK4.out 2).trans rfl, (blk_cell BK4.out 3).trans rfl, HX.out⟩ (fun hHeld => ?_); refine with_tabW impl_TickOn.tab9 impl_TickOn.bits9 (fun HT_ HW_ => ?_)
 generalize w37_.drew = w38_ at BK1 BK2 BK4 HB HD HWR ZD HX HRF HOKF HFZF HGLF HSWF HR3_ hHeld ⊢
 refine pY 0 46 (fB 9 1) HT_.out ?_
 refine pY 2 48 (fB 9 5) HT_.out ?_
 refine pY 5 51 (fB 9 37) HT_.out ?_
 refine tY 1 47 (fB 9 39) HT_.out HW_.out hHeld ?_
 refine pY 3 49 (fB 9 47) HT_.out ?_
 refine tY 4 50 (fB 9 63) HT_.out HW_.out hHeld ?_
 refine tY 6 52 (fB 9 127) HT_.out HW_.out hHeld ?_
 refine oN 7 53 (fB 9 255) HT_.out fun K hK => ?_
 refine Kd.R_append_rows_step k46 (w0 := w) w.heap.size (by rfl) (.tmp 50) (.tmp 52) 23 46 (.agg #[(.int .i64 0), (.int .i64 0), (.int .i64 0)]) 24 rfl Try.underlying23 info46 rfl (by decide) (by omega) (.slice Af xf.length cf) xf y3 _ _ _ (fun k => okf k ∨ w38_.heap.size ≤ k) (fun _ => False) rfl rfl ?aO ?aR (fun _ _ h => h) (fun _ h => h.elim) ?aF ?aB ?aS ?aL ?_; (case aO => exact (Kd.R_mono HRF.out (fun k h => .inl h))); (case aR => exact HR3_.out); (case aF => exact (fun k hk => .inr hk)); (case aB => exact HB.out); (case aS => exact HB.out.size); (case aL => (have h1_ := HLF.out; have h2_ := HLR.out; omega)); intro vm w53_ ho hb hg hat; clear hat; rw [← HMV.out] at ho; obtain ⟨Am, cm, rfl⟩ := Kd.R_slice ho; have HKM := aM (Kept.of_grown hg (Kept.refl w38_ okf) (fun k_ hk_ => .inl (HRF.out.1 k_ hk_))); have HM := aM (Kd.R_mono (Kd.R_bound ho) (ok' := fun k_ => (okf k_ ∨ w38_.heap.size ≤ k_) ∧ k_ < w53_.heap.size) (fun k_ h_ => ⟨h_.1, h_.2.2.1⟩)); replace HD := aM (Kd.R_kept HD.out HKM.out (fun k_ h_ h2_ => by have a_ := (HOKF.out k_ h2_).1; have l_ := (HOK.out k_ h_).2.2; rcases a_.1 with c_ | c_; exact c_.2 h_; omega)); have HXM := aM (cell_kept HX.out HKM.out (fun h_ => (HOKF.out gF h_).2.1 rfl)); replace BK1 := aM (blk_kept BK1.out HKM.out (fun h_ => by have a_ := (HOKF.out g1 h_).1; have f_ := F1.out; have n_ := FN4.out; have l_ := L24.out; rcases a_.1 with c_ | c_; (have d_ := c_.1.1; omega); omega)); replace BK2 := aM (blk_kept BK2.out HKM.out (fun h_ => by have a_ := (HOKF.out g2 h_).1; have f_ := F2.out; have n_ := FN4.out; have l_ := L24.out; rcases a_.1 with c_ | c_; (have d_ := c_.1.1; omega); omega)); replace BK4 := aM (blk_kept BK4.out HKM.out (fun h_ => by have a_ := (HOKF.out g4 h_).1; have l_ := L24.out; rcases a_.1 with c_ | c_; exact c_.1.2 rfl; omega)); clear HB; have HB := aM hb; clear ho hb hg
 refine hK.out _ _ ⟨(blk_cell BK4.out 2).trans rfl, (blk_cell BK4.out 3).trans rfl, HXM.out⟩ fun hHeld => ?_; clear hK K
 refine nZ 53 ?_
 refine pY 8 7 (fB 9 511) HT_.out ?_
 refine done_ (done_of HT_.out (by kernel_rfl)) ?_
 go_wp2_with (first | ((with_reducible refine gate_store (t := 23) (p := 57) rfl ?_); refine store_event (t := 23) (p := 57) (v := ?vo25_) (w1 := (w53_.setCell ⟨gF, kk.toNat, none⟩ (.slice none 0 0))) ?hg ?ho ?hn ?hr ?_; (case ho => rfl); (case hg => rfl); (case hn => rfl); (case hr => (have hxm_ := HXM.out; have hf_ : w53_.frozen? ⟨gF, kk.toNat, none⟩ = false := frozen_kept (HFZF.out kk.toNat) HGLF.out HKM.out (fun h_ => (HOKF.out gF h_).2.1 rfl); (try clear hz1_); have hz1_ := zc4 BK1.out; (try clear hz2_); have hz2_ := zc4 BK2.out; (try clear hz4_); have hz4_ := zc4 BK4.out; first | (go_simp; done) | (go_simp; rfl))); intro w57_ hw_; have HK_ := set1_kept hw_; have HWN := aM (by rw [hw_]; exact HSWF.out okf w53_.heap.size w53_ _ [] HKM.out.1 HKM.out (fun _ _ h_ => h_) (Kd.R_nil _ _ _ _ _) : WR w57_ w.heap.size (fun k => ((((((n0 ≤ k) ∧ k ≠ g4) ∧ ¬ oki k) ∨ w24_.heap.size ≤ k) ∧ k < w37_.heap.size) ∧ ¬ okf k) ∨ w53_.heap.size ≤ k) (.slice (some ⟨gN, 0, none⟩) y1.length cN) (.slice (some ⟨gF, 0, none⟩) y2.length cF) (.slice A3_ y3.length c3_) m1 (y2.set kk.toNat []) y3); have HGB := aM (by have a_ := HGOF.out; have l_ := L24.out; have f_ := FN4.out; rcases a_.1 with c_ | c_; exact c_.1.1; omega : n0 ≤ gF); have HBn := aM (by rw [hw_]; exact HB.out.setCell (Nat.le_trans HNB.out HGB.out) _ : Below w.heap.size w w57_); replace BK1 := aM (blk_kept BK1.out HK_ (fun e_ => by have a_ := HGOF.out; have f_ := F1.out; have n_ := FN4.out; have l_ := L24.out; have e2_ : g1 = gF := e_; subst e2_; rcases a_.1 with c_ | c_; (have d_ := c_.1.1; omega); omega)); replace BK2 := aM (blk_kept BK2.out HK_ (fun e_ => by have a_ := HGOF.out; have f_ := F2.out; have n_ := FN4.out; have l_ := L24.out; have e2_ : g2 = gF := e_; subst e2_; rcases a_.1 with c_ | c_; (have d_ := c_.1.1; omega); omega)); replace BK4 := aM (blk_kept BK4.out HK_ (fun e_ => by have a_ := HGOF.out; have l_ := L24.out; have e2_ : g4 = gF := e_; subst e2_; rcases a_.1 with c_ | c_; exact c_.1.2 rfl; omega)); replace HD := aM (Kd.R_kept HD.out HK_ (fun k_ h_ e_ => by have a_ := HGOF.out; have l_ := (HOK.out k_ h_).2.2; have e2_ : k_ = gF := e_; subst e2_; rcases a_.1 with c_ | c_; exact c_.2 h_; omega)); replace HM := aM (Kd.R_kept HM.out HK_ (fun k_ h_ e_ => by have e2_ : k_ = gF := e_; rcases h_.1 with c_ | c_; exact (HOKF.out k_ c_).2.1 e2_; (have l_ := HGLF.out; omega))); have Z57 := aM HK_.1; clear hw_ HB HWR; have HB := HBn; have HWR := HWN; clear HBn HWN HK_; rw [← HM2.out] at HWR; (try clear hz1_); have hz1_ := zc4 BK1.out; (try clear hz2_); have hz2_ := zc4 BK2.out; (try clear hz4_); have hz4_ := zc4 BK4.out;) | ((with_reducible refine gate_store (t := 23) (p := 58) rfl ?_); refine store_event (t := 23) (p := 58) (v := ?vo26_) (w1 := (w57_.setCell ⟨g4, 3, none⟩ (.slice none 0 0))) ?hg ?ho ?hn ?hr ?_; (case ho => rfl); (case hg => rfl); (case hn => rfl); (case hr => (have hs0_ := (blk_cell BK4.out 0).trans rfl; have hf0_ := blk_frozen BK4.out 0; have hs1_ := (blk_cell BK4.out 1).trans rfl; have hf1_ := blk_frozen BK4.out 1; have hs2_ := (blk_cell BK4.out 2).trans rfl; have hf2_ := blk_frozen BK4.out 2; have hs3_ := (blk_cell BK4.out 3).trans rfl; have hf3_ := blk_frozen BK4.out 3;(try clear hz1_); have hz1_ := zc4 BK1.out; (try clear hz2_); have hz2_ := zc4 BK2.out; first | (go_simp; done) | (go_simp; rfl))); intro w58_ hw_; have HK_ := set1_kept hw_; have BKn := aM (by rw [hw_]; exact blk_put BK4.out 3 _ rfl : w58_.heap[g4]? = some (.cells #[.int .i64 n, .slice (some ⟨gN, 0, none⟩) y1.length cN, .slice (some ⟨gF, 0, none⟩) y2.length cF, .slice none 0 0] 25 (0, 0))); have HBn := aM (by rw [hw_]; exact HB.out.setCell GE4.out _ : Below w.heap.size w w58_); replace HD := aM (Kd.R_kept (Kd.R_types HD.out BK4.out (by decide)) HK_ (fun _ h_ => h_.2)); replace HM := aM (Kd.R_kept (Kd.R_types HM.out BK4.out (by decide)) HK_ (fun _ h_ => h_.2)); replace HWR := aM (((HWR.out.types BK4.out (by decide) (by decide)).kept HK_ (fun _ h_ => h_.2)).rest_nil.bound.mono (ok' := fun k_ => ((((((((n0 ≤ k_) ∧ k_ ≠ g4) ∧ ¬ oki k_) ∨ w24_.heap.size ≤ k_) ∧ k_ < w37_.heap.size) ∧ ¬ okf k_) ∨ w53_.heap.size ≤ k_) ∧ k_ ≠ g4) ∧ k_ < w58_.heap.size) (fun k_ h_ => ⟨h_.1, h_.2.2.1⟩)); replace BK1 := aM (blk_kept BK1.out HK_ (N1_4.out)); replace BK2 := aM (blk_kept BK2.out HK_ (N2_4.out)); have Z58 := aM HK_.1; clear hw_ BK4 HB; have BK4 := BKn; have HB := HBn; clear BKn HBn HK_; (try clear hz1_); have hz1_ := zc4 BK1.out; (try clear hz2_); have hz2_ := zc4 BK2.out; (try clear hz4_); have hz4_ := zc4 BK4.out;))
 have HTI : Aside0 (TI n g4 n0 w.heap.size w58_ m1 m2 [] d (.slice As d.length cs) mv (.slice Am mv.length cm)) := aM (by
  have z24 := L24.out
  have z37 := Z37.out
  have zd := ZD.out
  have z53 := HKM.out.1
  have z57 := Z57.out
  have z58 := Z58.out
  have f4 := FN4.out
  refine ⟨_, _, _, ⟨_, _, _, BK4.out, HWR.out⟩, HD.out, HM.out, ⟨fun k_ h_ h2_ => ?_, fun k_ h_ h2_ => ?_, fun k_ h_ h2_ => ?_⟩, fun k_ h_ => ?_⟩
  ·have l_ := (HOK.out k_ h2_.1).2.2
   rcases h_.1.1 with c_ | c_
   ·rcases c_.1.1 with e_ | e_
    ·exact e_.2 h2_.1
    ·omega
   ·omega
  ·have b_ := h2_.1.2
   rcases h_.1.1 with c_ | c_
   ·rcases h2_.1.1 with e_ | e_
    ·exact c_.2 e_
    ·have := c_.1.2; omega
   ·omega
  ·have l_ := (HOK.out k_ h_.1).2.2
   rcases h2_.1.1 with e_ | e_
   ·rcases (HOKF.out k_ e_).1.1 with c_ | c_
    ·exact c_.2 h_.1
    ·omega
   ·omega
  ·rcases h_ with h_ | h_ | h_
   ·refine ⟨?_, h_.2, h_.1.2⟩
    rcases h_.1.1 with c_ | c_
    ·rcases c_.1.1 with e_ | e_
     ·exact e_.1.1
     ·omega
    ·omega
   ·have l_ := HOK.out k_ h_.1
    exact ⟨l_.1.1, by have := l_.2.2; omega, l_.1.2⟩
   ·have b_ := h_.1.2
    rcases h_.1.1 with e_ | e_
    ·have a_ := (HOKF.out k_ e_).1
     refine ⟨?_, by omega, h_.2⟩
     rcases a_.1 with c_ | c_
     ·exact c_.1.1
     ·omega
    ·exact ⟨by omega, by omega, h_.2⟩)
 have HN0 := aM (Nat.le_of_lt (Nat.lt_of_le_of_lt FN4.out (blk_lt BK4.out)) : n0 ≤ w58_.heap.size)
 clear HWR HD HM BK4 HRF HOKF HFZF HGOF HGLF HSWF HR3_ HKM HX HXM ZD Z57 Z58 L24 HR HOK HFZ HGO HGL HSW HGB Z37 HXF HM1 HM2 HDE HLD HLF HLR HK0 HK8 H0 H8n H8 em ek p1 p2 p3 p4 l1_ l2_ n1_ n2_ en hHeld
 go_loopg [5, 61] mv.length (fun gk v5 v61 w' => ∃ (j : Nat) (q1 q2 : List (List S46)) (q3 q5 : List S46), v61 = .int .i64 (j : Int) ∧ j ≤ mv.length ∧ mv.length - j ≤ gk ∧ Aside0 (moveF n (mv.drop j) q1 q2 q3 q5 = some (r2, r3, r4, r5)) ∧ Aside0 (TI n g4 n0 w.heap.size w' q1 q2 q3 q5 v5 mv (.slice Am mv.length cm)) ∧ Aside0 (w'.heap[g1]? = some (.cells #[.int .i64 y0, .slice A1 l1.length c1, .slice A2 l2.length c2, .slice A3 l3.length c3] 25 (0, 0))) ∧ Aside0 (w'.heap[g2]? = some (.cells #[.int .i64 0, .slice none 0 0, .slice none 0 0, .slice none 0 0] 25 (0, 0))) ∧ Aside0 (Below w.heap.size w w') ∧ Aside0 (w58_.heap.size ≤ w'.heap.size))
 case atStart => exact ⟨0, m1, m2, [], d, rfl, by omega, by omega, HMF, HTI, BK1, BK2, HB, ⟨Nat.le_refl _⟩⟩
 case round =>
  clear HTI BK1 BK2 HB HMF
  obtain ⟨j, q1, q2, q3, q5, rfl, hj, hgk, HA, HT, BK1, BK2, HB, HNW⟩ := hrel
  obtain ⟨Ad, cd, rfl⟩ := HT.out.due_slice
  have HJ := aM hj
  have HGK := aM hgk
  clear hj hgk
  have hc4_ := HT.out.cell0
  by_cases cj : j < mv.length
  ·have hji : (j : Int) < ((mv.length : Nat) : Int) := by omega
   have hj0 : (0 : Int) ≤ (j : Int) := by omega
   obtain ⟨ad, hAm, e0_, e1_, e2_⟩ := at_T46 (HT.out.moved rfl) (j : Int) hj0 hji
   subst hAm
   have HDR := aM (rd46_at mv j cj)
   generalize rd_T46 mv (j : Int) = t at e0_ e1_ e2_ HDR
   obtain ⟨x0, x1, x2⟩ := t
   simp only [Int.toNat_natCast] at e0_ e1_ e2_
   have HA2 := HA.out
   rw [HDR.out] at HA2
   simp only [moveF] at HA2
   have pj1 := eq_true hj0
   have pj2 := eq_true hji
   have pj3 : decide ((j : Int) < ((mv.length : Nat) : Int)) = true := dT hji
   have ej : wrap64 ((j : Int) + 1) = ((j + 1 : Nat) : Int) := by have := HMVL.out; unfold wrap64; omega
   have EJ := aM ej
   clear ej
   have CJ := aM cj
   clear cj hji hj0 HA HDR
   by_cases g1_ : n ≤ x2
   ·rw [if_pos g1_] at HA2
    by_cases g2_ : x2 = n
    ·rw [if_pos g2_] at HA2
     obtain ⟨b1_, b2_⟩ := zt g2_
     by_cases g3_ : q5.length < 1000000
     ·rw [if_pos g3_] at HA2
      have HLQ := aM g3_
      have HAN := aM HA2
      clear HA2 g1_ g2_ g3_
      go_wp2_with (first | ((with_reducible refine gD 9 rfl ?_); refine bE 9 #[.int .i64 0, .int .i64 0, .int .i64 0] 46 ?_; intro g9 hg w9_ hbox hb; have G9 := aM hg; have BK9 := aM hbox; have HB9 := aM hb; have GE9 := aM (zg HB.out hg : w.heap.size ≤ g9); clear hbox hg; replace HB := zLB HB.out hb; have hd0_ := pw_cell_below hb e0_; have hd1_ := pw_cell_below hb e1_; have hd2_ := pw_cell_below hb e2_; clear hb e0_ e1_ e2_; have hz9_ := zc3_ BK9.out;) | ((with_reducible refine gate_store (t := 46) (p := 9) rfl ?_); refine store_event (t := 46) (p := 9) (v := ?vo27_) (w1 := (((w9_.setCell ⟨g9, 0, none⟩ (.int .i64 x0)).setCell ⟨g9, 1, none⟩ (.int .i64 x1)).setCell ⟨g9, 2, none⟩ (.int .i64 x2))) ?hg ?ho ?hn ?hr ?_; (case ho => rfl); (case hg => rfl); (case hn => rfl); (case hr => (have hs0_ := (blk_cell BK9.out 0).trans rfl; have hf0_ := blk_frozen BK9.out 0; have hs1_ := (blk_cell BK9.out 1).trans rfl; have hf1_ := blk_frozen BK9.out 1; have hs2_ := (blk_cell BK9.out 2).trans rfl; have hf2_ := blk_frozen BK9.out 2; first | (go_simp; done) | (go_simp; rfl))); intro w10_ hw_; have BKn := aM (set3_blk hw_ BK9.out); have HBn := aM (set3_below hw_ HB.out GE9.out); have HKr := aM ((Kept.of_below HB9.out (fun k => k = g9)).then_ (set3_kept hw_) (fun _ h_ => .inl h_)); replace HT := aM (HT.out.away HKr.out (fun k_ h_ => by have e_ : k_ = g9 := h_; rw [e_, G9.out]; exact Nat.le_refl _)); replace BK1 := aM (blk_kept BK1.out HKr.out (fun e_ => by have l_ := blk_lt BK1.out; have e2_ : g1 = g9 := e_; rw [e2_, G9.out] at l_; exact Nat.lt_irrefl _ l_)); replace BK2 := aM (blk_kept BK2.out HKr.out (fun e_ => by have l_ := blk_lt BK2.out; have e2_ : g2 = g9 := e_; rw [e2_, G9.out] at l_; exact Nat.lt_irrefl _ l_)); have HN1 := aM (Nat.le_trans HNW.out HKr.out.1); clear hw_ BK9 HB HB9 HKr hd0_ hd1_ hd2_; have BK9 := BKn; have HB := HBn; clear BKn HBn; (try clear hz9_); have hz9_ := zc3_ BK9.out; (try clear hc4_); have hc4_ := HT.out.cell0;) | ((with_reducible refine gate_builtin (b := .append) (xs := #[.tmp 70, .tmp 72]) rfl ?_); at_builtin; obtain ⟨PW, PD, PM, hw_, hd_, hm_, hx_, hb_⟩ := HT.out; refine Kd.R_append k46 (w0 := w) w.heap.size rfl (.tmp 70) (.tmp 72) 23 46 (.agg #[(.int .i64 0), (.int .i64 0), (.int .i64 0)]) 24 rfl Try.underlying23 info46 rfl (by decide) (by omega) (.slice Ad q5.length cd) q5 ⟨x0, x1, x2⟩ [.int .i64 x0, .int .i64 x1, .int .i64 x2] (fun k => PD k ∨ w10_.heap.size ≤ k) (fun _ => False) rfl rfl ?aP (fun _ hk => hk.elim) ?aF ?aO ?aB ?aS ?aL ?_; (case aP => exact k46_mkM _ _ _ (⟨x0, x1, x2⟩ : S46)); (case aF => exact fun _ h_ => .inr h_); (case aO => exact Kd.R_mono hd_ (fun _ h_ => .inl h_)); (case aB => exact HB.out); (case aS => exact HB.out.size); (case aL => (have h1_ := HLQ.out; omega)); intro vn wA ho hb hg hat; clear hat; have HKa := Kept.of_grown hg (Kept.refl w10_ PD) (fun k_ hk_ => .inl (hd_.1 k_ hk_)); have HTn := aM (TI.due ⟨PW, PD, PM, hw_, hm_, hx_, hb_, ho, HKa⟩ (Nat.le_trans HN0.out HN1.out)); replace BK1 := aM (blk_kept BK1.out HKa (fun h_ => by have a_ := (hb_ g1 (.inr (.inl h_))).1; have b_ := F1.out; omega)); replace BK2 := aM (blk_kept BK2.out HKa (fun h_ => by have a_ := (hb_ g2 (.inr (.inl h_))).1; have b_ := F2.out; omega)); clear HB HT hw_ hd_ hm_ hx_ hb_; have HB := aM hb; have HT := HTn; have HNN := aM (Nat.le_trans HN1.out HKa.1); clear HTn HKa ho hb hg;))
      go_roundg (mv.length - (j + 1))
      case measure => have a_ := CJ.out; have b_ := HGK.out; omega
      case rel => exact ⟨j + 1, q1, q2, q3, q5 ++ [⟨x0, x1, x2⟩], by rw [← EJ.out], CJ.out, Nat.le_refl _, HAN, HT, BK1, BK2, HB, HNN⟩
     ·rw [if_neg g3_] at HA2
      exact absurd HA2 (by simp)
    ·rw [if_neg g2_] at HA2
     obtain ⟨b1_, b2_⟩ := zf g2_
     obtain ⟨⟨s1, s2, s3⟩, hsv⟩ : ∃ q, layV n ⟨x0, x1, x2⟩ q1 q2 q3 = q := ⟨_, rfl⟩
     rw [hsv] at HA2
     simp only at HA2
     by_cases g3_ : layOk n ⟨x0, x1, x2⟩ q1 q2 q3 = true
     ·rw [if_pos g3_] at HA2
      have HLO := aM g3_
      have HSV := aM hsv
      have HAN := aM HA2
      clear HA2 g1_ g2_ g3_ hsv
      go_wp2_with (first | ((with_reducible refine gD 9 rfl ?_); refine bE 9 #[.int .i64 0, .int .i64 0, .int .i64 0] 46 ?_; intro g9 hg w9_ hbox hb; have G9 := aM hg; have BK9 := aM hbox; have HB9 := aM hb; have GE9 := aM (zg HB.out hg : w.heap.size ≤ g9); clear hbox hg; replace HB := zLB HB.out hb; have hd0_ := pw_cell_below hb e0_; have hd1_ := pw_cell_below hb e1_; have hd2_ := pw_cell_below hb e2_; clear hb e0_ e1_ e2_; have hz9_ := zc3_ BK9.out;) | ((with_reducible refine gate_store (t := 46) (p := 9) rfl ?_); refine store_event (t := 46) (p := 9) (v := ?vo27_) (w1 := (((w9_.setCell ⟨g9, 0, none⟩ (.int .i64 x0)).setCell ⟨g9, 1, none⟩ (.int .i64 x1)).setCell ⟨g9, 2, none⟩ (.int .i64 x2))) ?hg ?ho ?hn ?hr ?_; (case ho => rfl); (case hg => rfl); (case hn => rfl); (case hr => (have hs0_ := (blk_cell BK9.out 0).trans rfl; have hf0_ := blk_frozen BK9.out 0; have hs1_ := (blk_cell BK9.out 1).trans rfl; have hf1_ := blk_frozen BK9.out 1; have hs2_ := (blk_cell BK9.out 2).trans rfl; have hf2_ := blk_frozen BK9.out 2; first | (go_simp; done) | (go_simp; rfl))); intro w10_ hw_; have BKn := aM (set3_blk hw_ BK9.out); have HBn := aM (set3_below hw_ HB.out GE9.out); have HKr := aM ((Kept.of_below HB9.out (fun k => k = g9)).then_ (set3_kept hw_) (fun _ h_ => .inl h_)); replace HT := aM (HT.out.away HKr.out (fun k_ h_ => by have e_ : k_ = g9 := h_; rw [e_, G9.out]; exact Nat.le_refl _)); replace BK1 := aM (blk_kept BK1.out HKr.out (fun e_ => by have l_ := blk_lt BK1.out; have e2_ : g1 = g9 := e_; rw [e2_, G9.out] at l_; exact Nat.lt_irrefl _ l_)); replace BK2 := aM (blk_kept BK2.out HKr.out (fun e_ => by have l_ := blk_lt BK2.out; have e2_ : g2 = g9 := e_; rw [e2_, G9.out] at l_; exact Nat.lt_irrefl _ l_)); have HN1 := aM (Nat.le_trans HNW.out HKr.out.1); clear hw_ BK9 HB HB9 HKr hd0_ hd1_ hd2_; have BK9 := BKn; have HB := HBn; clear BKn HBn; (try clear hz9_); have hz9_ := zc3_ BK9.out; (try clear hc4_); have hc4_ := HT.out.cell0;) | ((with_reducible refine gC 75 rfl ?_); refine gL 75 Try.func75 #[.pointer (some ⟨g4, 0, none⟩), .agg #[.int .i64 x0, .int .i64 x1, .int .i64 x2]] ?_; obtain ⟨PW, PD, PM, hw_, hd_, hm_, hx_, hb_⟩ := HT.out; (refine (impl_lay.calls n x0 x1 x2 q1 q2 q3 g4 w.heap.size PW w _ HB.out GE4.out hw_ HLO.out s1 s2 s3 HSV.out).mono ?_); rintro e wA ⟨rfl, hs_, hb, hk_⟩; refine ⟨_, rfl, ?_⟩; have HTn := aM (TI.laid ⟨PW, PD, PM, hd_, hm_, hx_, hb_, hs_, hk_⟩ (Nat.le_trans HN0.out HN1.out)); replace BK1 := aM (blk_kept BK1.out hk_ (fun h_ => h_.elim (fun h_ => by have a_ := (hb_ g1 (.inl h_)).1; have b_ := F1.out; omega) N1_4.out)); replace BK2 := aM (blk_kept BK2.out hk_ (fun h_ => h_.elim (fun h_ => by have a_ := (hb_ g2 (.inl h_)).1; have b_ := F2.out; omega) N2_4.out)); clear HB HT hw_ hd_ hm_ hx_ hb_; have HB := aM hb; have HT := HTn; have HNN := aM (Nat.le_trans HN1.out hk_.1); clear HTn hs_ hb hk_;))
      go_roundg (mv.length - (j + 1))
      case measure => have a_ := CJ.out; have b_ := HGK.out; omega
      case rel => exact ⟨j + 1, s1, s2, s3, q5, by rw [← EJ.out], CJ.out, Nat.le_refl _, HAN, HT, BK1, BK2, HB, HNN⟩
     ·rw [if_neg g3_] at HA2
      exact absurd HA2 (by simp)
   ·rw [if_neg g1_] at HA2
    exact absurd HA2 (by simp)
  ·have hje : j = mv.length := by have := HJ.out; omega
   subst hje
   have HA2 := HA.out
   rw [List.drop_length] at HA2
   simp only [moveF, Option.some.injEq, Prod.mk.injEq] at HA2
   obtain ⟨rfl, rfl, rfl, rfl⟩ := HA2
   have pj3 : decide (((mv.length : Nat) : Int) < ((mv.length : Nat) : Int)) = false := dF (by omega)
   clear cj
   obtain ⟨PW, PD, PM, ⟨u1, u2, u3, hu_, hw_⟩, hd_, hm_, ⟨hx_, _, _⟩, hb_⟩ := HT.out
   obtain ⟨D1, p1, D2, p2, D3, p3, rfl, rfl, rfl, _, _, _, _⟩ := hw_.reads
   have BK4 := aM hu_
   have HWR := aM hw_
   have HD := aM hd_
   have HXX := aM hx_
   clear hu_ hw_ hd_ hm_ hx_ hb_ HT HA hc4_
   have hz1_ := zc4 BK1.out
   have hz2_ := zc4 BK2.out
   have hz4_ := zc4 BK4.out
   go_wp2_with (first | ((with_reducible refine gate_store (t := 25) (p := 2) rfl ?_); refine store_event (t := 25) (p := 2) (v := ?vo28_) (w1 := ((((wr.setCell ⟨g2, 0, none⟩ (.int .i64 n)).setCell ⟨g2, 1, none⟩ (.slice D1 q1.length p1)).setCell ⟨g2, 2, none⟩ (.slice D2 q2.length p2)).setCell ⟨g2, 3, none⟩ (.slice D3 q3.length p3))) ?hg ?ho ?hn ?hr ?_; (case ho => rfl); (case hg => rfl); (case hn => rfl); (case hr => (have hs0_ := (blk_cell BK2.out 0).trans rfl; have hf0_ := blk_frozen BK2.out 0; have hs1_ := (blk_cell BK2.out 1).trans rfl; have hf1_ := blk_frozen BK2.out 1; have hs2_ := (blk_cell BK2.out 2).trans rfl; have hf2_ := blk_frozen BK2.out 2; have hs3_ := (blk_cell BK2.out 3).trans rfl; have hf3_ := blk_frozen BK2.out 3;(try clear hz1_); have hz1_ := zc4 BK1.out; (try clear hz4_); have hz4_ := zc4 BK4.out; first | (go_simp; done) | (go_simp; rfl))); intro wF hw_; have HK_ := set4_kept hw_; have BKn := aM (set4_blk hw_ BK2.out rfl); have HBn := aM (set4_below hw_ HB.out GE2.out); have HF := aM ((HWR.out.types BK2.out (by decide) (by decide)).kept HK_ (fun _ h_ => h_.2)); replace HD := aM (Kd.R_kept (Kd.R_types HD.out BK2.out (by decide)) HK_ (fun _ h_ => h_.2)); clear hw_ BK2 HB; have BK2 := BKn; have HB := HBn; clear BKn HBn HK_))
   refine bodyPost_ret (results_ct rfl _ _ g2 25 #[.int .i64 n, .slice D1 q1.length p1, .slice D2 q2.length p2, .slice D3 q3.length p3] (0, 0) _ rfl (by exact BK2.out) Try.underlying25 rfl (by kernel_rfl)) rfl ?_
   exact ⟨_, _, _, _, _, _, rfl, HF.out, HD.out, fun k_ h_ h2_ => HXX.out k_ h_.1 h2_.1, HB.out⟩
def impl_TickOn.f (k : Nat) (a : Int) (l1 l2 : List (List S46)) (l3 : List S46) : Option (Int × List (List S46) × List (List S46) × List S46 × List S46) :=
 (impl_copyWheel.f k a l1 l2 l3).bind fun c => (if c.1 = a then (impl_WheelOk.f k a l1 l2 l3).bind fun b => (if b = true then (if a = 2147483647 then some (c.1, c.2.1, c.2.2.1, c.2.2.2, []) else tickF c.1 c.2.1 c.2.2.1 c.2.2.2) else some (c.1, c.2.1, c.2.2.1, c.2.2.2, [])) else none)
theorem impl_TickOn.callsW (k : Nat) (a : Int) (A1 : Option Addr) (c1 : Nat) (l1 : List (List S46)) (A2 : Option Addr) (c2 : Nat) (l2 : List (List S46)) (A3 : Option Addr) (c3 : Nat) (l3 : List S46) (r1 : Int) (r2 r3 : List (List S46)) (r4 r5 : List S46) (w : World) (hr1 : Kd.C (Kd.slice 46 k46) w A1 l1.length l1) (hc1 : l1.length ≤ c1) (hr2 : Kd.C (Kd.slice 46 k46) w A2 l2.length l2) (hc2 : l2.length ≤ c2) (hr3 : Kd.C k46 w A3 l3.length l3) (hc3 : l3.length ≤ c3) (h : impl_TickOn.f k a l1 l2 l3 = some (r1, r2, r3, r4, r5)) :
  Calls Try.prog 37 #[.agg #[.int .i64 a, .slice A1 l1.length c1, .slice A2 l2.length c2, .slice A3 l3.length c3]] w fun e w' => ∃ (v1_ v2_ v3_ v4_ : Value) (PW PD : Nat → Prop), e = .returned (.tuple #[.agg #[.int .i64 r1, v1_, v2_, v3_], v4_]) ∧ WR w' w.heap.size PW v1_ v2_ v3_ r2 r3 r4 ∧ Kd.R k46 46 w' w.heap.size PD v4_ r5 ∧ (∀ k, PW k → ¬ PD k) ∧ Below w.heap.size w w' := by
 unfold impl_TickOn.f at h
 obtain ⟨⟨y0, y1, y2, y3⟩, ⟨hac⟩, h⟩ := zO h
 simp only at h
 by_cases ey : y0 = a
 ·rw [if_pos ey] at h
  subst ey
  obtain ⟨b, ⟨hao⟩, h⟩ := zO h
  cases b with
  | false =>
   rw [if_neg (by simp)] at h
   simp only [Option.some.injEq, Prod.mk.injEq] at h
   obtain ⟨rfl, rfl, rfl, rfl, rfl⟩ := h
   exact impl_TickOn.wrong k A1 c1 l1 A2 c2 l2 A3 c3 l3 y0 y1 y2 y3 w hr1 hc1 hr2 hc2 hr3 hc3 hac hao
  | true =>
   rw [if_pos rfl] at h
   by_cases em : y0 = 2147483647
   ·rw [if_pos em] at h
    simp only [Option.some.injEq, Prod.mk.injEq] at h
    obtain ⟨rfl, rfl, rfl, rfl, rfl⟩ := h
    exact impl_TickOn.late k A1 c1 l1 A2 c2 l2 A3 c3 l3 y0 y1 y2 y3 w hr1 hc1 hr2 hc2 hr3 hc3 hac hao em
   ·rw [if_neg em] at h
    unfold tickF at h
    by_cases ok : tickOk y0 y1 y2 y3 = true
    ·rw [if_pos ok] at h
     obtain ⟨h1, h2, h3, h4, h5, h6, h7⟩ := tickOk_spec ok
     by_cases ez : (y0 + 1) % 8 = 0
     ·rw [if_pos ez] at h
      obtain ⟨⟨s2, s3, s4, s5⟩, ⟨hF⟩, h⟩ := zO h
      simp only [Option.some.injEq, Prod.mk.injEq] at h
      obtain ⟨rfl, rfl, rfl, rfl, rfl⟩ := h
      exact impl_TickOn.turn k A1 c1 l1 A2 c2 l2 A3 c3 l3 y0 y1 y2 y3 w hr1 hc1 hr2 hc2 hr3 hc3 hac hao (y0 + 1) ((y0 + 1) % 8) _ _ h1 h2 h3 h4 rfl rfl (getD_len y1 h5 _) rfl rfl ((y0 + 1) / 8 % 8) _ _ _ ez rfl rfl rfl (getD_len y2 h6 _) h7 rfl s2 s3 s4 s5 hF
     ·rw [if_neg ez] at h
      simp only [Option.some.injEq, Prod.mk.injEq] at h
      obtain ⟨rfl, rfl, rfl, rfl, rfl⟩ := h
      exact impl_TickOn.quiet k A1 c1 l1 A2 c2 l2 A3 c3 l3 y0 y1 y2 y3 w hr1 hc1 hr2 hc2 hr3 hc3 hac hao (y0 + 1) ((y0 + 1) % 8) _ _ h1 h2 h3 h4 rfl rfl (getD_len y1 h5 _) rfl rfl ez
    ·rw [if_neg ok] at h
     exact absurd h (by simp)
 ·rw [if_neg ey] at h
  exact absurd h (by simp)
theorem impl_TickOn.calls (k : Nat) (a : Int) (A1 : Option Addr) (c1 : Nat) (l1 : List (List S46)) (A2 : Option Addr) (c2 : Nat) (l2 : List (List S46)) (A3 : Option Addr) (c3 : Nat) (l3 : List S46) (r1 : Int) (r2 r3 : List (List S46)) (r4 : List S46) (r5 : List S46) (w : World) (hr1 : Kd.C (Kd.slice 46 k46) w A1 l1.length l1) (hc1 : l1.length ≤ c1) (hr2 : Kd.C (Kd.slice 46 k46) w A2 l2.length l2) (hc2 : l2.length ≤ c2) (hr3 : Kd.C k46 w A3 l3.length l3) (hc3 : l3.length ≤ c3) (h : impl_TickOn.f k a l1 l2 l3 = some (r1, r2, r3, r4, r5)) :
  Calls Try.prog 37 #[.agg #[.int .i64 a, .slice A1 l1.length c1, .slice A2 l2.length c2, .slice A3 l3.length c3]] w fun e w' => ∃ v1_ v2_ v3_ v4_ : Value, e = .returned (.tuple #[.agg #[.int .i64 r1, v1_, v2_, v3_], v4_]) ∧ Kd.S (Kd.slice 46 k46) 23 w' w.heap.size (fun k_ => some k_ ≠ (v2_ : Value).ownBlock ∧ some k_ ≠ (v3_ : Value).ownBlock ∧ some k_ ≠ (v4_ : Value).ownBlock) v1_ r2 ∧ Kd.S (Kd.slice 46 k46) 23 w' w.heap.size (fun k_ => some k_ ≠ (v1_ : Value).ownBlock ∧ some k_ ≠ (v3_ : Value).ownBlock ∧ some k_ ≠ (v4_ : Value).ownBlock) v2_ r3 ∧ Kd.R k46 46 w' w.heap.size (fun k_ => some k_ ≠ (v4_ : Value).ownBlock) v3_ r4 ∧ Kd.R k46 46 w' w.heap.size (fun k_ => some k_ ≠ (v3_ : Value).ownBlock) v4_ r5 ∧ Below w.heap.size w w' := by
 refine (impl_TickOn.callsW k a A1 c1 l1 A2 c2 l2 A3 c3 l3 r1 r2 r3 r4 r5 w hr1 hc1 hr2 hc2 hr3 hc3 h).mono ?_
 rintro e w' ⟨v1, v2, v3, v4, PW, PD, rfl, hw, hd, hx, hb⟩
 have o4 := hd.1
 obtain ⟨s1, s2, s3⟩ := hw.split
 have o3 := s3.1
 exact ⟨v1, v2, v3, v4, rfl, Kd.S_mono s1 (fun k_ h => ⟨h.2.1, h.2.2, fun e => hx k_ h.1 (o4 k_ e.symm)⟩), Kd.S_mono s2 (fun k_ h => ⟨h.2.1, h.2.2, fun e => hx k_ h.1 (o4 k_ e.symm)⟩), Kd.R_mono s3 (fun k_ h e => hx k_ h.1 (o4 k_ e.symm)), Kd.R_mono hd (fun k_ h e => hx k_ (o3 k_ e.symm).1 h), hb⟩

end Go.Proofs.Ytggenhomnbnodaa.QFnTicks
