/- What the Go functions that the law FnExactPut reaches answer: each as a Lean function, with its walk. Written by a program of this session. Conditions: those that each theorem names. -/
import Derived.Test.YtggenhomnbnodaaQFnExactPutx0
import Derived.Test.YtggenhomnbnodaaQFnExactPutx5
import Derived.Test.YtggenhomnbnodaaQFnExactPutx6
import Derived.Test.YtggenhomnbnodaaQFnExactPutx7
import Derived.Test.YtggenhomnbnodaaQFnExactPutx8
namespace Go.Proofs.Ytggenhomnbnodaa.QFnExactPut
open Go.RowKit Go.Proofs.YtggenhomnbnodaaW.PrintWords Go.Proofs.YtggenhomnbnodaaW.PrintLast Go.Proofs.YtggenhomnbnodaaW.PrintMore
attribute [local go_sem] max2_int min2_int max_two min_two max_three min_three max_four min_four   -- for this text's walks alone
set_option linter.unusedVariables false
set_option linter.unusedSimpArgs false

/-! ### impl_lay: function 75, by hand -/
def impl_lay.T1 : Bool × List (List Nat × List Nat) := (true, [([], []), ([0], [0]), ([1], [1]), ([], []), ([3], [3]), ([4], [4]), ([5], [5]), ([6], [6]), ([2, 7], [2, 7]), ([8, 0, 1, 2, 3, 4, 5, 6, 7, 8], [8])])
def impl_lay.B1 : List Nat := [0, 1, 3, 0, 8, 24, 56, 120, 255, 511]
theorem impl_lay.tab1 : rtab .any (opsOf Try.f75 1) = impl_lay.T1 := by kernel_rfl
theorem impl_lay.bits1 : waitsOk impl_lay.T1.2 impl_lay.B1 = true := by kernel_rfl
def impl_lay.T2 : Bool × List (List Nat × List Nat) := (true, [([], []), ([], []), ([1], [1]), ([2], [2]), ([3], [3]), ([], []), ([5], [5]), ([4, 6], [4, 6]), ([0, 0, 1, 2, 3, 4, 5, 6, 7], [0]), ([8, 0, 1, 2, 3, 4, 5, 6, 7], [8]), ([9, 7, 7, 0, 1, 2, 3, 4, 5, 6, 7], [7, 9])])
def impl_lay.B2 : List Nat := [0, 0, 2, 6, 14, 0, 32, 126, 255, 511, 1023]
theorem impl_lay.tab2 : rtab .any (opsOf Try.f75 2) = impl_lay.T2 := by kernel_rfl
theorem impl_lay.bits2 : waitsOk impl_lay.T2.2 impl_lay.B2 = true := by kernel_rfl
def impl_lay.T4 : Bool × List (List Nat × List Nat) := (true, [([], []), ([0], [0]), ([1], [1]), ([2], [2]), ([], []), ([4], [4]), ([5], [5]), ([], []), ([7], [7]), ([8], [8]), ([9], [9]), ([], []), ([11], [11]), ([12], [12]), ([10, 13], [10, 13]), ([14], [14]), ([], []), ([16], [16]), ([15, 17], [15, 17]), ([3, 6, 0, 1, 2, 3, 4, 5, 6, 7, 8, 9, 10, 11, 12, 13, 14, 15, 16, 17, 18], [3, 6]), ([19, 18, 18, 0, 1, 2, 3, 4, 5, 6, 7, 8, 9, 10, 11, 12, 13, 14, 15, 16, 17, 18], [18, 19])])
def impl_lay.B4 : List Nat := [0, 1, 3, 7, 0, 16, 48, 0, 128, 384, 896, 0, 2048, 6144, 16256, 32640, 0, 65536, 262016, 524287, 1048575]
theorem impl_lay.tab4 : rtab .any (opsOf Try.f75 4) = impl_lay.T4 := by kernel_rfl
theorem impl_lay.bits4 : waitsOk impl_lay.T4.2 impl_lay.B4 = true := by kernel_rfl
def impl_lay.T7 : Bool × List (List Nat × List Nat) := (true, [([], []), ([0], [0]), ([1], [1]), ([2], [2]), ([], []), ([], []), ([5], [5]), ([6], [6]), ([7], [7]), ([], []), ([8, 9], [8, 9]), ([10], [10]), ([], []), ([12], [12]), ([11, 13], [11, 13]), ([3, 4, 0, 1, 2, 3, 4, 5, 6, 7, 8, 9, 10, 11, 12, 13, 14], [3, 4]), ([15, 14, 14, 0, 1, 2, 3, 4, 5, 6, 7, 8, 9, 10, 11, 12, 13, 14], [14, 15])])
def impl_lay.B7 : List Nat := [0, 1, 3, 7, 0, 0, 32, 96, 224, 0, 992, 2016, 0, 4096, 16352, 32767, 65535]
theorem impl_lay.tab7 : rtab .any (opsOf Try.f75 7) = impl_lay.T7 := by kernel_rfl
theorem impl_lay.bits7 : waitsOk impl_lay.T7.2 impl_lay.B7 = true := by kernel_rfl
set_option maxHeartbeats 8000000 in
set_option maxRecDepth 100000 in
theorem impl_lay.near (a x0 x1 x2 : Int) (l1 l2 m : List (List S46)) (l3 : List S46) (g base : Nat) (ok : Nat → Prop) (w0 w : World) (hB : Below base w0 w) (hbg : base ≤ g) (H : WS a g base w ok l1 l2 l3)
    (ha : 0 ≤ a) (ha2 : a ≤ 2147483647) (hx : 0 ≤ x2) (hx2 : x2 ≤ 2147483647) (hl : l1.length = 8) (hlen : (l1.getD (x2 % 8).toNat []).length ≤ 1000000) (hc : x2 / 8 - a / 8 = 0) (hm : m = (l1.set (x2 % 8).toNat (l1.getD (x2 % 8).toNat [] ++ [⟨x0, x1, x2⟩]))) :
    Calls Try.prog 75 #[.pointer (some ⟨g, 0, none⟩), .agg #[.int .i64 x0, .int .i64 x1, .int .i64 x2]] w fun e w' => e = .returned (.tuple #[]) ∧ WS a g base w' (fun k => ok k ∨ w.heap.size ≤ k) m l2 l3 ∧ Below base w0 w' ∧ Kept w w' (fun k => ok k ∨ k = g) := by
  obtain ⟨v1, v2, v3, hbk, hwr⟩ := H
  obtain ⟨P1, P2, P3, ⟨o1, o2, o3⟩, ⟨d1, d2, d3⟩, s1, s2, s3⟩ := hwr.types hbk (by decide) (by decide)
  have hbk0 := hbk
  obtain ⟨g1, cap, rfl, hg1, hg1l, cells1, hcells1⟩ := Kd.S_form s1 (by omega)
  have hp : Kd.S (Kd.slice 46 k46) 23 w base P1 (.slice (some ⟨g1, 0, none⟩) l1.length cap) l1 := s1
  obtain ⟨i, hi⟩ : ∃ i : Int, i = x2 % 8 := ⟨_, rfl⟩
  rw [← hi] at hlen
  have h0 : 0 ≤ i := by omega
  have h8 : i < (l1.length : Int) := by omega
  obtain ⟨oki, c, hcl, hM, hcc, hoki, HH⟩ := Kd.S_lend hp [] i h0 h8
  obtain ⟨vs, hv, hR⟩ := hM
  subst hv
  have hxs : w.cell? ⟨g1, i.toNat, none⟩ = some vs := by
    have := hcc 0 vs rfl
    have e : i.toNat * (Kd.slice 46 k46).sz + 0 = i.toNat := Nat.mul_one _
    rwa [e] at this
  have hfz : w.frozen? ⟨g1, i.toNat, none⟩ = false := by simp [World.frozen?, hcells1]
  obtain ⟨As, cs, rfl⟩ := Kd.R_slice hR
  have gne : g1 ≠ g := fun e => (o1 _ ((Kd.S_R hp).1 g1 rfl)).2 e
  have hRok : ∀ k, oki k → P1 k ∧ k ≠ g1 := hoki
  generalize hxi : l1.getD i.toNat [] = xi at *
  have BK := Aside0.mk hbk0
  have HX := Aside0.mk hxs
  have HC1 := Aside0.mk hcells1
  have HRR := Aside0.mk hR
  have HHH := Aside0.mk HH
  have HO := Aside0.mk (And.intro o1 (And.intro o2 o3))
  have HD := Aside0.mk (And.intro d1 (And.intro d2 d3))
  have HS1 := Aside0.mk s1
  have HS2 := Aside0.mk s2
  have HS3 := Aside0.mk s3
  have HOK := Aside0.mk hRok
  have HB := Aside0.mk hB
  have GN := Aside0.mk gne
  have HLEN := Aside0.mk hlen
  have HBG := Aside0.mk hbg
  have HG1 := Aside0.mk hg1
  have HHI := Aside0.mk hi
  have HXI := Aside0.mk hxi
  have p1 : (0 ≤ i) = True := eq_true h0
  have p2 : (i < ((l1.length : Nat) : Int)) = True := eq_true h8
  have htm : Int.tmod x2 8 = i := by rw [hi]; exact Int.tmod_eq_emod_of_nonneg hx
  have hq : wrap64 (wrap64 (Int.tdiv x2 8) - wrap64 (Int.tdiv a 8)) = 0 := by
    rw [Int.tdiv_eq_ediv_of_nonneg hx, Int.tdiv_eq_ediv_of_nonneg ha]
    unfold wrap64
    omega
  obtain ⟨q1, q2⟩ := zt hq
  have HM := Aside0.mk hm
  clear hm hbk hbk0 hxs hcells1 hfz hR HH o1 o2 o3 d1 d2 d3 s1 s2 s3 hRok hoki hB gne hlen hbg hg1 hg1l hp hcl hcc hwr hi hxi h0 h8 ha ha2 hx hx2 hl hc
  have hu46 := Try.underlying46
  have hu25 := Try.underlying25
  go_enter Try.func75, Try.ntmps75
  go_wp2_with (first | ((with_reducible refine gD 3 rfl ?_); refine bE 3 #[.int .i64 x0, .int .i64 x1, .int .i64 x2] 46 ?_; intro gt hg w2 hbox hb; have BT := Aside0.mk hbox; have GT := Aside0.mk hg; have HB1 := Aside0.mk hb; clear hbox hg hb))
  have BK2 := Aside0.mk (blk_drew (blk_below BK.out HB1.out))
  have BT2 := zBD BT
  have HB2 := zLD HB1
  clear BT HB1
  refine start_ (n := 10) (S := fun w' => w'.cell? ⟨gt, 2, none⟩ = some (.int .i64 x2) ∧ w'.cell? ⟨g, 0, none⟩ = some (.int .i64 a)) (ds := []) (fB 10 0) (by kernel_rfl) rfl rfl ⟨(blk_cell BT2.out 2).trans rfl, (blk_cell BK2.out 0).trans rfl⟩ (fun hHeld => ?_); refine with_tabW impl_lay.tab1 impl_lay.bits1 (fun HT_ HW_ => ?_)
  generalize w2.drew = w3 at BK2 BT2 HB2 hHeld ⊢
  refine pY 0 6 (fB 10 1) HT_.out ?_
  refine pY 3 9 (fB 10 9) HT_.out ?_
  refine pY 4 10 (fB 10 25) HT_.out ?_
  refine pY 5 11 (fB 10 57) HT_.out ?_
  refine tY 1 7 (fB 10 59) HT_.out HW_.out hHeld ?_
  refine pY 2 8 (fB 10 63) HT_.out ?_
  refine tY 6 12 (fB 10 127) HT_.out HW_.out hHeld ?_
  refine pY 7 13 (fB 10 255) HT_.out ?_
  refine pY 8 14 (fB 10 511) HT_.out ?_
  refine pY 9 4 (fB 10 1023) HT_.out ?_
  refine done_ (done_of HT_.out (by kernel_rfl)) ?_
  have hcz := (blk_cell BT2.out 2).trans rfl
  try go_wp2
  obtain ⟨yb, hyb⟩ : ∃ yb : List S46, yb = [⟨x0, x1, x2⟩] := ⟨_, rfl⟩
  have NY := Aside0.mk hyb
  clear hyb
  have BK3 := zBD BK2
  have BT3 := zBD BT2
  have HB3 := zLD HB2
  clear BK2 BT2 HB2
  refine start_ (n := 21) (S := fun w' => w'.cell? ⟨g, 1, none⟩ = some (.slice (some ⟨g1, 0, none⟩) l1.length cap) ∧ w'.cell? ⟨gt, 0, none⟩ = some (.int .i64 x0) ∧ w'.cell? ⟨gt, 1, none⟩ = some (.int .i64 x1) ∧ w'.cell? ⟨gt, 2, none⟩ = some (.int .i64 x2) ∧ w'.cell? ⟨g1, i.toNat, none⟩ = some (.slice As xi.length cs)) (ds := [20]) (fB 21 0) (by kernel_rfl) rfl rfl ⟨(blk_cell BK3.out 1).trans rfl, (blk_cell BT3.out 0).trans rfl, (blk_cell BT3.out 1).trans rfl, (blk_cell BT3.out 2).trans rfl, (HB3.out.cell (World.block_lt_of_cell? w _ HX.out)).trans HX.out⟩ (fun hHeld => ?_); refine with_tabW impl_lay.tab4 impl_lay.bits4 (fun HT_ HW_ => ?_)
  generalize w3.drew = w4 at BK3 BT3 HB3 hHeld ⊢
  refine pY 0 28 (fB 21 1) HT_.out ?_
  refine pY 1 29 (fB 21 3) HT_.out ?_
  refine pY 2 30 (fB 21 7) HT_.out ?_
  refine pY 4 32 (fB 21 23) HT_.out ?_
  refine pY 7 35 (fB 21 151) HT_.out ?_
  refine pY 8 36 (fB 21 407) HT_.out ?_
  refine pY 9 37 (fB 21 919) HT_.out ?_
  refine pY 11 39 (fB 21 2967) HT_.out ?_
  refine tY 3 31 (fB 21 2975) HT_.out HW_.out hHeld ?_
  refine tY 5 33 (fB 21 3007) HT_.out HW_.out hHeld ?_
  refine pY 6 34 (fB 21 3071) HT_.out ?_
  refine tY 10 38 (fB 21 4095) HT_.out HW_.out hHeld ?_
  refine tY 12 40 (fB 21 8191) HT_.out HW_.out hHeld ?_
  refine pY 13 41 (fB 21 16383) HT_.out ?_
  refine pY 14 42 (fB 21 32767) HT_.out ?_
  refine tY 15 43 (fB 21 65535) HT_.out HW_.out hHeld ?_
  refine tY 16 44 (fB 21 131071) HT_.out HW_.out hHeld ?_
  refine oN 17 45 (fB 21 262143) HT_.out fun K hK => ?_
  refine Kd.R_lit_step k46 _ 46 ?hg (N := 45) ?hd (xs := ([⟨x0, x1, x2⟩] : List S46)) (inner := [.int .i64 x0, .int .i64 x1, .int .i64 x2]) (ok := fun _ => True) (okp := fun _ => True) ?hr ?hp (fun _ hk => hk) trivial (Below.refl _ _) (Nat.le_refl _) (by simp) ?_; (case hd => rfl); (case hg => rfl); (case hr => first | (go_simp; done) | (go_simp; rfl)); (case hp => exact Reps.c3 (k46_mkM _ _ _ (⟨x0, x1, x2⟩ : S46)) (Reps.none _ _))
  intro vb w5 hrow hb5 hg_ hn_
  clear hg_ hn_
  rw [← NY.out] at hrow
  obtain ⟨Ab, cb, rfl⟩ := Kd.R_slice hrow
  have HRB := Aside0.mk (Kd.R_reads' hrow)
  have BK4 := zBB BK3 hb5
  have BT4 := zBB BT3 hb5
  have HB4 := zLB HB3.out hb5
  clear hrow hb5 BK3 BT3 HB3
  refine hK.out _ _ ⟨(blk_cell BK4.out 1).trans rfl, (blk_cell BT4.out 0).trans rfl, (blk_cell BT4.out 1).trans rfl, (blk_cell BT4.out 2).trans rfl, (HB4.out.cell (World.block_lt_of_cell? w _ HX.out)).trans HX.out⟩ fun hHeld => ?_; clear hK K
  refine nZ 45 ?_
  refine oN 18 46 (fB 21 524287) HT_.out fun K hK => ?_
  have HBW := Aside0.mk (below_then HB.out (Nat.le_trans HBG.out (Nat.le_of_lt (blk_lt BK.out))) HB4.out)
  have hbs : base ≤ w5.heap.size := Nat.le_trans (Nat.le_trans HBG.out (Nat.le_of_lt (blk_lt BK.out))) HB4.out.size
  refine Kd.R_append_rows_step k46 (w0 := w0) base (by rfl) (.tmp 43) (.tmp 45) 23 46 (.agg #[(.int .i64 0), (.int .i64 0), (.int .i64 0)]) 24 rfl Try.underlying23 info46 rfl (by decide) (by omega) _ xi yb _ _ _ (fun k => oki k ∨ (P1 k ∨ w.heap.size ≤ k) ∧ w5.heap.size ≤ k) (fun _ => False) rfl rfl ?aO ?aR (fun _ _ h => h) (fun _ h => h.elim) ?aF ?aB ?aS ?aL ?_
  (case aO => exact Kd.R_mono (Kd.R_below HRR.out HB4.out) (fun k h => .inl h))
  (case aR => exact HRB.out.2.2)
  (case aF => exact fun k hk => .inr ⟨.inr (Nat.le_trans HB4.out.size hk), hk⟩)
  (case aB => exact HBW.out)
  (case aS => exact hbs)
  (case aL => (have h1_ := HLEN.out; have h2_ : yb.length = 1 := (by rw [NY.out]; rfl); omega))
  intro vn w6 ho hb6 hg6 hat6
  clear hat6
  obtain ⟨yn, hyn⟩ : ∃ yn, yn = xi ++ yb := ⟨_, rfl⟩
  rw [← hyn] at ho
  have NYN := Aside0.mk hyn
  clear hyn
  have hrk : ∀ k, (Value.slice As xi.length cs).ownBlock = some k → oki k := fun k hk => HRR.out.1 k hk
  have hoP : ∀ k, oki k → P1 k := fun k hk => (HOK.out k hk).1
  have HK6 := Aside0.mk (Kept.of_grown hg6 (Kept.of_below HB4.out (fun k => oki k)) (fun k hk => .inl (hrk k hk)))
  have BK5 := Aside0.mk (blk_grown BK4.out hg6 (fun e => (HO.out.1 g (hoP g (hrk g e.symm))).2 rfl))
  have BT5 := Aside0.mk (blk_grown BT4.out hg6 (fun e => by have h_ := Kd.R_lt HRR.out gt e.symm; rw [GT.out] at h_; exact Nat.lt_irrefl _ h_))
  have HX5 := Aside0.mk (cell_grown hg6 ((HB4.out.cell (World.block_lt_of_cell? w _ HX.out)).trans HX.out) (fun e => (HOK.out g1 (hrk g1 e.symm)).2 rfl))
  have HC5 := Aside0.mk (blk_grown (blk_below HC1.out HB4.out) hg6 (fun e => (HOK.out g1 (hrk g1 e.symm)).2 rfl))
  have HH5 := Aside0.mk (Kd.H_grown (Kd.H_widen (Kd.H_below (Kd.H_mono HHH.out (ok' := fun k => P1 k ∨ w.heap.size ≤ k) (fun k h => .inl h)) HB4.out)) hg6 (fun k hk => .inl (hrk k hk)))
  obtain ⟨An, cn, rfl⟩ := Kd.R_slice ho
  have HRN := Aside0.mk ho
  have HB6 := Aside0.mk hb6
  have HW5 := Aside0.mk HB4.out.size
  have HG5 := Aside0.mk (Nat.lt_of_lt_of_le (blk_lt HC1.out) HB4.out.size)
  clear ho hb6 hg6 hrk hoP hbs HBW HB4 BK4 BT4
  refine hK.out _ _ ⟨(blk_cell BK5.out 1).trans rfl, (blk_cell BT5.out 0).trans rfl, (blk_cell BT5.out 1).trans rfl, (blk_cell BT5.out 2).trans rfl, HX5.out⟩ fun hHeld => ?_; clear hK K
  refine nZ 46 ?_
  refine pY 19 47 (fB 21 1048575) HT_.out ?_
  refine last_ (i := 20) (N := none) (fB 21 2097151) rfl rfl (one_of HT_.out (by kernel_rfl)) (by decide) (fun K hK => ?_)
  have hxs6 := HX5.out
  have hfs6 : w6.frozen? ⟨g1, i.toNat, none⟩ = false := blk_frozen HC5.out _
  refine skip_ (w1 := ?_) (by rfl) rfl ?_ ?_
  rotate_left
  · go_simp
    rfl
  refine hK.out _ _ ?_
  clear hK K
  refine done_ (done_of HT_.out (by kernel_rfl)) ?_
  try go_wp2
  go_end0
  have h0 : 0 ≤ i := of_eq_true p1
  have h8 : i < ((l1.length : Nat) : Int) := of_eq_true p2
  obtain ⟨hS, hG⟩ := slot_put HH5.out h0 h8 HRN.out (fun k hk => hk) (fun k hk => hk.elim (fun h => (HOK.out k h).2) (fun h e => by have h1_ := HG5.out; have h2_ := h.2; omega))
  have HKF := Kept.of_grown hG (HK6.out.mono (S' := P1) (fun k hk => (HOK.out k hk).1)) (fun k hk => .inl (by injection hk with hk; subst hk; exact (Kd.S_R HS1.out).1 _ rfl))
  rw [HM.out, ← HHI.out, HXI.out, ← NY.out, ← NYN.out]
  refine ⟨rfl, ws_near (blk_far BK5.out (fun e => GN.out e.symm) _) HO.out HD.out hS HS2.out HS3.out HKF, ?_, HKF.mono (fun k hk => .inl (HO.out.1 k hk).1)⟩
  exact HB6.out.grown hG (Nat.le_trans (Nat.le_trans HBG.out (Nat.le_of_lt (blk_lt BK.out))) HK6.out.1) (fun k hk => by injection hk with hk; subst hk; exact HG1.out)
set_option maxHeartbeats 8000000 in
set_option maxRecDepth 100000 in
theorem impl_lay.far (a x0 x1 x2 : Int) (l1 l2 m : List (List S46)) (l3 : List S46) (g base : Nat) (ok : Nat → Prop) (w0 w : World) (hB : Below base w0 w) (hbg : base ≤ g) (H : WS a g base w ok l1 l2 l3)
    (ha : 0 ≤ a) (ha2 : a ≤ 2147483647) (hx : 0 ≤ x2) (hx2 : x2 ≤ 2147483647) (hl : l2.length = 8) (hlen : (l2.getD (x2 / 8 % 8).toNat []).length ≤ 1000000) (hc : x2 / 8 - a / 8 ≠ 0) (hc2 : x2 / 8 - a / 8 < 8) (hm : m = (l2.set (x2 / 8 % 8).toNat (l2.getD (x2 / 8 % 8).toNat [] ++ [⟨x0, x1, x2⟩]))) :
    Calls Try.prog 75 #[.pointer (some ⟨g, 0, none⟩), .agg #[.int .i64 x0, .int .i64 x1, .int .i64 x2]] w fun e w' => e = .returned (.tuple #[]) ∧ WS a g base w' (fun k => ok k ∨ w.heap.size ≤ k) l1 m l3 ∧ Below base w0 w' ∧ Kept w w' (fun k => ok k ∨ k = g) := by
  obtain ⟨v1, v2, v3, hbk, hwr⟩ := H
  obtain ⟨P1, P2, P3, ⟨o1, o2, o3⟩, ⟨d1, d2, d3⟩, s1, s2, s3⟩ := hwr.types hbk (by decide) (by decide)
  have hbk0 := hbk
  obtain ⟨g1, cap, rfl, hg1, hg1l, cells1, hcells1⟩ := Kd.S_form s2 (by omega)
  have hp : Kd.S (Kd.slice 46 k46) 23 w base P2 (.slice (some ⟨g1, 0, none⟩) l2.length cap) l2 := s2
  obtain ⟨i, hi⟩ : ∃ i : Int, i = x2 / 8 % 8 := ⟨_, rfl⟩
  rw [← hi] at hlen
  have h0 : 0 ≤ i := by omega
  have h8 : i < (l2.length : Int) := by omega
  obtain ⟨oki, c, hcl, hM, hcc, hoki, HH⟩ := Kd.S_lend hp [] i h0 h8
  obtain ⟨vs, hv, hR⟩ := hM
  subst hv
  have hxs : w.cell? ⟨g1, i.toNat, none⟩ = some vs := by
    have := hcc 0 vs rfl
    have e : i.toNat * (Kd.slice 46 k46).sz + 0 = i.toNat := Nat.mul_one _
    rwa [e] at this
  have hfz : w.frozen? ⟨g1, i.toNat, none⟩ = false := by simp [World.frozen?, hcells1]
  obtain ⟨As, cs, rfl⟩ := Kd.R_slice hR
  have gne : g1 ≠ g := fun e => (o2 _ ((Kd.S_R hp).1 g1 rfl)).2 e
  have hRok : ∀ k, oki k → P2 k ∧ k ≠ g1 := hoki
  generalize hxi : l2.getD i.toNat [] = xi at *
  have BK := Aside0.mk hbk0
  have HX := Aside0.mk hxs
  have HC1 := Aside0.mk hcells1
  have HRR := Aside0.mk hR
  have HHH := Aside0.mk HH
  have HO := Aside0.mk (And.intro o1 (And.intro o2 o3))
  have HD := Aside0.mk (And.intro d1 (And.intro d2 d3))
  have HS1 := Aside0.mk s1
  have HS2 := Aside0.mk s2
  have HS3 := Aside0.mk s3
  have HOK := Aside0.mk hRok
  have HB := Aside0.mk hB
  have GN := Aside0.mk gne
  have HLEN := Aside0.mk hlen
  have HBG := Aside0.mk hbg
  have HG1 := Aside0.mk hg1
  have HHI := Aside0.mk hi
  have HXI := Aside0.mk hxi
  have p1 : (0 ≤ i) = True := eq_true h0
  have p2 : (i < ((l2.length : Nat) : Int)) = True := eq_true h8
  have htm : Int.tmod (wrap64 (Int.tdiv x2 8)) 8 = i := by
    rw [hi, Int.tdiv_eq_ediv_of_nonneg hx, show wrap64 (x2 / 8) = x2 / 8 by unfold wrap64; omega]; exact Int.tmod_eq_emod_of_nonneg (by omega)
  obtain ⟨q, hq⟩ : ∃ q, wrap64 (wrap64 (Int.tdiv x2 8) - wrap64 (Int.tdiv a 8)) = q := ⟨_, rfl⟩
  have hqq : q = x2 / 8 - a / 8 := by
    rw [← hq]
    rw [Int.tdiv_eq_ediv_of_nonneg hx, Int.tdiv_eq_ediv_of_nonneg ha]
    unfold wrap64
    omega
  obtain ⟨q1, q2⟩ := zf (show ¬ q = 0 by omega)
  have q3 : (q < 8) = True := eq_true (by omega)
  have q4 : decide (q < 8) = true := by simp [q3]
  clear hqq
  have HM := Aside0.mk hm
  clear hm hbk hbk0 hxs hcells1 hfz hR HH o1 o2 o3 d1 d2 d3 s1 s2 s3 hRok hoki hB gne hlen hbg hg1 hg1l hp hcl hcc hwr hi hxi h0 h8 ha ha2 hx hx2 hl hc hc2
  have hu46 := Try.underlying46
  have hu25 := Try.underlying25
  go_enter Try.func75, Try.ntmps75
  go_wp2_with (first | ((with_reducible refine gD 3 rfl ?_); refine bE 3 #[.int .i64 x0, .int .i64 x1, .int .i64 x2] 46 ?_; intro gt hg w2 hbox hb; have BT := Aside0.mk hbox; have GT := Aside0.mk hg; have HB1 := Aside0.mk hb; clear hbox hg hb))
  have BK2 := Aside0.mk (blk_drew (blk_below BK.out HB1.out))
  have BT2 := zBD BT
  have HB2 := zLD HB1
  clear BT HB1
  refine start_ (n := 10) (S := fun w' => w'.cell? ⟨gt, 2, none⟩ = some (.int .i64 x2) ∧ w'.cell? ⟨g, 0, none⟩ = some (.int .i64 a)) (ds := []) (fB 10 0) (by kernel_rfl) rfl rfl ⟨(blk_cell BT2.out 2).trans rfl, (blk_cell BK2.out 0).trans rfl⟩ (fun hHeld => ?_); refine with_tabW impl_lay.tab1 impl_lay.bits1 (fun HT_ HW_ => ?_)
  generalize w2.drew = w3 at BK2 BT2 HB2 hHeld ⊢
  refine pY 0 6 (fB 10 1) HT_.out ?_
  refine pY 3 9 (fB 10 9) HT_.out ?_
  refine pY 4 10 (fB 10 25) HT_.out ?_
  refine pY 5 11 (fB 10 57) HT_.out ?_
  refine tY 1 7 (fB 10 59) HT_.out HW_.out hHeld ?_
  refine pY 2 8 (fB 10 63) HT_.out ?_
  refine tY 6 12 (fB 10 127) HT_.out HW_.out hHeld ?_
  refine pY 7 13 (fB 10 255) HT_.out ?_
  refine pY 8 14 (fB 10 511) HT_.out ?_
  refine pY 9 4 (fB 10 1023) HT_.out ?_
  refine done_ (done_of HT_.out (by kernel_rfl)) ?_
  have hcz := (blk_cell BT2.out 2).trans rfl
  try go_wp2
  obtain ⟨yb, hyb⟩ : ∃ yb : List S46, yb = [⟨x0, x1, x2⟩] := ⟨_, rfl⟩
  have NY := Aside0.mk hyb
  clear hyb
  have BK3 := zBD BK2
  have BT3 := zBD BT2
  have HB3 := zLD HB2
  clear BK2 BT2 HB2
  refine start_ (n := 17) (S := fun w' => w'.cell? ⟨g, 2, none⟩ = some (.slice (some ⟨g1, 0, none⟩) l2.length cap) ∧ w'.cell? ⟨gt, 0, none⟩ = some (.int .i64 x0) ∧ w'.cell? ⟨gt, 1, none⟩ = some (.int .i64 x1) ∧ w'.cell? ⟨gt, 2, none⟩ = some (.int .i64 x2) ∧ w'.cell? ⟨g1, i.toNat, none⟩ = some (.slice As xi.length cs)) (ds := [16]) (fB 17 0) (by kernel_rfl) rfl rfl ⟨(blk_cell BK3.out 2).trans rfl, (blk_cell BT3.out 0).trans rfl, (blk_cell BT3.out 1).trans rfl, (blk_cell BT3.out 2).trans rfl, (HB3.out.cell (World.block_lt_of_cell? w _ HX.out)).trans HX.out⟩ (fun hHeld => ?_); refine with_tabW impl_lay.tab7 impl_lay.bits7 (fun HT_ HW_ => ?_)
  generalize w3.drew = w4 at BK3 BT3 HB3 hHeld ⊢
  refine pY 0 55 (fB 17 1) HT_.out ?_
  refine pY 1 56 (fB 17 3) HT_.out ?_
  refine pY 2 57 (fB 17 7) HT_.out ?_
  refine pY 4 59 (fB 17 23) HT_.out ?_
  refine pY 5 60 (fB 17 55) HT_.out ?_
  refine pY 6 61 (fB 17 119) HT_.out ?_
  refine pY 7 62 (fB 17 247) HT_.out ?_
  refine pY 9 64 (fB 17 759) HT_.out ?_
  refine tY 3 58 (fB 17 767) HT_.out HW_.out hHeld ?_
  refine tY 8 63 (fB 17 1023) HT_.out HW_.out hHeld ?_
  refine pY 10 65 (fB 17 2047) HT_.out ?_
  refine tY 11 66 (fB 17 4095) HT_.out HW_.out hHeld ?_
  refine tY 12 67 (fB 17 8191) HT_.out HW_.out hHeld ?_
  refine oN 13 68 (fB 17 16383) HT_.out fun K hK => ?_
  refine Kd.R_lit_step k46 _ 46 ?hg (N := 68) ?hd (xs := ([⟨x0, x1, x2⟩] : List S46)) (inner := [.int .i64 x0, .int .i64 x1, .int .i64 x2]) (ok := fun _ => True) (okp := fun _ => True) ?hr ?hp (fun _ hk => hk) trivial (Below.refl _ _) (Nat.le_refl _) (by simp) ?_; (case hd => rfl); (case hg => rfl); (case hr => first | (go_simp; done) | (go_simp; rfl)); (case hp => exact Reps.c3 (k46_mkM _ _ _ (⟨x0, x1, x2⟩ : S46)) (Reps.none _ _))
  intro vb w5 hrow hb5 hg_ hn_
  clear hg_ hn_
  rw [← NY.out] at hrow
  obtain ⟨Ab, cb, rfl⟩ := Kd.R_slice hrow
  have HRB := Aside0.mk (Kd.R_reads' hrow)
  have BK4 := zBB BK3 hb5
  have BT4 := zBB BT3 hb5
  have HB4 := zLB HB3.out hb5
  clear hrow hb5 BK3 BT3 HB3
  refine hK.out _ _ ⟨(blk_cell BK4.out 2).trans rfl, (blk_cell BT4.out 0).trans rfl, (blk_cell BT4.out 1).trans rfl, (blk_cell BT4.out 2).trans rfl, (HB4.out.cell (World.block_lt_of_cell? w _ HX.out)).trans HX.out⟩ fun hHeld => ?_; clear hK K
  refine nZ 68 ?_
  refine oN 14 69 (fB 17 32767) HT_.out fun K hK => ?_
  have HBW := Aside0.mk (below_then HB.out (Nat.le_trans HBG.out (Nat.le_of_lt (blk_lt BK.out))) HB4.out)
  have hbs : base ≤ w5.heap.size := Nat.le_trans (Nat.le_trans HBG.out (Nat.le_of_lt (blk_lt BK.out))) HB4.out.size
  refine Kd.R_append_rows_step k46 (w0 := w0) base (by rfl) (.tmp 66) (.tmp 68) 23 46 (.agg #[(.int .i64 0), (.int .i64 0), (.int .i64 0)]) 24 rfl Try.underlying23 info46 rfl (by decide) (by omega) _ xi yb _ _ _ (fun k => oki k ∨ (P2 k ∨ w.heap.size ≤ k) ∧ w5.heap.size ≤ k) (fun _ => False) rfl rfl ?aO ?aR (fun _ _ h => h) (fun _ h => h.elim) ?aF ?aB ?aS ?aL ?_
  (case aO => exact Kd.R_mono (Kd.R_below HRR.out HB4.out) (fun k h => .inl h))
  (case aR => exact HRB.out.2.2)
  (case aF => exact fun k hk => .inr ⟨.inr (Nat.le_trans HB4.out.size hk), hk⟩)
  (case aB => exact HBW.out)
  (case aS => exact hbs)
  (case aL => (have h1_ := HLEN.out; have h2_ : yb.length = 1 := (by rw [NY.out]; rfl); omega))
  intro vn w6 ho hb6 hg6 hat6
  clear hat6
  obtain ⟨yn, hyn⟩ : ∃ yn, yn = xi ++ yb := ⟨_, rfl⟩
  rw [← hyn] at ho
  have NYN := Aside0.mk hyn
  clear hyn
  have hrk : ∀ k, (Value.slice As xi.length cs).ownBlock = some k → oki k := fun k hk => HRR.out.1 k hk
  have hoP : ∀ k, oki k → P2 k := fun k hk => (HOK.out k hk).1
  have HK6 := Aside0.mk (Kept.of_grown hg6 (Kept.of_below HB4.out (fun k => oki k)) (fun k hk => .inl (hrk k hk)))
  have BK5 := Aside0.mk (blk_grown BK4.out hg6 (fun e => (HO.out.2.1 g (hoP g (hrk g e.symm))).2 rfl))
  have BT5 := Aside0.mk (blk_grown BT4.out hg6 (fun e => by have h_ := Kd.R_lt HRR.out gt e.symm; rw [GT.out] at h_; exact Nat.lt_irrefl _ h_))
  have HX5 := Aside0.mk (cell_grown hg6 ((HB4.out.cell (World.block_lt_of_cell? w _ HX.out)).trans HX.out) (fun e => (HOK.out g1 (hrk g1 e.symm)).2 rfl))
  have HC5 := Aside0.mk (blk_grown (blk_below HC1.out HB4.out) hg6 (fun e => (HOK.out g1 (hrk g1 e.symm)).2 rfl))
  have HH5 := Aside0.mk (Kd.H_grown (Kd.H_widen (Kd.H_below (Kd.H_mono HHH.out (ok' := fun k => P2 k ∨ w.heap.size ≤ k) (fun k h => .inl h)) HB4.out)) hg6 (fun k hk => .inl (hrk k hk)))
  obtain ⟨An, cn, rfl⟩ := Kd.R_slice ho
  have HRN := Aside0.mk ho
  have HB6 := Aside0.mk hb6
  have HW5 := Aside0.mk HB4.out.size
  have HG5 := Aside0.mk (Nat.lt_of_lt_of_le (blk_lt HC1.out) HB4.out.size)
  clear ho hb6 hg6 hrk hoP hbs HBW HB4 BK4 BT4
  refine hK.out _ _ ⟨(blk_cell BK5.out 2).trans rfl, (blk_cell BT5.out 0).trans rfl, (blk_cell BT5.out 1).trans rfl, (blk_cell BT5.out 2).trans rfl, HX5.out⟩ fun hHeld => ?_; clear hK K
  refine nZ 69 ?_
  refine pY 15 70 (fB 17 65535) HT_.out ?_
  refine last_ (i := 16) (N := none) (fB 17 131071) rfl rfl (one_of HT_.out (by kernel_rfl)) (by decide) (fun K hK => ?_)
  have hxs6 := HX5.out
  have hfs6 : w6.frozen? ⟨g1, i.toNat, none⟩ = false := blk_frozen HC5.out _
  refine skip_ (w1 := ?_) (by rfl) rfl ?_ ?_
  rotate_left
  · go_simp
    rfl
  refine hK.out _ _ ?_
  clear hK K
  refine done_ (done_of HT_.out (by kernel_rfl)) ?_
  try go_wp2
  go_end0
  have h0 : 0 ≤ i := of_eq_true p1
  have h8 : i < ((l2.length : Nat) : Int) := of_eq_true p2
  obtain ⟨hS, hG⟩ := slot_put HH5.out h0 h8 HRN.out (fun k hk => hk) (fun k hk => hk.elim (fun h => (HOK.out k h).2) (fun h e => by have h1_ := HG5.out; have h2_ := h.2; omega))
  have HKF := Kept.of_grown hG (HK6.out.mono (S' := P2) (fun k hk => (HOK.out k hk).1)) (fun k hk => .inl (by injection hk with hk; subst hk; exact (Kd.S_R HS2.out).1 _ rfl))
  rw [HM.out, ← HHI.out, HXI.out, ← NY.out, ← NYN.out]
  refine ⟨rfl, ws_far (blk_far BK5.out (fun e => GN.out e.symm) _) HO.out HD.out hS HS1.out HS3.out HKF, ?_, HKF.mono (fun k hk => .inl (HO.out.2.1 k hk).1)⟩
  exact HB6.out.grown hG (Nat.le_trans (Nat.le_trans HBG.out (Nat.le_of_lt (blk_lt BK.out))) HK6.out.1) (fun k hk => by injection hk with hk; subst hk; exact HG1.out)
set_option maxHeartbeats 8000000 in
set_option maxRecDepth 100000 in
theorem impl_lay.rest (a x0 x1 x2 : Int) (l1 l2 : List (List S46)) (l3 m : List S46) (g base : Nat) (ok : Nat → Prop) (w0 w : World) (hB : Below base w0 w) (hbg : base ≤ g) (H : WS a g base w ok l1 l2 l3)
    (ha : 0 ≤ a) (ha2 : a ≤ 2147483647) (hx : 0 ≤ x2) (hx2 : x2 ≤ 2147483647) (hlen : l3.length ≤ 1000000) (hc : x2 / 8 - a / 8 ≠ 0) (hc2 : ¬ x2 / 8 - a / 8 < 8) (hm : m = l3 ++ [⟨x0, x1, x2⟩]) :
    Calls Try.prog 75 #[.pointer (some ⟨g, 0, none⟩), .agg #[.int .i64 x0, .int .i64 x1, .int .i64 x2]] w fun e w' => e = .returned (.tuple #[]) ∧ WS a g base w' (fun k => ok k ∨ w.heap.size ≤ k) l1 l2 m ∧ Below base w0 w' ∧ Kept w w' (fun k => ok k ∨ k = g) := by
  obtain ⟨v1, v2, v3, hbk, hwr⟩ := H
  obtain ⟨P1, P2, P3, ⟨o1, o2, o3⟩, ⟨d1, d2, d3⟩, s1, s2, s3⟩ := hwr.types hbk (by decide) (by decide)
  obtain ⟨A3, c3, rfl⟩ := Kd.R_slice s3
  have BK := Aside0.mk hbk
  have HO := Aside0.mk (And.intro o1 (And.intro o2 o3))
  have HD := Aside0.mk (And.intro d1 (And.intro d2 d3))
  have HS1 := Aside0.mk s1
  have HS2 := Aside0.mk s2
  have HS3 := Aside0.mk s3
  have HB := Aside0.mk hB
  have HLEN := Aside0.mk hlen
  have HBG := Aside0.mk hbg
  have HM := Aside0.mk hm
  have e1 : wrap64 (Int.tdiv x2 8) = x2 / 8 := by rw [Int.tdiv_eq_ediv_of_nonneg hx]; unfold wrap64; omega
  have e2 : wrap64 (Int.tdiv a 8) = a / 8 := by rw [Int.tdiv_eq_ediv_of_nonneg ha]; unfold wrap64; omega
  have e3 : wrap64 (x2 / 8 - a / 8) = x2 / 8 - a / 8 := by unfold wrap64; omega
  obtain ⟨q, hq⟩ : ∃ q, wrap64 (wrap64 (Int.tdiv x2 8) - wrap64 (Int.tdiv a 8)) = q := ⟨_, rfl⟩
  have hqq : q = x2 / 8 - a / 8 := by rw [← hq, e1, e2, e3]
  obtain ⟨q1, q2⟩ := zf (show ¬ q = 0 by omega)
  have q3 : (q < 8) = False := eq_false (by omega)
  have q4 : decide (q < 8) = false := by simp [q3]
  clear hqq e1 e2 e3
  clear hm hbk o1 o2 o3 d1 d2 d3 s1 s2 s3 hwr hlen hbg hB ha ha2 hx hx2 hc hc2
  have hu46 := Try.underlying46
  have hu25 := Try.underlying25
  go_enter Try.func75, Try.ntmps75
  go_wp2_with (first | ((with_reducible refine gD 3 rfl ?_); refine bE 3 #[.int .i64 x0, .int .i64 x1, .int .i64 x2] 46 ?_; intro gt hg w2 hbox hb; have BT := Aside0.mk hbox; have GT := Aside0.mk hg; have HB1 := Aside0.mk hb; clear hbox hg hb))
  have BK2 := Aside0.mk (blk_drew (blk_below BK.out HB1.out))
  have BT2 := zBD BT
  have HB2 := zLD HB1
  clear BT HB1
  refine start_ (n := 10) (S := fun w' => w'.cell? ⟨gt, 2, none⟩ = some (.int .i64 x2) ∧ w'.cell? ⟨g, 0, none⟩ = some (.int .i64 a)) (ds := []) (fB 10 0) (by kernel_rfl) rfl rfl ⟨(blk_cell BT2.out 2).trans rfl, (blk_cell BK2.out 0).trans rfl⟩ (fun hHeld => ?_); refine with_tabW impl_lay.tab1 impl_lay.bits1 (fun HT_ HW_ => ?_)
  generalize w2.drew = w3 at BK2 BT2 HB2 hHeld ⊢
  refine pY 0 6 (fB 10 1) HT_.out ?_
  refine pY 3 9 (fB 10 9) HT_.out ?_
  refine pY 4 10 (fB 10 25) HT_.out ?_
  refine pY 5 11 (fB 10 57) HT_.out ?_
  refine tY 1 7 (fB 10 59) HT_.out HW_.out hHeld ?_
  refine pY 2 8 (fB 10 63) HT_.out ?_
  refine tY 6 12 (fB 10 127) HT_.out HW_.out hHeld ?_
  refine pY 7 13 (fB 10 255) HT_.out ?_
  refine pY 8 14 (fB 10 511) HT_.out ?_
  refine pY 9 4 (fB 10 1023) HT_.out ?_
  refine done_ (done_of HT_.out (by kernel_rfl)) ?_
  have hcz := (blk_cell BT2.out 2).trans rfl
  try go_wp2
  obtain ⟨yb, hyb⟩ : ∃ yb : List S46, yb = [⟨x0, x1, x2⟩] := ⟨_, rfl⟩
  have NY := Aside0.mk hyb
  clear hyb
  have BK3 := zBD BK2
  have BT3 := zBD BT2
  have HB3 := zLD HB2
  clear BK2 BT2 HB2 hcz
  refine start_ (n := 11) (S := fun w' => w'.cell? ⟨g, 3, none⟩ = some (.slice A3 l3.length c3) ∧ w'.cell? ⟨gt, 0, none⟩ = some (.int .i64 x0) ∧ w'.cell? ⟨gt, 1, none⟩ = some (.int .i64 x1) ∧ w'.cell? ⟨gt, 2, none⟩ = some (.int .i64 x2)) (ds := [10]) (fB 11 0) (by kernel_rfl) rfl rfl ⟨(blk_cell BK3.out 3).trans rfl, (blk_cell BT3.out 0).trans rfl, (blk_cell BT3.out 1).trans rfl, (blk_cell BT3.out 2).trans rfl⟩ (fun hHeld => ?_); refine with_tabW impl_lay.tab2 impl_lay.bits2 (fun HT_ HW_ => ?_)
  generalize w3.drew = w4 at BK3 BT3 HB3 hHeld ⊢
  refine pY 0 15 (fB 11 1) HT_.out ?_
  refine pY 1 16 (fB 11 3) HT_.out ?_
  refine pY 2 17 (fB 11 7) HT_.out ?_
  refine pY 3 18 (fB 11 15) HT_.out ?_
  refine tY 4 19 (fB 11 31) HT_.out HW_.out hHeld ?_
  refine tY 5 20 (fB 11 63) HT_.out HW_.out hHeld ?_
  refine oN 6 21 (fB 11 127) HT_.out fun K hK => ?_
  refine Kd.R_lit_step k46 _ 46 ?hg (N := 21) ?hd (xs := ([⟨x0, x1, x2⟩] : List S46)) (inner := [.int .i64 x0, .int .i64 x1, .int .i64 x2]) (ok := fun _ => True) (okp := fun _ => True) ?hr ?hp (fun _ hk => hk) trivial (Below.refl _ _) (Nat.le_refl _) (by simp) ?_; (case hd => rfl); (case hg => rfl); (case hr => first | (go_simp; done) | (go_simp; rfl)); (case hp => exact Reps.c3 (k46_mkM _ _ _ (⟨x0, x1, x2⟩ : S46)) (Reps.none _ _))
  intro vb w5 hrow hb5 hg_ hn_
  clear hg_ hn_
  rw [← NY.out] at hrow
  obtain ⟨Ab, cb, rfl⟩ := Kd.R_slice hrow
  have HRB := Aside0.mk (Kd.R_reads' hrow)
  have BK4 := zBB BK3 hb5
  have BT4 := zBB BT3 hb5
  have HB4 := zLB HB3.out hb5
  clear hrow hb5 BK3 BT3 HB3
  refine hK.out _ _ ⟨(blk_cell BK4.out 3).trans rfl, (blk_cell BT4.out 0).trans rfl, (blk_cell BT4.out 1).trans rfl, (blk_cell BT4.out 2).trans rfl⟩ fun hHeld => ?_; clear hK K
  refine nZ 21 ?_
  refine oN 7 22 (fB 11 255) HT_.out fun K hK => ?_
  have HBW := Aside0.mk (below_then HB.out (Nat.le_trans HBG.out (Nat.le_of_lt (blk_lt BK.out))) HB4.out)
  have hbs : base ≤ w5.heap.size := Nat.le_trans (Nat.le_trans HBG.out (Nat.le_of_lt (blk_lt BK.out))) HB4.out.size
  refine Kd.R_append_rows_step k46 (w0 := w0) base (by rfl) (.tmp 19) (.tmp 21) 23 46 (.agg #[(.int .i64 0), (.int .i64 0), (.int .i64 0)]) 24 rfl Try.underlying23 info46 rfl (by decide) (by omega) _ l3 yb _ _ _ (fun k => P3 k ∨ w.heap.size ≤ k) (fun _ => False) rfl rfl ?aO ?aR (fun _ _ h => h) (fun _ h => h.elim) ?aF ?aB ?aS ?aL ?_
  (case aO => exact Kd.R_mono (Kd.R_below HS3.out HB4.out) (fun k h => .inl h))
  (case aR => exact HRB.out.2.2)
  (case aF => exact fun k hk => .inr (Nat.le_trans HB4.out.size hk))
  (case aB => exact HBW.out)
  (case aS => exact hbs)
  (case aL => (have h1_ := HLEN.out; have h2_ : yb.length = 1 := (by rw [NY.out]; rfl); omega))
  intro vn w6 ho hb6 hg6 hat6
  clear hat6
  obtain ⟨yn, hyn⟩ : ∃ yn, yn = l3 ++ yb := ⟨_, rfl⟩
  rw [← hyn] at ho
  have NYN := Aside0.mk hyn
  clear hyn
  have hrk : ∀ k, (Value.slice A3 l3.length c3).ownBlock = some k → P3 k := fun k hk => HS3.out.1 k hk
  have HK6 := Aside0.mk (Kept.of_grown hg6 (Kept.of_below HB4.out (fun k => P3 k)) (fun k hk => .inl (hrk k hk)))
  have BK5 := Aside0.mk (blk_grown BK4.out hg6 (fun e => (HO.out.2.2 g (hrk g e.symm)).2 rfl))
  have BT5 := Aside0.mk (blk_grown BT4.out hg6 (fun e => by have h_ := Kd.R_lt HS3.out gt e.symm; rw [GT.out] at h_; exact Nat.lt_irrefl _ h_))
  obtain ⟨An, cn, rfl⟩ := Kd.R_slice ho
  have HRN := Aside0.mk ho
  have HB6 := Aside0.mk hb6
  clear ho hb6 hg6 hrk hbs HBW HB4 BK4 BT4
  refine hK.out _ _ ⟨(blk_cell BK5.out 3).trans rfl, (blk_cell BT5.out 0).trans rfl, (blk_cell BT5.out 1).trans rfl, (blk_cell BT5.out 2).trans rfl⟩ fun hHeld => ?_; clear hK K
  refine nZ 22 ?_
  refine pY 8 23 (fB 11 511) HT_.out ?_
  refine pY 9 24 (fB 11 1023) HT_.out ?_
  refine last_ (i := 10) (N := none) (fB 11 2047) rfl rfl (one_of HT_.out (by kernel_rfl)) (by decide) (fun K hK => ?_)
  have hcs6 := (blk_cell BK5.out 3).trans rfl
  have hfs6 := blk_frozen BK5.out 3
  refine skip_ (w1 := ?_) (by rfl) rfl ?_ ?_
  rotate_left
  · go_simp
    rfl
  refine hK.out _ _ ?_
  clear hK K
  refine done_ (done_of HT_.out (by kernel_rfl)) ?_
  try go_wp2
  go_end0
  have HKF := (HK6.out.mono (S' := fun k => P3 k ∨ k = g) (fun k hk => .inl hk)).setCell (p := ⟨g, 3, none⟩) (.inl (.inr rfl)) (.slice An yn.length cn)
  rw [HM.out, ← NY.out, ← NYN.out]
  refine ⟨rfl, ws_rest (blk_put BK5.out 3 _ rfl) HO.out HD.out (Kd.R_far (p := ⟨g, 3, none⟩) HRN.out (fun k hk => hk.elim (fun h => (HO.out.2.2 k h).2) (fun h e => by have h_ := blk_lt BK.out; have e_ : k = g := e; omega)) _) HS1.out HS2.out HKF, ?_, HKF.mono (fun k hk => hk.elim (fun h => .inl (HO.out.2.2 k h).1) .inr)⟩
  exact HB6.out.setCell HBG.out _
theorem impl_lay.calls (a x0 x1 x2 : Int) (l1 l2 : List (List S46)) (l3 : List S46) (g base : Nat) (ok : Nat → Prop) (w0 w : World) (hB : Below base w0 w) (hbg : base ≤ g) (H : WS a g base w ok l1 l2 l3) (h : layOk a ⟨x0, x1, x2⟩ l1 l2 l3 = true) (m1 m2 : List (List S46)) (m3 : List S46) (hm : layV a ⟨x0, x1, x2⟩ l1 l2 l3 = (m1, m2, m3)) :
    Calls Try.prog 75 #[.pointer (some ⟨g, 0, none⟩), .agg #[.int .i64 x0, .int .i64 x1, .int .i64 x2]] w fun e w' => e = .returned (.tuple #[]) ∧ WS a g base w' (fun k => ok k ∨ w.heap.size ≤ k) m1 m2 m3 ∧ Below base w0 w' ∧ Kept w w' (fun k => ok k ∨ k = g) := by
  obtain ⟨h1, h2, h3, h4, h5, h6, h7, h8, h9⟩ := layOk_spec h
  simp only at h3 h4
  unfold layV at hm
  simp only at hm
  by_cases c : x2 / 8 - a / 8 = 0
  · rw [if_pos c] at hm
    simp only [Prod.mk.injEq] at hm
    obtain ⟨e1, rfl, rfl⟩ := hm
    exact impl_lay.near a x0 x1 x2 l1 l2 m1 l3 g base ok w0 w hB hbg H h1 h2 h3 h4 h5 (getD_len l1 h7 _) c e1.symm
  · rw [if_neg c] at hm
    by_cases c2 : x2 / 8 - a / 8 < 8
    · rw [if_pos c2] at hm
      simp only [Prod.mk.injEq] at hm
      obtain ⟨rfl, e1, rfl⟩ := hm
      exact impl_lay.far a x0 x1 x2 l1 l2 m2 l3 g base ok w0 w hB hbg H h1 h2 h3 h4 h6 (getD_len l2 h8 _) c c2 e1.symm
    · rw [if_neg c2] at hm
      simp only [Prod.mk.injEq] at hm
      obtain ⟨rfl, rfl, e1⟩ := hm
      exact impl_lay.rest a x0 x1 x2 l1 l2 l3 m3 g base ok w0 w hB hbg H h1 h2 h3 h4 h9 c c2 e1.symm

/-! ### impl_Put: function 33, by hand -/
def impl_Put.f (k : Nat) (a : Int) (l1 l2 : List (List S46)) (l3 : List S46) (x0 x1 x2 : Int) : Option (Int × List (List S46) × List (List S46) × List S46 × Bool) := (impl_copyWheel.f k a l1 l2 l3).bind fun c => (if c.1 = a then (impl_WheelOk.f k a l1 l2 l3).bind fun b1 => (if b1 = true then (impl_within.f x2 (wrap64 (a + 1)) 2147483647).bind fun u => (if u = true then (if layOk c.1 ⟨x0, x1, x2⟩ c.2.1 c.2.2.1 c.2.2.2 = true then (impl_WheelOk.f k c.1 (layV c.1 ⟨x0, x1, x2⟩ c.2.1 c.2.2.1 c.2.2.2).1 (layV c.1 ⟨x0, x1, x2⟩ c.2.1 c.2.2.1 c.2.2.2).2.1 (layV c.1 ⟨x0, x1, x2⟩ c.2.1 c.2.2.1 c.2.2.2).2.2).bind fun b2 => (if b2 = true then some (c.1, (layV c.1 ⟨x0, x1, x2⟩ c.2.1 c.2.2.1 c.2.2.2).1, (layV c.1 ⟨x0, x1, x2⟩ c.2.1 c.2.2.1 c.2.2.2).2.1, (layV c.1 ⟨x0, x1, x2⟩ c.2.1 c.2.2.1 c.2.2.2).2.2, true) else some (c.1, c.2.1, c.2.2.1, c.2.2.2, false)) else none) else some (c.1, c.2.1, c.2.2.1, c.2.2.2, false)) else some (c.1, c.2.1, c.2.2.1, c.2.2.2, false)) else none)
set_option maxHeartbeats 8000000 in
set_option maxRecDepth 100000 in
theorem impl_Put.callsW (k : Nat) (a : Int) (A1 : Option Addr) (c1 : Nat) (l1 : List (List S46)) (A2 : Option Addr) (c2 : Nat) (l2 : List (List S46)) (A3 : Option Addr) (c3 : Nat) (l3 : List S46) (x0 x1 x2 : Int) (r1 : Int) (r2 r3 : List (List S46)) (r4 : List S46) (r5 : Bool) (w : World) (hr1 : Kd.C (Kd.slice 46 k46) w A1 l1.length l1) (hc1 : l1.length ≤ c1) (hr2 : Kd.C (Kd.slice 46 k46) w A2 l2.length l2) (hc2 : l2.length ≤ c2) (hr3 : Kd.C k46 w A3 l3.length l3) (hc3 : l3.length ≤ c3) (h : impl_Put.f k a l1 l2 l3 x0 x1 x2 = some (r1, r2, r3, r4, r5)) :
    Calls Try.prog 33 #[.agg #[.int .i64 a, .slice A1 l1.length c1, .slice A2 l2.length c2, .slice A3 l3.length c3], .agg #[.int .i64 x0, .int .i64 x1, .int .i64 x2]] w fun e w' => ∃ v1_ v2_ v3_ : Value, e = .returned (.tuple #[.agg #[.int .i64 r1, v1_, v2_, v3_], .bool r5]) ∧ WR w' w.heap.size (fun _ => True) v1_ v2_ v3_ r2 r3 r4 ∧ Below w.heap.size w w' := by
  have hu25 := Try.underlying25
  have hu46 := Try.underlying46
  unfold impl_Put.f at h
  obtain ⟨⟨y0, y1, y2, y3⟩, AC, h⟩ := zO h
  simp only at h
  by_cases ey : y0 = a
  · rw [if_pos ey] at h
    subst ey
    obtain ⟨b1, AO, h⟩ := zO h
    have HR1 := Aside0.mk hr1
    have HR2 := Aside0.mk hr2
    have HR3 := Aside0.mk hr3
    have HC1 := Aside0.mk hc1
    have HC2 := Aside0.mk hc2
    have HC3 := Aside0.mk hc3
    have HB := Aside0.mk (Below.refl w.heap.size w)
    clear hr1 hr2 hr3 hc1 hc2 hc3
    cases b1 with
    | false =>
      rw [if_neg (by simp)] at h
      simp only [Option.some.injEq, Prod.mk.injEq] at h
      obtain ⟨rfl, rfl, rfl, rfl, rfl⟩ := h
      go_enter Try.func33, Try.ntmps33
      go_wp2_with (first | ((with_reducible refine gD 2 rfl ?_); refine bE 2 #[.int .i64 y0, .slice A1 l1.length c1, .slice A2 l2.length c2, .slice A3 l3.length c3] 25 ?_; intro g2 hg w2_ hbox hb; have GE2 := Aside0.mk (zg HB.out hg : w.heap.size ≤ g2);  have BK2 := Aside0.mk hbox;  replace HB := zLB HB.out hb; clear hb; clear hbox hg; (try clear hz2_); have hz2_ := zc4 BK2.out;) | ((with_reducible refine gD 3 rfl ?_); refine bE 3 #[.int .i64 x0, .int .i64 x1, .int .i64 x2] 46 ?_; intro g3 hg w3_ hbox hb; have GE3 := Aside0.mk (zg HB.out hg : w.heap.size ≤ g3); have N2_3 := Aside0.mk (zN BK2.out hg : g2 ≠ g3); have BK3 := Aside0.mk hbox; replace BK2 := zBB BK2 hb; replace HB := zLB HB.out hb; clear hb; clear hbox hg; (try clear hz2_); have hz2_ := zc4 BK2.out; (try clear hz3_); have hz3_ := zc3_ BK3.out;) | ((with_reducible refine gD 4 rfl ?_); refine bE 4 #[.int .i64 0, .slice none 0 0, .slice none 0 0, .slice none 0 0] 25 ?_; intro g4 hg w4_ hbox hb; have GE4 := Aside0.mk (zg HB.out hg : w.heap.size ≤ g4); have N2_4 := Aside0.mk (zN BK2.out hg : g2 ≠ g4); have N3_4 := Aside0.mk (zN BK3.out hg : g3 ≠ g4); have BK4 := Aside0.mk hbox; replace BK2 := zBB BK2 hb; replace BK3 := zBB BK3 hb; replace HB := zLB HB.out hb; clear hb; clear hbox hg; (try clear hz2_); have hz2_ := zc4 BK2.out; (try clear hz3_); have hz3_ := zc3_ BK3.out; (try clear hz4_); have hz4_ := zc4 BK4.out;) | ((with_reducible refine gC 74 rfl ?_); refine gL 8 Try.func74 #[.agg #[.int .i64 y0, .slice A1 l1.length c1, .slice A2 l2.length c2, .slice A3 l3.length c3]] ?_; (refine (impl_copyWheel.callsW k y0 A1 c1 l1 A2 c2 l2 A3 c3 l3 y0 y1 y2 y3 _ ?s1 HC1.out ?s2 HC2.out ?s3 HC3.out AC.out).mono ?_); (case s1 => exact Kd.C_below HR1.out HB.out); (case s2 => exact Kd.C_below HR2.out HB.out); (case s3 => exact Kd.C_below HR3.out HB.out); rintro e w8_ ⟨v1, v2, v3, rfl, hw_, hb⟩; obtain ⟨B1, q1, B2, q2, B3, q3, rfl, rfl, rfl, _, _, _, _⟩ := hw_.reads; refine ⟨_, rfl, ?_⟩; have F2 := Aside0.mk (blk_lt BK2.out); have F3 := Aside0.mk (blk_lt BK3.out); have F4 := Aside0.mk (blk_lt BK4.out); obtain ⟨n0, hn0_⟩ : ∃ n0, n0 = _ := ⟨_, rfl⟩; have HWR := Aside0.mk ((hw_.bound.mono (ok' := fun k_ => n0 ≤ k_) (fun k_ h_ => by rw [hn0_]; exact h_.2.1)).lower HB.out.size); have FN := Aside0.mk (hb.size); rw [← hn0_] at F2 F3 F4 FN; clear hw_ hn0_; replace BK2 := zBB BK2 hb; replace BK3 := zBB BK3 hb; replace BK4 := zBB BK4 hb; replace HB := zLB HB.out hb; clear hb; (try clear hz2_); have hz2_ := zc4 BK2.out; (try clear hz3_); have hz3_ := zc3_ BK3.out; (try clear hz4_); have hz4_ := zc4 BK4.out;) | ((with_reducible refine gD 6 rfl ?_); refine bE 6 #[.int .i64 0, .slice none 0 0, .slice none 0 0, .slice none 0 0] 25 ?_; intro g6 hg w6_ hbox hb; have GE6 := Aside0.mk (zg HB.out hg : w.heap.size ≤ g6); have N2_6 := Aside0.mk (zN BK2.out hg : g2 ≠ g6); have N3_6 := Aside0.mk (zN BK3.out hg : g3 ≠ g6); have N4_6 := Aside0.mk (zN BK4.out hg : g4 ≠ g6); replace HWR := Aside0.mk (HWR.out.below hb); have FN6 := Aside0.mk (by rw [hg]; exact FN.out : n0 ≤ g6); clear FN; have BK6 := Aside0.mk hbox; replace BK2 := zBB BK2 hb; replace BK3 := zBB BK3 hb; replace BK4 := zBB BK4 hb; replace HB := zLB HB.out hb; clear hb; clear hbox hg; (try clear hz2_); have hz2_ := zc4 BK2.out; (try clear hz3_); have hz3_ := zc3_ BK3.out; (try clear hz4_); have hz4_ := zc4 BK4.out; (try clear hz6_); have hz6_ := zc4 BK6.out;) | ((with_reducible refine gate_store (t := 25) (p := 6) rfl ?_); refine store_event (t := 25) (p := 6) (v := ?vo611_) (w1 := ((((w6_.setCell ⟨g6, 0, none⟩ (.int .i64 y0)).setCell ⟨g6, 1, none⟩ (.slice B1 y1.length q1)).setCell ⟨g6, 2, none⟩ (.slice B2 y2.length q2)).setCell ⟨g6, 3, none⟩ (.slice B3 y3.length q3))) ?hg ?ho ?hn ?hr ?_; (case ho => rfl); (case hg => rfl); (case hn => rfl); (case hr => (have hs0_ := (blk_cell BK6.out 0).trans rfl; have hf0_ := blk_frozen BK6.out 0; have hs1_ := (blk_cell BK6.out 1).trans rfl; have hf1_ := blk_frozen BK6.out 1; have hs2_ := (blk_cell BK6.out 2).trans rfl; have hf2_ := blk_frozen BK6.out 2; have hs3_ := (blk_cell BK6.out 3).trans rfl; have hf3_ := blk_frozen BK6.out 3; (try clear hz2_); have hz2_ := zc4 BK2.out; (try clear hz3_); have hz3_ := zc3_ BK3.out; (try clear hz4_); have hz4_ := zc4 BK4.out; first | (go_simp; done) | (go_simp; rfl))); intro w8 hw_; have HK_ := set4_kept hw_; have BKn := Aside0.mk (set4_blk hw_ BK6.out rfl); have HBn := Aside0.mk (set4_below hw_ HB.out GE6.out); replace BK2 := Aside0.mk (blk_kept BK2.out HK_ (N2_6.out)); replace BK3 := Aside0.mk (blk_kept BK3.out HK_ (N3_6.out)); replace BK4 := Aside0.mk (blk_kept BK4.out HK_ (N4_6.out)); replace HWR := Aside0.mk (((HWR.out.types BK6.out (by decide) (by decide)).kept HK_ (fun _ h_ => h_.2)).mono (ok' := fun k_ => n0 ≤ k_) (fun _ h_ => h_.1)); clear hw_ BK6 HB; have BK6 := BKn; have HB := HBn; clear BKn HBn HK_; (try clear hz2_); have hz2_ := zc4 BK2.out; (try clear hz3_); have hz3_ := zc3_ BK3.out; (try clear hz4_); have hz4_ := zc4 BK4.out; (try clear hz6_); have hz6_ := zc4 BK6.out;) | ((with_reducible refine gC 30 rfl ?_); refine gL 10 Try.func30 #[.agg #[.int .i64 y0, .slice A1 l1.length c1, .slice A2 l2.length c2, .slice A3 l3.length c3]] ?_; (refine (impl_WheelOk.calls k y0 A1 c1 l1 A2 c2 l2 A3 c3 l3 false _ ?s1 ?t1 ?s2 ?t2 ?s3 ?t3 AO.out).mono ?_); (case s1 => exact Kd.C_below HR1.out HB.out); (case s2 => exact Kd.C_below HR2.out HB.out); (case s3 => exact Kd.C_below HR3.out HB.out); (case t1 => exact HC1.out); (case t2 => exact HC2.out); (case t3 => exact HC3.out); rintro e w10 ⟨rfl, hb⟩; refine ⟨_, rfl, ?_⟩; replace BK2 := zBB BK2 hb; replace BK3 := zBB BK3 hb; replace BK4 := zBB BK4 hb; replace BK6 := zBB BK6 hb; replace HWR := Aside0.mk (HWR.out.below hb); replace HB := zLB HB.out hb; clear hb; (try clear hz2_); have hz2_ := zc4 BK2.out; (try clear hz3_); have hz3_ := zc3_ BK3.out; (try clear hz4_); have hz4_ := zc4 BK4.out; (try clear hz6_); have hz6_ := zc4 BK6.out;) | (go_at_call 69; (refine (impl_within.calls x2 (wrap64 (y0 + 1)) 2147483647 true _ AW.out).mono ?_); rintro e w18 ⟨rfl, hd_⟩; have hb := hd_.below; clear hd_; replace BK2 := zBB BK2 hb; replace BK3 := zBB BK3 hb; replace BK4 := zBB BK4 hb; replace BK6 := zBB BK6 hb; replace HWR := Aside0.mk (HWR.out.below hb); replace HB := zLB HB.out hb; clear hb; (try clear hz2_); have hz2_ := zc4 BK2.out; (try clear hz3_); have hz3_ := zc3_ BK3.out; (try clear hz4_); have hz4_ := zc4 BK4.out; (try clear hz6_); have hz6_ := zc4 BK6.out;) | ((with_reducible refine gC 75 rfl ?_); refine gL 23 Try.func75 #[.pointer (some ⟨g6, 0, none⟩), .agg #[.int .i64 x0, .int .i64 x1, .int .i64 x2]] ?_; (refine (impl_lay.calls y0 x0 x1 x2 y1 y2 y3 g6 w.heap.size (fun k_ => n0 ≤ k_) w _ HB.out GE6.out ⟨_, _, _, BK6.out, HWR.out⟩ AL.out m1 m2 m3 AV.out).mono ?_); rintro e w23 ⟨rfl, hs_, hb, hk_⟩; refine ⟨_, rfl, ?_⟩; replace BK2 := Aside0.mk (blk_kept BK2.out hk_ (fun h_ => h_.elim (fun h_ => by have f_ := F2.out; omega) N2_6.out)); replace BK3 := Aside0.mk (blk_kept BK3.out hk_ (fun h_ => h_.elim (fun h_ => by have f_ := F3.out; omega) N3_6.out)); replace BK4 := Aside0.mk (blk_kept BK4.out hk_ (fun h_ => h_.elim (fun h_ => by have f_ := F4.out; omega) N4_6.out)); have q_ := blk_lt BK6.out; clear BK6 HB HWR; have HB := Aside0.mk hb; have HS := Aside0.mk (hs_.mono (ok' := fun k_ => n0 ≤ k_) (fun k_ h_ => h_.elim id (fun h_ => by have f_ := FN6.out; omega))); clear hb hk_ hs_ q_; obtain ⟨u1, u2, u3, hu_, hw_⟩ := HS.out; obtain ⟨D1, p1, D2, p2, D3, p3, rfl, rfl, rfl, ⟨t1_, t2_, t3_⟩, r1_, r2_, r3_⟩ := hw_.reads; have BK6 := Aside0.mk hu_; have HWR := Aside0.mk hw_; have HQ := Aside0.mk (And.intro t1_ (And.intro t2_ (And.intro t3_ (And.intro r1_ (And.intro r2_ r3_))))); clear hu_ hw_ t1_ t2_ t3_ r1_ r2_ r3_ HS; (try clear hz2_); have hz2_ := zc4 BK2.out; (try clear hz3_); have hz3_ := zc3_ BK3.out; (try clear hz4_); have hz4_ := zc4 BK4.out; (try clear hz6_); have hz6_ := zc4 BK6.out;) | ((with_reducible refine gC 30 rfl ?_); refine gL 25 Try.func30 #[.agg #[.int .i64 y0, .slice D1 m1.length p1, .slice D2 m2.length p2, .slice D3 m3.length p3]] ?_; (refine (impl_WheelOk.calls k y0 D1 p1 m1 D2 p2 m2 D3 p3 m3 true _ HQ.out.2.2.2.1 HQ.out.1 HQ.out.2.2.2.2.1 HQ.out.2.1 HQ.out.2.2.2.2.2 HQ.out.2.2.1 AP.out).mono ?_); rintro e w25 ⟨rfl, hb⟩; refine ⟨_, rfl, ?_⟩; replace HWR := Aside0.mk (HWR.out.below hb); clear HQ; replace BK2 := zBB BK2 hb; replace BK3 := zBB BK3 hb; replace BK4 := zBB BK4 hb; replace BK6 := zBB BK6 hb; replace HB := zLB HB.out hb; clear hb; (try clear hz2_); have hz2_ := zc4 BK2.out; (try clear hz3_); have hz3_ := zc3_ BK3.out; (try clear hz4_); have hz4_ := zc4 BK4.out; (try clear hz6_); have hz6_ := zc4 BK6.out;) | ((with_reducible refine gate_store (t := 25) (p := 4) rfl ?_); refine store_event (t := 25) (p := 4) (v := ?voF10_) (w1 := ((((w10.setCell ⟨g4, 0, none⟩ (.int .i64 y0)).setCell ⟨g4, 1, none⟩ (.slice B1 y1.length q1)).setCell ⟨g4, 2, none⟩ (.slice B2 y2.length q2)).setCell ⟨g4, 3, none⟩ (.slice B3 y3.length q3))) ?hg ?ho ?hn ?hr ?_; (case ho => rfl); (case hg => rfl); (case hn => rfl); (case hr => (have hs0_ := (blk_cell BK4.out 0).trans rfl; have hf0_ := blk_frozen BK4.out 0; have hs1_ := (blk_cell BK4.out 1).trans rfl; have hf1_ := blk_frozen BK4.out 1; have hs2_ := (blk_cell BK4.out 2).trans rfl; have hf2_ := blk_frozen BK4.out 2; have hs3_ := (blk_cell BK4.out 3).trans rfl; have hf3_ := blk_frozen BK4.out 3; first | (go_simp; done) | (go_simp; rfl))); intro wF hw_; have HK_ := set4_kept hw_; have BKn := Aside0.mk (set4_blk hw_ BK4.out rfl); have HBn := Aside0.mk (set4_below hw_ HB.out GE4.out); have HF := Aside0.mk (((HWR.out.types BK4.out (by decide) (by decide)).kept HK_ (fun _ h_ => h_.2)).mono (ok' := fun _ => True) (fun _ _ => trivial)); clear hw_ BK4 HB; have BK4 := BKn; have HB := HBn; clear BKn HBn HK_))
      refine bodyPost_ret (results_ct rfl _ _ g4 25 #[.int .i64 y0, .slice B1 y1.length q1, .slice B2 y2.length q2, .slice B3 y3.length q3] (0, 0) _ rfl (by exact BK4.out) Try.underlying25 rfl (by kernel_rfl)) rfl ?_
      exact ⟨_, _, _, rfl, HF.out, HB.out⟩
    | true =>
      rw [if_pos rfl] at h
      obtain ⟨u, AW, h⟩ := zO h
      cases u with
      | false =>
        rw [if_neg (by simp)] at h
        simp only [Option.some.injEq, Prod.mk.injEq] at h
        obtain ⟨rfl, rfl, rfl, rfl, rfl⟩ := h
        go_enter Try.func33, Try.ntmps33
        go_wp2_with (first | ((with_reducible refine gD 2 rfl ?_); refine bE 2 #[.int .i64 y0, .slice A1 l1.length c1, .slice A2 l2.length c2, .slice A3 l3.length c3] 25 ?_; intro g2 hg w2_ hbox hb; have GE2 := Aside0.mk (zg HB.out hg : w.heap.size ≤ g2);  have BK2 := Aside0.mk hbox;  replace HB := zLB HB.out hb; clear hb; clear hbox hg; (try clear hz2_); have hz2_ := zc4 BK2.out;) | ((with_reducible refine gD 3 rfl ?_); refine bE 3 #[.int .i64 x0, .int .i64 x1, .int .i64 x2] 46 ?_; intro g3 hg w3_ hbox hb; have GE3 := Aside0.mk (zg HB.out hg : w.heap.size ≤ g3); have N2_3 := Aside0.mk (zN BK2.out hg : g2 ≠ g3); have BK3 := Aside0.mk hbox; replace BK2 := zBB BK2 hb; replace HB := zLB HB.out hb; clear hb; clear hbox hg; (try clear hz2_); have hz2_ := zc4 BK2.out; (try clear hz3_); have hz3_ := zc3_ BK3.out;) | ((with_reducible refine gD 4 rfl ?_); refine bE 4 #[.int .i64 0, .slice none 0 0, .slice none 0 0, .slice none 0 0] 25 ?_; intro g4 hg w4_ hbox hb; have GE4 := Aside0.mk (zg HB.out hg : w.heap.size ≤ g4); have N2_4 := Aside0.mk (zN BK2.out hg : g2 ≠ g4); have N3_4 := Aside0.mk (zN BK3.out hg : g3 ≠ g4); have BK4 := Aside0.mk hbox; replace BK2 := zBB BK2 hb; replace BK3 := zBB BK3 hb; replace HB := zLB HB.out hb; clear hb; clear hbox hg; (try clear hz2_); have hz2_ := zc4 BK2.out; (try clear hz3_); have hz3_ := zc3_ BK3.out; (try clear hz4_); have hz4_ := zc4 BK4.out;) | ((with_reducible refine gC 74 rfl ?_); refine gL 8 Try.func74 #[.agg #[.int .i64 y0, .slice A1 l1.length c1, .slice A2 l2.length c2, .slice A3 l3.length c3]] ?_; (refine (impl_copyWheel.callsW k y0 A1 c1 l1 A2 c2 l2 A3 c3 l3 y0 y1 y2 y3 _ ?s1 HC1.out ?s2 HC2.out ?s3 HC3.out AC.out).mono ?_); (case s1 => exact Kd.C_below HR1.out HB.out); (case s2 => exact Kd.C_below HR2.out HB.out); (case s3 => exact Kd.C_below HR3.out HB.out); rintro e w8_ ⟨v1, v2, v3, rfl, hw_, hb⟩; obtain ⟨B1, q1, B2, q2, B3, q3, rfl, rfl, rfl, _, _, _, _⟩ := hw_.reads; refine ⟨_, rfl, ?_⟩; have F2 := Aside0.mk (blk_lt BK2.out); have F3 := Aside0.mk (blk_lt BK3.out); have F4 := Aside0.mk (blk_lt BK4.out); obtain ⟨n0, hn0_⟩ : ∃ n0, n0 = _ := ⟨_, rfl⟩; have HWR := Aside0.mk ((hw_.bound.mono (ok' := fun k_ => n0 ≤ k_) (fun k_ h_ => by rw [hn0_]; exact h_.2.1)).lower HB.out.size); have FN := Aside0.mk (hb.size); rw [← hn0_] at F2 F3 F4 FN; clear hw_ hn0_; replace BK2 := zBB BK2 hb; replace BK3 := zBB BK3 hb; replace BK4 := zBB BK4 hb; replace HB := zLB HB.out hb; clear hb; (try clear hz2_); have hz2_ := zc4 BK2.out; (try clear hz3_); have hz3_ := zc3_ BK3.out; (try clear hz4_); have hz4_ := zc4 BK4.out;) | ((with_reducible refine gD 6 rfl ?_); refine bE 6 #[.int .i64 0, .slice none 0 0, .slice none 0 0, .slice none 0 0] 25 ?_; intro g6 hg w6_ hbox hb; have GE6 := Aside0.mk (zg HB.out hg : w.heap.size ≤ g6); have N2_6 := Aside0.mk (zN BK2.out hg : g2 ≠ g6); have N3_6 := Aside0.mk (zN BK3.out hg : g3 ≠ g6); have N4_6 := Aside0.mk (zN BK4.out hg : g4 ≠ g6); replace HWR := Aside0.mk (HWR.out.below hb); have FN6 := Aside0.mk (by rw [hg]; exact FN.out : n0 ≤ g6); clear FN; have BK6 := Aside0.mk hbox; replace BK2 := zBB BK2 hb; replace BK3 := zBB BK3 hb; replace BK4 := zBB BK4 hb; replace HB := zLB HB.out hb; clear hb; clear hbox hg; (try clear hz2_); have hz2_ := zc4 BK2.out; (try clear hz3_); have hz3_ := zc3_ BK3.out; (try clear hz4_); have hz4_ := zc4 BK4.out; (try clear hz6_); have hz6_ := zc4 BK6.out;) | ((with_reducible refine gate_store (t := 25) (p := 6) rfl ?_); refine store_event (t := 25) (p := 6) (v := ?vo613_) (w1 := ((((w6_.setCell ⟨g6, 0, none⟩ (.int .i64 y0)).setCell ⟨g6, 1, none⟩ (.slice B1 y1.length q1)).setCell ⟨g6, 2, none⟩ (.slice B2 y2.length q2)).setCell ⟨g6, 3, none⟩ (.slice B3 y3.length q3))) ?hg ?ho ?hn ?hr ?_; (case ho => rfl); (case hg => rfl); (case hn => rfl); (case hr => (have hs0_ := (blk_cell BK6.out 0).trans rfl; have hf0_ := blk_frozen BK6.out 0; have hs1_ := (blk_cell BK6.out 1).trans rfl; have hf1_ := blk_frozen BK6.out 1; have hs2_ := (blk_cell BK6.out 2).trans rfl; have hf2_ := blk_frozen BK6.out 2; have hs3_ := (blk_cell BK6.out 3).trans rfl; have hf3_ := blk_frozen BK6.out 3; (try clear hz2_); have hz2_ := zc4 BK2.out; (try clear hz3_); have hz3_ := zc3_ BK3.out; (try clear hz4_); have hz4_ := zc4 BK4.out; first | (go_simp; done) | (go_simp; rfl))); intro w8 hw_; have HK_ := set4_kept hw_; have BKn := Aside0.mk (set4_blk hw_ BK6.out rfl); have HBn := Aside0.mk (set4_below hw_ HB.out GE6.out); replace BK2 := Aside0.mk (blk_kept BK2.out HK_ (N2_6.out)); replace BK3 := Aside0.mk (blk_kept BK3.out HK_ (N3_6.out)); replace BK4 := Aside0.mk (blk_kept BK4.out HK_ (N4_6.out)); replace HWR := Aside0.mk (((HWR.out.types BK6.out (by decide) (by decide)).kept HK_ (fun _ h_ => h_.2)).mono (ok' := fun k_ => n0 ≤ k_) (fun _ h_ => h_.1)); clear hw_ BK6 HB; have BK6 := BKn; have HB := HBn; clear BKn HBn HK_; (try clear hz2_); have hz2_ := zc4 BK2.out; (try clear hz3_); have hz3_ := zc3_ BK3.out; (try clear hz4_); have hz4_ := zc4 BK4.out; (try clear hz6_); have hz6_ := zc4 BK6.out;) | ((with_reducible refine gC 30 rfl ?_); refine gL 10 Try.func30 #[.agg #[.int .i64 y0, .slice A1 l1.length c1, .slice A2 l2.length c2, .slice A3 l3.length c3]] ?_; (refine (impl_WheelOk.calls k y0 A1 c1 l1 A2 c2 l2 A3 c3 l3 true _ ?s1 ?t1 ?s2 ?t2 ?s3 ?t3 AO.out).mono ?_); (case s1 => exact Kd.C_below HR1.out HB.out); (case s2 => exact Kd.C_below HR2.out HB.out); (case s3 => exact Kd.C_below HR3.out HB.out); (case t1 => exact HC1.out); (case t2 => exact HC2.out); (case t3 => exact HC3.out); rintro e w10 ⟨rfl, hb⟩; refine ⟨_, rfl, ?_⟩; replace BK2 := zBB BK2 hb; replace BK3 := zBB BK3 hb; replace BK4 := zBB BK4 hb; replace BK6 := zBB BK6 hb; replace HWR := Aside0.mk (HWR.out.below hb); replace HB := zLB HB.out hb; clear hb; (try clear hz2_); have hz2_ := zc4 BK2.out; (try clear hz3_); have hz3_ := zc3_ BK3.out; (try clear hz4_); have hz4_ := zc4 BK4.out; (try clear hz6_); have hz6_ := zc4 BK6.out;) | (go_at_call 69; (refine (impl_within.calls x2 (wrap64 (y0 + 1)) 2147483647 false _ AW.out).mono ?_); rintro e w18 ⟨rfl, hd_⟩; have hb := hd_.below; clear hd_; replace BK2 := zBB BK2 hb; replace BK3 := zBB BK3 hb; replace BK4 := zBB BK4 hb; replace BK6 := zBB BK6 hb; replace HWR := Aside0.mk (HWR.out.below hb); replace HB := zLB HB.out hb; clear hb; (try clear hz2_); have hz2_ := zc4 BK2.out; (try clear hz3_); have hz3_ := zc3_ BK3.out; (try clear hz4_); have hz4_ := zc4 BK4.out; (try clear hz6_); have hz6_ := zc4 BK6.out;) | ((with_reducible refine gC 75 rfl ?_); refine gL 23 Try.func75 #[.pointer (some ⟨g6, 0, none⟩), .agg #[.int .i64 x0, .int .i64 x1, .int .i64 x2]] ?_; (refine (impl_lay.calls y0 x0 x1 x2 y1 y2 y3 g6 w.heap.size (fun k_ => n0 ≤ k_) w _ HB.out GE6.out ⟨_, _, _, BK6.out, HWR.out⟩ AL.out m1 m2 m3 AV.out).mono ?_); rintro e w23 ⟨rfl, hs_, hb, hk_⟩; refine ⟨_, rfl, ?_⟩; replace BK2 := Aside0.mk (blk_kept BK2.out hk_ (fun h_ => h_.elim (fun h_ => by have f_ := F2.out; omega) N2_6.out)); replace BK3 := Aside0.mk (blk_kept BK3.out hk_ (fun h_ => h_.elim (fun h_ => by have f_ := F3.out; omega) N3_6.out)); replace BK4 := Aside0.mk (blk_kept BK4.out hk_ (fun h_ => h_.elim (fun h_ => by have f_ := F4.out; omega) N4_6.out)); have q_ := blk_lt BK6.out; clear BK6 HB HWR; have HB := Aside0.mk hb; have HS := Aside0.mk (hs_.mono (ok' := fun k_ => n0 ≤ k_) (fun k_ h_ => h_.elim id (fun h_ => by have f_ := FN6.out; omega))); clear hb hk_ hs_ q_; obtain ⟨u1, u2, u3, hu_, hw_⟩ := HS.out; obtain ⟨D1, p1, D2, p2, D3, p3, rfl, rfl, rfl, ⟨t1_, t2_, t3_⟩, r1_, r2_, r3_⟩ := hw_.reads; have BK6 := Aside0.mk hu_; have HWR := Aside0.mk hw_; have HQ := Aside0.mk (And.intro t1_ (And.intro t2_ (And.intro t3_ (And.intro r1_ (And.intro r2_ r3_))))); clear hu_ hw_ t1_ t2_ t3_ r1_ r2_ r3_ HS; (try clear hz2_); have hz2_ := zc4 BK2.out; (try clear hz3_); have hz3_ := zc3_ BK3.out; (try clear hz4_); have hz4_ := zc4 BK4.out; (try clear hz6_); have hz6_ := zc4 BK6.out;) | ((with_reducible refine gC 30 rfl ?_); refine gL 25 Try.func30 #[.agg #[.int .i64 y0, .slice D1 m1.length p1, .slice D2 m2.length p2, .slice D3 m3.length p3]] ?_; (refine (impl_WheelOk.calls k y0 D1 p1 m1 D2 p2 m2 D3 p3 m3 true _ HQ.out.2.2.2.1 HQ.out.1 HQ.out.2.2.2.2.1 HQ.out.2.1 HQ.out.2.2.2.2.2 HQ.out.2.2.1 AP.out).mono ?_); rintro e w25 ⟨rfl, hb⟩; refine ⟨_, rfl, ?_⟩; replace HWR := Aside0.mk (HWR.out.below hb); clear HQ; replace BK2 := zBB BK2 hb; replace BK3 := zBB BK3 hb; replace BK4 := zBB BK4 hb; replace BK6 := zBB BK6 hb; replace HB := zLB HB.out hb; clear hb; (try clear hz2_); have hz2_ := zc4 BK2.out; (try clear hz3_); have hz3_ := zc3_ BK3.out; (try clear hz4_); have hz4_ := zc4 BK4.out; (try clear hz6_); have hz6_ := zc4 BK6.out;) | ((with_reducible refine gate_store (t := 25) (p := 4) rfl ?_); refine store_event (t := 25) (p := 4) (v := ?voF12_) (w1 := ((((w18.setCell ⟨g4, 0, none⟩ (.int .i64 y0)).setCell ⟨g4, 1, none⟩ (.slice B1 y1.length q1)).setCell ⟨g4, 2, none⟩ (.slice B2 y2.length q2)).setCell ⟨g4, 3, none⟩ (.slice B3 y3.length q3))) ?hg ?ho ?hn ?hr ?_; (case ho => rfl); (case hg => rfl); (case hn => rfl); (case hr => (have hs0_ := (blk_cell BK4.out 0).trans rfl; have hf0_ := blk_frozen BK4.out 0; have hs1_ := (blk_cell BK4.out 1).trans rfl; have hf1_ := blk_frozen BK4.out 1; have hs2_ := (blk_cell BK4.out 2).trans rfl; have hf2_ := blk_frozen BK4.out 2; have hs3_ := (blk_cell BK4.out 3).trans rfl; have hf3_ := blk_frozen BK4.out 3; first | (go_simp; done) | (go_simp; rfl))); intro wF hw_; have HK_ := set4_kept hw_; have BKn := Aside0.mk (set4_blk hw_ BK4.out rfl); have HBn := Aside0.mk (set4_below hw_ HB.out GE4.out); have HF := Aside0.mk (((HWR.out.types BK4.out (by decide) (by decide)).kept HK_ (fun _ h_ => h_.2)).mono (ok' := fun _ => True) (fun _ _ => trivial)); clear hw_ BK4 HB; have BK4 := BKn; have HB := HBn; clear BKn HBn HK_))
        refine bodyPost_ret (results_ct rfl _ _ g4 25 #[.int .i64 y0, .slice B1 y1.length q1, .slice B2 y2.length q2, .slice B3 y3.length q3] (0, 0) _ rfl (by exact BK4.out) Try.underlying25 rfl (by kernel_rfl)) rfl ?_
        exact ⟨_, _, _, rfl, HF.out, HB.out⟩
      | true =>
        rw [if_pos rfl] at h
        obtain ⟨⟨m1, m2, m3⟩, hv⟩ : ∃ m, layV y0 ⟨x0, x1, x2⟩ y1 y2 y3 = m := ⟨_, rfl⟩
        rw [hv] at h
        simp only at h
        by_cases hl : layOk y0 ⟨x0, x1, x2⟩ y1 y2 y3 = true
        · rw [if_pos hl] at h
          have AL := Aside0.mk hl
          have AV := Aside0.mk hv
          clear hl hv
          obtain ⟨b2, AP, h⟩ := zO h
          cases b2 with
          | false =>
            rw [if_neg (by simp)] at h
            simp only [Option.some.injEq, Prod.mk.injEq] at h
            obtain ⟨rfl, rfl, rfl, rfl, rfl⟩ := h
            go_enter Try.func33, Try.ntmps33
            go_wp2_with (first | ((with_reducible refine gD 2 rfl ?_); refine bE 2 #[.int .i64 y0, .slice A1 l1.length c1, .slice A2 l2.length c2, .slice A3 l3.length c3] 25 ?_; intro g2 hg w2_ hbox hb; have GE2 := Aside0.mk (zg HB.out hg : w.heap.size ≤ g2);  have BK2 := Aside0.mk hbox;  replace HB := zLB HB.out hb; clear hb; clear hbox hg; (try clear hz2_); have hz2_ := zc4 BK2.out;) | ((with_reducible refine gD 3 rfl ?_); refine bE 3 #[.int .i64 x0, .int .i64 x1, .int .i64 x2] 46 ?_; intro g3 hg w3_ hbox hb; have GE3 := Aside0.mk (zg HB.out hg : w.heap.size ≤ g3); have N2_3 := Aside0.mk (zN BK2.out hg : g2 ≠ g3); have BK3 := Aside0.mk hbox; replace BK2 := zBB BK2 hb; replace HB := zLB HB.out hb; clear hb; clear hbox hg; (try clear hz2_); have hz2_ := zc4 BK2.out; (try clear hz3_); have hz3_ := zc3_ BK3.out;) | ((with_reducible refine gD 4 rfl ?_); refine bE 4 #[.int .i64 0, .slice none 0 0, .slice none 0 0, .slice none 0 0] 25 ?_; intro g4 hg w4_ hbox hb; have GE4 := Aside0.mk (zg HB.out hg : w.heap.size ≤ g4); have N2_4 := Aside0.mk (zN BK2.out hg : g2 ≠ g4); have N3_4 := Aside0.mk (zN BK3.out hg : g3 ≠ g4); have BK4 := Aside0.mk hbox; replace BK2 := zBB BK2 hb; replace BK3 := zBB BK3 hb; replace HB := zLB HB.out hb; clear hb; clear hbox hg; (try clear hz2_); have hz2_ := zc4 BK2.out; (try clear hz3_); have hz3_ := zc3_ BK3.out; (try clear hz4_); have hz4_ := zc4 BK4.out;) | ((with_reducible refine gC 74 rfl ?_); refine gL 8 Try.func74 #[.agg #[.int .i64 y0, .slice A1 l1.length c1, .slice A2 l2.length c2, .slice A3 l3.length c3]] ?_; (refine (impl_copyWheel.callsW k y0 A1 c1 l1 A2 c2 l2 A3 c3 l3 y0 y1 y2 y3 _ ?s1 HC1.out ?s2 HC2.out ?s3 HC3.out AC.out).mono ?_); (case s1 => exact Kd.C_below HR1.out HB.out); (case s2 => exact Kd.C_below HR2.out HB.out); (case s3 => exact Kd.C_below HR3.out HB.out); rintro e w8_ ⟨v1, v2, v3, rfl, hw_, hb⟩; obtain ⟨B1, q1, B2, q2, B3, q3, rfl, rfl, rfl, _, _, _, _⟩ := hw_.reads; refine ⟨_, rfl, ?_⟩; have F2 := Aside0.mk (blk_lt BK2.out); have F3 := Aside0.mk (blk_lt BK3.out); have F4 := Aside0.mk (blk_lt BK4.out); obtain ⟨n0, hn0_⟩ : ∃ n0, n0 = _ := ⟨_, rfl⟩; have HWR := Aside0.mk ((hw_.bound.mono (ok' := fun k_ => n0 ≤ k_) (fun k_ h_ => by rw [hn0_]; exact h_.2.1)).lower HB.out.size); have FN := Aside0.mk (hb.size); rw [← hn0_] at F2 F3 F4 FN; clear hw_ hn0_; replace BK2 := zBB BK2 hb; replace BK3 := zBB BK3 hb; replace BK4 := zBB BK4 hb; replace HB := zLB HB.out hb; clear hb; (try clear hz2_); have hz2_ := zc4 BK2.out; (try clear hz3_); have hz3_ := zc3_ BK3.out; (try clear hz4_); have hz4_ := zc4 BK4.out;) | ((with_reducible refine gD 6 rfl ?_); refine bE 6 #[.int .i64 0, .slice none 0 0, .slice none 0 0, .slice none 0 0] 25 ?_; intro g6 hg w6_ hbox hb; have GE6 := Aside0.mk (zg HB.out hg : w.heap.size ≤ g6); have N2_6 := Aside0.mk (zN BK2.out hg : g2 ≠ g6); have N3_6 := Aside0.mk (zN BK3.out hg : g3 ≠ g6); have N4_6 := Aside0.mk (zN BK4.out hg : g4 ≠ g6); replace HWR := Aside0.mk (HWR.out.below hb); have FN6 := Aside0.mk (by rw [hg]; exact FN.out : n0 ≤ g6); clear FN; have BK6 := Aside0.mk hbox; replace BK2 := zBB BK2 hb; replace BK3 := zBB BK3 hb; replace BK4 := zBB BK4 hb; replace HB := zLB HB.out hb; clear hb; clear hbox hg; (try clear hz2_); have hz2_ := zc4 BK2.out; (try clear hz3_); have hz3_ := zc3_ BK3.out; (try clear hz4_); have hz4_ := zc4 BK4.out; (try clear hz6_); have hz6_ := zc4 BK6.out;) | ((with_reducible refine gate_store (t := 25) (p := 6) rfl ?_); refine store_event (t := 25) (p := 6) (v := ?vo615_) (w1 := ((((w6_.setCell ⟨g6, 0, none⟩ (.int .i64 y0)).setCell ⟨g6, 1, none⟩ (.slice B1 y1.length q1)).setCell ⟨g6, 2, none⟩ (.slice B2 y2.length q2)).setCell ⟨g6, 3, none⟩ (.slice B3 y3.length q3))) ?hg ?ho ?hn ?hr ?_; (case ho => rfl); (case hg => rfl); (case hn => rfl); (case hr => (have hs0_ := (blk_cell BK6.out 0).trans rfl; have hf0_ := blk_frozen BK6.out 0; have hs1_ := (blk_cell BK6.out 1).trans rfl; have hf1_ := blk_frozen BK6.out 1; have hs2_ := (blk_cell BK6.out 2).trans rfl; have hf2_ := blk_frozen BK6.out 2; have hs3_ := (blk_cell BK6.out 3).trans rfl; have hf3_ := blk_frozen BK6.out 3; (try clear hz2_); have hz2_ := zc4 BK2.out; (try clear hz3_); have hz3_ := zc3_ BK3.out; (try clear hz4_); have hz4_ := zc4 BK4.out; first | (go_simp; done) | (go_simp; rfl))); intro w8 hw_; have HK_ := set4_kept hw_; have BKn := Aside0.mk (set4_blk hw_ BK6.out rfl); have HBn := Aside0.mk (set4_below hw_ HB.out GE6.out); replace BK2 := Aside0.mk (blk_kept BK2.out HK_ (N2_6.out)); replace BK3 := Aside0.mk (blk_kept BK3.out HK_ (N3_6.out)); replace BK4 := Aside0.mk (blk_kept BK4.out HK_ (N4_6.out)); replace HWR := Aside0.mk (((HWR.out.types BK6.out (by decide) (by decide)).kept HK_ (fun _ h_ => h_.2)).mono (ok' := fun k_ => n0 ≤ k_) (fun _ h_ => h_.1)); clear hw_ BK6 HB; have BK6 := BKn; have HB := HBn; clear BKn HBn HK_; (try clear hz2_); have hz2_ := zc4 BK2.out; (try clear hz3_); have hz3_ := zc3_ BK3.out; (try clear hz4_); have hz4_ := zc4 BK4.out; (try clear hz6_); have hz6_ := zc4 BK6.out;) | ((with_reducible refine gC 30 rfl ?_); refine gL 10 Try.func30 #[.agg #[.int .i64 y0, .slice A1 l1.length c1, .slice A2 l2.length c2, .slice A3 l3.length c3]] ?_; (refine (impl_WheelOk.calls k y0 A1 c1 l1 A2 c2 l2 A3 c3 l3 true _ ?s1 ?t1 ?s2 ?t2 ?s3 ?t3 AO.out).mono ?_); (case s1 => exact Kd.C_below HR1.out HB.out); (case s2 => exact Kd.C_below HR2.out HB.out); (case s3 => exact Kd.C_below HR3.out HB.out); (case t1 => exact HC1.out); (case t2 => exact HC2.out); (case t3 => exact HC3.out); rintro e w10 ⟨rfl, hb⟩; refine ⟨_, rfl, ?_⟩; replace BK2 := zBB BK2 hb; replace BK3 := zBB BK3 hb; replace BK4 := zBB BK4 hb; replace BK6 := zBB BK6 hb; replace HWR := Aside0.mk (HWR.out.below hb); replace HB := zLB HB.out hb; clear hb; (try clear hz2_); have hz2_ := zc4 BK2.out; (try clear hz3_); have hz3_ := zc3_ BK3.out; (try clear hz4_); have hz4_ := zc4 BK4.out; (try clear hz6_); have hz6_ := zc4 BK6.out;) | (go_at_call 69; (refine (impl_within.calls x2 (wrap64 (y0 + 1)) 2147483647 true _ AW.out).mono ?_); rintro e w18 ⟨rfl, hd_⟩; have hb := hd_.below; clear hd_; replace BK2 := zBB BK2 hb; replace BK3 := zBB BK3 hb; replace BK4 := zBB BK4 hb; replace BK6 := zBB BK6 hb; replace HWR := Aside0.mk (HWR.out.below hb); replace HB := zLB HB.out hb; clear hb; (try clear hz2_); have hz2_ := zc4 BK2.out; (try clear hz3_); have hz3_ := zc3_ BK3.out; (try clear hz4_); have hz4_ := zc4 BK4.out; (try clear hz6_); have hz6_ := zc4 BK6.out;) | ((with_reducible refine gC 75 rfl ?_); refine gL 23 Try.func75 #[.pointer (some ⟨g6, 0, none⟩), .agg #[.int .i64 x0, .int .i64 x1, .int .i64 x2]] ?_; (refine (impl_lay.calls y0 x0 x1 x2 y1 y2 y3 g6 w.heap.size (fun k_ => n0 ≤ k_) w _ HB.out GE6.out ⟨_, _, _, BK6.out, HWR.out⟩ AL.out m1 m2 m3 AV.out).mono ?_); rintro e w23 ⟨rfl, hs_, hb, hk_⟩; refine ⟨_, rfl, ?_⟩; replace BK2 := Aside0.mk (blk_kept BK2.out hk_ (fun h_ => h_.elim (fun h_ => by have f_ := F2.out; omega) N2_6.out)); replace BK3 := Aside0.mk (blk_kept BK3.out hk_ (fun h_ => h_.elim (fun h_ => by have f_ := F3.out; omega) N3_6.out)); replace BK4 := Aside0.mk (blk_kept BK4.out hk_ (fun h_ => h_.elim (fun h_ => by have f_ := F4.out; omega) N4_6.out)); have q_ := blk_lt BK6.out; clear BK6 HB HWR; have HB := Aside0.mk hb; have HS := Aside0.mk (hs_.mono (ok' := fun k_ => n0 ≤ k_) (fun k_ h_ => h_.elim id (fun h_ => by have f_ := FN6.out; omega))); clear hb hk_ hs_ q_; obtain ⟨u1, u2, u3, hu_, hw_⟩ := HS.out; obtain ⟨D1, p1, D2, p2, D3, p3, rfl, rfl, rfl, ⟨t1_, t2_, t3_⟩, r1_, r2_, r3_⟩ := hw_.reads; have BK6 := Aside0.mk hu_; have HWR := Aside0.mk hw_; have HQ := Aside0.mk (And.intro t1_ (And.intro t2_ (And.intro t3_ (And.intro r1_ (And.intro r2_ r3_))))); clear hu_ hw_ t1_ t2_ t3_ r1_ r2_ r3_ HS; (try clear hz2_); have hz2_ := zc4 BK2.out; (try clear hz3_); have hz3_ := zc3_ BK3.out; (try clear hz4_); have hz4_ := zc4 BK4.out; (try clear hz6_); have hz6_ := zc4 BK6.out;) | ((with_reducible refine gC 30 rfl ?_); refine gL 25 Try.func30 #[.agg #[.int .i64 y0, .slice D1 m1.length p1, .slice D2 m2.length p2, .slice D3 m3.length p3]] ?_; (refine (impl_WheelOk.calls k y0 D1 p1 m1 D2 p2 m2 D3 p3 m3 false _ HQ.out.2.2.2.1 HQ.out.1 HQ.out.2.2.2.2.1 HQ.out.2.1 HQ.out.2.2.2.2.2 HQ.out.2.2.1 AP.out).mono ?_); rintro e w25 ⟨rfl, hb⟩; refine ⟨_, rfl, ?_⟩; replace HWR := Aside0.mk (HWR.out.below hb); clear HQ; replace BK2 := zBB BK2 hb; replace BK3 := zBB BK3 hb; replace BK4 := zBB BK4 hb; replace BK6 := zBB BK6 hb; replace HB := zLB HB.out hb; clear hb; (try clear hz2_); have hz2_ := zc4 BK2.out; (try clear hz3_); have hz3_ := zc3_ BK3.out; (try clear hz4_); have hz4_ := zc4 BK4.out; (try clear hz6_); have hz6_ := zc4 BK6.out;) | ((with_reducible refine gC 74 rfl ?_); refine gL 28 Try.func74 #[.agg #[.int .i64 y0, .slice A1 l1.length c1, .slice A2 l2.length c2, .slice A3 l3.length c3]] ?_; (refine (impl_copyWheel.callsW k y0 A1 c1 l1 A2 c2 l2 A3 c3 l3 y0 y1 y2 y3 _ ?s1 HC1.out ?s2 HC2.out ?s3 HC3.out AC.out).mono ?_); (case s1 => exact Kd.C_below HR1.out HB.out); (case s2 => exact Kd.C_below HR2.out HB.out); (case s3 => exact Kd.C_below HR3.out HB.out); rintro e w28_ ⟨v1, v2, v3, rfl, hw_, hb⟩; obtain ⟨E1, s1, E2, s2, E3, s3, rfl, rfl, rfl, _, _, _, _⟩ := hw_.reads; refine ⟨_, rfl, ?_⟩; have HWX := Aside0.mk (hw_.lower HB.out.size); clear hw_; replace BK2 := zBB BK2 hb; replace BK3 := zBB BK3 hb; replace BK4 := zBB BK4 hb; replace BK6 := zBB BK6 hb; replace HB := zLB HB.out hb; clear hb; (try clear hz2_); have hz2_ := zc4 BK2.out; (try clear hz3_); have hz3_ := zc3_ BK3.out; (try clear hz4_); have hz4_ := zc4 BK4.out; (try clear hz6_); have hz6_ := zc4 BK6.out;) | ((with_reducible refine gate_store (t := 25) (p := 4) rfl ?_); refine store_event (t := 25) (p := 4) (v := ?voF14_) (w1 := ((((w28_.setCell ⟨g4, 0, none⟩ (.int .i64 y0)).setCell ⟨g4, 1, none⟩ (.slice E1 y1.length s1)).setCell ⟨g4, 2, none⟩ (.slice E2 y2.length s2)).setCell ⟨g4, 3, none⟩ (.slice E3 y3.length s3))) ?hg ?ho ?hn ?hr ?_; (case ho => rfl); (case hg => rfl); (case hn => rfl); (case hr => (have hs0_ := (blk_cell BK4.out 0).trans rfl; have hf0_ := blk_frozen BK4.out 0; have hs1_ := (blk_cell BK4.out 1).trans rfl; have hf1_ := blk_frozen BK4.out 1; have hs2_ := (blk_cell BK4.out 2).trans rfl; have hf2_ := blk_frozen BK4.out 2; have hs3_ := (blk_cell BK4.out 3).trans rfl; have hf3_ := blk_frozen BK4.out 3; first | (go_simp; done) | (go_simp; rfl))); intro wF hw_; have HK_ := set4_kept hw_; have BKn := Aside0.mk (set4_blk hw_ BK4.out rfl); have HBn := Aside0.mk (set4_below hw_ HB.out GE4.out); have HF := Aside0.mk (((HWX.out.types BK4.out (by decide) (by decide)).kept HK_ (fun _ h_ => h_.2)).mono (ok' := fun _ => True) (fun _ _ => trivial)); clear hw_ BK4 HB; have BK4 := BKn; have HB := HBn; clear BKn HBn HK_))
            refine bodyPost_ret (results_ct rfl _ _ g4 25 #[.int .i64 y0, .slice E1 y1.length s1, .slice E2 y2.length s2, .slice E3 y3.length s3] (0, 0) _ rfl (by exact BK4.out) Try.underlying25 rfl (by kernel_rfl)) rfl ?_
            exact ⟨_, _, _, rfl, HF.out, HB.out⟩
          | true =>
            rw [if_pos rfl] at h
            simp only [Option.some.injEq, Prod.mk.injEq] at h
            obtain ⟨rfl, rfl, rfl, rfl, rfl⟩ := h
            go_enter Try.func33, Try.ntmps33
            go_wp2_with (first | ((with_reducible refine gD 2 rfl ?_); refine bE 2 #[.int .i64 y0, .slice A1 l1.length c1, .slice A2 l2.length c2, .slice A3 l3.length c3] 25 ?_; intro g2 hg w2_ hbox hb; have GE2 := Aside0.mk (zg HB.out hg : w.heap.size ≤ g2);  have BK2 := Aside0.mk hbox;  replace HB := zLB HB.out hb; clear hb; clear hbox hg; (try clear hz2_); have hz2_ := zc4 BK2.out;) | ((with_reducible refine gD 3 rfl ?_); refine bE 3 #[.int .i64 x0, .int .i64 x1, .int .i64 x2] 46 ?_; intro g3 hg w3_ hbox hb; have GE3 := Aside0.mk (zg HB.out hg : w.heap.size ≤ g3); have N2_3 := Aside0.mk (zN BK2.out hg : g2 ≠ g3); have BK3 := Aside0.mk hbox; replace BK2 := zBB BK2 hb; replace HB := zLB HB.out hb; clear hb; clear hbox hg; (try clear hz2_); have hz2_ := zc4 BK2.out; (try clear hz3_); have hz3_ := zc3_ BK3.out;) | ((with_reducible refine gD 4 rfl ?_); refine bE 4 #[.int .i64 0, .slice none 0 0, .slice none 0 0, .slice none 0 0] 25 ?_; intro g4 hg w4_ hbox hb; have GE4 := Aside0.mk (zg HB.out hg : w.heap.size ≤ g4); have N2_4 := Aside0.mk (zN BK2.out hg : g2 ≠ g4); have N3_4 := Aside0.mk (zN BK3.out hg : g3 ≠ g4); have BK4 := Aside0.mk hbox; replace BK2 := zBB BK2 hb; replace BK3 := zBB BK3 hb; replace HB := zLB HB.out hb; clear hb; clear hbox hg; (try clear hz2_); have hz2_ := zc4 BK2.out; (try clear hz3_); have hz3_ := zc3_ BK3.out; (try clear hz4_); have hz4_ := zc4 BK4.out;) | ((with_reducible refine gC 74 rfl ?_); refine gL 8 Try.func74 #[.agg #[.int .i64 y0, .slice A1 l1.length c1, .slice A2 l2.length c2, .slice A3 l3.length c3]] ?_; (refine (impl_copyWheel.callsW k y0 A1 c1 l1 A2 c2 l2 A3 c3 l3 y0 y1 y2 y3 _ ?s1 HC1.out ?s2 HC2.out ?s3 HC3.out AC.out).mono ?_); (case s1 => exact Kd.C_below HR1.out HB.out); (case s2 => exact Kd.C_below HR2.out HB.out); (case s3 => exact Kd.C_below HR3.out HB.out); rintro e w8_ ⟨v1, v2, v3, rfl, hw_, hb⟩; obtain ⟨B1, q1, B2, q2, B3, q3, rfl, rfl, rfl, _, _, _, _⟩ := hw_.reads; refine ⟨_, rfl, ?_⟩; have F2 := Aside0.mk (blk_lt BK2.out); have F3 := Aside0.mk (blk_lt BK3.out); have F4 := Aside0.mk (blk_lt BK4.out); obtain ⟨n0, hn0_⟩ : ∃ n0, n0 = _ := ⟨_, rfl⟩; have HWR := Aside0.mk ((hw_.bound.mono (ok' := fun k_ => n0 ≤ k_) (fun k_ h_ => by rw [hn0_]; exact h_.2.1)).lower HB.out.size); have FN := Aside0.mk (hb.size); rw [← hn0_] at F2 F3 F4 FN; clear hw_ hn0_; replace BK2 := zBB BK2 hb; replace BK3 := zBB BK3 hb; replace BK4 := zBB BK4 hb; replace HB := zLB HB.out hb; clear hb; (try clear hz2_); have hz2_ := zc4 BK2.out; (try clear hz3_); have hz3_ := zc3_ BK3.out; (try clear hz4_); have hz4_ := zc4 BK4.out;) | ((with_reducible refine gD 6 rfl ?_); refine bE 6 #[.int .i64 0, .slice none 0 0, .slice none 0 0, .slice none 0 0] 25 ?_; intro g6 hg w6_ hbox hb; have GE6 := Aside0.mk (zg HB.out hg : w.heap.size ≤ g6); have N2_6 := Aside0.mk (zN BK2.out hg : g2 ≠ g6); have N3_6 := Aside0.mk (zN BK3.out hg : g3 ≠ g6); have N4_6 := Aside0.mk (zN BK4.out hg : g4 ≠ g6); replace HWR := Aside0.mk (HWR.out.below hb); have FN6 := Aside0.mk (by rw [hg]; exact FN.out : n0 ≤ g6); clear FN; have BK6 := Aside0.mk hbox; replace BK2 := zBB BK2 hb; replace BK3 := zBB BK3 hb; replace BK4 := zBB BK4 hb; replace HB := zLB HB.out hb; clear hb; clear hbox hg; (try clear hz2_); have hz2_ := zc4 BK2.out; (try clear hz3_); have hz3_ := zc3_ BK3.out; (try clear hz4_); have hz4_ := zc4 BK4.out; (try clear hz6_); have hz6_ := zc4 BK6.out;) | ((with_reducible refine gate_store (t := 25) (p := 6) rfl ?_); refine store_event (t := 25) (p := 6) (v := ?vo617_) (w1 := ((((w6_.setCell ⟨g6, 0, none⟩ (.int .i64 y0)).setCell ⟨g6, 1, none⟩ (.slice B1 y1.length q1)).setCell ⟨g6, 2, none⟩ (.slice B2 y2.length q2)).setCell ⟨g6, 3, none⟩ (.slice B3 y3.length q3))) ?hg ?ho ?hn ?hr ?_; (case ho => rfl); (case hg => rfl); (case hn => rfl); (case hr => (have hs0_ := (blk_cell BK6.out 0).trans rfl; have hf0_ := blk_frozen BK6.out 0; have hs1_ := (blk_cell BK6.out 1).trans rfl; have hf1_ := blk_frozen BK6.out 1; have hs2_ := (blk_cell BK6.out 2).trans rfl; have hf2_ := blk_frozen BK6.out 2; have hs3_ := (blk_cell BK6.out 3).trans rfl; have hf3_ := blk_frozen BK6.out 3; (try clear hz2_); have hz2_ := zc4 BK2.out; (try clear hz3_); have hz3_ := zc3_ BK3.out; (try clear hz4_); have hz4_ := zc4 BK4.out; first | (go_simp; done) | (go_simp; rfl))); intro w8 hw_; have HK_ := set4_kept hw_; have BKn := Aside0.mk (set4_blk hw_ BK6.out rfl); have HBn := Aside0.mk (set4_below hw_ HB.out GE6.out); replace BK2 := Aside0.mk (blk_kept BK2.out HK_ (N2_6.out)); replace BK3 := Aside0.mk (blk_kept BK3.out HK_ (N3_6.out)); replace BK4 := Aside0.mk (blk_kept BK4.out HK_ (N4_6.out)); replace HWR := Aside0.mk (((HWR.out.types BK6.out (by decide) (by decide)).kept HK_ (fun _ h_ => h_.2)).mono (ok' := fun k_ => n0 ≤ k_) (fun _ h_ => h_.1)); clear hw_ BK6 HB; have BK6 := BKn; have HB := HBn; clear BKn HBn HK_; (try clear hz2_); have hz2_ := zc4 BK2.out; (try clear hz3_); have hz3_ := zc3_ BK3.out; (try clear hz4_); have hz4_ := zc4 BK4.out; (try clear hz6_); have hz6_ := zc4 BK6.out;) | ((with_reducible refine gC 30 rfl ?_); refine gL 10 Try.func30 #[.agg #[.int .i64 y0, .slice A1 l1.length c1, .slice A2 l2.length c2, .slice A3 l3.length c3]] ?_; (refine (impl_WheelOk.calls k y0 A1 c1 l1 A2 c2 l2 A3 c3 l3 true _ ?s1 ?t1 ?s2 ?t2 ?s3 ?t3 AO.out).mono ?_); (case s1 => exact Kd.C_below HR1.out HB.out); (case s2 => exact Kd.C_below HR2.out HB.out); (case s3 => exact Kd.C_below HR3.out HB.out); (case t1 => exact HC1.out); (case t2 => exact HC2.out); (case t3 => exact HC3.out); rintro e w10 ⟨rfl, hb⟩; refine ⟨_, rfl, ?_⟩; replace BK2 := zBB BK2 hb; replace BK3 := zBB BK3 hb; replace BK4 := zBB BK4 hb; replace BK6 := zBB BK6 hb; replace HWR := Aside0.mk (HWR.out.below hb); replace HB := zLB HB.out hb; clear hb; (try clear hz2_); have hz2_ := zc4 BK2.out; (try clear hz3_); have hz3_ := zc3_ BK3.out; (try clear hz4_); have hz4_ := zc4 BK4.out; (try clear hz6_); have hz6_ := zc4 BK6.out;) | (go_at_call 69; (refine (impl_within.calls x2 (wrap64 (y0 + 1)) 2147483647 true _ AW.out).mono ?_); rintro e w18 ⟨rfl, hd_⟩; have hb := hd_.below; clear hd_; replace BK2 := zBB BK2 hb; replace BK3 := zBB BK3 hb; replace BK4 := zBB BK4 hb; replace BK6 := zBB BK6 hb; replace HWR := Aside0.mk (HWR.out.below hb); replace HB := zLB HB.out hb; clear hb; (try clear hz2_); have hz2_ := zc4 BK2.out; (try clear hz3_); have hz3_ := zc3_ BK3.out; (try clear hz4_); have hz4_ := zc4 BK4.out; (try clear hz6_); have hz6_ := zc4 BK6.out;) | ((with_reducible refine gC 75 rfl ?_); refine gL 23 Try.func75 #[.pointer (some ⟨g6, 0, none⟩), .agg #[.int .i64 x0, .int .i64 x1, .int .i64 x2]] ?_; (refine (impl_lay.calls y0 x0 x1 x2 y1 y2 y3 g6 w.heap.size (fun k_ => n0 ≤ k_) w _ HB.out GE6.out ⟨_, _, _, BK6.out, HWR.out⟩ AL.out m1 m2 m3 AV.out).mono ?_); rintro e w23 ⟨rfl, hs_, hb, hk_⟩; refine ⟨_, rfl, ?_⟩; replace BK2 := Aside0.mk (blk_kept BK2.out hk_ (fun h_ => h_.elim (fun h_ => by have f_ := F2.out; omega) N2_6.out)); replace BK3 := Aside0.mk (blk_kept BK3.out hk_ (fun h_ => h_.elim (fun h_ => by have f_ := F3.out; omega) N3_6.out)); replace BK4 := Aside0.mk (blk_kept BK4.out hk_ (fun h_ => h_.elim (fun h_ => by have f_ := F4.out; omega) N4_6.out)); have q_ := blk_lt BK6.out; clear BK6 HB HWR; have HB := Aside0.mk hb; have HS := Aside0.mk (hs_.mono (ok' := fun k_ => n0 ≤ k_) (fun k_ h_ => h_.elim id (fun h_ => by have f_ := FN6.out; omega))); clear hb hk_ hs_ q_; obtain ⟨u1, u2, u3, hu_, hw_⟩ := HS.out; obtain ⟨D1, p1, D2, p2, D3, p3, rfl, rfl, rfl, ⟨t1_, t2_, t3_⟩, r1_, r2_, r3_⟩ := hw_.reads; have BK6 := Aside0.mk hu_; have HWR := Aside0.mk hw_; have HQ := Aside0.mk (And.intro t1_ (And.intro t2_ (And.intro t3_ (And.intro r1_ (And.intro r2_ r3_))))); clear hu_ hw_ t1_ t2_ t3_ r1_ r2_ r3_ HS; (try clear hz2_); have hz2_ := zc4 BK2.out; (try clear hz3_); have hz3_ := zc3_ BK3.out; (try clear hz4_); have hz4_ := zc4 BK4.out; (try clear hz6_); have hz6_ := zc4 BK6.out;) | ((with_reducible refine gC 30 rfl ?_); refine gL 25 Try.func30 #[.agg #[.int .i64 y0, .slice D1 m1.length p1, .slice D2 m2.length p2, .slice D3 m3.length p3]] ?_; (refine (impl_WheelOk.calls k y0 D1 p1 m1 D2 p2 m2 D3 p3 m3 true _ HQ.out.2.2.2.1 HQ.out.1 HQ.out.2.2.2.2.1 HQ.out.2.1 HQ.out.2.2.2.2.2 HQ.out.2.2.1 AP.out).mono ?_); rintro e w25 ⟨rfl, hb⟩; refine ⟨_, rfl, ?_⟩; replace HWR := Aside0.mk (HWR.out.below hb); clear HQ; replace BK2 := zBB BK2 hb; replace BK3 := zBB BK3 hb; replace BK4 := zBB BK4 hb; replace BK6 := zBB BK6 hb; replace HB := zLB HB.out hb; clear hb; (try clear hz2_); have hz2_ := zc4 BK2.out; (try clear hz3_); have hz3_ := zc3_ BK3.out; (try clear hz4_); have hz4_ := zc4 BK4.out; (try clear hz6_); have hz6_ := zc4 BK6.out;) | ((with_reducible refine gate_store (t := 25) (p := 4) rfl ?_); refine store_event (t := 25) (p := 4) (v := ?voF16_) (w1 := ((((w25.setCell ⟨g4, 0, none⟩ (.int .i64 y0)).setCell ⟨g4, 1, none⟩ (.slice D1 m1.length p1)).setCell ⟨g4, 2, none⟩ (.slice D2 m2.length p2)).setCell ⟨g4, 3, none⟩ (.slice D3 m3.length p3))) ?hg ?ho ?hn ?hr ?_; (case ho => rfl); (case hg => rfl); (case hn => rfl); (case hr => (have hs0_ := (blk_cell BK4.out 0).trans rfl; have hf0_ := blk_frozen BK4.out 0; have hs1_ := (blk_cell BK4.out 1).trans rfl; have hf1_ := blk_frozen BK4.out 1; have hs2_ := (blk_cell BK4.out 2).trans rfl; have hf2_ := blk_frozen BK4.out 2; have hs3_ := (blk_cell BK4.out 3).trans rfl; have hf3_ := blk_frozen BK4.out 3; first | (go_simp; done) | (go_simp; rfl))); intro wF hw_; have HK_ := set4_kept hw_; have BKn := Aside0.mk (set4_blk hw_ BK4.out rfl); have HBn := Aside0.mk (set4_below hw_ HB.out GE4.out); have HF := Aside0.mk (((HWR.out.types BK4.out (by decide) (by decide)).kept HK_ (fun _ h_ => h_.2)).mono (ok' := fun _ => True) (fun _ _ => trivial)); clear hw_ BK4 HB; have BK4 := BKn; have HB := HBn; clear BKn HBn HK_))
            refine bodyPost_ret (results_ct rfl _ _ g4 25 #[.int .i64 y0, .slice D1 m1.length p1, .slice D2 m2.length p2, .slice D3 m3.length p3] (0, 0) _ rfl (by exact BK4.out) Try.underlying25 rfl (by kernel_rfl)) rfl ?_
            exact ⟨_, _, _, rfl, HF.out, HB.out⟩
        · rw [if_neg hl] at h
          exact absurd h (by simp)
  · rw [if_neg ey] at h
    exact absurd h (by simp)
theorem impl_Put.callsV {w : World} {b1 : Nat} {o1 : Nat → Prop} {v1 v2 v3 : Value} {l1 l2 : List (List S46)} {l3 : List S46} (k : Nat) (a x0 x1 x2 r1 : Int) (r2 r3 : List (List S46)) (r4 : List S46) (r5 : Bool) (h1 : WR w b1 o1 v1 v2 v3 l1 l2 l3) (h : impl_Put.f k a l1 l2 l3 x0 x1 x2 = some (r1, r2, r3, r4, r5)) :
    Calls Try.prog 33 #[.agg #[.int .i64 a, v1, v2, v3], .agg #[.int .i64 x0, .int .i64 x1, .int .i64 x2]] w fun e w' => ∃ v1_ v2_ v3_ : Value, e = .returned (.tuple #[.agg #[.int .i64 r1, v1_, v2_, v3_], .bool r5]) ∧ WR w' w.heap.size (fun _ => True) v1_ v2_ v3_ r2 r3 r4 ∧ Below w.heap.size w w' := by
  obtain ⟨A1, c1, A2, c2, A3, c3, rfl, rfl, rfl, ⟨x1_, x2_, x3_⟩, y1, y2, y3⟩ := h1.reads
  exact impl_Put.callsW k a A1 c1 l1 A2 c2 l2 A3 c3 l3 x0 x1 x2 r1 r2 r3 r4 r5 w y1 x1_ y2 x2_ y3 x3_ h
theorem impl_Put.calls (k : Nat) (a : Int) (A1 : Option Addr) (c1 : Nat) (l1 : List (List S46)) (A2 : Option Addr) (c2 : Nat) (l2 : List (List S46)) (A3 : Option Addr) (c3 : Nat) (l3 : List S46) (x0 x1 x2 : Int) (r1 : Int) (r2 r3 : List (List S46)) (r4 : List S46) (r5 : Bool) (w : World) (hr1 : Kd.C (Kd.slice 46 k46) w A1 l1.length l1) (hc1 : l1.length ≤ c1) (hr2 : Kd.C (Kd.slice 46 k46) w A2 l2.length l2) (hc2 : l2.length ≤ c2) (hr3 : Kd.C k46 w A3 l3.length l3) (hc3 : l3.length ≤ c3) (h : impl_Put.f k a l1 l2 l3 x0 x1 x2 = some (r1, r2, r3, r4, r5)) :
    Calls Try.prog 33 #[.agg #[.int .i64 a, .slice A1 l1.length c1, .slice A2 l2.length c2, .slice A3 l3.length c3], .agg #[.int .i64 x0, .int .i64 x1, .int .i64 x2]] w fun e w' => ∃ v1_ v2_ v3_ : Value, e = .returned (.tuple #[.agg #[.int .i64 r1, v1_, v2_, v3_], .bool r5]) ∧ Kd.S (Kd.slice 46 k46) 23 w' w.heap.size (fun k_ => some k_ ≠ (v2_ : Value).ownBlock ∧ some k_ ≠ (v3_ : Value).ownBlock) v1_ r2 ∧ Kd.S (Kd.slice 46 k46) 23 w' w.heap.size (fun k_ => some k_ ≠ (v1_ : Value).ownBlock ∧ some k_ ≠ (v3_ : Value).ownBlock) v2_ r3 ∧ Kd.R k46 46 w' w.heap.size (fun _ => True) v3_ r4 ∧ Below w.heap.size w w' := by
  refine (impl_Put.callsW k a A1 c1 l1 A2 c2 l2 A3 c3 l3 x0 x1 x2 r1 r2 r3 r4 r5 w hr1 hc1 hr2 hc2 hr3 hc3 h).mono ?_
  rintro e w' ⟨v1, v2, v3, rfl, hw, hb⟩
  obtain ⟨s1, s2, s3⟩ := hw.split
  exact ⟨v1, v2, v3, rfl, Kd.S_mono s1 (fun _ h => h.2), Kd.S_mono s2 (fun _ h => h.2), Kd.R_mono s3 (fun _ _ => trivial), hb⟩

end Go.Proofs.Ytggenhomnbnodaa.QFnExactPut
