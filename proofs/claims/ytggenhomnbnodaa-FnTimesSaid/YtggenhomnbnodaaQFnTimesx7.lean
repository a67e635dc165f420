/- What the Go functions that the law FnTimes reaches answer: each as a Lean function, with its walk. Written by a program of this session. Conditions: those that each theorem names. -/
import Derived.Test.YtggenhomnbnodaaQFnTimesx0
import Derived.Test.YtggenhomnbnodaaQFnTimesx3
import Derived.Test.YtggenhomnbnodaaQFnTimesx6
namespace Go.Proofs.Ytggenhomnbnodaa.QFnTimes
open Go.RowKit Go.Proofs.YtggenhomnbnodaaW.PrintWords Go.Proofs.YtggenhomnbnodaaW.PrintLast Go.Proofs.YtggenhomnbnodaaW.PrintMore
attribute [local go_sem] max2_int min2_int max_two min_two max_three min_three max_four min_four   -- for this text's walks alone
set_option linter.unusedVariables false
set_option linter.unusedSimpArgs false

def layV (a : Int) (t : S46) (l1 l2 : List (List S46)) (l3 : List S46) : List (List S46) × List (List S46) × List S46 :=
 if t.f2 / 8 - a / 8 = 0 then (l1.set (t.f2 % 8).toNat (l1.getD (t.f2 % 8).toNat [] ++ [t]), l2, l3)
 else if t.f2 / 8 - a / 8 < 8 then (l1, l2.set (t.f2 / 8 % 8).toNat (l2.getD (t.f2 / 8 % 8).toNat [] ++ [t]), l3) else (l1, l2, l3 ++ [t])
def layOk (a : Int) (t : S46) (l1 l2 : List (List S46)) (l3 : List S46) : Bool :=
 decide (0 ≤ a) && decide (a ≤ 2147483647) && decide (0 ≤ t.f2) && decide (t.f2 ≤ 2147483647) && decide (l1.length = 8) && decide (l2.length = 8) && l1.all (fun x => decide (x.length ≤ 1000000)) && l2.all (fun x => decide (x.length ≤ 1000000)) && decide (l3.length ≤ 1000000)
theorem getD_len (l : List (List S46)) (h : ∀ x ∈ l, x.length ≤ 1000000) (i : Nat) : (l.getD i []).length ≤ 1000000 := by
 rw [List.getD_eq_getElem?_getD]
 cases e : l[i]? with
 | none => simp
 | some x => exact h x (List.mem_of_getElem? e)
theorem layOk_spec {a : Int} {t : S46} {l1 l2 : List (List S46)} {l3 : List S46} (h : layOk a t l1 l2 l3 = true) :
  0 ≤ a ∧ a ≤ 2147483647 ∧ 0 ≤ t.f2 ∧ t.f2 ≤ 2147483647 ∧ l1.length = 8 ∧ l2.length = 8 ∧ (∀ x ∈ l1, x.length ≤ 1000000) ∧ (∀ x ∈ l2, x.length ≤ 1000000) ∧ l3.length ≤ 1000000 := by
 simp only [layOk, Bool.and_eq_true, decide_eq_true_eq, List.all_eq_true] at h
 obtain ⟨⟨⟨⟨⟨⟨⟨⟨h1, h2⟩, h3⟩, h4⟩, h5⟩, h6⟩, h7⟩, h8⟩, h9⟩ := h
 exact ⟨h1, h2, h3, h4, h5, h6, h7, h8, h9⟩
def spec_l8Put.T1 : Bool × List (List Nat × List Nat) := (true, [([], []), ([0], [0]), ([1], [1]), ([2], [2]), ([], []), ([4], [4]), ([3, 5], [3, 5]), ([6], [6]), ([7], [7]), ([7], [7]), ([8, 6, 0, 1, 2, 3, 4, 5, 6, 7, 8], [8]), ([9, 10, 0, 1, 2, 3, 4, 5, 6, 7, 8, 9, 10], [9])])
def spec_l8Put.B1 : List Nat := [0, 1, 3, 7, 0, 16, 63, 127, 255, 255, 511, 2047]
theorem spec_l8Put.tab1 : rtab .any (opsOf Try.f73 1) = spec_l8Put.T1 := by kernel_rfl
theorem spec_l8Put.bits1 : waitsOk spec_l8Put.T1.2 spec_l8Put.B1 = true := by kernel_rfl
def spec_l8Put.T3 : Bool × List (List Nat × List Nat) := (true, [([], []), ([], []), ([1], [1]), ([2], [2]), ([3], [3]), ([], []), ([5], [5]), ([4, 6], [4, 6]), ([0, 0, 1, 2, 3, 4, 5, 6, 7], [0]), ([8, 0, 1, 2, 3, 4, 5, 6, 7], [8]), ([9, 7, 7, 0, 1, 2, 3, 4, 5, 6, 7], [7, 9])])
def spec_l8Put.B3 : List Nat := [0, 0, 2, 6, 14, 0, 32, 126, 255, 511, 1023]
theorem spec_l8Put.tab3 : rtab .any (opsOf Try.f73 3) = spec_l8Put.T3 := by kernel_rfl
theorem spec_l8Put.bits3 : waitsOk spec_l8Put.T3.2 spec_l8Put.B3 = true := by kernel_rfl
def spec_l8Put.T5 : Bool × List (List Nat × List Nat) := (true, [([], []), ([0], [0]), ([1], [1]), ([2], [2]), ([], []), ([], []), ([5], [5]), ([6], [6]), ([7], [7]), ([], []), ([8, 9], [8, 9]), ([10], [10]), ([], []), ([12], [12]), ([11, 13], [11, 13]), ([3, 4, 0, 1, 2, 3, 4, 5, 6, 7, 8, 9, 10, 11, 12, 13, 14], [3, 4]), ([15, 14, 14, 0, 1, 2, 3, 4, 5, 6, 7, 8, 9, 10, 11, 12, 13, 14], [14, 15])])
def spec_l8Put.B5 : List Nat := [0, 1, 3, 7, 0, 0, 32, 96, 224, 0, 992, 2016, 0, 4096, 16352, 32767, 65535]
theorem spec_l8Put.tab5 : rtab .any (opsOf Try.f73 5) = spec_l8Put.T5 := by kernel_rfl
theorem spec_l8Put.bits5 : waitsOk spec_l8Put.T5.2 spec_l8Put.B5 = true := by kernel_rfl
def spec_l8Put.T7 : Bool × List (List Nat × List Nat) := (true, [([], []), ([0], [0]), ([1], [1]), ([2], [2]), ([], []), ([], []), ([5], [5]), ([6], [6]), ([7], [7]), ([], []), ([8, 9], [8, 9]), ([10], [10]), ([], []), ([12], [12]), ([11, 13], [11, 13]), ([3, 4, 0, 1, 2, 3, 4, 5, 6, 7, 8, 9, 10, 11, 12, 13, 14], [3, 4]), ([15, 14, 14, 0, 1, 2, 3, 4, 5, 6, 7, 8, 9, 10, 11, 12, 13, 14], [14, 15])])
def spec_l8Put.B7 : List Nat := [0, 1, 3, 7, 0, 0, 32, 96, 224, 0, 992, 2016, 0, 4096, 16352, 32767, 65535]
theorem spec_l8Put.tab7 : rtab .any (opsOf Try.f73 7) = spec_l8Put.T7 := by kernel_rfl
theorem spec_l8Put.bits7 : waitsOk spec_l8Put.T7.2 spec_l8Put.B7 = true := by kernel_rfl
set_option maxHeartbeats 8000000 in
set_option maxRecDepth 100000 in
theorem spec_l8Put.near (a x0 x1 x2 : Int) (l1 l2 m : List (List S46)) (l3 : List S46) (g base : Nat) (ok : Nat → Prop) (w0 w : World) (hB : Below base w0 w) (hbg : base ≤ g) (H : WS a g base w ok l1 l2 l3)
  (ha : 0 ≤ a) (ha2 : a ≤ 2147483647) (hx : 0 ≤ x2) (hx2 : x2 ≤ 2147483647) (hl : l1.length = 8) (hlen : (l1.getD (x2 % 8).toNat []).length ≤ 1000000) (hc : x2 / 8 - a / 8 = 0) (hm : m = (l1.set (x2 % 8).toNat (l1.getD (x2 % 8).toNat [] ++ [⟨x0, x1, x2⟩]))) :
  Calls Try.prog 73 #[.pointer (some ⟨g, 0, none⟩), .agg #[.int .i64 x0, .int .i64 x1, .int .i64 x2]] w fun e w' => e = .returned (.tuple #[]) ∧ WS a g base w' (fun k => ok k ∨ w.heap.size ≤ k) m l2 l3 ∧ Below base w0 w' ∧ Kept w w' (fun k => ok k ∨ k = g) := by
 obtain ⟨v1, v2, v3, hbk, hwr⟩ := H
 obtain ⟨P1, P2, P3, ⟨o1, o2, o3⟩, ⟨d1, d2, d3⟩, s1, s2, s3⟩ := hwr.types hbk (by decide) (by decide)
 have hbk0 := hbk
 obtain ⟨g1, cap, rfl, hg1, hg1l, cells1, hcells1⟩ := Kd.S_form s1 (by omega)
 have hp : Kd.S (Kd.slice 46 k46) 23 w base P1 (.slice (some ⟨g1, 0, none⟩) l1.length cap) l1 := s1
 obtain ⟨i, hi⟩ : ∃ i : Int, i = x2 % 8 := ⟨_, rfl⟩
 rw [← hi] at hlen
 have h0 : 0 ≤ i := by omega
 have h8 : i < (l1.length : Int) := by omega
 obtain ⟨oki, c, hcl, hM, hcc, hoki, HH⟩ := Kd.S_lend hp [] i h0 h8
 obtain ⟨vs, hv, hR⟩ := hM
 subst hv
 have hxs : w.cell? ⟨g1, i.toNat, none⟩ = some vs := by
  have := hcc 0 vs rfl
  have e : i.toNat * (Kd.slice 46 k46).sz + 0 = i.toNat := Nat.mul_one _
  rwa [e] at this
 have hfz : w.frozen? ⟨g1, i.toNat, none⟩ = false := by simp [World.frozen?, hcells1]
 obtain ⟨As, cs, rfl⟩ := Kd.R_slice hR
 have gne : g1 ≠ g := fun e => (o1 _ ((Kd.S_R hp).1 g1 rfl)).2 e
 have hRok : ∀ k, oki k → P1 k ∧ k ≠ g1 := hoki
 generalize hxi : l1.getD i.toNat [] = xi at *
 have BK := aM hbk0
 have HX := aM hxs
 have HC1 := aM hcells1
 have HRR := aM hR
 have HHH := aM HH
 have HO := aM (And.intro o1 (And.intro o2 o3))
 have HD := aM (And.intro d1 (And.intro d2 d3))
 have HS1 := aM s1
 have HS2 := aM s2
 have HS3 := aM s3
 have HOK := aM hRok
 have HB := aM hB
 have GN := aM gne
 have HLEN := aM hlen
 have HBG := aM hbg
 have HG1 := aM hg1
 have HHI := aM hi
 have HXI := aM hxi
 have p1 : (0 ≤ i) = True := eq_true h0
 have p2 : (i < ((l1.length : Nat) : Int)) = True := eq_true h8
 have hpl : spec_l8Place.f a x2 = some (1, i) := by
  have e1 : wrap64 (Int.tdiv x2 8) = x2 / 8 := by rw [Int.tdiv_eq_ediv_of_nonneg hx]; unfold wrap64; omega
  have e2 : wrap64 (Int.tdiv a 8) = a / 8 := by rw [Int.tdiv_eq_ediv_of_nonneg ha]; unfold wrap64; omega
  have e3 : wrap64 (x2 / 8 - a / 8) = x2 / 8 - a / 8 := by unfold wrap64; omega
  unfold spec_l8Place.f
  rw [e1, e2, if_pos (by omega), hi, Int.tmod_eq_emod_of_nonneg hx]
 have HPL := aM hpl
 clear hpl
 have HM := aM hm
 clear hm hbk hbk0 hxs hcells1 hfz hR HH o1 o2 o3 d1 d2 d3 s1 s2 s3 hRok hoki hB gne hlen hbg hg1 hg1l hp hcl hcc hwr hi hxi h0 h8 ha ha2 hx hx2 hl hc
 have hu46 := Try.underlying46
 have hu25 := Try.underlying25
 go_enter Try.func73, Try.ntmps73
 go_wp2_with (first | ((with_reducible refine gD 3 rfl ?_); refine bE 3 #[.int .i64 x0, .int .i64 x1, .int .i64 x2] 46 ?_; intro gt hg w2 hbox hb; have BT := aM hbox; have GT := aM hg; have HB1 := aM hb; clear hbox hg hb))
 have BK2 := aM (blk_drew (blk_below BK.out HB1.out))
 have BT2 := zBD BT
 have HB2 := zLD HB1
 clear BT HB1
 refine start_ (n := 12) (S := fun w' => w'.cell? ⟨gt, 2, none⟩ = some (.int .i64 x2) ∧ w'.cell? ⟨g, 0, none⟩ = some (.int .i64 a)) (ds := []) (fB 12 0) (by kernel_rfl) rfl rfl ⟨(blk_cell BT2.out 2).trans rfl, (blk_cell BK2.out 0).trans rfl⟩ (fun hHeld => ?_); refine with_tabW spec_l8Put.tab1 spec_l8Put.bits1 (fun HT_ HW_ => ?_)
 generalize w2.drew = w3_ at BK2 BT2 HB2 hHeld ⊢
 refine pY 0 7 (fB 12 1) HT_.out ?_
 refine pY 1 8 (fB 12 3) HT_.out ?_
 refine pY 2 9 (fB 12 7) HT_.out ?_
 refine pY 4 11 (fB 12 23) HT_.out ?_
 refine tY 3 10 (fB 12 31) HT_.out HW_.out hHeld ?_
 refine tY 5 12 (fB 12 63) HT_.out HW_.out hHeld ?_
 refine oN 6 13 (fB 12 127) HT_.out fun K hK => ?_
 refine gS Try.func88 #[.int .i64 a, .int .i64 x2] ?_
 refine (spec_l8Place.calls a x2 1 i _ HPL.out).mono ?_
 rintro e w3 ⟨rfl, hd⟩
 refine ⟨_, rfl, ?_⟩
 have hb3 := hd.below
 clear hd
 replace BK2 := zBB BK2 hb3
 replace BT2 := zBB BT2 hb3
 replace HB2 := zLB HB2.out hb3
 clear hb3
 refine hK.out _ _ ⟨(blk_cell BT2.out 2).trans rfl, (blk_cell BK2.out 0).trans rfl⟩ fun hHeld => ?_; clear hK K
 refine nZ 13 ?_
 refine pY 7 6 (fB 12 255) HT_.out ?_
 refine pY 8 14 (fB 12 511) HT_.out ?_
 refine pY 9 15 (fB 12 1023) HT_.out ?_
 refine pY 10 4 (fB 12 2047) HT_.out ?_
 refine pY 11 5 (fB 12 4095) HT_.out ?_
 refine done_ (done_of HT_.out (by kernel_rfl)) ?_
 have hcz := (blk_cell BT2.out 2).trans rfl
 try go_wp2
 obtain ⟨yb, hyb⟩ : ∃ yb : List S46, yb = [⟨x0, x1, x2⟩] := ⟨_, rfl⟩
 have NY := aM hyb
 clear hyb
 have BK3 := zBD BK2
 have BT3 := zBD BT2
 have HB3 := zLD HB2
 clear BK2 BT2 HB2
 refine start_ (n := 17) (S := fun w' => w'.cell? ⟨g, 1, none⟩ = some (.slice (some ⟨g1, 0, none⟩) l1.length cap) ∧ w'.cell? ⟨gt, 0, none⟩ = some (.int .i64 x0) ∧ w'.cell? ⟨gt, 1, none⟩ = some (.int .i64 x1) ∧ w'.cell? ⟨gt, 2, none⟩ = some (.int .i64 x2) ∧ w'.cell? ⟨g1, i.toNat, none⟩ = some (.slice As xi.length cs)) (ds := [16]) (fB 17 0) (by kernel_rfl) rfl rfl ⟨(blk_cell BK3.out 1).trans rfl, (blk_cell BT3.out 0).trans rfl, (blk_cell BT3.out 1).trans rfl, (blk_cell BT3.out 2).trans rfl, (HB3.out.cell (World.block_lt_of_cell? w _ HX.out)).trans HX.out⟩ (fun hHeld => ?_); refine with_tabW spec_l8Put.tab5 spec_l8Put.bits5 (fun HT_ HW_ => ?_)
 generalize w3.drew = w4 at BK3 BT3 HB3 hHeld ⊢
 refine pY 0 29 (fB 17 1) HT_.out ?_
 refine pY 1 30 (fB 17 3) HT_.out ?_
 refine pY 2 31 (fB 17 7) HT_.out ?_
 refine pY 4 33 (fB 17 23) HT_.out ?_
 refine pY 5 34 (fB 17 55) HT_.out ?_
 refine pY 6 35 (fB 17 119) HT_.out ?_
 refine pY 7 36 (fB 17 247) HT_.out ?_
 refine pY 9 38 (fB 17 759) HT_.out ?_
 refine tY 3 32 (fB 17 767) HT_.out HW_.out hHeld ?_
 refine tY 8 37 (fB 17 1023) HT_.out HW_.out hHeld ?_
 refine pY 10 39 (fB 17 2047) HT_.out ?_
 refine tY 11 40 (fB 17 4095) HT_.out HW_.out hHeld ?_
 refine tY 12 41 (fB 17 8191) HT_.out HW_.out hHeld ?_
 refine oN 13 42 (fB 17 16383) HT_.out fun K hK => ?_
 refine Kd.R_lit_step k46 _ 46 ?hg (N := 42) ?hd (xs := ([⟨x0, x1, x2⟩] : List S46)) (inner := [.int .i64 x0, .int .i64 x1, .int .i64 x2]) (ok := fun _ => True) (okp := fun _ => True) ?hr ?hp (fun _ hk => hk) trivial (Below.refl _ _) (Nat.le_refl _) (by simp) ?_; (case hd => rfl); (case hg => rfl); (case hr => first | (go_simp; done) | (go_simp; rfl)); (case hp => exact Reps.c3 (k46_mkM _ _ _ (⟨x0, x1, x2⟩ : S46)) (Reps.none _ _))
 intro vb w5 hrow hb5 hg_ hn_
 clear hg_ hn_
 rw [← NY.out] at hrow
 obtain ⟨Ab, cb, rfl⟩ := Kd.R_slice hrow
 have HRB := aM (Kd.R_reads' hrow)
 have BK4 := zBB BK3 hb5
 have BT4 := zBB BT3 hb5
 have HB4 := zLB HB3.out hb5
 clear hrow hb5 BK3 BT3 HB3
 refine hK.out _ _ ⟨(blk_cell BK4.out 1).trans rfl, (blk_cell BT4.out 0).trans rfl, (blk_cell BT4.out 1).trans rfl, (blk_cell BT4.out 2).trans rfl, (HB4.out.cell (World.block_lt_of_cell? w _ HX.out)).trans HX.out⟩ fun hHeld => ?_; clear hK K
 refine nZ 42 ?_
 refine oN 14 43 (fB 17 32767) HT_.out fun K hK => ?_
 have HBW := aM (below_then HB.out (Nat.le_trans HBG.out (Nat.le_of_lt (blk_lt BK.out))) HB4.out)
 have hbs : base ≤ w5.heap.size := Nat.le_trans (Nat.le_trans HBG.out (Nat.le_of_lt (blk_lt BK.out))) HB4.out.size
 refine Kd.R_append_rows_step k46 (w0 := w0) base (by rfl) (.tmp 40) (.tmp 42) 23 46 (.agg #[(.int .i64 0), (.int .i64 0), (.int .i64 0)]) 24 rfl Try.underlying23 info46 rfl (by decide) (by omega) _ xi yb _ _ _ (fun k => oki k ∨ (P1 k ∨ w.heap.size ≤ k) ∧ w5.heap.size ≤ k) (fun _ => False) rfl rfl ?aO ?aR (fun _ _ h => h) (fun _ h => h.elim) ?aF ?aB ?aS ?aL ?_
 (case aO => exact Kd.R_mono (Kd.R_below HRR.out HB4.out) (fun k h => .inl h))
 (case aR => exact HRB.out.2.2)
 (case aF => exact fun k hk => .inr ⟨.inr (Nat.le_trans HB4.out.size hk), hk⟩)
 (case aB => exact HBW.out)
 (case aS => exact hbs)
 (case aL => (have h1_ := HLEN.out; have h2_ : yb.length = 1 := (by rw [NY.out]; rfl); omega))
 intro vn w6 ho hb6 hg6 hat6
 clear hat6
 obtain ⟨yn, hyn⟩ : ∃ yn, yn = xi ++ yb := ⟨_, rfl⟩
 rw [← hyn] at ho
 have NYN := aM hyn
 clear hyn
 have hrk : ∀ k, (Value.slice As xi.length cs).ownBlock = some k → oki k := fun k hk => HRR.out.1 k hk
 have hoP : ∀ k, oki k → P1 k := fun k hk => (HOK.out k hk).1
 have HK6 := aM (Kept.of_grown hg6 (Kept.of_below HB4.out (fun k => oki k)) (fun k hk => .inl (hrk k hk)))
 have BK5 := aM (blk_grown BK4.out hg6 (fun e => (HO.out.1 g (hoP g (hrk g e.symm))).2 rfl))
 have BT5 := aM (blk_grown BT4.out hg6 (fun e => by have h_ := Kd.R_lt HRR.out gt e.symm; rw [GT.out] at h_; exact Nat.lt_irrefl _ h_))
 have HX5 := aM (cell_grown hg6 ((HB4.out.cell (World.block_lt_of_cell? w _ HX.out)).trans HX.out) (fun e => (HOK.out g1 (hrk g1 e.symm)).2 rfl))
 have HC5 := aM (blk_grown (blk_below HC1.out HB4.out) hg6 (fun e => (HOK.out g1 (hrk g1 e.symm)).2 rfl))
 have HH5 := aM (Kd.H_grown (Kd.H_widen (Kd.H_below (Kd.H_mono HHH.out (ok' := fun k => P1 k ∨ w.heap.size ≤ k) (fun k h => .inl h)) HB4.out)) hg6 (fun k hk => .inl (hrk k hk)))
 obtain ⟨An, cn, rfl⟩ := Kd.R_slice ho
 have HRN := aM ho
 have HB6 := aM hb6
 have HW5 := aM HB4.out.size
 have HG5 := aM (Nat.lt_of_lt_of_le (blk_lt HC1.out) HB4.out.size)
 clear ho hb6 hg6 hrk hoP hbs HBW HB4 BK4 BT4
 refine hK.out _ _ ⟨(blk_cell BK5.out 1).trans rfl, (blk_cell BT5.out 0).trans rfl, (blk_cell BT5.out 1).trans rfl, (blk_cell BT5.out 2).trans rfl, HX5.out⟩ fun hHeld => ?_; clear hK K
 refine nZ 43 ?_
 refine pY 15 44 (fB 17 65535) HT_.out ?_
 refine last_ (i := 16) (N := none) (fB 17 131071) rfl rfl (one_of HT_.out (by kernel_rfl)) (by decide) (fun K hK => ?_)
 have hxs6 := HX5.out
 have hfs6 : w6.frozen? ⟨g1, i.toNat, none⟩ = false := blk_frozen HC5.out _
 refine skip_ (w1 := ?_) (by rfl) rfl ?_ ?_
 rotate_left
 ·go_simp
  rfl
 refine hK.out _ _ ?_
 clear hK K
 refine done_ (done_of HT_.out (by kernel_rfl)) ?_
 try go_wp2
 go_end0
 have h0 : 0 ≤ i := of_eq_true p1
 have h8 : i < ((l1.length : Nat) : Int) := of_eq_true p2
 obtain ⟨hS, hG⟩ := slot_put HH5.out h0 h8 HRN.out (fun k hk => hk) (fun k hk => hk.elim (fun h => (HOK.out k h).2) (fun h e => by have h1_ := HG5.out; have h2_ := h.2; omega))
 have HKF := Kept.of_grown hG (HK6.out.mono (S' := P1) (fun k hk => (HOK.out k hk).1)) (fun k hk => .inl (by injection hk with hk; subst hk; exact (Kd.S_R HS1.out).1 _ rfl))
 rw [HM.out, ← HHI.out, HXI.out, ← NY.out, ← NYN.out]
 refine ⟨rfl, ws_near (blk_far BK5.out (fun e => GN.out e.symm) _) HO.out HD.out hS HS2.out HS3.out HKF, ?_, HKF.mono (fun k hk => .inl (HO.out.1 k hk).1)⟩
 exact HB6.out.grown hG (Nat.le_trans (Nat.le_trans HBG.out (Nat.le_of_lt (blk_lt BK.out))) HK6.out.1) (fun k hk => by injection hk with hk; subst hk; exact HG1.out)
set_option maxHeartbeats 8000000 in
set_option maxRecDepth 100000 in
theorem spec_l8Put.far (a x0 x1 x2 : Int) (l1 l2 m : List (List S46)) (l3 : List S46) (g base : Nat) (ok : Nat → Prop) (w0 w : World) (hB : Below base w0 w) (hbg : base ≤ g) (H : WS a g base w ok l1 l2 l3)
  (ha : 0 ≤ a) (ha2 : a ≤ 2147483647) (hx : 0 ≤ x2) (hx2 : x2 ≤ 2147483647) (hl : l2.length = 8) (hlen : (l2.getD (x2 / 8 % 8).toNat []).length ≤ 1000000) (hc : x2 / 8 - a / 8 ≠ 0) (hc2 : x2 / 8 - a / 8 < 8) (hm : m = (l2.set (x2 / 8 % 8).toNat (l2.getD (x2 / 8 % 8).toNat [] ++ [⟨x0, x1, x2⟩]))) :
  Calls Try.prog 73 #[.pointer (some ⟨g, 0, none⟩), .agg #[.int .i64 x0, .int .i64 x1, .int .i64 x2]] w fun e w' => e = .returned (.tuple #[]) ∧ WS a g base w' (fun k => ok k ∨ w.heap.size ≤ k) l1 m l3 ∧ Below base w0 w' ∧ Kept w w' (fun k => ok k ∨ k = g) := by
 obtain ⟨v1, v2, v3, hbk, hwr⟩ := H
 obtain ⟨P1, P2, P3, ⟨o1, o2, o3⟩, ⟨d1, d2, d3⟩, s1, s2, s3⟩ := hwr.types hbk (by decide) (by decide)
 have hbk0 := hbk
 obtain ⟨g1, cap, rfl, hg1, hg1l, cells1, hcells1⟩ := Kd.S_form s2 (by omega)
 have hp : Kd.S (Kd.slice 46 k46) 23 w base P2 (.slice (some ⟨g1, 0, none⟩) l2.length cap) l2 := s2
 obtain ⟨i, hi⟩ : ∃ i : Int, i = x2 / 8 % 8 := ⟨_, rfl⟩
 rw [← hi] at hlen
 have h0 : 0 ≤ i := by omega
 have h8 : i < (l2.length : Int) := by omega
 obtain ⟨oki, c, hcl, hM, hcc, hoki, HH⟩ := Kd.S_lend hp [] i h0 h8
 obtain ⟨vs, hv, hR⟩ := hM
 subst hv
 have hxs : w.cell? ⟨g1, i.toNat, none⟩ = some vs := by
  have := hcc 0 vs rfl
  have e : i.toNat * (Kd.slice 46 k46).sz + 0 = i.toNat := Nat.mul_one _
  rwa [e] at this
 have hfz : w.frozen? ⟨g1, i.toNat, none⟩ = false := by simp [World.frozen?, hcells1]
 obtain ⟨As, cs, rfl⟩ := Kd.R_slice hR
 have gne : g1 ≠ g := fun e => (o2 _ ((Kd.S_R hp).1 g1 rfl)).2 e
 have hRok : ∀ k, oki k → P2 k ∧ k ≠ g1 := hoki
 generalize hxi : l2.getD i.toNat [] = xi at *
 have BK := aM hbk0
 have HX := aM hxs
 have HC1 := aM hcells1
 have HRR := aM hR
 have HHH := aM HH
 have HO := aM (And.intro o1 (And.intro o2 o3))
 have HD := aM (And.intro d1 (And.intro d2 d3))
 have HS1 := aM s1
 have HS2 := aM s2
 have HS3 := aM s3
 have HOK := aM hRok
 have HB := aM hB
 have GN := aM gne
 have HLEN := aM hlen
 have HBG := aM hbg
 have HG1 := aM hg1
 have HHI := aM hi
 have HXI := aM hxi
 have p1 : (0 ≤ i) = True := eq_true h0
 have p2 : (i < ((l2.length : Nat) : Int)) = True := eq_true h8
 have hpl : spec_l8Place.f a x2 = some (2, i) := by
  have e1 : wrap64 (Int.tdiv x2 8) = x2 / 8 := by rw [Int.tdiv_eq_ediv_of_nonneg hx]; unfold wrap64; omega
  have e2 : wrap64 (Int.tdiv a 8) = a / 8 := by rw [Int.tdiv_eq_ediv_of_nonneg ha]; unfold wrap64; omega
  have e3 : wrap64 (x2 / 8 - a / 8) = x2 / 8 - a / 8 := by unfold wrap64; omega
  unfold spec_l8Place.f
  rw [e1, e2, e3, if_neg (by omega), if_pos hc2, hi, Int.tmod_eq_emod_of_nonneg (by omega)]
 have HPL := aM hpl
 clear hpl
 have HM := aM hm
 clear hm hbk hbk0 hxs hcells1 hfz hR HH o1 o2 o3 d1 d2 d3 s1 s2 s3 hRok hoki hB gne hlen hbg hg1 hg1l hp hcl hcc hwr hi hxi h0 h8 ha ha2 hx hx2 hl hc hc2
 have hu46 := Try.underlying46
 have hu25 := Try.underlying25
 go_enter Try.func73, Try.ntmps73
 go_wp2_with (first | ((with_reducible refine gD 3 rfl ?_); refine bE 3 #[.int .i64 x0, .int .i64 x1, .int .i64 x2] 46 ?_; intro gt hg w2 hbox hb; have BT := aM hbox; have GT := aM hg; have HB1 := aM hb; clear hbox hg hb))
 have BK2 := aM (blk_drew (blk_below BK.out HB1.out))
 have BT2 := zBD BT
 have HB2 := zLD HB1
 clear BT HB1
 refine start_ (n := 12) (S := fun w' => w'.cell? ⟨gt, 2, none⟩ = some (.int .i64 x2) ∧ w'.cell? ⟨g, 0, none⟩ = some (.int .i64 a)) (ds := []) (fB 12 0) (by kernel_rfl) rfl rfl ⟨(blk_cell BT2.out 2).trans rfl, (blk_cell BK2.out 0).trans rfl⟩ (fun hHeld => ?_); refine with_tabW spec_l8Put.tab1 spec_l8Put.bits1 (fun HT_ HW_ => ?_)
 generalize w2.drew = w3_ at BK2 BT2 HB2 hHeld ⊢
 refine pY 0 7 (fB 12 1) HT_.out ?_
 refine pY 1 8 (fB 12 3) HT_.out ?_
 refine pY 2 9 (fB 12 7) HT_.out ?_
 refine pY 4 11 (fB 12 23) HT_.out ?_
 refine tY 3 10 (fB 12 31) HT_.out HW_.out hHeld ?_
 refine tY 5 12 (fB 12 63) HT_.out HW_.out hHeld ?_
 refine oN 6 13 (fB 12 127) HT_.out fun K hK => ?_
 refine gS Try.func88 #[.int .i64 a, .int .i64 x2] ?_
 refine (spec_l8Place.calls a x2 2 i _ HPL.out).mono ?_
 rintro e w3 ⟨rfl, hd⟩
 refine ⟨_, rfl, ?_⟩
 have hb3 := hd.below
 clear hd
 replace BK2 := zBB BK2 hb3
 replace BT2 := zBB BT2 hb3
 replace HB2 := zLB HB2.out hb3
 clear hb3
 refine hK.out _ _ ⟨(blk_cell BT2.out 2).trans rfl, (blk_cell BK2.out 0).trans rfl⟩ fun hHeld => ?_; clear hK K
 refine nZ 13 ?_
 refine pY 7 6 (fB 12 255) HT_.out ?_
 refine pY 8 14 (fB 12 511) HT_.out ?_
 refine pY 9 15 (fB 12 1023) HT_.out ?_
 refine pY 10 4 (fB 12 2047) HT_.out ?_
 refine pY 11 5 (fB 12 4095) HT_.out ?_
 refine done_ (done_of HT_.out (by kernel_rfl)) ?_
 have hcz := (blk_cell BT2.out 2).trans rfl
 try go_wp2
 obtain ⟨yb, hyb⟩ : ∃ yb : List S46, yb = [⟨x0, x1, x2⟩] := ⟨_, rfl⟩
 have NY := aM hyb
 clear hyb
 have BK3 := zBD BK2
 have BT3 := zBD BT2
 have HB3 := zLD HB2
 clear BK2 BT2 HB2
 refine start_ (n := 17) (S := fun w' => w'.cell? ⟨g, 2, none⟩ = some (.slice (some ⟨g1, 0, none⟩) l2.length cap) ∧ w'.cell? ⟨gt, 0, none⟩ = some (.int .i64 x0) ∧ w'.cell? ⟨gt, 1, none⟩ = some (.int .i64 x1) ∧ w'.cell? ⟨gt, 2, none⟩ = some (.int .i64 x2) ∧ w'.cell? ⟨g1, i.toNat, none⟩ = some (.slice As xi.length cs)) (ds := [16]) (fB 17 0) (by kernel_rfl) rfl rfl ⟨(blk_cell BK3.out 2).trans rfl, (blk_cell BT3.out 0).trans rfl, (blk_cell BT3.out 1).trans rfl, (blk_cell BT3.out 2).trans rfl, (HB3.out.cell (World.block_lt_of_cell? w _ HX.out)).trans HX.out⟩ (fun hHeld => ?_); refine with_tabW spec_l8Put.tab7 spec_l8Put.bits7 (fun HT_ HW_ => ?_)
 generalize w3.drew = w4 at BK3 BT3 HB3 hHeld ⊢
 refine pY 0 47 (fB 17 1) HT_.out ?_
 refine pY 1 48 (fB 17 3) HT_.out ?_
 refine pY 2 49 (fB 17 7) HT_.out ?_
 refine pY 4 51 (fB 17 23) HT_.out ?_
 refine pY 5 52 (fB 17 55) HT_.out ?_
 refine pY 6 53 (fB 17 119) HT_.out ?_
 refine pY 7 54 (fB 17 247) HT_.out ?_
 refine pY 9 56 (fB 17 759) HT_.out ?_
 refine tY 3 50 (fB 17 767) HT_.out HW_.out hHeld ?_
 refine tY 8 55 (fB 17 1023) HT_.out HW_.out hHeld ?_
 refine pY 10 57 (fB 17 2047) HT_.out ?_
 refine tY 11 58 (fB 17 4095) HT_.out HW_.out hHeld ?_
 refine tY 12 59 (fB 17 8191) HT_.out HW_.out hHeld ?_
 refine oN 13 60 (fB 17 16383) HT_.out fun K hK => ?_
 refine Kd.R_lit_step k46 _ 46 ?hg (N := 60) ?hd (xs := ([⟨x0, x1, x2⟩] : List S46)) (inner := [.int .i64 x0, .int .i64 x1, .int .i64 x2]) (ok := fun _ => True) (okp := fun _ => True) ?hr ?hp (fun _ hk => hk) trivial (Below.refl _ _) (Nat.le_refl _) (by simp) ?_; (case hd => rfl); (case hg => rfl); (case hr => first | (go_simp; done) | (go_simp; rfl)); (case hp => exact Reps.c3 (k46_mkM _ _ _ (⟨x0, x1, x2⟩ : S46)) (Reps.none _ _))
 intro vb w5 hrow hb5 hg_ hn_
 clear hg_ hn_
 rw [← NY.out] at hrow
 obtain ⟨Ab, cb, rfl⟩ := Kd.R_slice hrow
 have HRB := aM (Kd.R_reads' hrow)
 have BK4 := zBB BK3 hb5
 have BT4 := zBB BT3 hb5
 have HB4 := zLB HB3.out hb5
 clear hrow hb5 BK3 BT3 HB3
 refine hK.out _ _ ⟨(blk_cell BK4.out 2).trans rfl, (blk_cell BT4.out 0).trans rfl, (blk_cell BT4.out 1).trans rfl, (blk_cell BT4.out 2).trans rfl, (HB4.out.cell (World.block_lt_of_cell? w _ HX.out)).trans HX.out⟩ fun hHeld => ?_; clear hK K
 refine nZ 60 ?_
 refine oN 14 61 (fB 17 32767) HT_.out fun K hK => ?_
 have HBW := aM (below_then HB.out (Nat.le_trans HBG.out (Nat.le_of_lt (blk_lt BK.out))) HB4.out)
 have hbs : base ≤ w5.heap.size := Nat.le_trans (Nat.le_trans HBG.out (Nat.le_of_lt (blk_lt BK.out))) HB4.out.size
 refine Kd.R_append_rows_step k46 (w0 := w0) base (by rfl) (.tmp 58) (.tmp 60) 23 46 (.agg #[(.int .i64 0), (.int .i64 0), (.int .i64 0)]) 24 rfl Try.underlying23 info46 rfl (by decide) (by omega) _ xi yb _ _ _ (fun k => oki k ∨ (P2 k ∨ w.heap.size ≤ k) ∧ w5.heap.size ≤ k) (fun _ => False) rfl rfl ?aO ?aR (fun _ _ h => h) (fun _ h => h.elim) ?aF ?aB ?aS ?aL ?_
 (case aO => exact Kd.R_mono (Kd.R_below HRR.out HB4.out) (fun k h => .inl h))
 (case aR => exact HRB.out.2.2)
 (case aF => exact fun k hk => .inr ⟨.inr (Nat.le_trans HB4.out.size hk), hk⟩)
 (case aB => exact HBW.out)
 (case aS => exact hbs)
 (case aL => (have h1_ := HLEN.out; have h2_ : yb.length = 1 := (by rw [NY.out]; rfl); omega))
 intro vn w6 ho hb6 hg6 hat6
 clear hat6
 obtain ⟨yn, hyn⟩ : ∃ yn, yn = xi ++ yb := ⟨_, rfl⟩
 rw [← hyn] at ho
 have NYN := aM hyn
 clear hyn
 have hrk : ∀ k, (Value.slice As xi.length cs).ownBlock = some k → oki k := fun k hk => HRR.out.1 k hk
 have hoP : ∀ k, oki k → P2 k := fun k hk => (HOK.out k hk).1
 have HK6 := aM (Kept.of_grown hg6 (Kept.of_below HB4.out (fun k => oki k)) (fun k hk => .inl (hrk k hk)))
 have BK5 := aM (blk_grown BK4.out hg6 (fun e => (HO.out.2.1 g (hoP g (hrk g e.symm))).2 rfl))
 have BT5 := aM (blk_grown BT4.out hg6 (fun e => by have h_ := Kd.R_lt HRR.out gt e.symm; rw [GT.out] at h_; exact Nat.lt_irrefl _ h_))
 have HX5 := aM (cell_grown hg6 ((HB4.out.cell (World.block_lt_of_cell? w _ HX.out)).trans HX.out) (fun e => (HOK.out g1 (hrk g1 e.symm)).2 rfl))
 have HC5 := aM (blk_grown (blk_below HC1.out HB4.out) hg6 (fun e => (HOK.out g1 (hrk g1 e.symm)).2 rfl))
 have HH5 := aM (Kd.H_grown (Kd.H_widen (Kd.H_below (Kd.H_mono HHH.out (ok' := fun k => P2 k ∨ w.heap.size ≤ k) (fun k h => .inl h)) HB4.out)) hg6 (fun k hk => .inl (hrk k hk)))
 obtain ⟨An, cn, rfl⟩ := Kd.R_slice ho
 have HRN := aM ho
 have HB6 := aM hb6
 have HW5 := aM HB4.out.size
 have HG5 := aM (Nat.lt_of_lt_of_le (blk_lt HC1.out) HB4.out.size)
 clear ho hb6 hg6 hrk hoP hbs HBW HB4 BK4 BT4
 refine hK.out _ _ ⟨(blk_cell BK5.out 2).trans rfl, (blk_cell BT5.out 0).trans rfl, (blk_cell BT5.out 1).trans rfl, (blk_cell BT5.out 2).trans rfl, HX5.out⟩ fun hHeld => ?_; clear hK K
 refine nZ 61 ?_
 refine pY 15 62 (fB 17 65535) HT_.out ?_
 refine last_ (i := 16) (N := none) (fB 17 131071) rfl rfl (one_of HT_.out (by kernel_rfl)) (by decide) (fun K hK => ?_)
 have hxs6 := HX5.out
 have hfs6 : w6.frozen? ⟨g1, i.toNat, none⟩ = false := blk_frozen HC5.out _
 refine skip_ (w1 := ?_) (by rfl) rfl ?_ ?_
 rotate_left
 ·go_simp
  rfl
 refine hK.out _ _ ?_
 clear hK K
 refine done_ (done_of HT_.out (by kernel_rfl)) ?_
 try go_wp2
 go_end0
 have h0 : 0 ≤ i := of_eq_true p1
 have h8 : i < ((l2.length : Nat) : Int) := of_eq_true p2
 obtain ⟨hS, hG⟩ := slot_put HH5.out h0 h8 HRN.out (fun k hk => hk) (fun k hk => hk.elim (fun h => (HOK.out k h).2) (fun h e => by have h1_ := HG5.out; have h2_ := h.2; omega))
 have HKF := Kept.of_grown hG (HK6.out.mono (S' := P2) (fun k hk => (HOK.out k hk).1)) (fun k hk => .inl (by injection hk with hk; subst hk; exact (Kd.S_R HS2.out).1 _ rfl))
 rw [HM.out, ← HHI.out, HXI.out, ← NY.out, ← NYN.out]
 refine ⟨rfl, ws_far (blk_far BK5.out (fun e => GN.out e.symm) _) HO.out HD.out hS HS1.out HS3.out HKF, ?_, HKF.mono (fun k hk => .inl (HO.out.2.1 k hk).1)⟩
 exact HB6.out.grown hG (Nat.le_trans (Nat.le_trans HBG.out (Nat.le_of_lt (blk_lt BK.out))) HK6.out.1) (fun k hk => by injection hk with hk; subst hk; exact HG1.out)
set_option maxHeartbeats 8000000 in
set_option maxRecDepth 100000 in
theorem spec_l8Put.rest (a x0 x1 x2 : Int) (l1 l2 : List (List S46)) (l3 m : List S46) (g base : Nat) (ok : Nat → Prop) (w0 w : World) (hB : Below base w0 w) (hbg : base ≤ g) (H : WS a g base w ok l1 l2 l3)
  (ha : 0 ≤ a) (ha2 : a ≤ 2147483647) (hx : 0 ≤ x2) (hx2 : x2 ≤ 2147483647) (hlen : l3.length ≤ 1000000) (hc : x2 / 8 - a / 8 ≠ 0) (hc2 : ¬ x2 / 8 - a / 8 < 8) (hm : m = l3 ++ [⟨x0, x1, x2⟩]) :
  Calls Try.prog 73 #[.pointer (some ⟨g, 0, none⟩), .agg #[.int .i64 x0, .int .i64 x1, .int .i64 x2]] w fun e w' => e = .returned (.tuple #[]) ∧ WS a g base w' (fun k => ok k ∨ w.heap.size ≤ k) l1 l2 m ∧ Below base w0 w' ∧ Kept w w' (fun k => ok k ∨ k = g) := by
 obtain ⟨v1, v2, v3, hbk, hwr⟩ := H
 obtain ⟨P1, P2, P3, ⟨o1, o2, o3⟩, ⟨d1, d2, d3⟩, s1, s2, s3⟩ := hwr.types hbk (by decide) (by decide)
 obtain ⟨A3, c3, rfl⟩ := Kd.R_slice s3
 have BK := aM hbk
 have HO := aM (And.intro o1 (And.intro o2 o3))
 have HD := aM (And.intro d1 (And.intro d2 d3))
 have HS1 := aM s1
 have HS2 := aM s2
 have HS3 := aM s3
 have HB := aM hB
 have HLEN := aM hlen
 have HBG := aM hbg
 have HM := aM hm
 have e1 : wrap64 (Int.tdiv x2 8) = x2 / 8 := by rw [Int.tdiv_eq_ediv_of_nonneg hx]; unfold wrap64; omega
 have e2 : wrap64 (Int.tdiv a 8) = a / 8 := by rw [Int.tdiv_eq_ediv_of_nonneg ha]; unfold wrap64; omega
 have e3 : wrap64 (x2 / 8 - a / 8) = x2 / 8 - a / 8 := by unfold wrap64; omega
 have hpl : spec_l8Place.f a x2 = some (3, 0) := by
  unfold spec_l8Place.f
  rw [e1, e2, e3, if_neg (by omega), if_neg hc2]
 have HPL := aM hpl
 clear hpl e1 e2 e3
 clear hm hbk o1 o2 o3 d1 d2 d3 s1 s2 s3 hwr hlen hbg hB ha ha2 hx hx2 hc hc2
 have hu46 := Try.underlying46
 have hu25 := Try.underlying25
 go_enter Try.func73, Try.ntmps73
 go_wp2_with (first | ((with_reducible refine gD 3 rfl ?_); refine bE 3 #[.int .i64 x0, .int .i64 x1, .int .i64 x2] 46 ?_; intro gt hg w2 hbox hb; have BT := aM hbox; have GT := aM hg; have HB1 := aM hb; clear hbox hg hb))
 have BK2 := aM (blk_drew (blk_below BK.out HB1.out))
 have BT2 := zBD BT
 have HB2 := zLD HB1
 clear BT HB1
 refine start_ (n := 12) (S := fun w' => w'.cell? ⟨gt, 2, none⟩ = some (.int .i64 x2) ∧ w'.cell? ⟨g, 0, none⟩ = some (.int .i64 a)) (ds := []) (fB 12 0) (by kernel_rfl) rfl rfl ⟨(blk_cell BT2.out 2).trans rfl, (blk_cell BK2.out 0).trans rfl⟩ (fun hHeld => ?_); refine with_tabW spec_l8Put.tab1 spec_l8Put.bits1 (fun HT_ HW_ => ?_)
 generalize w2.drew = w3_ at BK2 BT2 HB2 hHeld ⊢
 refine pY 0 7 (fB 12 1) HT_.out ?_
 refine pY 1 8 (fB 12 3) HT_.out ?_
 refine pY 2 9 (fB 12 7) HT_.out ?_
 refine pY 4 11 (fB 12 23) HT_.out ?_
 refine tY 3 10 (fB 12 31) HT_.out HW_.out hHeld ?_
 refine tY 5 12 (fB 12 63) HT_.out HW_.out hHeld ?_
 refine oN 6 13 (fB 12 127) HT_.out fun K hK => ?_
 refine gS Try.func88 #[.int .i64 a, .int .i64 x2] ?_
 refine (spec_l8Place.calls a x2 3 0 _ HPL.out).mono ?_
 rintro e w3 ⟨rfl, hd⟩
 refine ⟨_, rfl, ?_⟩
 have hb3 := hd.below
 clear hd
 replace BK2 := zBB BK2 hb3
 replace BT2 := zBB BT2 hb3
 replace HB2 := zLB HB2.out hb3
 clear hb3
 refine hK.out _ _ ⟨(blk_cell BT2.out 2).trans rfl, (blk_cell BK2.out 0).trans rfl⟩ fun hHeld => ?_; clear hK K
 refine nZ 13 ?_
 refine pY 7 6 (fB 12 255) HT_.out ?_
 refine pY 8 14 (fB 12 511) HT_.out ?_
 refine pY 9 15 (fB 12 1023) HT_.out ?_
 refine pY 10 4 (fB 12 2047) HT_.out ?_
 refine pY 11 5 (fB 12 4095) HT_.out ?_
 refine done_ (done_of HT_.out (by kernel_rfl)) ?_
 have hcz := (blk_cell BT2.out 2).trans rfl
 try go_wp2
 obtain ⟨yb, hyb⟩ : ∃ yb : List S46, yb = [⟨x0, x1, x2⟩] := ⟨_, rfl⟩
 have NY := aM hyb
 clear hyb
 have BK3 := zBD BK2
 have BT3 := zBD BT2
 have HB3 := zLD HB2
 clear BK2 BT2 HB2 hcz
 refine start_ (n := 11) (S := fun w' => w'.cell? ⟨g, 3, none⟩ = some (.slice A3 l3.length c3) ∧ w'.cell? ⟨gt, 0, none⟩ = some (.int .i64 x0) ∧ w'.cell? ⟨gt, 1, none⟩ = some (.int .i64 x1) ∧ w'.cell? ⟨gt, 2, none⟩ = some (.int .i64 x2)) (ds := [10]) (fB 11 0) (by kernel_rfl) rfl rfl ⟨(blk_cell BK3.out 3).trans rfl, (blk_cell BT3.out 0).trans rfl, (blk_cell BT3.out 1).trans rfl, (blk_cell BT3.out 2).trans rfl⟩ (fun hHeld => ?_); refine with_tabW spec_l8Put.tab3 spec_l8Put.bits3 (fun HT_ HW_ => ?_)
 generalize w3.drew = w4 at BK3 BT3 HB3 hHeld ⊢
 refine pY 0 17 (fB 11 1) HT_.out ?_
 refine pY 1 18 (fB 11 3) HT_.out ?_
 refine pY 2 19 (fB 11 7) HT_.out ?_
 refine pY 3 20 (fB 11 15) HT_.out ?_
 refine tY 4 21 (fB 11 31) HT_.out HW_.out hHeld ?_
 refine tY 5 22 (fB 11 63) HT_.out HW_.out hHeld ?_
 refine oN 6 23 (fB 11 127) HT_.out fun K hK => ?_
 refine Kd.R_lit_step k46 _ 46 ?hg (N := 23) ?hd (xs := ([⟨x0, x1, x2⟩] : List S46)) (inner := [.int .i64 x0, .int .i64 x1, .int .i64 x2]) (ok := fun _ => True) (okp := fun _ => True) ?hr ?hp (fun _ hk => hk) trivial (Below.refl _ _) (Nat.le_refl _) (by simp) ?_; (case hd => rfl); (case hg => rfl); (case hr => first | (go_simp; done) | (go_simp; rfl)); (case hp => exact Reps.c3 (k46_mkM _ _ _ (⟨x0, x1, x2⟩ : S46)) (Reps.none _ _))
 intro vb w5 hrow hb5 hg_ hn_
 clear hg_ hn_
 rw [← NY.out] at hrow
 obtain ⟨Ab, cb, rfl⟩ := Kd.R_slice hrow
 have HRB := aM (Kd.R_reads' hrow)
 have BK4 := zBB BK3 hb5
 have BT4 := zBB BT3 hb5
 have HB4 := zLB HB3.out hb5
 clear hrow hb5 BK3 BT3 HB3
 refine hK.out _ _ ⟨(blk_cell BK4.out 3).trans rfl, (blk_cell BT4.out 0).trans rfl, (blk_cell BT4.out 1).trans rfl, (blk_cell BT4.out 2).trans rfl⟩ fun hHeld => ?_; clear hK K
 refine nZ 23 ?_
 refine oN 7 24 (fB 11 255) HT_.out fun K hK => ?_
 have HBW := aM (below_then HB.out (Nat.le_trans HBG.out (Nat.le_of_lt (blk_lt BK.out))) HB4.out)
 have hbs : base ≤ w5.heap.size := Nat.le_trans (Nat.le_trans HBG.out (Nat.le_of_lt (blk_lt BK.out))) HB4.out.size
 refine Kd.R_append_rows_step k46 (w0 := w0) base (by rfl) (.tmp 21) (.tmp 23) 23 46 (.agg #[(.int .i64 0), (.int .i64 0), (.int .i64 0)]) 24 rfl Try.underlying23 info46 rfl (by decide) (by omega) _ l3 yb _ _ _ (fun k => P3 k ∨ w.heap.size ≤ k) (fun _ => False) rfl rfl ?aO ?aR (fun _ _ h => h) (fun _ h => h.elim) ?aF ?aB ?aS ?aL ?_
 (case aO => exact Kd.R_mono (Kd.R_below HS3.out HB4.out) (fun k h => .inl h))
 (case aR => exact HRB.out.2.2)
 (case aF => exact fun k hk => .inr (Nat.le_trans HB4.out.size hk))
 (case aB => exact HBW.out)
 (case aS => exact hbs)
 (case aL => (have h1_ := HLEN.out; have h2_ : yb.length = 1 := (by rw [NY.out]; rfl); omega))
 intro vn w6 ho hb6 hg6 hat6
 clear hat6
 obtain ⟨yn, hyn⟩ : ∃ yn, yn = l3 ++ yb := ⟨_, rfl⟩
 rw [← hyn] at ho
 have NYN := aM hyn
 clear hyn
 have hrk : ∀ k, (Value.slice A3 l3.length c3).ownBlock = some k → P3 k := fun k hk => HS3.out.1 k hk
 have HK6 := aM (Kept.of_grown hg6 (Kept.of_below HB4.out (fun k => P3 k)) (fun k hk => .inl (hrk k hk)))
 have BK5 := aM (blk_grown BK4.out hg6 (fun e => (HO.out.2.2 g (hrk g e.symm)).2 rfl))
 have BT5 := aM (blk_grown BT4.out hg6 (fun e => by have h_ := Kd.R_lt HS3.out gt e.symm; rw [GT.out] at h_; exact Nat.lt_irrefl _ h_))
 obtain ⟨An, cn, rfl⟩ := Kd.R_slice ho
 have HRN := aM ho
 have HB6 := aM hb6
 clear ho hb6 hg6 hrk hbs HBW HB4 BK4 BT4
 refine hK.out _ _ ⟨(blk_cell BK5.out 3).trans rfl, (blk_cell BT5.out 0).trans rfl, (blk_cell BT5.out 1).trans rfl, (blk_cell BT5.out 2).trans rfl⟩ fun hHeld => ?_; clear hK K
 refine nZ 24 ?_
 refine pY 8 25 (fB 11 511) HT_.out ?_
 refine pY 9 26 (fB 11 1023) HT_.out ?_
 refine last_ (i := 10) (N := none) (fB 11 2047) rfl rfl (one_of HT_.out (by kernel_rfl)) (by decide) (fun K hK => ?_)
 have hcs6 := (blk_cell BK5.out 3).trans rfl
 have hfs6 := blk_frozen BK5.out 3
 refine skip_ (w1 := ?_) (by rfl) rfl ?_ ?_
 rotate_left
 ·go_simp
  rfl
 refine hK.out _ _ ?_
 clear hK K
 refine done_ (done_of HT_.out (by kernel_rfl)) ?_
 try go_wp2
 go_end0
 have HKF := (HK6.out.mono (S' := fun k => P3 k ∨ k = g) (fun k hk => .inl hk)).setCell (p := ⟨g, 3, none⟩) (.inl (.inr rfl)) (.slice An yn.length cn)
 rw [HM.out, ← NY.out, ← NYN.out]
 refine ⟨rfl, ws_rest (blk_put BK5.out 3 _ rfl) HO.out HD.out (Kd.R_far (p := ⟨g, 3, none⟩) HRN.out (fun k hk => hk.elim (fun h => (HO.out.2.2 k h).2) (fun h e => by have h_ := blk_lt BK.out; have e_ : k = g := e; omega)) _) HS1.out HS2.out HKF, ?_, HKF.mono (fun k hk => hk.elim (fun h => .inl (HO.out.2.2 k h).1) .inr)⟩
 exact HB6.out.setCell HBG.out _
theorem spec_l8Put.calls (a x0 x1 x2 : Int) (l1 l2 : List (List S46)) (l3 : List S46) (g base : Nat) (ok : Nat → Prop) (w0 w : World) (hB : Below base w0 w) (hbg : base ≤ g) (H : WS a g base w ok l1 l2 l3) (h : layOk a ⟨x0, x1, x2⟩ l1 l2 l3 = true) (m1 m2 : List (List S46)) (m3 : List S46) (hm : layV a ⟨x0, x1, x2⟩ l1 l2 l3 = (m1, m2, m3)) :
  Calls Try.prog 73 #[.pointer (some ⟨g, 0, none⟩), .agg #[.int .i64 x0, .int .i64 x1, .int .i64 x2]] w fun e w' => e = .returned (.tuple #[]) ∧ WS a g base w' (fun k => ok k ∨ w.heap.size ≤ k) m1 m2 m3 ∧ Below base w0 w' ∧ Kept w w' (fun k => ok k ∨ k = g) := by
 obtain ⟨h1, h2, h3, h4, h5, h6, h7, h8, h9⟩ := layOk_spec h
 simp only at h3 h4
 unfold layV at hm
 simp only at hm
 by_cases c : x2 / 8 - a / 8 = 0
 ·rw [if_pos c] at hm
  simp only [Prod.mk.injEq] at hm
  obtain ⟨e1, rfl, rfl⟩ := hm
  exact spec_l8Put.near a x0 x1 x2 l1 l2 m1 l3 g base ok w0 w hB hbg H h1 h2 h3 h4 h5 (getD_len l1 h7 _) c e1.symm
 ·rw [if_neg c] at hm
  by_cases c2 : x2 / 8 - a / 8 < 8
  ·rw [if_pos c2] at hm
   simp only [Prod.mk.injEq] at hm
   obtain ⟨rfl, e1, rfl⟩ := hm
   exact spec_l8Put.far a x0 x1 x2 l1 l2 m2 l3 g base ok w0 w hB hbg H h1 h2 h3 h4 h6 (getD_len l2 h8 _) c c2 e1.symm
  ·rw [if_neg c2] at hm
   simp only [Prod.mk.injEq] at hm
   obtain ⟨rfl, rfl, e1⟩ := hm
   exact spec_l8Put.rest a x0 x1 x2 l1 l2 l3 m3 g base ok w0 w hB hbg H h1 h2 h3 h4 h9 c c2 e1.symm

end Go.Proofs.Ytggenhomnbnodaa.QFnTimes
