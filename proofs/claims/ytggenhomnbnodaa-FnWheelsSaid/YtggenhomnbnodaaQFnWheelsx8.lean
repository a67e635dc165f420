/- What functions that the law reaches answer, with their walks. Conditions: those that each theorem names. -/
import Derived.Test.YtggenhomnbnodaaQFnWheelsx0
import Derived.Test.YtggenhomnbnodaaQFnWheelsx2
import Derived.Test.YtggenhomnbnodaaQFnWheelsx4
import Derived.Test.YtggenhomnbnodaaQFnWheelsx7
namespace Go.Proofs.Ytggenhomnbnodaa.QFnWheels
open Go.RowKit Go.Proofs.YtggenhomnbnodaaW.PrintWords Go.Proofs.YtggenhomnbnodaaW.PrintLast Go.Proofs.YtggenhomnbnodaaW.PrintMore
attribute [local go_sem] max2_int min2_int max_two min_two max_three min_three max_four min_four
set_option linter.unusedVariables false
set_option linter.unusedSimpArgs false

def layV (a : Int) (t : S46) (l1 l2 : List (List S46)) (l3 : List S46) : List (List S46) × List (List S46) × List S46 :=
 if t.f2 / 8 - a / 8 = 0 then (l1.set (t.f2 % 8).toNat (l1.getD (t.f2 % 8).toNat [] ++ [t]), l2, l3)
 else if t.f2 / 8 - a / 8 < 8 then (l1, l2.set (t.f2 / 8 % 8).toNat (l2.getD (t.f2 / 8 % 8).toNat [] ++ [t]), l3) else (l1, l2, l3 ++ [t])
def layOk (a : Int) (t : S46) (l1 l2 : List (List S46)) (l3 : List S46) : Bool :=
 decide (0 ≤ a) && decide (a ≤ 2147483647) && decide (0 ≤ t.f2) && decide (t.f2 ≤ 2147483647) && decide (l1.length = 8) && decide (l2.length = 8) && l1.all (fun x => decide (x.length ≤ 1000000)) && l2.all (fun x => decide (x.length ≤ 1000000)) && decide (l3.length ≤ 1000000)
theorem getD_len (l : List (List S46)) (h : ∀ x ∈ l, x.length ≤ 1000000) (i : Nat) : (l.getD i []).length ≤ 1000000 := by
 rw [List.getD_eq_getElem?_getD]
 cases e : l[i]? with
 | none => simp
 | some x => exact h x (List.mem_of_getElem? e)
theorem layOk_spec {a : Int} {t : S46} {l1 l2 : List (List S46)} {l3 : List S46} (h : layOk a t l1 l2 l3 = true) :
  0 ≤ a ∧ a ≤ 2147483647 ∧ 0 ≤ t.f2 ∧ t.f2 ≤ 2147483647 ∧ l1.length = 8 ∧ l2.length = 8 ∧ (∀ x ∈ l1, x.length ≤ 1000000) ∧ (∀ x ∈ l2, x.length ≤ 1000000) ∧ l3.length ≤ 1000000 := by
 simp only [layOk, Bool.and_eq_true, decide_eq_true_eq, List.all_eq_true] at h
 obtain ⟨⟨⟨⟨⟨⟨⟨⟨h1, h2⟩, h3⟩, h4⟩, h5⟩, h6⟩, h7⟩, h8⟩, h9⟩ := h
 exact ⟨h1, h2, h3, h4, h5, h6, h7, h8, h9⟩
def spec_l8Put.T1 : Bool × List (List Nat × List Nat) := (true, [([], []), ([0], [0]), ([1], [1]), ([2], [2]), ([], []), ([4], [4]), ([3, 5], [3, 5]), ([6], [6]), ([7], [7]), ([7], [7]), ([8, 6, 0, 1, 2, 3, 4, 5, 6, 7, 8], [8]), ([9, 10, 0, 1, 2, 3, 4, 5, 6, 7, 8, 9, 10], [9])])
def spec_l8Put.B1 : List Nat := [0, 1, 3, 7, 0, 16, 63, 127, 255, 255, 511, 2047]
theorem spec_l8Put.tab1 : rtab .any (opsOf Try.f73 1) = spec_l8Put.T1 := by kernel_rfl
theorem spec_l8Put.bits1 : waitsOk spec_l8Put.T1.2 spec_l8Put.B1 = true := by kernel_rfl
def spec_l8Put.T3 : Bool × List (List Nat × List Nat) := (true, [([], []), ([], []), ([1], [1]), ([2], [2]), ([3], [3]), ([], []), ([5], [5]), ([4, 6], [4, 6]), ([0, 0, 1, 2, 3, 4, 5, 6, 7], [0]), ([8, 0, 1, 2, 3, 4, 5, 6, 7], [8]), ([9, 7, 7, 0, 1, 2, 3, 4, 5, 6, 7], [7, 9])])
def spec_l8Put.B3 : List Nat := [0, 0, 2, 6, 14, 0, 32, 126, 255, 511, 1023]
theorem spec_l8Put.tab3 : rtab .any (opsOf Try.f73 3) = spec_l8Put.T3 := by kernel_rfl
theorem spec_l8Put.bits3 : waitsOk spec_l8Put.T3.2 spec_l8Put.B3 = true := by kernel_rfl
def spec_l8Put.T5 : Bool × List (List Nat × List Nat) := (true, [([], []), ([0], [0]), ([1], [1]), ([2], [2]), ([], []), ([], []), ([5], [5]), ([6], [6]), ([7], [7]), ([], []), ([8, 9], [8, 9]), ([10], [10]), ([], []), ([12], [12]), ([11, 13], [11, 13]), ([3, 4, 0, 1, 2, 3, 4, 5, 6, 7, 8, 9, 10, 11, 12, 13, 14], [3, 4]), ([15, 14, 14, 0, 1, 2, 3, 4, 5, 6, 7, 8, 9, 10, 11, 12, 13, 14], [14, 15])])
def spec_l8Put.B5 : List Nat := [0, 1, 3, 7, 0, 0, 32, 96, 224, 0, 992, 2016, 0, 4096, 16352, 32767, 65535]
theorem spec_l8Put.tab5 : rtab .any (opsOf Try.f73 5) = spec_l8Put.T5 := by kernel_rfl
theorem spec_l8Put.bits5 : waitsOk spec_l8Put.T5.2 spec_l8Put.B5 = true := by kernel_rfl
def spec_l8Put.T7 : Bool × List (List Nat × List Nat) := (true, [([], []), ([0], [0]), ([1], [1]), ([2], [2]), ([], []), ([], []), ([5], [5]), ([6], [6]), ([7], [7]), ([], []), ([8, 9], [8, 9]), ([10], [10]), ([], []), ([12], [12]), ([11, 13], [11, 13]), ([3, 4, 0, 1, 2, 3, 4, 5, 6, 7, 8, 9, 10, 11, 12, 13, 14], [3, 4]), ([15, 14, 14, 0, 1, 2, 3, 4, 5, 6, 7, 8, 9, 10, 11, 12, 13, 14], [14, 15])])
def spec_l8Put.B7 : List Nat := [0, 1, 3, 7, 0, 0, 32, 96, 224, 0, 992, 2016, 0, 4096, 16352, 32767, 65535]
theorem spec_l8Put.tab7 : rtab .any (opsOf Try.f73 7) = spec_l8Put.T7 := by kernel_rfl
theorem spec_l8Put.bits7 : waitsOk spec_l8Put.T7.2 spec_l8Put.B7 = true := by kernel_rfl
set_option maxHeartbeats 8000000 in
set_option maxRecDepth 100000 in
theorem spec_l8Put.near (a x0 x1 x2 : Int) (l1 l2 m : List (List S46)) (l3 : List S46) (g base : Nat) (ok : Nat → Prop) (w0 w : World) (hB : Below base w0 w) (hbg : base ≤ g) (H : WS a g base w ok l1 l2 l3)
  (ha : 0 ≤ a) (ha2 : a ≤ 2147483647) (hx : 0 ≤ x2) (hx2 : x2 ≤ 2147483647) (hl : l1.length = 8) (hlen : (l1.getD (x2 % 8).toNat []).length ≤ 1000000) (hc : x2 / 8 - a / 8 = 0) (hm : m = (l1.set (x2 % 8).toNat (l1.getD (x2 % 8).toNat [] ++ [⟨x0, x1, x2⟩]))) :
  Calls Try.prog 73 #[.pointer (some ⟨g, 0, none⟩), .agg #[.int .i64 x0, .int .i64 x1, .int .i64 x2]] w fun e w' => e = .returned (.tuple #[]) ∧ WS a g base w' (fun k => ok k ∨ w.heap.size ≤ k) m l2 l3 ∧ Below base w0 w' ∧ Kept w w' (fun k => ok k ∨ k = g) := by
 obtain ⟨v1, v2, v3, hbk, hwr⟩ := H
 obtain ⟨P1, P2, P3, ⟨o1, o2, o3⟩, ⟨d1, d2, d3⟩, s1, s2, s3⟩ := hwr.types hbk (by decide) (by decide)
 have hbk0 := hbk
 obtain ⟨g1, cap, rfl, hg1, hg1l, cells1, hcells1⟩ := Kd.S_form s1 (by omega)
 have hp : Kd.S (Kd.slice 46 k46) 23 w base P1 (.slice (some ⟨g1, 0, none⟩) l1.length cap) l1 := s1
 obtain ⟨i, hi⟩ : ∃ i : Int, i = x2 % 8 := ⟨_, rfl⟩
 rw [← hi] at hlen
 have h0 : 0 ≤ i := by omega
 have h8 : i < (l1.length : Int) := by omega
 obtain ⟨oki, c, hcl, hM, hcc, hoki, HH⟩ := Kd.S_lend hp [] i h0 h8
 obtain ⟨vs, hv, hR⟩ := hM
 subst hv
 have hxs : w.cell? ⟨g1, i.toNat, none⟩ = some vs := by
  have := hcc 0 vs rfl
  have e : i.toNat * (Kd.slice 46 k46).sz + 0 = i.toNat := Nat.mul_one _
  rwa [e] at this
 have hfz : w.frozen? ⟨g1, i.toNat, none⟩ = false := by simp [World.frozen?, hcells1]
 obtain ⟨As, cs, rfl⟩ := Kd.R_slice hR
 have gne : g1 ≠ g := fun e => (o1 _ ((Kd.S_R hp).1 g1 rfl)).2 e
 have hRok : ∀ k, oki k → P1 k ∧ k ≠ g1 := hoki
 generalize hxi : l1.getD i.toNat [] = xi at *
 have BK := aM hbk0
 have HX := aM hxs
 have HC1 := aM hcells1
 have HRR := aM hR
 have HHH := aM HH
 have HO := aM (And.intro o1 (And.intro o2 o3))
 have HD := aM (And.intro d1 (And.intro d2 d3))
 have HS1 := aM s1
 have HS2 := aM s2
 have HS3 := aM s3
 have HOK := aM hRok
 have HB := aM hB
 have GN := aM gne
 have HLEN := aM hlen
 have HBG := aM hbg
 have HG1 := aM hg1
 have HHI := aM hi
 have HXI := aM hxi
 have p1 : (0 ≤ i) = True := eq_true h0
 have p2 : (i < ((l1.length : Nat) : Int)) = True := eq_true h8
 have hpl : spec_l8Place.f a x2 = some (1, i) := by
  have e1 : wrap64 (Int.tdiv x2 8) = x2 / 8 := by rw [Int.tdiv_eq_ediv_of_nonneg hx]; unfold wrap64; omega
  have e2 : wrap64 (Int.tdiv a 8) = a / 8 := by rw [Int.tdiv_eq_ediv_of_nonneg ha]; unfold wrap64; omega
  have e3 : wrap64 (x2 / 8 - a / 8) = x2 / 8 - a / 8 := by unfold wrap64; omega
  unfold spec_l8Place.f
  rw [e1, e2, if_pos (by omega), hi, Int.tmod_eq_emod_of_nonneg hx]
 have HPL := aM hpl
 clear hpl
 have HM := aM hm
 clear hm hbk hbk0 hxs hcells1 hfz hR HH o1 o2 o3 d1 d2 d3 s1 s2 s3 hRok hoki hB gne hlen hbg hg1 hg1l hp hcl hcc hwr hi hxi h0 h8 ha ha2 hx hx2 hl hc
 have hu46 := Try.underlying46
 have hu25 := Try.underlying25
 go_enter Try.func73, Try.ntmps73
 go_wp2_with (first | ((with_reducible refine gD 3 rfl ?_); refine bE 3 #[.int .i64 x0, .int .i64 x1, .int .i64 x2] 46 ?_; intro gt hg w2 hbox hb; have BT := aM hbox; have GT := aM hg; have HB1 := aM hb; clear hbox hg hb))
 have BK2 := aM (blk_drew (blk_below BK.o HB1.o))
 have BT2 := zBD BT
 have HB2 := zLD HB1
 clear BT HB1
 refine start_ (n := 12) (S := fun w' => w'.cell? ⟨gt, 2, none⟩ = some (.int .i64 x2) ∧ w'.cell? ⟨g, 0, none⟩ = some (.int .i64 a)) (ds := []) (fB 12 0) (by kernel_rfl) rfl rfl ⟨(blk_cell BT2.o 2).trans rfl, (blk_cell BK2.o 0).trans rfl⟩ (fun hHeld => ?_); refine with_tabW spec_l8Put.tab1 spec_l8Put.bits1 (fun HT_ HW_ => ?_)
 generalize w2.drew = w3_ at BK2 BT2 HB2 hHeld ⊢
 refine pY 0 7 (fB 12 1) HT_.o ?_
 refine pY 1 8 (fB 12 3) HT_.o ?_
 refine pY 2 9 (fB 12 7) HT_.o ?_
 refine pY 4 11 (fB 12 23) HT_.o ?_
 refine tY 3 10 (fB 12 31) HT_.o HW_.o hHeld ?_
 refine tY 5 12 (fB 12 63) HT_.o HW_.o hHeld ?_
 refine oN 6 13 (fB 12 127) HT_.o fun K hK => ?_
 refine gS Try.func88 #[.int .i64 a, .int .i64 x2] ?_
 refine (spec_l8Place.calls a x2 1 i _ HPL.o).mono ?_
 rintro e w3 ⟨rfl, hd⟩
 refine ⟨_, rfl, ?_⟩
 have hb3 := hd.below
 clear hd
 replace BK2 := zBB BK2 hb3
 replace BT2 := zBB BT2 hb3
 replace HB2 := zLB HB2.o hb3
 clear hb3
 refine hK.out _ _ ⟨(blk_cell BT2.o 2).trans rfl, (blk_cell BK2.o 0).trans rfl⟩ fun hHeld => ?_; clear hK K
 refine nZ 13 ?_
 refine pY 7 6 (fB 12 255) HT_.o ?_
 refine pY 8 14 (fB 12 511) HT_.o ?_
 refine pY 9 15 (fB 12 1023) HT_.o ?_
 refine pY 10 4 (fB 12 2047) HT_.o ?_
 refine pY 11 5 (fB 12 4095) HT_.o ?_
 refine done_ (done_of HT_.o (by kernel_rfl)) ?_
 have hcz := (blk_cell BT2.o 2).trans rfl
 try go_wp2
 obtain ⟨yb, hyb⟩ : ∃ yb : List S46, yb = [⟨x0, x1, x2⟩] := ⟨_, rfl⟩
 have NY := aM hyb
 clear hyb
 have BK3 := zBD BK2
 have BT3 := zBD BT2
 have HB3 := zLD HB2
 clear BK2 BT2 HB2
 refine start_ (n := 17) (S := fun w' => w'.cell? ⟨g, 1, none⟩ = some (.slice (some ⟨g1, 0, none⟩) l1.length cap) ∧ w'.cell? ⟨gt, 0, none⟩ = some (.int .i64 x0) ∧ w'.cell? ⟨gt, 1, none⟩ = some (.int .i64 x1) ∧ w'.cell? ⟨gt, 2, none⟩ = some (.int .i64 x2) ∧ w'.cell? ⟨g1, i.toNat, none⟩ = some (.slice As xi.length cs)) (ds := [16]) (fB 17 0) (by kernel_rfl) rfl rfl ⟨(blk_cell BK3.o 1).trans rfl, (blk_cell BT3.o 0).trans rfl, (blk_cell BT3.o 1).trans rfl, (blk_cell BT3.o 2).trans rfl, (HB3.o.cell (World.block_lt_of_cell? w _ HX.o)).trans HX.o⟩ (fun hHeld => ?_); refine with_tabW spec_l8Put.tab5 spec_l8Put.bits5 (fun HT_ HW_ => ?_)
 generalize w3.drew = w4 at BK3 BT3 HB3 hHeld ⊢
 refine pY 0 29 (fB 17 1) HT_.o ?_
 refine pY 1 30 (fB 17 3) HT_.o ?_
 refine pY 2 31 (fB 17 7) HT_.o ?_
 refine pY 4 33 (fB 17 23) HT_.o ?_
 refine pY 5 34 (fB 17 55) HT_.o ?_
 refine pY 6 35 (fB 17 119) HT_.o ?_
 refine pY 7 36 (fB 17 247) HT_.o ?_
 refine pY 9 38 (fB 17 759) HT_.o ?_
 refine tY 3 32 (fB 17 767) HT_.o HW_.o hHeld ?_
 refine tY 8 37 (fB 17 1023) HT_.o HW_.o hHeld ?_
 refine pY 10 39 (fB 17 2047) HT_.o ?_
 refine tY 11 40 (fB 17 4095) HT_.o HW_.o hHeld ?_
 refine tY 12 41 (fB 17 8191) HT_.o HW_.o hHeld ?_
 refine oN 13 42 (fB 17 16383) HT_.o fun K hK => ?_
 refine Kd.R_lit_step k46 _ 46 ?hg (N := 42) ?hd (xs := ([⟨x0, x1, x2⟩] : List S46)) (inner := [.int .i64 x0, .int .i64 x1, .int .i64 x2]) (ok := fun _ => True) (okp := fun _ => True) ?hr ?hp (fun _ hk => hk) trivial (Below.refl _ _) (Nat.le_refl _) (by simp) ?_; (case hd => rfl); (case hg => rfl); (case hr => first | (go_simp; done) | (go_simp; rfl)); (case hp => exact Reps.c3 (k46_mkM _ _ _ (⟨x0, x1, x2⟩ : S46)) (Reps.none _ _))
 intro vb w5 hrow hb5 hg_ hn_
 clear hg_ hn_
 rw [← NY.o] at hrow
 obtain ⟨Ab, cb, rfl⟩ := Kd.R_slice hrow
 have HRB := aM (Kd.R_reads' hrow)
 have BK4 := zBB BK3 hb5
 have BT4 := zBB BT3 hb5
 have HB4 := zLB HB3.o hb5
 clear hrow hb5 BK3 BT3 HB3
 refine hK.out _ _ ⟨(blk_cell BK4.o 1).trans rfl, (blk_cell BT4.o 0).trans rfl, (blk_cell BT4.o 1).trans rfl, (blk_cell BT4.o 2).trans rfl, (HB4.o.cell (World.block_lt_of_cell? w _ HX.o)).trans HX.o⟩ fun hHeld => ?_; clear hK K
 refine nZ 42 ?_
 refine oN 14 43 (fB 17 32767) HT_.o fun K hK => ?_
 have HBW := aM (below_then HB.o (Nat.le_trans HBG.o (Nat.le_of_lt (blk_lt BK.o))) HB4.o)
 have hbs : base ≤ w5.heap.size := Nat.le_trans (Nat.le_trans HBG.o (Nat.le_of_lt (blk_lt BK.o))) HB4.o.size
 refine Kd.R_append_rows_step k46 (w0 := w0) base (by rfl) (.tmp 40) (.tmp 42) 23 46 (.agg #[(.int .i64 0), (.int .i64 0), (.int .i64 0)]) 24 rfl Try.underlying23 info46 rfl (by decide) (by omega) _ xi yb _ _ _ (fun k => oki k ∨ (P1 k ∨ w.heap.size ≤ k) ∧ w5.heap.size ≤ k) (fun _ => False) rfl rfl ?aO ?aR (fun _ _ h => h) (fun _ h => h.elim) ?aF ?aB ?aS ?aL ?_
 (case aO => exact Kd.R_mono (Kd.R_below HRR.o HB4.o) (fun k h => .inl h))
 (case aR => exact HRB.o.2.2)
 (case aF => exact fun k hk => .inr ⟨.inr (Nat.le_trans HB4.o.size hk), hk⟩)
 (case aB => exact HBW.o)
 (case aS => exact hbs)
 (case aL => (have h1_ := HLEN.o; have h2_ : yb.length = 1 := (by rw [NY.o]; rfl); omega))
 intro vn w6 ho hb6 hg6 hat6
 clear hat6
 obtain ⟨yn, hyn⟩ : ∃ yn, yn = xi ++ yb := ⟨_, rfl⟩
 rw [← hyn] at ho
 have NYN := aM hyn
 clear hyn
 have hrk : ∀ k, (Value.slice As xi.length cs).ownBlock = some k → oki k := fun k hk => HRR.o.1 k hk
 have hoP : ∀ k, oki k → P1 k := fun k hk => (HOK.o k hk).1
 have HK6 := aM (Kept.of_grown hg6 (Kept.of_below HB4.o (fun k => oki k)) (fun k hk => .inl (hrk k hk)))
 have BK5 := aM (blk_grown BK4.o hg6 (fun e => (HO.o.1 g (hoP g (hrk g e.symm))).2 rfl))
 have BT5 := aM (blk_grown BT4.o hg6 (fun e => by have h_ := Kd.R_lt HRR.o gt e.symm; rw [GT.o] at h_; exact Nat.lt_irrefl _ h_))
 have HX5 := aM (cell_grown hg6 ((HB4.o.cell (World.block_lt_of_cell? w _ HX.o)).trans HX.o) (fun e => (HOK.o g1 (hrk g1 e.symm)).2 rfl))
 have HC5 := aM (blk_grown (blk_below HC1.o HB4.o) hg6 (fun e => (HOK.o g1 (hrk g1 e.symm)).2 rfl))
 have HH5 := aM (Kd.H_grown (Kd.H_widen (Kd.H_below (Kd.H_mono HHH.o (ok' := fun k => P1 k ∨ w.heap.size ≤ k) (fun k h => .inl h)) HB4.o)) hg6 (fun k hk => .inl (hrk k hk)))
 obtain ⟨An, cn, rfl⟩ := Kd.R_slice ho
 have HRN := aM ho
 have HB6 := aM hb6
 have HW5 := aM HB4.o.size
 have HG5 := aM (Nat.lt_of_lt_of_le (blk_lt HC1.o) HB4.o.size)
 clear ho hb6 hg6 hrk hoP hbs HBW HB4 BK4 BT4
 refine hK.out _ _ ⟨(blk_cell BK5.o 1).trans rfl, (blk_cell BT5.o 0).trans rfl, (blk_cell BT5.o 1).trans rfl, (blk_cell BT5.o 2).trans rfl, HX5.o⟩ fun hHeld => ?_; clear hK K
 refine nZ 43 ?_
 refine pY 15 44 (fB 17 65535) HT_.o ?_
 refine last_ (i := 16) (N := none) (fB 17 131071) rfl rfl (one_of HT_.o (by kernel_rfl)) (by decide) (fun K hK => ?_)
 have hxs6 := HX5.o
 have hfs6 : w6.frozen? ⟨g1, i.toNat, none⟩ = false := blk_frozen HC5.o _
 refine skip_ (w1 := ?_) (by rfl) rfl ?_ ?_
 rotate_left
 ·go_simp
  rfl
 refine hK.out _ _ ?_
 clear hK K
 refine done_ (done_of HT_.o (by kernel_rfl)) ?_
 try go_wp2
 go_end0
 have h0 : 0 ≤ i := of_eq_true p1
 have h8 : i < ((l1.length : Nat) : Int) := of_eq_true p2
 obtain ⟨hS, hG⟩ := slot_put HH5.o h0 h8 HRN.o (fun k hk => hk) (fun k hk => hk.elim (fun h => (HOK.o k h).2) (fun h e => by have h1_ := HG5.o; have h2_ := h.2; omega))
 have HKF := Kept.of_grown hG (HK6.o.mono (S' := P1) (fun k hk => (HOK.o k hk).1)) (fun k hk => .inl (by injection hk with hk; subst hk; exact (Kd.S_R HS1.o).1 _ rfl))
 rw [HM.o, ← HHI.o, HXI.o, ← NY.o, ← NYN.o]
 refine ⟨rfl, ws_near (blk_far BK5.o (fun e => GN.o e.symm) _) HO.o HD.o hS HS2.o HS3.o HKF, ?_, HKF.mono (fun k hk => .inl (HO.o.1 k hk).1)⟩
 exact HB6.o.grown hG (Nat.le_trans (Nat.le_trans HBG.o (Nat.le_of_lt (blk_lt BK.o))) HK6.o.1) (fun k hk => by injection hk with hk; subst hk; exact HG1.o)
set_option maxHeartbeats 8000000 in
set_option maxRecDepth 100000 in
theorem spec_l8Put.far (a x0 x1 x2 : Int) (l1 l2 m : List (List S46)) (l3 : List S46) (g base : Nat) (ok : Nat → Prop) (w0 w : World) (hB : Below base w0 w) (hbg : base ≤ g) (H : WS a g base w ok l1 l2 l3)
  (ha : 0 ≤ a) (ha2 : a ≤ 2147483647) (hx : 0 ≤ x2) (hx2 : x2 ≤ 2147483647) (hl : l2.length = 8) (hlen : (l2.getD (x2 / 8 % 8).toNat []).length ≤ 1000000) (hc : x2 / 8 - a / 8 ≠ 0) (hc2 : x2 / 8 - a / 8 < 8) (hm : m = (l2.set (x2 / 8 % 8).toNat (l2.getD (x2 / 8 % 8).toNat [] ++ [⟨x0, x1, x2⟩]))) :
  Calls Try.prog 73 #[.pointer (some ⟨g, 0, none⟩), .agg #[.int .i64 x0, .int .i64 x1, .int .i64 x2]] w fun e w' => e = .returned (.tuple #[]) ∧ WS a g base w' (fun k => ok k ∨ w.heap.size ≤ k) l1 m l3 ∧ Below base w0 w' ∧ Kept w w' (fun k => ok k ∨ k = g) := by
 obtain ⟨v1, v2, v3, hbk, hwr⟩ := H
 obtain ⟨P1, P2, P3, ⟨o1, o2, o3⟩, ⟨d1, d2, d3⟩, s1, s2, s3⟩ := hwr.types hbk (by decide) (by decide)
 have hbk0 := hbk
 obtain ⟨g1, cap, rfl, hg1, hg1l, cells1, hcells1⟩ := Kd.S_form s2 (by omega)
 have hp : Kd.S (Kd.slice 46 k46) 23 w base P2 (.slice (some ⟨g1, 0, none⟩) l2.length cap) l2 := s2
 obtain ⟨i, hi⟩ : ∃ i : Int, i = x2 / 8 % 8 := ⟨_, rfl⟩
 rw [← hi] at hlen
 have h0 : 0 ≤ i := by omega
 have h8 : i < (l2.length : Int) := by omega
 obtain ⟨oki, c, hcl, hM, hcc, hoki, HH⟩ := Kd.S_lend hp [] i h0 h8
 obtain ⟨vs, hv, hR⟩ := hM
 subst hv
 have hxs : w.cell? ⟨g1, i.toNat, none⟩ = some vs := by
  have := hcc 0 vs rfl
  have e : i.toNat * (Kd.slice 46 k46).sz + 0 = i.toNat := Nat.mul_one _
  rwa [e] at this
 have hfz : w.frozen? ⟨g1, i.toNat, none⟩ = false := by simp [World.frozen?, hcells1]
 obtain ⟨As, cs, rfl⟩ := Kd.R_slice hR
 have gne : g1 ≠ g := fun e => (o2 _ ((Kd.S_R hp).1 g1 rfl)).2 e
 have hRok : ∀ k, oki k → P2 k ∧ k ≠ g1 := hoki
 generalize hxi : l2.getD i.toNat [] = xi at *
 have BK := aM hbk0
 have HX := aM hxs
 have HC1 := aM hcells1
 have HRR := aM hR
 have HHH := aM HH
 have HO := aM (And.intro o1 (And.intro o2 o3))
 have HD := aM (And.intro d1 (And.intro d2 d3))
 have HS1 := aM s1
 have HS2 := aM s2
 have HS3 := aM s3
 have HOK := aM hRok
 have HB := aM hB
 have GN := aM gne
 have HLEN := aM hlen
 have HBG := aM hbg
 have HG1 := aM hg1
 have HHI := aM hi
 have HXI := aM hxi
 have p1 : (0 ≤ i) = True := eq_true h0
 have p2 : (i < ((l2.length : Nat) : Int)) = True := eq_true h8
 have hpl : spec_l8Place.f a x2 = some (2, i) := by
  have e1 : wrap64 (Int.tdiv x2 8) = x2 / 8 := by rw [Int.tdiv_eq_ediv_of_nonneg hx]; unfold wrap64; omega
  have e2 : wrap64 (Int.tdiv a 8) = a / 8 := by rw [Int.tdiv_eq_ediv_of_nonneg ha]; unfold wrap64; omega
  have e3 : wrap64 (x2 / 8 - a / 8) = x2 / 8 - a / 8 := by unfold wrap64; omega
  unfold spec_l8Place.f
  rw [e1, e2, e3, if_neg (by omega), if_pos hc2, hi, Int.tmod_eq_emod_of_nonneg (by omega)]
 have HPL := aM hpl
 clear hpl
 have HM := aM hm
 clear hm hbk hbk0 hxs hcells1 hfz hR HH o1 o2 o3 d1 d2 d3 s1 s2 s3 hRok hoki hB gne hlen hbg hg1 hg1l hp hcl hcc hwr hi hxi h0 h8 ha ha2 hx hx2 hl hc hc2
 have hu46 := Try.underlying46
 have hu25 := Try.underlying25
 go_enter Try.func73, Try.ntmps73
 go_wp2_with (first | ((with_reducible refine gD 3 rfl ?_); refine bE 3 #[.int .i64 x0, .int .i64 x1, .int .i64 x2] 46 ?_; intro gt hg w2 hbox hb; have BT := aM hbox; have GT := aM hg; have HB1 := aM hb; clear hbox hg hb))
 have BK2 := aM (blk_drew (blk_below BK.o HB1.o))
 have BT2 := zBD BT
 have HB2 := zLD HB1
 clear BT HB1
 refine start_ (n := 12) (S := fun w' => w'.cell? ⟨gt, 2, none⟩ = some (.int .i64 x2) ∧ w'.cell? ⟨g, 0, none⟩ = some (.int .i64 a)) (ds := []) (fB 12 0) (by kernel_rfl) rfl rfl ⟨(blk_cell BT2.o 2).trans rfl, (blk_cell BK2.o 0).trans rfl⟩ (fun hHeld => ?_); refine with_tabW spec_l8Put.tab1 spec_l8Put.bits1 (fun HT_ HW_ => ?_)
 generalize w2.drew = w3_ at BK2 BT2 HB2 hHeld ⊢
 refine pY 0 7 (fB 12 1) HT_.o ?_
 refine pY 1 8 (fB 12 3) HT_.o ?_
 refine pY 2 9 (fB 12 7) HT_.o ?_
 refine pY 4 11 (fB 12 23) HT_.o ?_
 refine tY 3 10 (fB 12 31) HT_.o HW_.o hHeld ?_
 refine tY 5 12 (fB 12 63) HT_.o HW_.o hHeld ?_
 refine oN 6 13 (fB 12 127) HT_.o fun K hK => ?_
 refine gS Try.func88 #[.int .i64 a, .int .i64 x2] ?_
 refine (spec_l8Place.calls a x2 2 i _ HPL.o).mono ?_
 rintro e w3 ⟨rfl, hd⟩
 refine ⟨_, rfl, ?_⟩
 have hb3 := hd.below
 clear hd
 replace BK2 := zBB BK2 hb3
 replace BT2 := zBB BT2 hb3
 replace HB2 := zLB HB2.o hb3
 clear hb3
 refine hK.out _ _ ⟨(blk_cell BT2.o 2).trans rfl, (blk_cell BK2.o 0).trans rfl⟩ fun hHeld => ?_; clear hK K
 refine nZ 13 ?_
 refine pY 7 6 (fB 12 255) HT_.o ?_
 refine pY 8 14 (fB 12 511) HT_.o ?_
 refine pY 9 15 (fB 12 1023) HT_.o ?_
 refine pY 10 4 (fB 12 2047) HT_.o ?_
 refine pY 11 5 (fB 12 4095) HT_.o ?_
 refine done_ (done_of HT_.o (by kernel_rfl)) ?_
 have hcz := (blk_cell BT2.o 2).trans rfl
 try go_wp2
 obtain ⟨yb, hyb⟩ : ∃ yb : List S46, yb = [⟨x0, x1, x2⟩] := ⟨_, rfl⟩
 have NY := aM hyb
 clear hyb
 have BK3 := zBD BK2
 have BT3 := zBD BT2
 have HB3 := zLD HB2
 clear BK2 BT2 HB2
 refine start_ (n := 17) (S := fun w' => w'.cell? ⟨g, 2, none⟩ = some (.slice (some ⟨g1, 0, none⟩) l2.length cap) ∧ w'.cell? ⟨gt, 0, none⟩ = some (.int .i64 x0) ∧ w'.cell? ⟨gt, 1, none⟩ = some (.int .i64 x1) ∧ w'.cell? ⟨gt, 2, none⟩ = some (.int .i64 x2) ∧ w'.cell? ⟨g1, i.toNat, none⟩ = some (.slice As xi.length cs)) (ds := [16]) (fB 17 0) (by kernel_rfl) rfl rfl ⟨(blk_cell BK3.o 2).trans rfl, (blk_cell BT3.o 0).trans rfl, (blk_cell BT3.o 1).trans rfl, (blk_cell BT3.o 2).trans rfl, (HB3.o.cell (World.block_lt_of_cell? w _ HX.o)).trans HX.o⟩ (fun hHeld => ?_); refine with_tabW spec_l8Put.tab7 spec_l8Put.bits7 (fun HT_ HW_ => ?_)
 generalize w3.drew = w4 at BK3 BT3 HB3 hHeld ⊢
 refine pY 0 47 (fB 17 1) HT_.o ?_
 refine pY 1 48 (fB 17 3) HT_.o ?_
 refine pY 2 49 (fB 17 7) HT_.o ?_
 refine pY 4 51 (fB 17 23) HT_.o ?_
 refine pY 5 52 (fB 17 55) HT_.o ?_
 refine pY 6 53 (fB 17 119) HT_.o ?_
 refine pY 7 54 (fB 17 247) HT_.o ?_
 refine pY 9 56 (fB 17 759) HT_.o ?_
 refine tY 3 50 (fB 17 767) HT_.o HW_.o hHeld ?_
 refine tY 8 55 (fB 17 1023) HT_.o HW_.o hHeld ?_
 refine pY 10 57 (fB 17 2047) HT_.o ?_
 refine tY 11 58 (fB 17 4095) HT_.o HW_.o hHeld ?_
 refine tY 12 59 (fB 17 8191) HT_.o HW_.o hHeld ?_
 refine oN 13 60 (fB 17 16383) HT_.o fun K hK => ?_
 refine Kd.R_lit_step k46 _ 46 ?hg (N := 60) ?hd (xs := ([⟨x0, x1, x2⟩] : List S46)) (inner := [.int .i64 x0, .int .i64 x1, .int .i64 x2]) (ok := fun _ => True) (okp := fun _ => True) ?hr ?hp (fun _ hk => hk) trivial (Below.refl _ _) (Nat.le_refl _) (by simp) ?_; (case hd => rfl); (case hg => rfl); (case hr => first | (go_simp; done) | (go_simp; rfl)); (case hp => exact Reps.c3 (k46_mkM _ _ _ (⟨x0, x1, x2⟩ : S46)) (Reps.none _ _))
 intro vb w5 hrow hb5 hg_ hn_
 clear hg_ hn_
 rw [← NY.o] at hrow
 obtain ⟨Ab, cb, rfl⟩ := Kd.R_slice hrow
 have HRB := aM (Kd.R_reads' hrow)
 have BK4 := zBB BK3 hb5
 have BT4 := zBB BT3 hb5
 have HB4 := zLB HB3.o hb5
 clear hrow hb5 BK3 BT3 HB3
 refine hK.out _ _ ⟨(blk_cell BK4.o 2).trans rfl, (blk_cell BT4.o 0).trans rfl, (blk_cell BT4.o 1).trans rfl, (blk_cell BT4.o 2).trans rfl, (HB4.o.cell (World.block_lt_of_cell? w _ HX.o)).trans HX.o⟩ fun hHeld => ?_; clear hK K
 refine nZ 60 ?_
 refine oN 14 61 (fB 17 32767) HT_.o fun K hK => ?_
 have HBW := aM (below_then HB.o (Nat.le_trans HBG.o (Nat.le_of_lt (blk_lt BK.o))) HB4.o)
 have hbs : base ≤ w5.heap.size := Nat.le_trans (Nat.le_trans HBG.o (Nat.le_of_lt (blk_lt BK.o))) HB4.o.size
 refine Kd.R_append_rows_step k46 (w0 := w0) base (by rfl) (.tmp 58) (.tmp 60) 23 46 (.agg #[(.int .i64 0), (.int .i64 0), (.int .i64 0)]) 24 rfl Try.underlying23 info46 rfl (by decide) (by omega) _ xi yb _ _ _ (fun k => oki k ∨ (P2 k ∨ w.heap.size ≤ k) ∧ w5.heap.size ≤ k) (fun _ => False) rfl rfl ?aO ?aR (fun _ _ h => h) (fun _ h => h.elim) ?aF ?aB ?aS ?aL ?_
 (case aO => exact Kd.R_mono (Kd.R_below HRR.o HB4.o) (fun k h => .inl h))
 (case aR => exact HRB.o.2.2)
 (case aF => exact fun k hk => .inr ⟨.inr (Nat.le_trans HB4.o.size hk), hk⟩)
 (case aB => exact HBW.o)
 (case aS => exact hbs)
 (case aL => (have h1_ := HLEN.o; have h2_ : yb.length = 1 := (by rw [NY.o]; rfl); omega))
 intro vn w6 ho hb6 hg6 hat6
 clear hat6
 obtain ⟨yn, hyn⟩ : ∃ yn, yn = xi ++ yb := ⟨_, rfl⟩
 rw [← hyn] at ho
 have NYN := aM hyn
 clear hyn
 have hrk : ∀ k, (Value.slice As xi.length cs).ownBlock = some k → oki k := fun k hk => HRR.o.1 k hk
 have hoP : ∀ k, oki k → P2 k := fun k hk => (HOK.o k hk).1
 have HK6 := aM (Kept.of_grown hg6 (Kept.of_below HB4.o (fun k => oki k)) (fun k hk => .inl (hrk k hk)))
 have BK5 := aM (blk_grown BK4.o hg6 (fun e => (HO.o.2.1 g (hoP g (hrk g e.symm))).2 rfl))
 have BT5 := aM (blk_grown BT4.o hg6 (fun e => by have h_ := Kd.R_lt HRR.o gt e.symm; rw [GT.o] at h_; exact Nat.lt_irrefl _ h_))
 have HX5 := aM (cell_grown hg6 ((HB4.o.cell (World.block_lt_of_cell? w _ HX.o)).trans HX.o) (fun e => (HOK.o g1 (hrk g1 e.symm)).2 rfl))
 have HC5 := aM (blk_grown (blk_below HC1.o HB4.o) hg6 (fun e => (HOK.o g1 (hrk g1 e.symm)).2 rfl))
 have HH5 := aM (Kd.H_grown (Kd.H_widen (Kd.H_below (Kd.H_mono HHH.o (ok' := fun k => P2 k ∨ w.heap.size ≤ k) (fun k h => .inl h)) HB4.o)) hg6 (fun k hk => .inl (hrk k hk)))
 obtain ⟨An, cn, rfl⟩ := Kd.R_slice ho
 have HRN := aM ho
 have HB6 := aM hb6
 have HW5 := aM HB4.o.size
 have HG5 := aM (Nat.lt_of_lt_of_le (blk_lt HC1.o) HB4.o.size)
 clear ho hb6 hg6 hrk hoP hbs HBW HB4 BK4 BT4
 refine hK.out _ _ ⟨(blk_cell BK5.o 2).trans rfl, (blk_cell BT5.o 0).trans rfl, (blk_cell BT5.o 1).trans rfl, (blk_cell BT5.o 2).trans rfl, HX5.o⟩ fun hHeld => ?_; clear hK K
 refine nZ 61 ?_
 refine pY 15 62 (fB 17 65535) HT_.o ?_
 refine last_ (i := 16) (N := none) (fB 17 131071) rfl rfl (one_of HT_.o (by kernel_rfl)) (by decide) (fun K hK => ?_)
 have hxs6 := HX5.o
 have hfs6 : w6.frozen? ⟨g1, i.toNat, none⟩ = false := blk_frozen HC5.o _
 refine skip_ (w1 := ?_) (by rfl) rfl ?_ ?_
 rotate_left
 ·go_simp
  rfl
 refine hK.out _ _ ?_
 clear hK K
 refine done_ (done_of HT_.o (by kernel_rfl)) ?_
 try go_wp2
 go_end0
 have h0 : 0 ≤ i := of_eq_true p1
 have h8 : i < ((l2.length : Nat) : Int) := of_eq_true p2
 obtain ⟨hS, hG⟩ := slot_put HH5.o h0 h8 HRN.o (fun k hk => hk) (fun k hk => hk.elim (fun h => (HOK.o k h).2) (fun h e => by have h1_ := HG5.o; have h2_ := h.2; omega))
 have HKF := Kept.of_grown hG (HK6.o.mono (S' := P2) (fun k hk => (HOK.o k hk).1)) (fun k hk => .inl (by injection hk with hk; subst hk; exact (Kd.S_R HS2.o).1 _ rfl))
 rw [HM.o, ← HHI.o, HXI.o, ← NY.o, ← NYN.o]
 refine ⟨rfl, ws_far (blk_far BK5.o (fun e => GN.o e.symm) _) HO.o HD.o hS HS1.o HS3.o HKF, ?_, HKF.mono (fun k hk => .inl (HO.o.2.1 k hk).1)⟩
 exact HB6.o.grown hG (Nat.le_trans (Nat.le_trans HBG.o (Nat.le_of_lt (blk_lt BK.o))) HK6.o.1) (fun k hk => by injection hk with hk; subst hk; exact HG1.o)
set_option maxHeartbeats 8000000 in
set_option maxRecDepth 100000 in
theorem spec_l8Put.rest (a x0 x1 x2 : Int) (l1 l2 : List (List S46)) (l3 m : List S46) (g base : Nat) (ok : Nat → Prop) (w0 w : World) (hB : Below base w0 w) (hbg : base ≤ g) (H : WS a g base w ok l1 l2 l3)
  (ha : 0 ≤ a) (ha2 : a ≤ 2147483647) (hx : 0 ≤ x2) (hx2 : x2 ≤ 2147483647) (hlen : l3.length ≤ 1000000) (hc : x2 / 8 - a / 8 ≠ 0) (hc2 : ¬ x2 / 8 - a / 8 < 8) (hm : m = l3 ++ [⟨x0, x1, x2⟩]) :
  Calls Try.prog 73 #[.pointer (some ⟨g, 0, none⟩), .agg #[.int .i64 x0, .int .i64 x1, .int .i64 x2]] w fun e w' => e = .returned (.tuple #[]) ∧ WS a g base w' (fun k => ok k ∨ w.heap.size ≤ k) l1 l2 m ∧ Below base w0 w' ∧ Kept w w' (fun k => ok k ∨ k = g) := by
 obtain ⟨v1, v2, v3, hbk, hwr⟩ := H
 obtain ⟨P1, P2, P3, ⟨o1, o2, o3⟩, ⟨d1, d2, d3⟩, s1, s2, s3⟩ := hwr.types hbk (by decide) (by decide)
 obtain ⟨A3, c3, rfl⟩ := Kd.R_slice s3
 have BK := aM hbk
 have HO := aM (And.intro o1 (And.intro o2 o3))
 have HD := aM (And.intro d1 (And.intro d2 d3))
 have HS1 := aM s1
 have HS2 := aM s2
 have HS3 := aM s3
 have HB := aM hB
 have HLEN := aM hlen
 have HBG := aM hbg
 have HM := aM hm
 have e1 : wrap64 (Int.tdiv x2 8) = x2 / 8 := by rw [Int.tdiv_eq_ediv_of_nonneg hx]; unfold wrap64; omega
 have e2 : wrap64 (Int.tdiv a 8) = a / 8 := by rw [Int.tdiv_eq_ediv_of_nonneg ha]; unfold wrap64; omega
 have e3 : wrap64 (x2 / 8 - a / 8) = x2 / 8 - a / 8 := by unfold wrap64; omega
 have hpl : spec_l8Place.f a x2 = some (3, 0) := by
  unfold spec_l8Place.f
  rw [e1, e2, e3, if_neg (by omega), if_neg hc2]
 have HPL := aM hpl
 clear hpl e1 e2 e3
 clear hm hbk o1 o2 o3 d1 d2 d3 s1 s2 s3 hwr hlen hbg hB ha ha2 hx hx2 hc hc2
 have hu46 := Try.underlying46
 have hu25 := Try.underlying25
 go_enter Try.func73, Try.ntmps73
 go_wp2_with (first | ((with_reducible refine gD 3 rfl ?_); refine bE 3 #[.int .i64 x0, .int .i64 x1, .int .i64 x2] 46 ?_; intro gt hg w2 hbox hb; have BT := aM hbox; have GT := aM hg; have HB1 := aM hb; clear hbox hg hb))
 have BK2 := aM (blk_drew (blk_below BK.o HB1.o))
 have BT2 := zBD BT
 have HB2 := zLD HB1
 clear BT HB1
 refine start_ (n := 12) (S := fun w' => w'.cell? ⟨gt, 2, none⟩ = some (.int .i64 x2) ∧ w'.cell? ⟨g, 0, none⟩ = some (.int .i64 a)) (ds := []) (fB 12 0) (by kernel_rfl) rfl rfl ⟨(blk_cell BT2.o 2).trans rfl, (blk_cell BK2.o 0).trans rfl⟩ (fun hHeld => ?_); refine with_tabW spec_l8Put.tab1 spec_l8Put.bits1 (fun HT_ HW_ => ?_)
 generalize w2.drew = w3_ at BK2 BT2 HB2 hHeld ⊢
 refine pY 0 7 (fB 12 1) HT_.o ?_
 refine pY 1 8 (fB 12 3) HT_.o ?_
 refine pY 2 9 (fB 12 7) HT_.o ?_
 refine pY 4 11 (fB 12 23) HT_.o ?_
 refine tY 3 10 (fB 12 31) HT_.o HW_.o hHeld ?_
 refine tY 5 12 (fB 12 63) HT_.o HW_.o hHeld ?_
 refine oN 6 13 (fB 12 127) HT_.o fun K hK => ?_
 refine gS Try.func88 #[.int .i64 a, .int .i64 x2] ?_
 refine (spec_l8Place.calls a x2 3 0 _ HPL.o).mono ?_
 rintro e w3 ⟨rfl, hd⟩
 refine ⟨_, rfl, ?_⟩
 have hb3 := hd.below
 clear hd
 replace BK2 := zBB BK2 hb3
 replace BT2 := zBB BT2 hb3
 replace HB2 := zLB HB2.o hb3
 clear hb3
 refine hK.out _ _ ⟨(blk_cell BT2.o 2).trans rfl, (blk_cell BK2.o 0).trans rfl⟩ fun hHeld => ?_; clear hK K
 refine nZ 13 ?_
 refine pY 7 6 (fB 12 255) HT_.o ?_
 refine pY 8 14 (fB 12 511) HT_.o ?_
 refine pY 9 15 (fB 12 1023) HT_.o ?_
 refine pY 10 4 (fB 12 2047) HT_.o ?_
 refine pY 11 5 (fB 12 4095) HT_.o ?_
 refine done_ (done_of HT_.o (by kernel_rfl)) ?_
 have hcz := (blk_cell BT2.o 2).trans rfl
 try go_wp2
 obtain ⟨yb, hyb⟩ : ∃ yb : List S46, yb = [⟨x0, x1, x2⟩] := ⟨_, rfl⟩
 have NY := aM hyb
 clear hyb
 have BK3 := zBD BK2
 have BT3 := zBD BT2
 have HB3 := zLD HB2
 clear BK2 BT2 HB2 hcz
 refine start_ (n := 11) (S := fun w' => w'.cell? ⟨g, 3, none⟩ = some (.slice A3 l3.length c3) ∧ w'.cell? ⟨gt, 0, none⟩ = some (.int .i64 x0) ∧ w'.cell? ⟨gt, 1, none⟩ = some (.int .i64 x1) ∧ w'.cell? ⟨gt, 2, none⟩ = some (.int .i64 x2)) (ds := [10]) (fB 11 0) (by kernel_rfl) rfl rfl ⟨(blk_cell BK3.o 3).trans rfl, (blk_cell BT3.o 0).trans rfl, (blk_cell BT3.o 1).trans rfl, (blk_cell BT3.o 2).trans rfl⟩ (fun hHeld => ?_); refine with_tabW spec_l8Put.tab3 spec_l8Put.bits3 (fun HT_ HW_ => ?_)
 generalize w3.drew = w4 at BK3 BT3 HB3 hHeld ⊢
 refine pY 0 17 (fB 11 1) HT_.o ?_
 refine pY 1 18 (fB 11 3) HT_.o ?_
 refine pY 2 19 (fB 11 7) HT_.o ?_
 refine pY 3 20 (fB 11 15) HT_.o ?_
 refine tY 4 21 (fB 11 31) HT_.o HW_.o hHeld ?_
 refine tY 5 22 (fB 11 63) HT_.o HW_.o hHeld ?_
 refine oN 6 23 (fB 11 127) HT_.o fun K hK => ?_
 refine Kd.R_lit_step k46 _ 46 ?hg (N := 23) ?hd (xs := ([⟨x0, x1, x2⟩] : List S46)) (inner := [.int .i64 x0, .int .i64 x1, .int .i64 x2]) (ok := fun _ => True) (okp := fun _ => True) ?hr ?hp (fun _ hk => hk) trivial (Below.refl _ _) (Nat.le_refl _) (by simp) ?_; (case hd => rfl); (case hg => rfl); (case hr => first | (go_simp; done) | (go_simp; rfl)); (case hp => exact Reps.c3 (k46_mkM _ _ _ (⟨x0, x1, x2⟩ : S46)) (Reps.none _ _))
 intro vb w5 hrow hb5 hg_ hn_
 clear hg_ hn_
 rw [← NY.o] at hrow
 obtain ⟨Ab, cb, rfl⟩ := Kd.R_slice hrow
 have HRB := aM (Kd.R_reads' hrow)
 have BK4 := zBB BK3 hb5
 have BT4 := zBB BT3 hb5
 have HB4 := zLB HB3.o hb5
 clear hrow hb5 BK3 BT3 HB3
 refine hK.out _ _ ⟨(blk_cell BK4.o 3).trans rfl, (blk_cell BT4.o 0).trans rfl, (blk_cell BT4.o 1).trans rfl, (blk_cell BT4.o 2).trans rfl⟩ fun hHeld => ?_; clear hK K
 refine nZ 23 ?_
 refine oN 7 24 (fB 11 255) HT_.o fun K hK => ?_
 have HBW := aM (below_then HB.o (Nat.le_trans HBG.o (Nat.le_of_lt (blk_lt BK.o))) HB4.o)
 have hbs : base ≤ w5.heap.size := Nat.le_trans (Nat.le_trans HBG.o (Nat.le_of_lt (blk_lt BK.o))) HB4.o.size
 refine Kd.R_append_rows_step k46 (w0 := w0) base (by rfl) (.tmp 21) (.tmp 23) 23 46 (.agg #[(.int .i64 0), (.int .i64 0), (.int .i64 0)]) 24 rfl Try.underlying23 info46 rfl (by decide) (by omega) _ l3 yb _ _ _ (fun k => P3 k ∨ w.heap.size ≤ k) (fun _ => False) rfl rfl ?aO ?aR (fun _ _ h => h) (fun _ h => h.elim) ?aF ?aB ?aS ?aL ?_
 (case aO => exact Kd.R_mono (Kd.R_below HS3.o HB4.o) (fun k h => .inl h))
 (case aR => exact HRB.o.2.2)
 (case aF => exact fun k hk => .inr (Nat.le_trans HB4.o.size hk))
 (case aB => exact HBW.o)
 (case aS => exact hbs)
 (case aL => (have h1_ := HLEN.o; have h2_ : yb.length = 1 := (by rw [NY.o]; rfl); omega))
 intro vn w6 ho hb6 hg6 hat6
 clear hat6
 obtain ⟨yn, hyn⟩ : ∃ yn, yn = l3 ++ yb := ⟨_, rfl⟩
 rw [← hyn] at ho
 have NYN := aM hyn
 clear hyn
 have hrk : ∀ k, (Value.slice A3 l3.length c3).ownBlock = some k → P3 k := fun k hk => HS3.o.1 k hk
 have HK6 := aM (Kept.of_grown hg6 (Kept.of_below HB4.o (fun k => P3 k)) (fun k hk => .inl (hrk k hk)))
 have BK5 := aM (blk_grown BK4.o hg6 (fun e => (HO.o.2.2 g (hrk g e.symm)).2 rfl))
 have BT5 := aM (blk_grown BT4.o hg6 (fun e => by have h_ := Kd.R_lt HS3.o gt e.symm; rw [GT.o] at h_; exact Nat.lt_irrefl _ h_))
 obtain ⟨An, cn, rfl⟩ := Kd.R_slice ho
 have HRN := aM ho
 have HB6 := aM hb6
 clear ho hb6 hg6 hrk hbs HBW HB4 BK4 BT4
 refine hK.out _ _ ⟨(blk_cell BK5.o 3).trans rfl, (blk_cell BT5.o 0).trans rfl, (blk_cell BT5.o 1).trans rfl, (blk_cell BT5.o 2).trans rfl⟩ fun hHeld => ?_; clear hK K
 refine nZ 24 ?_
 refine pY 8 25 (fB 11 511) HT_.o ?_
 refine pY 9 26 (fB 11 1023) HT_.o ?_
 refine last_ (i := 10) (N := none) (fB 11 2047) rfl rfl (one_of HT_.o (by kernel_rfl)) (by decide) (fun K hK => ?_)
 have hcs6 := (blk_cell BK5.o 3).trans rfl
 have hfs6 := blk_frozen BK5.o 3
 refine skip_ (w1 := ?_) (by rfl) rfl ?_ ?_
 rotate_left
 ·go_simp
  rfl
 refine hK.out _ _ ?_
 clear hK K
 refine done_ (done_of HT_.o (by kernel_rfl)) ?_
 try go_wp2
 go_end0
 have HKF := (HK6.o.mono (S' := fun k => P3 k ∨ k = g) (fun k hk => .inl hk)).setCell (p := ⟨g, 3, none⟩) (.inl (.inr rfl)) (.slice An yn.length cn)
 rw [HM.o, ← NY.o, ← NYN.o]
 refine ⟨rfl, ws_rest (blk_put BK5.o 3 _ rfl) HO.o HD.o (Kd.R_far (p := ⟨g, 3, none⟩) HRN.o (fun k hk => hk.elim (fun h => (HO.o.2.2 k h).2) (fun h e => by have h_ := blk_lt BK.o; have e_ : k = g := e; omega)) _) HS1.o HS2.o HKF, ?_, HKF.mono (fun k hk => hk.elim (fun h => .inl (HO.o.2.2 k h).1) .inr)⟩
 exact HB6.o.setCell HBG.o _
theorem spec_l8Put.calls (a x0 x1 x2 : Int) (l1 l2 : List (List S46)) (l3 : List S46) (g base : Nat) (ok : Nat → Prop) (w0 w : World) (hB : Below base w0 w) (hbg : base ≤ g) (H : WS a g base w ok l1 l2 l3) (h : layOk a ⟨x0, x1, x2⟩ l1 l2 l3 = true) (m1 m2 : List (List S46)) (m3 : List S46) (hm : layV a ⟨x0, x1, x2⟩ l1 l2 l3 = (m1, m2, m3)) :
  Calls Try.prog 73 #[.pointer (some ⟨g, 0, none⟩), .agg #[.int .i64 x0, .int .i64 x1, .int .i64 x2]] w fun e w' => e = .returned (.tuple #[]) ∧ WS a g base w' (fun k => ok k ∨ w.heap.size ≤ k) m1 m2 m3 ∧ Below base w0 w' ∧ Kept w w' (fun k => ok k ∨ k = g) := by
 obtain ⟨h1, h2, h3, h4, h5, h6, h7, h8, h9⟩ := layOk_spec h
 simp only at h3 h4
 unfold layV at hm
 simp only at hm
 by_cases c : x2 / 8 - a / 8 = 0
 ·rw [if_pos c] at hm
  simp only [Prod.mk.injEq] at hm
  obtain ⟨e1, rfl, rfl⟩ := hm
  exact spec_l8Put.near a x0 x1 x2 l1 l2 m1 l3 g base ok w0 w hB hbg H h1 h2 h3 h4 h5 (getD_len l1 h7 _) c e1.symm
 ·rw [if_neg c] at hm
  by_cases c2 : x2 / 8 - a / 8 < 8
  ·rw [if_pos c2] at hm
   simp only [Prod.mk.injEq] at hm
   obtain ⟨rfl, e1, rfl⟩ := hm
   exact spec_l8Put.far a x0 x1 x2 l1 l2 m2 l3 g base ok w0 w hB hbg H h1 h2 h3 h4 h6 (getD_len l2 h8 _) c c2 e1.symm
  ·rw [if_neg c2] at hm
   simp only [Prod.mk.injEq] at hm
   obtain ⟨rfl, rfl, e1⟩ := hm
   exact spec_l8Put.rest a x0 x1 x2 l1 l2 l3 m3 g base ok w0 w hB hbg H h1 h2 h3 h4 h9 c c2 e1.symm

def spec_Put.f (k : Nat) (a : Int) (l1 l2 : List (List S46)) (l3 : List S46) (x0 x1 x2 : Int) : Option (Int × List (List S46) × List (List S46) × List S46 × Bool) := (spec_l8Copy.f k a l1 l2 l3).bind fun c => (if c.1 = a then (spec_WheelOk.f k a l1 l2 l3).bind fun b1 => (if b1 = true then (if x2 ≤ a then some (c.1, c.2.1, c.2.2.1, c.2.2.2, false) else if x2 > 2147483647 then some (c.1, c.2.1, c.2.2.1, c.2.2.2, false) else (if layOk c.1 ⟨x0, x1, x2⟩ c.2.1 c.2.2.1 c.2.2.2 = true then (spec_WheelOk.f k c.1 (layV c.1 ⟨x0, x1, x2⟩ c.2.1 c.2.2.1 c.2.2.2).1 (layV c.1 ⟨x0, x1, x2⟩ c.2.1 c.2.2.1 c.2.2.2).2.1 (layV c.1 ⟨x0, x1, x2⟩ c.2.1 c.2.2.1 c.2.2.2).2.2).bind fun b2 => (if b2 = true then some (c.1, (layV c.1 ⟨x0, x1, x2⟩ c.2.1 c.2.2.1 c.2.2.2).1, (layV c.1 ⟨x0, x1, x2⟩ c.2.1 c.2.2.1 c.2.2.2).2.1, (layV c.1 ⟨x0, x1, x2⟩ c.2.1 c.2.2.1 c.2.2.2).2.2, true) else some (c.1, c.2.1, c.2.2.1, c.2.2.2, false)) else none)) else some (c.1, c.2.1, c.2.2.1, c.2.2.2, false)) else none)
set_option maxHeartbeats 8000000 in
set_option maxRecDepth 100000 in
theorem spec_Put.callsW (k : Nat) (a : Int) (A1 : Option Addr) (c1 : Nat) (l1 : List (List S46)) (A2 : Option Addr) (c2 : Nat) (l2 : List (List S46)) (A3 : Option Addr) (c3 : Nat) (l3 : List S46) (x0 x1 x2 : Int) (r1 : Int) (r2 r3 : List (List S46)) (r4 : List S46) (r5 : Bool) (w : World) (hr1 : Kd.C (Kd.slice 46 k46) w A1 l1.length l1) (hc1 : l1.length ≤ c1) (hr2 : Kd.C (Kd.slice 46 k46) w A2 l2.length l2) (hc2 : l2.length ≤ c2) (hr3 : Kd.C k46 w A3 l3.length l3) (hc3 : l3.length ≤ c3) (h : spec_Put.f k a l1 l2 l3 x0 x1 x2 = some (r1, r2, r3, r4, r5)) :
  Calls Try.prog 31 #[.agg #[.int .i64 a, .slice A1 l1.length c1, .slice A2 l2.length c2, .slice A3 l3.length c3], .agg #[.int .i64 x0, .int .i64 x1, .int .i64 x2]] w fun e w' => ∃ v1_ v2_ v3_ : Value, e = .returned (.tuple #[.agg #[.int .i64 r1, v1_, v2_, v3_], .bool r5]) ∧ WR w' w.heap.size (fun _ => True) v1_ v2_ v3_ r2 r3 r4 ∧ Below w.heap.size w w' := by
 have hu25 := Try.underlying25
 have hu46 := Try.underlying46
 unfold spec_Put.f at h
 obtain ⟨⟨y0, y1, y2, y3⟩, AC, h⟩ := zO h
 simp only at h
 by_cases ey : y0 = a
 ·rw [if_pos ey] at h
  subst ey
  obtain ⟨b1, AO, h⟩ := zO h
  have HR1 := aM hr1
  have HR2 := aM hr2
  have HR3 := aM hr3
  have HC1 := aM hc1
  have HC2 := aM hc2
  have HC3 := aM hc3
  have HB := aM (Below.refl w.heap.size w)
  clear hr1 hr2 hr3 hc1 hc2 hc3
  cases b1 with
  | false =>
   rw [if_neg (by simp)] at h
   simp only [Option.some.injEq, Prod.mk.injEq] at h
   obtain ⟨rfl, rfl, rfl, rfl, rfl⟩ := h
   go_enter Try.func31, Try.ntmps31
   go_wp2_with (first | ((with_reducible refine gD 2 rfl ?_); refine bE 2 #[.int .i64 y0, .slice A1 l1.length c1, .slice A2 l2.length c2, .slice A3 l3.length c3] 25 ?_; intro g2 hg w2_ hbox hb; have GE2 := aM (zg HB.o hg : w.heap.size ≤ g2);  have BK2 := aM hbox;  replace HB := zLB HB.o hb; clear hb; clear hbox hg; (try clear hz2_); have hz2_ := zc4 BK2.o;) | ((with_reducible refine gD 3 rfl ?_); refine bE 3 #[.int .i64 x0, .int .i64 x1, .int .i64 x2] 46 ?_; intro g3 hg w3_ hbox hb; have GE3 := aM (zg HB.o hg : w.heap.size ≤ g3); have N2_3 := aM (zN BK2.o hg : g2 ≠ g3); have BK3 := aM hbox; replace BK2 := zBB BK2 hb; replace HB := zLB HB.o hb; clear hb; clear hbox hg; (try clear hz2_); have hz2_ := zc4 BK2.o; (try clear hz3_); have hz3_ := zc3_ BK3.o;) | ((with_reducible refine gD 4 rfl ?_); refine bE 4 #[.int .i64 0, .slice none 0 0, .slice none 0 0, .slice none 0 0] 25 ?_; intro g4 hg w4_ hbox hb; have GE4 := aM (zg HB.o hg : w.heap.size ≤ g4); have N2_4 := aM (zN BK2.o hg : g2 ≠ g4); have N3_4 := aM (zN BK3.o hg : g3 ≠ g4); have BK4 := aM hbox; replace BK2 := zBB BK2 hb; replace BK3 := zBB BK3 hb; replace HB := zLB HB.o hb; clear hb; clear hbox hg; (try clear hz2_); have hz2_ := zc4 BK2.o; (try clear hz3_); have hz3_ := zc3_ BK3.o; (try clear hz4_); have hz4_ := zc4 BK4.o;) | ((with_reducible refine gC 72 rfl ?_); refine gL 8 Try.func72 #[.agg #[.int .i64 y0, .slice A1 l1.length c1, .slice A2 l2.length c2, .slice A3 l3.length c3]] ?_; (refine (spec_l8Copy.callsW k y0 A1 c1 l1 A2 c2 l2 A3 c3 l3 y0 y1 y2 y3 _ ?s1 HC1.o ?s2 HC2.o ?s3 HC3.o AC.o).mono ?_); (case s1 => exact Kd.C_below HR1.o HB.o); (case s2 => exact Kd.C_below HR2.o HB.o); (case s3 => exact Kd.C_below HR3.o HB.o); rintro e w8_ ⟨v1, v2, v3, rfl, hw_, hb⟩; obtain ⟨B1, q1, B2, q2, B3, q3, rfl, rfl, rfl, _, _, _, _⟩ := hw_.reads; refine ⟨_, rfl, ?_⟩; have F2 := aM (blk_lt BK2.o); have F3 := aM (blk_lt BK3.o); have F4 := aM (blk_lt BK4.o); obtain ⟨n0, hn0_⟩ : ∃ n0, n0 = _ := ⟨_, rfl⟩; have HWR := aM ((hw_.bound.mono (ok' := fun k_ => n0 ≤ k_) (fun k_ h_ => by rw [hn0_]; exact h_.2.1)).lower HB.o.size); have FN := aM (hb.size); rw [← hn0_] at F2 F3 F4 FN; clear hw_ hn0_; replace BK2 := zBB BK2 hb; replace BK3 := zBB BK3 hb; replace BK4 := zBB BK4 hb; replace HB := zLB HB.o hb; clear hb; (try clear hz2_); have hz2_ := zc4 BK2.o; (try clear hz3_); have hz3_ := zc3_ BK3.o; (try clear hz4_); have hz4_ := zc4 BK4.o;) | ((with_reducible refine gD 6 rfl ?_); refine bE 6 #[.int .i64 0, .slice none 0 0, .slice none 0 0, .slice none 0 0] 25 ?_; intro g6 hg w6_ hbox hb; have GE6 := aM (zg HB.o hg : w.heap.size ≤ g6); have N2_6 := aM (zN BK2.o hg : g2 ≠ g6); have N3_6 := aM (zN BK3.o hg : g3 ≠ g6); have N4_6 := aM (zN BK4.o hg : g4 ≠ g6); replace HWR := aM (HWR.o.below hb); have FN6 := aM (by rw [hg]; exact FN.o : n0 ≤ g6); clear FN; have BK6 := aM hbox; replace BK2 := zBB BK2 hb; replace BK3 := zBB BK3 hb; replace BK4 := zBB BK4 hb; replace HB := zLB HB.o hb; clear hb; clear hbox hg; (try clear hz2_); have hz2_ := zc4 BK2.o; (try clear hz3_); have hz3_ := zc3_ BK3.o; (try clear hz4_); have hz4_ := zc4 BK4.o; (try clear hz6_); have hz6_ := zc4 BK6.o;) | ((with_reducible refine gate_store (t := 25) (p := 6) rfl ?_); refine store_event (t := 25) (p := 6) (v := ?vo61_) (w1 := ((((w6_.setCell ⟨g6, 0, none⟩ (.int .i64 y0)).setCell ⟨g6, 1, none⟩ (.slice B1 y1.length q1)).setCell ⟨g6, 2, none⟩ (.slice B2 y2.length q2)).setCell ⟨g6, 3, none⟩ (.slice B3 y3.length q3))) ?hg ?ho ?hn ?hr ?_; (case ho => rfl); (case hg => rfl); (case hn => rfl); (case hr => (have hs0_ := (blk_cell BK6.o 0).trans rfl; have hf0_ := blk_frozen BK6.o 0; have hs1_ := (blk_cell BK6.o 1).trans rfl; have hf1_ := blk_frozen BK6.o 1; have hs2_ := (blk_cell BK6.o 2).trans rfl; have hf2_ := blk_frozen BK6.o 2; have hs3_ := (blk_cell BK6.o 3).trans rfl; have hf3_ := blk_frozen BK6.o 3; (try clear hz2_); have hz2_ := zc4 BK2.o; (try clear hz3_); have hz3_ := zc3_ BK3.o; (try clear hz4_); have hz4_ := zc4 BK4.o; first | (go_simp; done) | (go_simp; rfl))); intro w8 hw_; have HK_ := set4_kept hw_; have BKn := aM (set4_blk hw_ BK6.o rfl); have HBn := aM (set4_below hw_ HB.o GE6.o); replace BK2 := aM (blk_kept BK2.o HK_ (N2_6.o)); replace BK3 := aM (blk_kept BK3.o HK_ (N3_6.o)); replace BK4 := aM (blk_kept BK4.o HK_ (N4_6.o)); replace HWR := aM (((HWR.o.types BK6.o (by decide) (by decide)).kept HK_ (fun _ h_ => h_.2)).mono (ok' := fun k_ => n0 ≤ k_) (fun _ h_ => h_.1)); clear hw_ BK6 HB; have BK6 := BKn; have HB := HBn; clear BKn HBn HK_; (try clear hz2_); have hz2_ := zc4 BK2.o; (try clear hz3_); have hz3_ := zc3_ BK3.o; (try clear hz4_); have hz4_ := zc4 BK4.o; (try clear hz6_); have hz6_ := zc4 BK6.o;) | ((with_reducible refine gC 29 rfl ?_); refine gL 10 Try.func29 #[.agg #[.int .i64 y0, .slice A1 l1.length c1, .slice A2 l2.length c2, .slice A3 l3.length c3]] ?_; (refine (spec_WheelOk.calls k y0 A1 c1 l1 A2 c2 l2 A3 c3 l3 false _ ?s1 ?t1 ?s2 ?t2 ?s3 ?t3 AO.o).mono ?_); (case s1 => exact Kd.C_below HR1.o HB.o); (case s2 => exact Kd.C_below HR2.o HB.o); (case s3 => exact Kd.C_below HR3.o HB.o); (case t1 => exact HC1.o); (case t2 => exact HC2.o); (case t3 => exact HC3.o); rintro e w10 ⟨rfl, hb⟩; refine ⟨_, rfl, ?_⟩; replace BK2 := zBB BK2 hb; replace BK3 := zBB BK3 hb; replace BK4 := zBB BK4 hb; replace BK6 := zBB BK6 hb; replace HWR := aM (HWR.o.below hb); replace HB := zLB HB.o hb; clear hb; (try clear hz2_); have hz2_ := zc4 BK2.o; (try clear hz3_); have hz3_ := zc3_ BK3.o; (try clear hz4_); have hz4_ := zc4 BK4.o; (try clear hz6_); have hz6_ := zc4 BK6.o;) | ((with_reducible refine gC 73 rfl ?_); refine gL 26 Try.func73 #[.pointer (some ⟨g6, 0, none⟩), .agg #[.int .i64 x0, .int .i64 x1, .int .i64 x2]] ?_; (refine (spec_l8Put.calls y0 x0 x1 x2 y1 y2 y3 g6 w.heap.size (fun k_ => n0 ≤ k_) w _ HB.o GE6.o ⟨_, _, _, BK6.o, HWR.o⟩ AL.o m1 m2 m3 AV.o).mono ?_); rintro e w23 ⟨rfl, hs_, hb, hk_⟩; refine ⟨_, rfl, ?_⟩; replace BK2 := aM (blk_kept BK2.o hk_ (fun h_ => h_.elim (fun h_ => by have f_ := F2.o; omega) N2_6.o)); replace BK3 := aM (blk_kept BK3.o hk_ (fun h_ => h_.elim (fun h_ => by have f_ := F3.o; omega) N3_6.o)); replace BK4 := aM (blk_kept BK4.o hk_ (fun h_ => h_.elim (fun h_ => by have f_ := F4.o; omega) N4_6.o)); have q_ := blk_lt BK6.o; clear BK6 HB HWR; have HB := aM hb; have HS := aM (hs_.mono (ok' := fun k_ => n0 ≤ k_) (fun k_ h_ => h_.elim id (fun h_ => by have f_ := FN6.o; omega))); clear hb hk_ hs_ q_; obtain ⟨u1, u2, u3, hu_, hw_⟩ := HS.o; obtain ⟨D1, p1, D2, p2, D3, p3, rfl, rfl, rfl, ⟨t1_, t2_, t3_⟩, r1_, r2_, r3_⟩ := hw_.reads; have BK6 := aM hu_; have HWR := aM hw_; have HQ := aM (And.intro t1_ (And.intro t2_ (And.intro t3_ (And.intro r1_ (And.intro r2_ r3_))))); clear hu_ hw_ t1_ t2_ t3_ r1_ r2_ r3_ HS; (try clear hz2_); have hz2_ := zc4 BK2.o; (try clear hz3_); have hz3_ := zc3_ BK3.o; (try clear hz4_); have hz4_ := zc4 BK4.o; (try clear hz6_); have hz6_ := zc4 BK6.o;) | ((with_reducible refine gC 29 rfl ?_); refine gL 28 Try.func29 #[.agg #[.int .i64 y0, .slice D1 m1.length p1, .slice D2 m2.length p2, .slice D3 m3.length p3]] ?_; (refine (spec_WheelOk.calls k y0 D1 p1 m1 D2 p2 m2 D3 p3 m3 true _ HQ.o.2.2.2.1 HQ.o.1 HQ.o.2.2.2.2.1 HQ.o.2.1 HQ.o.2.2.2.2.2 HQ.o.2.2.1 AP.o).mono ?_); rintro e w25 ⟨rfl, hb⟩; refine ⟨_, rfl, ?_⟩; replace HWR := aM (HWR.o.below hb); clear HQ; replace BK2 := zBB BK2 hb; replace BK3 := zBB BK3 hb; replace BK4 := zBB BK4 hb; replace BK6 := zBB BK6 hb; replace HB := zLB HB.o hb; clear hb; (try clear hz2_); have hz2_ := zc4 BK2.o; (try clear hz3_); have hz3_ := zc3_ BK3.o; (try clear hz4_); have hz4_ := zc4 BK4.o; (try clear hz6_); have hz6_ := zc4 BK6.o;) | ((with_reducible refine gate_store (t := 25) (p := 4) rfl ?_); refine store_event (t := 25) (p := 4) (v := ?voF0_) (w1 := ((((w10.setCell ⟨g4, 0, none⟩ (.int .i64 y0)).setCell ⟨g4, 1, none⟩ (.slice B1 y1.length q1)).setCell ⟨g4, 2, none⟩ (.slice B2 y2.length q2)).setCell ⟨g4, 3, none⟩ (.slice B3 y3.length q3))) ?hg ?ho ?hn ?hr ?_; (case ho => rfl); (case hg => rfl); (case hn => rfl); (case hr => (have hs0_ := (blk_cell BK4.o 0).trans rfl; have hf0_ := blk_frozen BK4.o 0; have hs1_ := (blk_cell BK4.o 1).trans rfl; have hf1_ := blk_frozen BK4.o 1; have hs2_ := (blk_cell BK4.o 2).trans rfl; have hf2_ := blk_frozen BK4.o 2; have hs3_ := (blk_cell BK4.o 3).trans rfl; have hf3_ := blk_frozen BK4.o 3; first | (go_simp; done) | (go_simp; rfl))); intro wF hw_; have HK_ := set4_kept hw_; have BKn := aM (set4_blk hw_ BK4.o rfl); have HBn := aM (set4_below hw_ HB.o GE4.o); have HF := aM (((HWR.o.types BK4.o (by decide) (by decide)).kept HK_ (fun _ h_ => h_.2)).mono (ok' := fun _ => True) (fun _ _ => trivial)); clear hw_ BK4 HB; have BK4 := BKn; have HB := HBn; clear BKn HBn HK_))
   refine bodyPost_ret (results_ct rfl _ _ g4 25 #[.int .i64 y0, .slice B1 y1.length q1, .slice B2 y2.length q2, .slice B3 y3.length q3] (0, 0) _ rfl (by exact BK4.o) Try.underlying25 rfl (by kernel_rfl)) rfl ?_
   exact ⟨_, _, _, rfl, HF.o, HB.o⟩
  | true =>
   rw [if_pos rfl] at h
   by_cases e1 : x2 ≤ y0
   ·rw [if_pos e1] at h
    simp only [Option.some.injEq, Prod.mk.injEq] at h
    obtain ⟨rfl, rfl, rfl, rfl, rfl⟩ := h
    have e1b := dT e1
    have e1t := eq_true e1
    clear e1
    go_enter Try.func31, Try.ntmps31
    go_wp2_with (first | ((with_reducible refine gD 2 rfl ?_); refine bE 2 #[.int .i64 y0, .slice A1 l1.length c1, .slice A2 l2.length c2, .slice A3 l3.length c3] 25 ?_; intro g2 hg w2_ hbox hb; have GE2 := aM (zg HB.o hg : w.heap.size ≤ g2);  have BK2 := aM hbox;  replace HB := zLB HB.o hb; clear hb; clear hbox hg; (try clear hz2_); have hz2_ := zc4 BK2.o;) | ((with_reducible refine gD 3 rfl ?_); refine bE 3 #[.int .i64 x0, .int .i64 x1, .int .i64 x2] 46 ?_; intro g3 hg w3_ hbox hb; have GE3 := aM (zg HB.o hg : w.heap.size ≤ g3); have N2_3 := aM (zN BK2.o hg : g2 ≠ g3); have BK3 := aM hbox; replace BK2 := zBB BK2 hb; replace HB := zLB HB.o hb; clear hb; clear hbox hg; (try clear hz2_); have hz2_ := zc4 BK2.o; (try clear hz3_); have hz3_ := zc3_ BK3.o;) | ((with_reducible refine gD 4 rfl ?_); refine bE 4 #[.int .i64 0, .slice none 0 0, .slice none 0 0, .slice none 0 0] 25 ?_; intro g4 hg w4_ hbox hb; have GE4 := aM (zg HB.o hg : w.heap.size ≤ g4); have N2_4 := aM (zN BK2.o hg : g2 ≠ g4); have N3_4 := aM (zN BK3.o hg : g3 ≠ g4); have BK4 := aM hbox; replace BK2 := zBB BK2 hb; replace BK3 := zBB BK3 hb; replace HB := zLB HB.o hb; clear hb; clear hbox hg; (try clear hz2_); have hz2_ := zc4 BK2.o; (try clear hz3_); have hz3_ := zc3_ BK3.o; (try clear hz4_); have hz4_ := zc4 BK4.o;) | ((with_reducible refine gC 72 rfl ?_); refine gL 8 Try.func72 #[.agg #[.int .i64 y0, .slice A1 l1.length c1, .slice A2 l2.length c2, .slice A3 l3.length c3]] ?_; (refine (spec_l8Copy.callsW k y0 A1 c1 l1 A2 c2 l2 A3 c3 l3 y0 y1 y2 y3 _ ?s1 HC1.o ?s2 HC2.o ?s3 HC3.o AC.o).mono ?_); (case s1 => exact Kd.C_below HR1.o HB.o); (case s2 => exact Kd.C_below HR2.o HB.o); (case s3 => exact Kd.C_below HR3.o HB.o); rintro e w8_ ⟨v1, v2, v3, rfl, hw_, hb⟩; obtain ⟨B1, q1, B2, q2, B3, q3, rfl, rfl, rfl, _, _, _, _⟩ := hw_.reads; refine ⟨_, rfl, ?_⟩; have F2 := aM (blk_lt BK2.o); have F3 := aM (blk_lt BK3.o); have F4 := aM (blk_lt BK4.o); obtain ⟨n0, hn0_⟩ : ∃ n0, n0 = _ := ⟨_, rfl⟩; have HWR := aM ((hw_.bound.mono (ok' := fun k_ => n0 ≤ k_) (fun k_ h_ => by rw [hn0_]; exact h_.2.1)).lower HB.o.size); have FN := aM (hb.size); rw [← hn0_] at F2 F3 F4 FN; clear hw_ hn0_; replace BK2 := zBB BK2 hb; replace BK3 := zBB BK3 hb; replace BK4 := zBB BK4 hb; replace HB := zLB HB.o hb; clear hb; (try clear hz2_); have hz2_ := zc4 BK2.o; (try clear hz3_); have hz3_ := zc3_ BK3.o; (try clear hz4_); have hz4_ := zc4 BK4.o;) | ((with_reducible refine gD 6 rfl ?_); refine bE 6 #[.int .i64 0, .slice none 0 0, .slice none 0 0, .slice none 0 0] 25 ?_; intro g6 hg w6_ hbox hb; have GE6 := aM (zg HB.o hg : w.heap.size ≤ g6); have N2_6 := aM (zN BK2.o hg : g2 ≠ g6); have N3_6 := aM (zN BK3.o hg : g3 ≠ g6); have N4_6 := aM (zN BK4.o hg : g4 ≠ g6); replace HWR := aM (HWR.o.below hb); have FN6 := aM (by rw [hg]; exact FN.o : n0 ≤ g6); clear FN; have BK6 := aM hbox; replace BK2 := zBB BK2 hb; replace BK3 := zBB BK3 hb; replace BK4 := zBB BK4 hb; replace HB := zLB HB.o hb; clear hb; clear hbox hg; (try clear hz2_); have hz2_ := zc4 BK2.o; (try clear hz3_); have hz3_ := zc3_ BK3.o; (try clear hz4_); have hz4_ := zc4 BK4.o; (try clear hz6_); have hz6_ := zc4 BK6.o;) | ((with_reducible refine gate_store (t := 25) (p := 6) rfl ?_); refine store_event (t := 25) (p := 6) (v := ?vo63_) (w1 := ((((w6_.setCell ⟨g6, 0, none⟩ (.int .i64 y0)).setCell ⟨g6, 1, none⟩ (.slice B1 y1.length q1)).setCell ⟨g6, 2, none⟩ (.slice B2 y2.length q2)).setCell ⟨g6, 3, none⟩ (.slice B3 y3.length q3))) ?hg ?ho ?hn ?hr ?_; (case ho => rfl); (case hg => rfl); (case hn => rfl); (case hr => (have hs0_ := (blk_cell BK6.o 0).trans rfl; have hf0_ := blk_frozen BK6.o 0; have hs1_ := (blk_cell BK6.o 1).trans rfl; have hf1_ := blk_frozen BK6.o 1; have hs2_ := (blk_cell BK6.o 2).trans rfl; have hf2_ := blk_frozen BK6.o 2; have hs3_ := (blk_cell BK6.o 3).trans rfl; have hf3_ := blk_frozen BK6.o 3; (try clear hz2_); have hz2_ := zc4 BK2.o; (try clear hz3_); have hz3_ := zc3_ BK3.o; (try clear hz4_); have hz4_ := zc4 BK4.o; first | (go_simp; done) | (go_simp; rfl))); intro w8 hw_; have HK_ := set4_kept hw_; have BKn := aM (set4_blk hw_ BK6.o rfl); have HBn := aM (set4_below hw_ HB.o GE6.o); replace BK2 := aM (blk_kept BK2.o HK_ (N2_6.o)); replace BK3 := aM (blk_kept BK3.o HK_ (N3_6.o)); replace BK4 := aM (blk_kept BK4.o HK_ (N4_6.o)); replace HWR := aM (((HWR.o.types BK6.o (by decide) (by decide)).kept HK_ (fun _ h_ => h_.2)).mono (ok' := fun k_ => n0 ≤ k_) (fun _ h_ => h_.1)); clear hw_ BK6 HB; have BK6 := BKn; have HB := HBn; clear BKn HBn HK_; (try clear hz2_); have hz2_ := zc4 BK2.o; (try clear hz3_); have hz3_ := zc3_ BK3.o; (try clear hz4_); have hz4_ := zc4 BK4.o; (try clear hz6_); have hz6_ := zc4 BK6.o;) | ((with_reducible refine gC 29 rfl ?_); refine gL 10 Try.func29 #[.agg #[.int .i64 y0, .slice A1 l1.length c1, .slice A2 l2.length c2, .slice A3 l3.length c3]] ?_; (refine (spec_WheelOk.calls k y0 A1 c1 l1 A2 c2 l2 A3 c3 l3 true _ ?s1 ?t1 ?s2 ?t2 ?s3 ?t3 AO.o).mono ?_); (case s1 => exact Kd.C_below HR1.o HB.o); (case s2 => exact Kd.C_below HR2.o HB.o); (case s3 => exact Kd.C_below HR3.o HB.o); (case t1 => exact HC1.o); (case t2 => exact HC2.o); (case t3 => exact HC3.o); rintro e w10 ⟨rfl, hb⟩; refine ⟨_, rfl, ?_⟩; replace BK2 := zBB BK2 hb; replace BK3 := zBB BK3 hb; replace BK4 := zBB BK4 hb; replace BK6 := zBB BK6 hb; replace HWR := aM (HWR.o.below hb); replace HB := zLB HB.o hb; clear hb; (try clear hz2_); have hz2_ := zc4 BK2.o; (try clear hz3_); have hz3_ := zc3_ BK3.o; (try clear hz4_); have hz4_ := zc4 BK4.o; (try clear hz6_); have hz6_ := zc4 BK6.o;) | ((with_reducible refine gC 73 rfl ?_); refine gL 26 Try.func73 #[.pointer (some ⟨g6, 0, none⟩), .agg #[.int .i64 x0, .int .i64 x1, .int .i64 x2]] ?_; (refine (spec_l8Put.calls y0 x0 x1 x2 y1 y2 y3 g6 w.heap.size (fun k_ => n0 ≤ k_) w _ HB.o GE6.o ⟨_, _, _, BK6.o, HWR.o⟩ AL.o m1 m2 m3 AV.o).mono ?_); rintro e w23 ⟨rfl, hs_, hb, hk_⟩; refine ⟨_, rfl, ?_⟩; replace BK2 := aM (blk_kept BK2.o hk_ (fun h_ => h_.elim (fun h_ => by have f_ := F2.o; omega) N2_6.o)); replace BK3 := aM (blk_kept BK3.o hk_ (fun h_ => h_.elim (fun h_ => by have f_ := F3.o; omega) N3_6.o)); replace BK4 := aM (blk_kept BK4.o hk_ (fun h_ => h_.elim (fun h_ => by have f_ := F4.o; omega) N4_6.o)); have q_ := blk_lt BK6.o; clear BK6 HB HWR; have HB := aM hb; have HS := aM (hs_.mono (ok' := fun k_ => n0 ≤ k_) (fun k_ h_ => h_.elim id (fun h_ => by have f_ := FN6.o; omega))); clear hb hk_ hs_ q_; obtain ⟨u1, u2, u3, hu_, hw_⟩ := HS.o; obtain ⟨D1, p1, D2, p2, D3, p3, rfl, rfl, rfl, ⟨t1_, t2_, t3_⟩, r1_, r2_, r3_⟩ := hw_.reads; have BK6 := aM hu_; have HWR := aM hw_; have HQ := aM (And.intro t1_ (And.intro t2_ (And.intro t3_ (And.intro r1_ (And.intro r2_ r3_))))); clear hu_ hw_ t1_ t2_ t3_ r1_ r2_ r3_ HS; (try clear hz2_); have hz2_ := zc4 BK2.o; (try clear hz3_); have hz3_ := zc3_ BK3.o; (try clear hz4_); have hz4_ := zc4 BK4.o; (try clear hz6_); have hz6_ := zc4 BK6.o;) | ((with_reducible refine gC 29 rfl ?_); refine gL 28 Try.func29 #[.agg #[.int .i64 y0, .slice D1 m1.length p1, .slice D2 m2.length p2, .slice D3 m3.length p3]] ?_; (refine (spec_WheelOk.calls k y0 D1 p1 m1 D2 p2 m2 D3 p3 m3 true _ HQ.o.2.2.2.1 HQ.o.1 HQ.o.2.2.2.2.1 HQ.o.2.1 HQ.o.2.2.2.2.2 HQ.o.2.2.1 AP.o).mono ?_); rintro e w25 ⟨rfl, hb⟩; refine ⟨_, rfl, ?_⟩; replace HWR := aM (HWR.o.below hb); clear HQ; replace BK2 := zBB BK2 hb; replace BK3 := zBB BK3 hb; replace BK4 := zBB BK4 hb; replace BK6 := zBB BK6 hb; replace HB := zLB HB.o hb; clear hb; (try clear hz2_); have hz2_ := zc4 BK2.o; (try clear hz3_); have hz3_ := zc3_ BK3.o; (try clear hz4_); have hz4_ := zc4 BK4.o; (try clear hz6_); have hz6_ := zc4 BK6.o;) | ((with_reducible refine gate_store (t := 25) (p := 4) rfl ?_); refine store_event (t := 25) (p := 4) (v := ?voF2_) (w1 := ((((w10.setCell ⟨g4, 0, none⟩ (.int .i64 y0)).setCell ⟨g4, 1, none⟩ (.slice B1 y1.length q1)).setCell ⟨g4, 2, none⟩ (.slice B2 y2.length q2)).setCell ⟨g4, 3, none⟩ (.slice B3 y3.length q3))) ?hg ?ho ?hn ?hr ?_; (case ho => rfl); (case hg => rfl); (case hn => rfl); (case hr => (have hs0_ := (blk_cell BK4.o 0).trans rfl; have hf0_ := blk_frozen BK4.o 0; have hs1_ := (blk_cell BK4.o 1).trans rfl; have hf1_ := blk_frozen BK4.o 1; have hs2_ := (blk_cell BK4.o 2).trans rfl; have hf2_ := blk_frozen BK4.o 2; have hs3_ := (blk_cell BK4.o 3).trans rfl; have hf3_ := blk_frozen BK4.o 3; first | (go_simp; done) | (go_simp; rfl))); intro wF hw_; have HK_ := set4_kept hw_; have BKn := aM (set4_blk hw_ BK4.o rfl); have HBn := aM (set4_below hw_ HB.o GE4.o); have HF := aM (((HWR.o.types BK4.o (by decide) (by decide)).kept HK_ (fun _ h_ => h_.2)).mono (ok' := fun _ => True) (fun _ _ => trivial)); clear hw_ BK4 HB; have BK4 := BKn; have HB := HBn; clear BKn HBn HK_))
    refine bodyPost_ret (results_ct rfl _ _ g4 25 #[.int .i64 y0, .slice B1 y1.length q1, .slice B2 y2.length q2, .slice B3 y3.length q3] (0, 0) _ rfl (by exact BK4.o) Try.underlying25 rfl (by kernel_rfl)) rfl ?_
    exact ⟨_, _, _, rfl, HF.o, HB.o⟩
   ·rw [if_neg e1] at h
    by_cases e2 : x2 > 2147483647
    ·rw [if_pos e2] at h
     simp only [Option.some.injEq, Prod.mk.injEq] at h
     obtain ⟨rfl, rfl, rfl, rfl, rfl⟩ := h
     have e1b := dF e1
     have e1t := eq_false e1
     have e2b := dT e2
     have e2t := eq_true e2
     clear e1 e2
     go_enter Try.func31, Try.ntmps31
     go_wp2_with (first | ((with_reducible refine gD 2 rfl ?_); refine bE 2 #[.int .i64 y0, .slice A1 l1.length c1, .slice A2 l2.length c2, .slice A3 l3.length c3] 25 ?_; intro g2 hg w2_ hbox hb; have GE2 := aM (zg HB.o hg : w.heap.size ≤ g2);  have BK2 := aM hbox;  replace HB := zLB HB.o hb; clear hb; clear hbox hg; (try clear hz2_); have hz2_ := zc4 BK2.o;) | ((with_reducible refine gD 3 rfl ?_); refine bE 3 #[.int .i64 x0, .int .i64 x1, .int .i64 x2] 46 ?_; intro g3 hg w3_ hbox hb; have GE3 := aM (zg HB.o hg : w.heap.size ≤ g3); have N2_3 := aM (zN BK2.o hg : g2 ≠ g3); have BK3 := aM hbox; replace BK2 := zBB BK2 hb; replace HB := zLB HB.o hb; clear hb; clear hbox hg; (try clear hz2_); have hz2_ := zc4 BK2.o; (try clear hz3_); have hz3_ := zc3_ BK3.o;) | ((with_reducible refine gD 4 rfl ?_); refine bE 4 #[.int .i64 0, .slice none 0 0, .slice none 0 0, .slice none 0 0] 25 ?_; intro g4 hg w4_ hbox hb; have GE4 := aM (zg HB.o hg : w.heap.size ≤ g4); have N2_4 := aM (zN BK2.o hg : g2 ≠ g4); have N3_4 := aM (zN BK3.o hg : g3 ≠ g4); have BK4 := aM hbox; replace BK2 := zBB BK2 hb; replace BK3 := zBB BK3 hb; replace HB := zLB HB.o hb; clear hb; clear hbox hg; (try clear hz2_); have hz2_ := zc4 BK2.o; (try clear hz3_); have hz3_ := zc3_ BK3.o; (try clear hz4_); have hz4_ := zc4 BK4.o;) | ((with_reducible refine gC 72 rfl ?_); refine gL 8 Try.func72 #[.agg #[.int .i64 y0, .slice A1 l1.length c1, .slice A2 l2.length c2, .slice A3 l3.length c3]] ?_; (refine (spec_l8Copy.callsW k y0 A1 c1 l1 A2 c2 l2 A3 c3 l3 y0 y1 y2 y3 _ ?s1 HC1.o ?s2 HC2.o ?s3 HC3.o AC.o).mono ?_); (case s1 => exact Kd.C_below HR1.o HB.o); (case s2 => exact Kd.C_below HR2.o HB.o); (case s3 => exact Kd.C_below HR3.o HB.o); rintro e w8_ ⟨v1, v2, v3, rfl, hw_, hb⟩; obtain ⟨B1, q1, B2, q2, B3, q3, rfl, rfl, rfl, _, _, _, _⟩ := hw_.reads; refine ⟨_, rfl, ?_⟩; have F2 := aM (blk_lt BK2.o); have F3 := aM (blk_lt BK3.o); have F4 := aM (blk_lt BK4.o); obtain ⟨n0, hn0_⟩ : ∃ n0, n0 = _ := ⟨_, rfl⟩; have HWR := aM ((hw_.bound.mono (ok' := fun k_ => n0 ≤ k_) (fun k_ h_ => by rw [hn0_]; exact h_.2.1)).lower HB.o.size); have FN := aM (hb.size); rw [← hn0_] at F2 F3 F4 FN; clear hw_ hn0_; replace BK2 := zBB BK2 hb; replace BK3 := zBB BK3 hb; replace BK4 := zBB BK4 hb; replace HB := zLB HB.o hb; clear hb; (try clear hz2_); have hz2_ := zc4 BK2.o; (try clear hz3_); have hz3_ := zc3_ BK3.o; (try clear hz4_); have hz4_ := zc4 BK4.o;) | ((with_reducible refine gD 6 rfl ?_); refine bE 6 #[.int .i64 0, .slice none 0 0, .slice none 0 0, .slice none 0 0] 25 ?_; intro g6 hg w6_ hbox hb; have GE6 := aM (zg HB.o hg : w.heap.size ≤ g6); have N2_6 := aM (zN BK2.o hg : g2 ≠ g6); have N3_6 := aM (zN BK3.o hg : g3 ≠ g6); have N4_6 := aM (zN BK4.o hg : g4 ≠ g6); replace HWR := aM (HWR.o.below hb); have FN6 := aM (by rw [hg]; exact FN.o : n0 ≤ g6); clear FN; have BK6 := aM hbox; replace BK2 := zBB BK2 hb; replace BK3 := zBB BK3 hb; replace BK4 := zBB BK4 hb; replace HB := zLB HB.o hb; clear hb; clear hbox hg; (try clear hz2_); have hz2_ := zc4 BK2.o; (try clear hz3_); have hz3_ := zc3_ BK3.o; (try clear hz4_); have hz4_ := zc4 BK4.o; (try clear hz6_); have hz6_ := zc4 BK6.o;) | ((with_reducible refine gate_store (t := 25) (p := 6) rfl ?_); refine store_event (t := 25) (p := 6) (v := ?vo65_) (w1 := ((((w6_.setCell ⟨g6, 0, none⟩ (.int .i64 y0)).setCell ⟨g6, 1, none⟩ (.slice B1 y1.length q1)).setCell ⟨g6, 2, none⟩ (.slice B2 y2.length q2)).setCell ⟨g6, 3, none⟩ (.slice B3 y3.length q3))) ?hg ?ho ?hn ?hr ?_; (case ho => rfl); (case hg => rfl); (case hn => rfl); (case hr => (have hs0_ := (blk_cell BK6.o 0).trans rfl; have hf0_ := blk_frozen BK6.o 0; have hs1_ := (blk_cell BK6.o 1).trans rfl; have hf1_ := blk_frozen BK6.o 1; have hs2_ := (blk_cell BK6.o 2).trans rfl; have hf2_ := blk_frozen BK6.o 2; have hs3_ := (blk_cell BK6.o 3).trans rfl; have hf3_ := blk_frozen BK6.o 3; (try clear hz2_); have hz2_ := zc4 BK2.o; (try clear hz3_); have hz3_ := zc3_ BK3.o; (try clear hz4_); have hz4_ := zc4 BK4.o; first | (go_simp; done) | (go_simp; rfl))); intro w8 hw_; have HK_ := set4_kept hw_; have BKn := aM (set4_blk hw_ BK6.o rfl); have HBn := aM (set4_below hw_ HB.o GE6.o); replace BK2 := aM (blk_kept BK2.o HK_ (N2_6.o)); replace BK3 := aM (blk_kept BK3.o HK_ (N3_6.o)); replace BK4 := aM (blk_kept BK4.o HK_ (N4_6.o)); replace HWR := aM (((HWR.o.types BK6.o (by decide) (by decide)).kept HK_ (fun _ h_ => h_.2)).mono (ok' := fun k_ => n0 ≤ k_) (fun _ h_ => h_.1)); clear hw_ BK6 HB; have BK6 := BKn; have HB := HBn; clear BKn HBn HK_; (try clear hz2_); have hz2_ := zc4 BK2.o; (try clear hz3_); have hz3_ := zc3_ BK3.o; (try clear hz4_); have hz4_ := zc4 BK4.o; (try clear hz6_); have hz6_ := zc4 BK6.o;) | ((with_reducible refine gC 29 rfl ?_); refine gL 10 Try.func29 #[.agg #[.int .i64 y0, .slice A1 l1.length c1, .slice A2 l2.length c2, .slice A3 l3.length c3]] ?_; (refine (spec_WheelOk.calls k y0 A1 c1 l1 A2 c2 l2 A3 c3 l3 true _ ?s1 ?t1 ?s2 ?t2 ?s3 ?t3 AO.o).mono ?_); (case s1 => exact Kd.C_below HR1.o HB.o); (case s2 => exact Kd.C_below HR2.o HB.o); (case s3 => exact Kd.C_below HR3.o HB.o); (case t1 => exact HC1.o); (case t2 => exact HC2.o); (case t3 => exact HC3.o); rintro e w10 ⟨rfl, hb⟩; refine ⟨_, rfl, ?_⟩; replace BK2 := zBB BK2 hb; replace BK3 := zBB BK3 hb; replace BK4 := zBB BK4 hb; replace BK6 := zBB BK6 hb; replace HWR := aM (HWR.o.below hb); replace HB := zLB HB.o hb; clear hb; (try clear hz2_); have hz2_ := zc4 BK2.o; (try clear hz3_); have hz3_ := zc3_ BK3.o; (try clear hz4_); have hz4_ := zc4 BK4.o; (try clear hz6_); have hz6_ := zc4 BK6.o;) | ((with_reducible refine gC 73 rfl ?_); refine gL 26 Try.func73 #[.pointer (some ⟨g6, 0, none⟩), .agg #[.int .i64 x0, .int .i64 x1, .int .i64 x2]] ?_; (refine (spec_l8Put.calls y0 x0 x1 x2 y1 y2 y3 g6 w.heap.size (fun k_ => n0 ≤ k_) w _ HB.o GE6.o ⟨_, _, _, BK6.o, HWR.o⟩ AL.o m1 m2 m3 AV.o).mono ?_); rintro e w23 ⟨rfl, hs_, hb, hk_⟩; refine ⟨_, rfl, ?_⟩; replace BK2 := aM (blk_kept BK2.o hk_ (fun h_ => h_.elim (fun h_ => by have f_ := F2.o; omega) N2_6.o)); replace BK3 := aM (blk_kept BK3.o hk_ (fun h_ => h_.elim (fun h_ => by have f_ := F3.o; omega) N3_6.o)); replace BK4 := aM (blk_kept BK4.o hk_ (fun h_ => h_.elim (fun h_ => by have f_ := F4.o; omega) N4_6.o)); have q_ := blk_lt BK6.o; clear BK6 HB HWR; have HB := aM hb; have HS := aM (hs_.mono (ok' := fun k_ => n0 ≤ k_) (fun k_ h_ => h_.elim id (fun h_ => by have f_ := FN6.o; omega))); clear hb hk_ hs_ q_; obtain ⟨u1, u2, u3, hu_, hw_⟩ := HS.o; obtain ⟨D1, p1, D2, p2, D3, p3, rfl, rfl, rfl, ⟨t1_, t2_, t3_⟩, r1_, r2_, r3_⟩ := hw_.reads; have BK6 := aM hu_; have HWR := aM hw_; have HQ := aM (And.intro t1_ (And.intro t2_ (And.intro t3_ (And.intro r1_ (And.intro r2_ r3_))))); clear hu_ hw_ t1_ t2_ t3_ r1_ r2_ r3_ HS; (try clear hz2_); have hz2_ := zc4 BK2.o; (try clear hz3_); have hz3_ := zc3_ BK3.o; (try clear hz4_); have hz4_ := zc4 BK4.o; (try clear hz6_); have hz6_ := zc4 BK6.o;) | ((with_reducible refine gC 29 rfl ?_); refine gL 28 Try.func29 #[.agg #[.int .i64 y0, .slice D1 m1.length p1, .slice D2 m2.length p2, .slice D3 m3.length p3]] ?_; (refine (spec_WheelOk.calls k y0 D1 p1 m1 D2 p2 m2 D3 p3 m3 true _ HQ.o.2.2.2.1 HQ.o.1 HQ.o.2.2.2.2.1 HQ.o.2.1 HQ.o.2.2.2.2.2 HQ.o.2.2.1 AP.o).mono ?_); rintro e w25 ⟨rfl, hb⟩; refine ⟨_, rfl, ?_⟩; replace HWR := aM (HWR.o.below hb); clear HQ; replace BK2 := zBB BK2 hb; replace BK3 := zBB BK3 hb; replace BK4 := zBB BK4 hb; replace BK6 := zBB BK6 hb; replace HB := zLB HB.o hb; clear hb; (try clear hz2_); have hz2_ := zc4 BK2.o; (try clear hz3_); have hz3_ := zc3_ BK3.o; (try clear hz4_); have hz4_ := zc4 BK4.o; (try clear hz6_); have hz6_ := zc4 BK6.o;) | ((with_reducible refine gate_store (t := 25) (p := 4) rfl ?_); refine store_event (t := 25) (p := 4) (v := ?voF4_) (w1 := ((((w10.setCell ⟨g4, 0, none⟩ (.int .i64 y0)).setCell ⟨g4, 1, none⟩ (.slice B1 y1.length q1)).setCell ⟨g4, 2, none⟩ (.slice B2 y2.length q2)).setCell ⟨g4, 3, none⟩ (.slice B3 y3.length q3))) ?hg ?ho ?hn ?hr ?_; (case ho => rfl); (case hg => rfl); (case hn => rfl); (case hr => (have hs0_ := (blk_cell BK4.o 0).trans rfl; have hf0_ := blk_frozen BK4.o 0; have hs1_ := (blk_cell BK4.o 1).trans rfl; have hf1_ := blk_frozen BK4.o 1; have hs2_ := (blk_cell BK4.o 2).trans rfl; have hf2_ := blk_frozen BK4.o 2; have hs3_ := (blk_cell BK4.o 3).trans rfl; have hf3_ := blk_frozen BK4.o 3; first | (go_simp; done) | (go_simp; rfl))); intro wF hw_; have HK_ := set4_kept hw_; have BKn := aM (set4_blk hw_ BK4.o rfl); have HBn := aM (set4_below hw_ HB.o GE4.o); have HF := aM (((HWR.o.types BK4.o (by decide) (by decide)).kept HK_ (fun _ h_ => h_.2)).mono (ok' := fun _ => True) (fun _ _ => trivial)); clear hw_ BK4 HB; have BK4 := BKn; have HB := HBn; clear BKn HBn HK_))
     refine bodyPost_ret (results_ct rfl _ _ g4 25 #[.int .i64 y0, .slice B1 y1.length q1, .slice B2 y2.length q2, .slice B3 y3.length q3] (0, 0) _ rfl (by exact BK4.o) Try.underlying25 rfl (by kernel_rfl)) rfl ?_
     exact ⟨_, _, _, rfl, HF.o, HB.o⟩
    ·rw [if_neg e2] at h
     have e1b := dF e1
     have e1t := eq_false e1
     have e2b := dF e2
     have e2t := eq_false e2
     clear e1 e2
     obtain ⟨⟨m1, m2, m3⟩, hv⟩ : ∃ m, layV y0 ⟨x0, x1, x2⟩ y1 y2 y3 = m := ⟨_, rfl⟩
     rw [hv] at h
     simp only at h
     by_cases hl : layOk y0 ⟨x0, x1, x2⟩ y1 y2 y3 = true
     ·rw [if_pos hl] at h
      have AL := aM hl
      have AV := aM hv
      clear hl hv
      obtain ⟨b2, AP, h⟩ := zO h
      cases b2 with
      | false =>
       rw [if_neg (by simp)] at h
       simp only [Option.some.injEq, Prod.mk.injEq] at h
       obtain ⟨rfl, rfl, rfl, rfl, rfl⟩ := h
       go_enter Try.func31, Try.ntmps31
       go_wp2_with (first | ((with_reducible refine gD 2 rfl ?_); refine bE 2 #[.int .i64 y0, .slice A1 l1.length c1, .slice A2 l2.length c2, .slice A3 l3.length c3] 25 ?_; intro g2 hg w2_ hbox hb; have GE2 := aM (zg HB.o hg : w.heap.size ≤ g2);  have BK2 := aM hbox;  replace HB := zLB HB.o hb; clear hb; clear hbox hg; (try clear hz2_); have hz2_ := zc4 BK2.o;) | ((with_reducible refine gD 3 rfl ?_); refine bE 3 #[.int .i64 x0, .int .i64 x1, .int .i64 x2] 46 ?_; intro g3 hg w3_ hbox hb; have GE3 := aM (zg HB.o hg : w.heap.size ≤ g3); have N2_3 := aM (zN BK2.o hg : g2 ≠ g3); have BK3 := aM hbox; replace BK2 := zBB BK2 hb; replace HB := zLB HB.o hb; clear hb; clear hbox hg; (try clear hz2_); have hz2_ := zc4 BK2.o; (try clear hz3_); have hz3_ := zc3_ BK3.o;) | ((with_reducible refine gD 4 rfl ?_); refine bE 4 #[.int .i64 0, .slice none 0 0, .slice none 0 0, .slice none 0 0] 25 ?_; intro g4 hg w4_ hbox hb; have GE4 := aM (zg HB.o hg : w.heap.size ≤ g4); have N2_4 := aM (zN BK2.o hg : g2 ≠ g4); have N3_4 := aM (zN BK3.o hg : g3 ≠ g4); have BK4 := aM hbox; replace BK2 := zBB BK2 hb; replace BK3 := zBB BK3 hb; replace HB := zLB HB.o hb; clear hb; clear hbox hg; (try clear hz2_); have hz2_ := zc4 BK2.o; (try clear hz3_); have hz3_ := zc3_ BK3.o; (try clear hz4_); have hz4_ := zc4 BK4.o;) | ((with_reducible refine gC 72 rfl ?_); refine gL 8 Try.func72 #[.agg #[.int .i64 y0, .slice A1 l1.length c1, .slice A2 l2.length c2, .slice A3 l3.length c3]] ?_; (refine (spec_l8Copy.callsW k y0 A1 c1 l1 A2 c2 l2 A3 c3 l3 y0 y1 y2 y3 _ ?s1 HC1.o ?s2 HC2.o ?s3 HC3.o AC.o).mono ?_); (case s1 => exact Kd.C_below HR1.o HB.o); (case s2 => exact Kd.C_below HR2.o HB.o); (case s3 => exact Kd.C_below HR3.o HB.o); rintro e w8_ ⟨v1, v2, v3, rfl, hw_, hb⟩; obtain ⟨B1, q1, B2, q2, B3, q3, rfl, rfl, rfl, _, _, _, _⟩ := hw_.reads; refine ⟨_, rfl, ?_⟩; have F2 := aM (blk_lt BK2.o); have F3 := aM (blk_lt BK3.o); have F4 := aM (blk_lt BK4.o); obtain ⟨n0, hn0_⟩ : ∃ n0, n0 = _ := ⟨_, rfl⟩; have HWR := aM ((hw_.bound.mono (ok' := fun k_ => n0 ≤ k_) (fun k_ h_ => by rw [hn0_]; exact h_.2.1)).lower HB.o.size); have FN := aM (hb.size); rw [← hn0_] at F2 F3 F4 FN; clear hw_ hn0_; replace BK2 := zBB BK2 hb; replace BK3 := zBB BK3 hb; replace BK4 := zBB BK4 hb; replace HB := zLB HB.o hb; clear hb; (try clear hz2_); have hz2_ := zc4 BK2.o; (try clear hz3_); have hz3_ := zc3_ BK3.o; (try clear hz4_); have hz4_ := zc4 BK4.o;) | ((with_reducible refine gD 6 rfl ?_); refine bE 6 #[.int .i64 0, .slice none 0 0, .slice none 0 0, .slice none 0 0] 25 ?_; intro g6 hg w6_ hbox hb; have GE6 := aM (zg HB.o hg : w.heap.size ≤ g6); have N2_6 := aM (zN BK2.o hg : g2 ≠ g6); have N3_6 := aM (zN BK3.o hg : g3 ≠ g6); have N4_6 := aM (zN BK4.o hg : g4 ≠ g6); replace HWR := aM (HWR.o.below hb); have FN6 := aM (by rw [hg]; exact FN.o : n0 ≤ g6); clear FN; have BK6 := aM hbox; replace BK2 := zBB BK2 hb; replace BK3 := zBB BK3 hb; replace BK4 := zBB BK4 hb; replace HB := zLB HB.o hb; clear hb; clear hbox hg; (try clear hz2_); have hz2_ := zc4 BK2.o; (try clear hz3_); have hz3_ := zc3_ BK3.o; (try clear hz4_); have hz4_ := zc4 BK4.o; (try clear hz6_); have hz6_ := zc4 BK6.o;) | ((with_reducible refine gate_store (t := 25) (p := 6) rfl ?_); refine store_event (t := 25) (p := 6) (v := ?vo67_) (w1 := ((((w6_.setCell ⟨g6, 0, none⟩ (.int .i64 y0)).setCell ⟨g6, 1, none⟩ (.slice B1 y1.length q1)).setCell ⟨g6, 2, none⟩ (.slice B2 y2.length q2)).setCell ⟨g6, 3, none⟩ (.slice B3 y3.length q3))) ?hg ?ho ?hn ?hr ?_; (case ho => rfl); (case hg => rfl); (case hn => rfl); (case hr => (have hs0_ := (blk_cell BK6.o 0).trans rfl; have hf0_ := blk_frozen BK6.o 0; have hs1_ := (blk_cell BK6.o 1).trans rfl; have hf1_ := blk_frozen BK6.o 1; have hs2_ := (blk_cell BK6.o 2).trans rfl; have hf2_ := blk_frozen BK6.o 2; have hs3_ := (blk_cell BK6.o 3).trans rfl; have hf3_ := blk_frozen BK6.o 3; (try clear hz2_); have hz2_ := zc4 BK2.o; (try clear hz3_); have hz3_ := zc3_ BK3.o; (try clear hz4_); have hz4_ := zc4 BK4.o; first | (go_simp; done) | (go_simp; rfl))); intro w8 hw_; have HK_ := set4_kept hw_; have BKn := aM (set4_blk hw_ BK6.o rfl); have HBn := aM (set4_below hw_ HB.o GE6.o); replace BK2 := aM (blk_kept BK2.o HK_ (N2_6.o)); replace BK3 := aM (blk_kept BK3.o HK_ (N3_6.o)); replace BK4 := aM (blk_kept BK4.o HK_ (N4_6.o)); replace HWR := aM (((HWR.o.types BK6.o (by decide) (by decide)).kept HK_ (fun _ h_ => h_.2)).mono (ok' := fun k_ => n0 ≤ k_) (fun _ h_ => h_.1)); clear hw_ BK6 HB; have BK6 := BKn; have HB := HBn; clear BKn HBn HK_; (try clear hz2_); have hz2_ := zc4 BK2.o; (try clear hz3_); have hz3_ := zc3_ BK3.o; (try clear hz4_); have hz4_ := zc4 BK4.o; (try clear hz6_); have hz6_ := zc4 BK6.o;) | ((with_reducible refine gC 29 rfl ?_); refine gL 10 Try.func29 #[.agg #[.int .i64 y0, .slice A1 l1.length c1, .slice A2 l2.length c2, .slice A3 l3.length c3]] ?_; (refine (spec_WheelOk.calls k y0 A1 c1 l1 A2 c2 l2 A3 c3 l3 true _ ?s1 ?t1 ?s2 ?t2 ?s3 ?t3 AO.o).mono ?_); (case s1 => exact Kd.C_below HR1.o HB.o); (case s2 => exact Kd.C_below HR2.o HB.o); (case s3 => exact Kd.C_below HR3.o HB.o); (case t1 => exact HC1.o); (case t2 => exact HC2.o); (case t3 => exact HC3.o); rintro e w10 ⟨rfl, hb⟩; refine ⟨_, rfl, ?_⟩; replace BK2 := zBB BK2 hb; replace BK3 := zBB BK3 hb; replace BK4 := zBB BK4 hb; replace BK6 := zBB BK6 hb; replace HWR := aM (HWR.o.below hb); replace HB := zLB HB.o hb; clear hb; (try clear hz2_); have hz2_ := zc4 BK2.o; (try clear hz3_); have hz3_ := zc3_ BK3.o; (try clear hz4_); have hz4_ := zc4 BK4.o; (try clear hz6_); have hz6_ := zc4 BK6.o;) | ((with_reducible refine gC 73 rfl ?_); refine gL 26 Try.func73 #[.pointer (some ⟨g6, 0, none⟩), .agg #[.int .i64 x0, .int .i64 x1, .int .i64 x2]] ?_; (refine (spec_l8Put.calls y0 x0 x1 x2 y1 y2 y3 g6 w.heap.size (fun k_ => n0 ≤ k_) w _ HB.o GE6.o ⟨_, _, _, BK6.o, HWR.o⟩ AL.o m1 m2 m3 AV.o).mono ?_); rintro e w23 ⟨rfl, hs_, hb, hk_⟩; refine ⟨_, rfl, ?_⟩; replace BK2 := aM (blk_kept BK2.o hk_ (fun h_ => h_.elim (fun h_ => by have f_ := F2.o; omega) N2_6.o)); replace BK3 := aM (blk_kept BK3.o hk_ (fun h_ => h_.elim (fun h_ => by have f_ := F3.o; omega) N3_6.o)); replace BK4 := aM (blk_kept BK4.o hk_ (fun h_ => h_.elim (fun h_ => by have f_ := F4.o; omega) N4_6.o)); have q_ := blk_lt BK6.o; clear BK6 HB HWR; have HB := aM hb; have HS := aM (hs_.mono (ok' := fun k_ => n0 ≤ k_) (fun k_ h_ => h_.elim id (fun h_ => by have f_ := FN6.o; omega))); clear hb hk_ hs_ q_; obtain ⟨u1, u2, u3, hu_, hw_⟩ := HS.o; obtain ⟨D1, p1, D2, p2, D3, p3, rfl, rfl, rfl, ⟨t1_, t2_, t3_⟩, r1_, r2_, r3_⟩ := hw_.reads; have BK6 := aM hu_; have HWR := aM hw_; have HQ := aM (And.intro t1_ (And.intro t2_ (And.intro t3_ (And.intro r1_ (And.intro r2_ r3_))))); clear hu_ hw_ t1_ t2_ t3_ r1_ r2_ r3_ HS; (try clear hz2_); have hz2_ := zc4 BK2.o; (try clear hz3_); have hz3_ := zc3_ BK3.o; (try clear hz4_); have hz4_ := zc4 BK4.o; (try clear hz6_); have hz6_ := zc4 BK6.o;) | ((with_reducible refine gC 29 rfl ?_); refine gL 28 Try.func29 #[.agg #[.int .i64 y0, .slice D1 m1.length p1, .slice D2 m2.length p2, .slice D3 m3.length p3]] ?_; (refine (spec_WheelOk.calls k y0 D1 p1 m1 D2 p2 m2 D3 p3 m3 false _ HQ.o.2.2.2.1 HQ.o.1 HQ.o.2.2.2.2.1 HQ.o.2.1 HQ.o.2.2.2.2.2 HQ.o.2.2.1 AP.o).mono ?_); rintro e w25 ⟨rfl, hb⟩; refine ⟨_, rfl, ?_⟩; replace HWR := aM (HWR.o.below hb); clear HQ; replace BK2 := zBB BK2 hb; replace BK3 := zBB BK3 hb; replace BK4 := zBB BK4 hb; replace BK6 := zBB BK6 hb; replace HB := zLB HB.o hb; clear hb; (try clear hz2_); have hz2_ := zc4 BK2.o; (try clear hz3_); have hz3_ := zc3_ BK3.o; (try clear hz4_); have hz4_ := zc4 BK4.o; (try clear hz6_); have hz6_ := zc4 BK6.o;) | ((with_reducible refine gC 72 rfl ?_); refine gL 31 Try.func72 #[.agg #[.int .i64 y0, .slice A1 l1.length c1, .slice A2 l2.length c2, .slice A3 l3.length c3]] ?_; (refine (spec_l8Copy.callsW k y0 A1 c1 l1 A2 c2 l2 A3 c3 l3 y0 y1 y2 y3 _ ?s1 HC1.o ?s2 HC2.o ?s3 HC3.o AC.o).mono ?_); (case s1 => exact Kd.C_below HR1.o HB.o); (case s2 => exact Kd.C_below HR2.o HB.o); (case s3 => exact Kd.C_below HR3.o HB.o); rintro e w28_ ⟨v1, v2, v3, rfl, hw_, hb⟩; obtain ⟨E1, s1, E2, s2, E3, s3, rfl, rfl, rfl, _, _, _, _⟩ := hw_.reads; refine ⟨_, rfl, ?_⟩; have HWX := aM (hw_.lower HB.o.size); clear hw_; replace BK2 := zBB BK2 hb; replace BK3 := zBB BK3 hb; replace BK4 := zBB BK4 hb; replace BK6 := zBB BK6 hb; replace HB := zLB HB.o hb; clear hb; (try clear hz2_); have hz2_ := zc4 BK2.o; (try clear hz3_); have hz3_ := zc3_ BK3.o; (try clear hz4_); have hz4_ := zc4 BK4.o; (try clear hz6_); have hz6_ := zc4 BK6.o;) | ((with_reducible refine gate_store (t := 25) (p := 4) rfl ?_); refine store_event (t := 25) (p := 4) (v := ?voF6_) (w1 := ((((w28_.setCell ⟨g4, 0, none⟩ (.int .i64 y0)).setCell ⟨g4, 1, none⟩ (.slice E1 y1.length s1)).setCell ⟨g4, 2, none⟩ (.slice E2 y2.length s2)).setCell ⟨g4, 3, none⟩ (.slice E3 y3.length s3))) ?hg ?ho ?hn ?hr ?_; (case ho => rfl); (case hg => rfl); (case hn => rfl); (case hr => (have hs0_ := (blk_cell BK4.o 0).trans rfl; have hf0_ := blk_frozen BK4.o 0; have hs1_ := (blk_cell BK4.o 1).trans rfl; have hf1_ := blk_frozen BK4.o 1; have hs2_ := (blk_cell BK4.o 2).trans rfl; have hf2_ := blk_frozen BK4.o 2; have hs3_ := (blk_cell BK4.o 3).trans rfl; have hf3_ := blk_frozen BK4.o 3; first | (go_simp; done) | (go_simp; rfl))); intro wF hw_; have HK_ := set4_kept hw_; have BKn := aM (set4_blk hw_ BK4.o rfl); have HBn := aM (set4_below hw_ HB.o GE4.o); have HF := aM (((HWX.o.types BK4.o (by decide) (by decide)).kept HK_ (fun _ h_ => h_.2)).mono (ok' := fun _ => True) (fun _ _ => trivial)); clear hw_ BK4 HB; have BK4 := BKn; have HB := HBn; clear BKn HBn HK_))
       refine bodyPost_ret (results_ct rfl _ _ g4 25 #[.int .i64 y0, .slice E1 y1.length s1, .slice E2 y2.length s2, .slice E3 y3.length s3] (0, 0) _ rfl (by exact BK4.o) Try.underlying25 rfl (by kernel_rfl)) rfl ?_
       exact ⟨_, _, _, rfl, HF.o, HB.o⟩
      | true =>
       rw [if_pos rfl] at h
       simp only [Option.some.injEq, Prod.mk.injEq] at h
       obtain ⟨rfl, rfl, rfl, rfl, rfl⟩ := h
       go_enter Try.func31, Try.ntmps31
       go_wp2_with (first | ((with_reducible refine gD 2 rfl ?_); refine bE 2 #[.int .i64 y0, .slice A1 l1.length c1, .slice A2 l2.length c2, .slice A3 l3.length c3] 25 ?_; intro g2 hg w2_ hbox hb; have GE2 := aM (zg HB.o hg : w.heap.size ≤ g2);  have BK2 := aM hbox;  replace HB := zLB HB.o hb; clear hb; clear hbox hg; (try clear hz2_); have hz2_ := zc4 BK2.o;) | ((with_reducible refine gD 3 rfl ?_); refine bE 3 #[.int .i64 x0, .int .i64 x1, .int .i64 x2] 46 ?_; intro g3 hg w3_ hbox hb; have GE3 := aM (zg HB.o hg : w.heap.size ≤ g3); have N2_3 := aM (zN BK2.o hg : g2 ≠ g3); have BK3 := aM hbox; replace BK2 := zBB BK2 hb; replace HB := zLB HB.o hb; clear hb; clear hbox hg; (try clear hz2_); have hz2_ := zc4 BK2.o; (try clear hz3_); have hz3_ := zc3_ BK3.o;) | ((with_reducible refine gD 4 rfl ?_); refine bE 4 #[.int .i64 0, .slice none 0 0, .slice none 0 0, .slice none 0 0] 25 ?_; intro g4 hg w4_ hbox hb; have GE4 := aM (zg HB.o hg : w.heap.size ≤ g4); have N2_4 := aM (zN BK2.o hg : g2 ≠ g4); have N3_4 := aM (zN BK3.o hg : g3 ≠ g4); have BK4 := aM hbox; replace BK2 := zBB BK2 hb; replace BK3 := zBB BK3 hb; replace HB := zLB HB.o hb; clear hb; clear hbox hg; (try clear hz2_); have hz2_ := zc4 BK2.o; (try clear hz3_); have hz3_ := zc3_ BK3.o; (try clear hz4_); have hz4_ := zc4 BK4.o;) | ((with_reducible refine gC 72 rfl ?_); refine gL 8 Try.func72 #[.agg #[.int .i64 y0, .slice A1 l1.length c1, .slice A2 l2.length c2, .slice A3 l3.length c3]] ?_; (refine (spec_l8Copy.callsW k y0 A1 c1 l1 A2 c2 l2 A3 c3 l3 y0 y1 y2 y3 _ ?s1 HC1.o ?s2 HC2.o ?s3 HC3.o AC.o).mono ?_); (case s1 => exact Kd.C_below HR1.o HB.o); (case s2 => exact Kd.C_below HR2.o HB.o); (case s3 => exact Kd.C_below HR3.o HB.o); rintro e w8_ ⟨v1, v2, v3, rfl, hw_, hb⟩; obtain ⟨B1, q1, B2, q2, B3, q3, rfl, rfl, rfl, _, _, _, _⟩ := hw_.reads; refine ⟨_, rfl, ?_⟩; have F2 := aM (blk_lt BK2.o); have F3 := aM (blk_lt BK3.o); have F4 := aM (blk_lt BK4.o); obtain ⟨n0, hn0_⟩ : ∃ n0, n0 = _ := ⟨_, rfl⟩; have HWR := aM ((hw_.bound.mono (ok' := fun k_ => n0 ≤ k_) (fun k_ h_ => by rw [hn0_]; exact h_.2.1)).lower HB.o.size); have FN := aM (hb.size); rw [← hn0_] at F2 F3 F4 FN; clear hw_ hn0_; replace BK2 := zBB BK2 hb; replace BK3 := zBB BK3 hb; replace BK4 := zBB BK4 hb; replace HB := zLB HB.o hb; clear hb; (try clear hz2_); have hz2_ := zc4 BK2.o; (try clear hz3_); have hz3_ := zc3_ BK3.o; (try clear hz4_); have hz4_ := zc4 BK4.o;) | ((with_reducible refine gD 6 rfl ?_); refine bE 6 #[.int .i64 0, .slice none 0 0, .slice none 0 0, .slice none 0 0] 25 ?_; intro g6 hg w6_ hbox hb; have GE6 := aM (zg HB.o hg : w.heap.size ≤ g6); have N2_6 := aM (zN BK2.o hg : g2 ≠ g6); have N3_6 := aM (zN BK3.o hg : g3 ≠ g6); have N4_6 := aM (zN BK4.o hg : g4 ≠ g6); replace HWR := aM (HWR.o.below hb); have FN6 := aM (by rw [hg]; exact FN.o : n0 ≤ g6); clear FN; have BK6 := aM hbox; replace BK2 := zBB BK2 hb; replace BK3 := zBB BK3 hb; replace BK4 := zBB BK4 hb; replace HB := zLB HB.o hb; clear hb; clear hbox hg; (try clear hz2_); have hz2_ := zc4 BK2.o; (try clear hz3_); have hz3_ := zc3_ BK3.o; (try clear hz4_); have hz4_ := zc4 BK4.o; (try clear hz6_); have hz6_ := zc4 BK6.o;) | ((with_reducible refine gate_store (t := 25) (p := 6) rfl ?_); refine store_event (t := 25) (p := 6) (v := ?vo69_) (w1 := ((((w6_.setCell ⟨g6, 0, none⟩ (.int .i64 y0)).setCell ⟨g6, 1, none⟩ (.slice B1 y1.length q1)).setCell ⟨g6, 2, none⟩ (.slice B2 y2.length q2)).setCell ⟨g6, 3, none⟩ (.slice B3 y3.length q3))) ?hg ?ho ?hn ?hr ?_; (case ho => rfl); (case hg => rfl); (case hn => rfl); (case hr => (have hs0_ := (blk_cell BK6.o 0).trans rfl; have hf0_ := blk_frozen BK6.o 0; have hs1_ := (blk_cell BK6.o 1).trans rfl; have hf1_ := blk_frozen BK6.o 1; have hs2_ := (blk_cell BK6.o 2).trans rfl; have hf2_ := blk_frozen BK6.o 2; have hs3_ := (blk_cell BK6.o 3).trans rfl; have hf3_ := blk_frozen BK6.o 3; (try clear hz2_); have hz2_ := zc4 BK2.o; (try clear hz3_); have hz3_ := zc3_ BK3.o; (try clear hz4_); have hz4_ := zc4 BK4.o; first | (go_simp; done) | (go_simp; rfl))); intro w8 hw_; have HK_ := set4_kept hw_; have BKn := aM (set4_blk hw_ BK6.o rfl); have HBn := aM (set4_below hw_ HB.o GE6.o); replace BK2 := aM (blk_kept BK2.o HK_ (N2_6.o)); replace BK3 := aM (blk_kept BK3.o HK_ (N3_6.o)); replace BK4 := aM (blk_kept BK4.o HK_ (N4_6.o)); replace HWR := aM (((HWR.o.types BK6.o (by decide) (by decide)).kept HK_ (fun _ h_ => h_.2)).mono (ok' := fun k_ => n0 ≤ k_) (fun _ h_ => h_.1)); clear hw_ BK6 HB; have BK6 := BKn; have HB := HBn; clear BKn HBn HK_; (try clear hz2_); have hz2_ := zc4 BK2.o; (try clear hz3_); have hz3_ := zc3_ BK3.o; (try clear hz4_); have hz4_ := zc4 BK4.o; (try clear hz6_); have hz6_ := zc4 BK6.o;) | ((with_reducible refine gC 29 rfl ?_); refine gL 10 Try.func29 #[.agg #[.int .i64 y0, .slice A1 l1.length c1, .slice A2 l2.length c2, .slice A3 l3.length c3]] ?_; (refine (spec_WheelOk.calls k y0 A1 c1 l1 A2 c2 l2 A3 c3 l3 true _ ?s1 ?t1 ?s2 ?t2 ?s3 ?t3 AO.o).mono ?_); (case s1 => exact Kd.C_below HR1.o HB.o); (case s2 => exact Kd.C_below HR2.o HB.o); (case s3 => exact Kd.C_below HR3.o HB.o); (case t1 => exact HC1.o); (case t2 => exact HC2.o); (case t3 => exact HC3.o); rintro e w10 ⟨rfl, hb⟩; refine ⟨_, rfl, ?_⟩; replace BK2 := zBB BK2 hb; replace BK3 := zBB BK3 hb; replace BK4 := zBB BK4 hb; replace BK6 := zBB BK6 hb; replace HWR := aM (HWR.o.below hb); replace HB := zLB HB.o hb; clear hb; (try clear hz2_); have hz2_ := zc4 BK2.o; (try clear hz3_); have hz3_ := zc3_ BK3.o; (try clear hz4_); have hz4_ := zc4 BK4.o; (try clear hz6_); have hz6_ := zc4 BK6.o;) | ((with_reducible refine gC 73 rfl ?_); refine gL 26 Try.func73 #[.pointer (some ⟨g6, 0, none⟩), .agg #[.int .i64 x0, .int .i64 x1, .int .i64 x2]] ?_; (refine (spec_l8Put.calls y0 x0 x1 x2 y1 y2 y3 g6 w.heap.size (fun k_ => n0 ≤ k_) w _ HB.o GE6.o ⟨_, _, _, BK6.o, HWR.o⟩ AL.o m1 m2 m3 AV.o).mono ?_); rintro e w23 ⟨rfl, hs_, hb, hk_⟩; refine ⟨_, rfl, ?_⟩; replace BK2 := aM (blk_kept BK2.o hk_ (fun h_ => h_.elim (fun h_ => by have f_ := F2.o; omega) N2_6.o)); replace BK3 := aM (blk_kept BK3.o hk_ (fun h_ => h_.elim (fun h_ => by have f_ := F3.o; omega) N3_6.o)); replace BK4 := aM (blk_kept BK4.o hk_ (fun h_ => h_.elim (fun h_ => by have f_ := F4.o; omega) N4_6.o)); have q_ := blk_lt BK6.o; clear BK6 HB HWR; have HB := aM hb; have HS := aM (hs_.mono (ok' := fun k_ => n0 ≤ k_) (fun k_ h_ => h_.elim id (fun h_ => by have f_ := FN6.o; omega))); clear hb hk_ hs_ q_; obtain ⟨u1, u2, u3, hu_, hw_⟩ := HS.o; obtain ⟨D1, p1, D2, p2, D3, p3, rfl, rfl, rfl, ⟨t1_, t2_, t3_⟩, r1_, r2_, r3_⟩ := hw_.reads; have BK6 := aM hu_; have HWR := aM hw_; have HQ := aM (And.intro t1_ (And.intro t2_ (And.intro t3_ (And.intro r1_ (And.intro r2_ r3_))))); clear hu_ hw_ t1_ t2_ t3_ r1_ r2_ r3_ HS; (try clear hz2_); have hz2_ := zc4 BK2.o; (try clear hz3_); have hz3_ := zc3_ BK3.o; (try clear hz4_); have hz4_ := zc4 BK4.o; (try clear hz6_); have hz6_ := zc4 BK6.o;) | ((with_reducible refine gC 29 rfl ?_); refine gL 28 Try.func29 #[.agg #[.int .i64 y0, .slice D1 m1.length p1, .slice D2 m2.length p2, .slice D3 m3.length p3]] ?_; (refine (spec_WheelOk.calls k y0 D1 p1 m1 D2 p2 m2 D3 p3 m3 true _ HQ.o.2.2.2.1 HQ.o.1 HQ.o.2.2.2.2.1 HQ.o.2.1 HQ.o.2.2.2.2.2 HQ.o.2.2.1 AP.o).mono ?_); rintro e w25 ⟨rfl, hb⟩; refine ⟨_, rfl, ?_⟩; replace HWR := aM (HWR.o.below hb); clear HQ; replace BK2 := zBB BK2 hb; replace BK3 := zBB BK3 hb; replace BK4 := zBB BK4 hb; replace BK6 := zBB BK6 hb; replace HB := zLB HB.o hb; clear hb; (try clear hz2_); have hz2_ := zc4 BK2.o; (try clear hz3_); have hz3_ := zc3_ BK3.o; (try clear hz4_); have hz4_ := zc4 BK4.o; (try clear hz6_); have hz6_ := zc4 BK6.o;) | ((with_reducible refine gate_store (t := 25) (p := 4) rfl ?_); refine store_event (t := 25) (p := 4) (v := ?voF8_) (w1 := ((((w25.setCell ⟨g4, 0, none⟩ (.int .i64 y0)).setCell ⟨g4, 1, none⟩ (.slice D1 m1.length p1)).setCell ⟨g4, 2, none⟩ (.slice D2 m2.length p2)).setCell ⟨g4, 3, none⟩ (.slice D3 m3.length p3))) ?hg ?ho ?hn ?hr ?_; (case ho => rfl); (case hg => rfl); (case hn => rfl); (case hr => (have hs0_ := (blk_cell BK4.o 0).trans rfl; have hf0_ := blk_frozen BK4.o 0; have hs1_ := (blk_cell BK4.o 1).trans rfl; have hf1_ := blk_frozen BK4.o 1; have hs2_ := (blk_cell BK4.o 2).trans rfl; have hf2_ := blk_frozen BK4.o 2; have hs3_ := (blk_cell BK4.o 3).trans rfl; have hf3_ := blk_frozen BK4.o 3; first | (go_simp; done) | (go_simp; rfl))); intro wF hw_; have HK_ := set4_kept hw_; have BKn := aM (set4_blk hw_ BK4.o rfl); have HBn := aM (set4_below hw_ HB.o GE4.o); have HF := aM (((HWR.o.types BK4.o (by decide) (by decide)).kept HK_ (fun _ h_ => h_.2)).mono (ok' := fun _ => True) (fun _ _ => trivial)); clear hw_ BK4 HB; have BK4 := BKn; have HB := HBn; clear BKn HBn HK_))
       refine bodyPost_ret (results_ct rfl _ _ g4 25 #[.int .i64 y0, .slice D1 m1.length p1, .slice D2 m2.length p2, .slice D3 m3.length p3] (0, 0) _ rfl (by exact BK4.o) Try.underlying25 rfl (by kernel_rfl)) rfl ?_
       exact ⟨_, _, _, rfl, HF.o, HB.o⟩
     ·rw [if_neg hl] at h
      exact absurd h (by simp)
 ·rw [if_neg ey] at h
  exact absurd h (by simp)
theorem spec_Put.calls (k : Nat) (a : Int) (A1 : Option Addr) (c1 : Nat) (l1 : List (List S46)) (A2 : Option Addr) (c2 : Nat) (l2 : List (List S46)) (A3 : Option Addr) (c3 : Nat) (l3 : List S46) (x0 x1 x2 : Int) (r1 : Int) (r2 r3 : List (List S46)) (r4 : List S46) (r5 : Bool) (w : World) (hr1 : Kd.C (Kd.slice 46 k46) w A1 l1.length l1) (hc1 : l1.length ≤ c1) (hr2 : Kd.C (Kd.slice 46 k46) w A2 l2.length l2) (hc2 : l2.length ≤ c2) (hr3 : Kd.C k46 w A3 l3.length l3) (hc3 : l3.length ≤ c3) (h : spec_Put.f k a l1 l2 l3 x0 x1 x2 = some (r1, r2, r3, r4, r5)) :
  Calls Try.prog 31 #[.agg #[.int .i64 a, .slice A1 l1.length c1, .slice A2 l2.length c2, .slice A3 l3.length c3], .agg #[.int .i64 x0, .int .i64 x1, .int .i64 x2]] w fun e w' => ∃ v1_ v2_ v3_ : Value, e = .returned (.tuple #[.agg #[.int .i64 r1, v1_, v2_, v3_], .bool r5]) ∧ Kd.S (Kd.slice 46 k46) 23 w' w.heap.size (fun k_ => some k_ ≠ (v2_ : Value).ownBlock ∧ some k_ ≠ (v3_ : Value).ownBlock) v1_ r2 ∧ Kd.S (Kd.slice 46 k46) 23 w' w.heap.size (fun k_ => some k_ ≠ (v1_ : Value).ownBlock ∧ some k_ ≠ (v3_ : Value).ownBlock) v2_ r3 ∧ Kd.R k46 46 w' w.heap.size (fun _ => True) v3_ r4 ∧ Below w.heap.size w w' := by
 refine (spec_Put.callsW k a A1 c1 l1 A2 c2 l2 A3 c3 l3 x0 x1 x2 r1 r2 r3 r4 r5 w hr1 hc1 hr2 hc2 hr3 hc3 h).mono ?_
 rintro e w' ⟨v1, v2, v3, rfl, hw, hb⟩
 obtain ⟨s1, s2, s3⟩ := hw.split
 exact ⟨v1, v2, v3, rfl, Kd.S_mono s1 (fun _ h => h.2), Kd.S_mono s2 (fun _ h => h.2), Kd.R_mono s3 (fun _ _ => trivial), hb⟩

open Go.Proofs.YtggenhomnbnodaaW.PrintWords renaming blk_drewN → bN, blk_drew → bD, blk_alloc → bA, blk_cell → bC, blk_below → bB, below_set → bS
def impl_copySlots.l0 : Nat → List (List (S46)) → List (List (S46)) → Int → Int → Option ((List (List (S46))))
 | 0, _, _, _, _ => none
 | k + 1, x3, x6, x7, x8 => if x8 < x7 then (if 0 ≤ x8 then (if x8 < (x6.length : Int) then (if ([] : List (S46)).length + (rd_L2 x6 x8).length < 5864062014805 then (if x3.length < 5864062014805 then (impl_copySlots.l0 k (x3 ++ [(([] : List (S46)) ++ (rd_L2 x6 x8))]) x6 x7 (wrap64 (x8 + 1))) else (none)) else (none)) else (none)) else (none)) else (some x3)
def impl_copySlots.f (k : Nat) (l0 : List (List (S46))) : Option ((List (List (S46)))) := impl_copySlots.l0 k ([] : List (List (S46))) l0 (l0.length : Int) 0
set_option maxHeartbeats 8000000 in
set_option maxRecDepth 100000 in
theorem impl_copySlots.calls (k : Nat) (A0 : Option Addr) (c0 : Nat) (l0 : List (List (S46))) (r : List (List (S46))) (w : World) (hr0 : Kd.C (Kd.slice 46 k46) w A0 l0.length l0) (hc0 : l0.length ≤ c0) (h : impl_copySlots.f k l0 = some r) :
  Calls Try.prog 92 #[.slice A0 l0.length c0] w fun e w' => ∃ v0_ : Value, e = .returned (v0_) ∧ Kd.S (Kd.slice 46 k46) 23 w' w.heap.size (fun _ => True) v0_ r ∧ Below w.heap.size w w' := by
 have HR0 := aM hr0
 have HC0 := aM hc0
 clear hr0 hc0
 have HB := aM (Below.refl w.heap.size w)
 unfold impl_copySlots.f at h; have H := h
 clear h
 have H' := aM H
 clear H
 go_enter Try.func92, Try.ntmps92
 go_wp2
 go_loopg [3, 8] k (fun kq v3 v8 w' => ∃ (x3_1 : List (List (S46))) (x8_1 : Int), v8 = .int .i64 x8_1 ∧ Aside0 (impl_copySlots.l0 kq x3_1 l0 (l0.length : Int) x8_1 = some r) ∧ Aside0 (kq ≤ k) ∧ Aside0 (Kd.S (Kd.slice 46 k46) 23 w' w.heap.size (fun _ => True) v3 x3_1) ∧ Aside0 (Below w.heap.size w w'))
 case atStart => exact ⟨(([] : List (List (S46)))), (0), zV, H', ⟨Nat.le_refl _⟩, ⟨by first | exact Kd.S_nil _ _ _ _ _ | exact Kd.N_nil _ _ _ _ _ | exact Kd.V_nil _ _ _ _ _ | exact Kd.Q_nil _ _ _ _ _ | exact Kd.R_nil _ _ _ _ _⟩, ⟨zL HB.o⟩⟩
 case round =>
  clear H'
  obtain ⟨x3_1, x8_1, rfl, HA, HK1, HO_3, HB⟩ := hrel
  cases gk with
  | zero => exact absurd HA.o (by simp [impl_copySlots.l0])
  | succ k1 =>
   have H := HA.o
   clear HA
   simp only [impl_copySlots.l0] at H
   by_cases c2 : x8_1 < (l0.length : Int)
   ·rw [if_pos c2] at H
    have c2b0 := dT c2
    clear c2
    by_cases c3 : 0 ≤ x8_1
    ·rw [if_pos c3] at H
     have c3b0 := dT c3
     clear c3
     by_cases c4 : x8_1 < (l0.length : Int)
     ·rw [if_pos c4] at H
      have c4b0 := dT c4
      clear c4
      by_cases c5 : ([] : List (S46)).length + (rd_L2 l0 x8_1).length < 5864062014805
      ·rw [if_pos c5] at H
       have LMc5 := aM c5
       clear c5
       obtain ⟨yB, hyB⟩ : ∃ y_ : List (S46), y_ = (([] : List (S46)) ++ (rd_L2 l0 x8_1)) := ⟨_, rfl⟩
       replace H : (if x3_1.length < 5864062014805 then (impl_copySlots.l0 k1 (x3_1 ++ [yB]) l0 (l0.length : Int) (wrap64 (x8_1 + 1))) else (none)) = some r := by first | (rw [hyB]; with_reducible exact H) | (have H2_ := (Option.bind_some _ _).symm.trans H; rw [hyB]; with_reducible exact H2_) | (have H2_ := (Option.bind_some _ _).symm.trans H; with_reducible exact H2_) | with_reducible exact H | (rw [hyB]; exact H) | exact H
       have NyB := aM hyB
       clear hyB
       by_cases c6 : x3_1.length < 5864062014805
       ·rw [if_pos c6] at H
        have LMc6 := aM c6
        clear c6
        generalize hyC : (x3_1 ++ [yB]) = yC at H; (try rw [Option.bind_some] at H); have NyC := aM hyC.symm; clear hyC
        have H' := aM H
        clear H
        have pA : 0 ≤ (x8_1 : Int) := zD
        have qA : x8_1 < (l0.length : Int) := zD
        obtain ⟨adA, AA_0, cA_0, eA, hxA_0, hlA_0, hiA_0⟩ := at_L2 HR0.o x8_1 pA qA
        cases eA
        replace hxA_0 := zh HB.o hxA_0
        have HRA_0 := aM hiA_0
        have HCA_0 := aM hlA_0
        clear hiA_0 hlA_0
        replace pA := eq_true pA
        replace qA := eq_true qA
        go_wp2_with (first | ((with_reducible refine gate_builtin (b := .append) (xs := #[.const (.slice none 0 0), .tmp 13]) rfl ?_); at_builtin; refine Kd.R_append_rows k46 (w0 := w) w.heap.size rfl (.const (.slice none 0 0)) (.tmp 13) 23 46 (.agg #[(.int .i64 0), (.int .i64 0), (.int .i64 0)]) 24 rfl Try.underlying23 info46 rfl (by decide) (by omega) (.slice none 0 0) ([] : List (S46)) (rd_L2 l0 x8_1) _ _ _ (fun _ => True) (fun _ => False) rfl rfl ?aO ?aR (fun _ _ h => h) (fun _ h => h.elim) ?aF ?aB ?aS ?aL ?_; (case aR => repeat (first | exact (Kd.C_below HRA_0.o HB.o) | (with_reducible refine Kd.C_alloc ?_ _) | (with_reducible refine Kd.C_drewN ?_ _) | (with_reducible refine Kd.C_drew ?_))); (case aB => exact (zL HB.o)); (case aF => exact (fun _ _ => trivial)); (case aO => exact ((Kd.R_nil _ _ _ _ (fun _ => True)))); (case aS => exact (below_size (zL HB.o))); (case aL => have := LMc5.o; omega); intro v189 w7 ho hb hg hat; rw [← NyB.o] at ho; replace HO_3 := aM (Kd.S_after (Kd.S_apart_nil (zS HO_3.o)) hg hat); replace HB := aM hb; have HOD := aM (ho); clear ho hb hg hat; obtain ⟨Ao9, co9, eo9⟩ := Kd.R_slice HOD.o; subst eo9) | ((with_reducible refine gate_builtin (b := .append) (xs := #[.tmp 12, .tmp 15]) rfl ?_); at_builtin; refine Kd.S_append (Kd.slice 46 k46) (w0 := w) w.heap.size rfl (.tmp 12) (.tmp 15) 22 23 (.slice none 0 0) 24 rfl Try.underlying22 info23 rfl (by decide) (by omega) u3 x3_1 yB [.slice Ao9 yB.length co9] (fun _ => True) (fun k_ => some k_ = (.slice Ao9 yB.length co9 : Value).ownBlock) rfl rfl ?aP (fun k_ hk_ => ((Kd.R_mono (ok' := fun k_ => ((fun _ => True)) k_ ∧ some k_ ≠ (u3 : Value).ownBlock) (Kd.R_apart' (HOD.o) (Kd.S_typed HO_3.o) (by decide)) (fun k_ hk => ⟨trivial, hk.2⟩))).1 k_ hk_.symm) ?aF ?aO ?aB ?aS ?aL ?_; (case aP => exact Kd.M_row (Kd.R_mono (Kd.R_tight rfl (Kd.R_mono (ok' := fun k_ => ((fun _ => True)) k_ ∧ some k_ ≠ (u3 : Value).ownBlock) (Kd.R_apart' (HOD.o) (Kd.S_typed HO_3.o) (by decide)) (fun k_ hk => ⟨trivial, hk.2⟩))) (fun _ h_ => h_))); (case aB => exact (zL HB.o)); (case aF => exact (fun _ _ => trivial)); (case aO => exact (zSm HO_3.o (fun k_ hk => ⟨trivial, fun e_ => hk.2 e_⟩))); (case aS => exact (below_size (zL HB.o))); (case aL => have := LMc6.o; omega); intro vF w8 ho hb hg hat; rw [← NyC.o] at ho; replace HB := aM hb; have HOE := aM (ho); clear HO_3 HOD; clear ho hb hg hat))
        go_roundg k1
        case measure => have := HK1.o; omega
        case rel => exact ⟨(yC), (wrap64 (x8_1 + 1)), zV, H', ⟨by have := HK1.o; omega⟩, ⟨zS HOE.o⟩, ⟨zL HB.o⟩⟩
       ·rw [if_neg c6] at H
        exact absurd H (by simp)
      ·rw [if_neg c5] at H
       exact absurd H (by simp)
     ·rw [if_neg c4] at H
      exact absurd H (by simp)
    ·rw [if_neg c3] at H
     exact absurd H (by simp)
   ·rw [if_neg c2] at H
    have c2b0 := dF c2
    clear c2
    obtain rfl := Option.some.inj H
    go_wp2
    go_ret
    exact ⟨_, zW, zS HO_3.o, zL HB.o⟩

end Go.Proofs.Ytggenhomnbnodaa.QFnWheels
