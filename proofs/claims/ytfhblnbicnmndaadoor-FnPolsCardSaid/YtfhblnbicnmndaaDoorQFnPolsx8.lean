/- What the Go functions that the law FnPols reaches answer: each as a Lean function, with its walk. Written by a program of this session. Conditions: those that each theorem names. -/
import Derived.Test.YtfhblnbicnmndaaDoorQFnPolsx0
import Derived.Test.YtfhblnbicnmndaaDoorQFnPolsx5
namespace Go.Proofs.YtfhblnbicnmndaaDoor.QFnPols
open Go.RowKit Go.Proofs.YtfhblnbicnmndaaDoorW.PrintWords Go.Proofs.YtfhblnbicnmndaaDoorW.PrintLast Go.Proofs.YtfhblnbicnmndaaDoorW.PrintMore
attribute [local go_sem] max2_int min2_int max_two min_two max_three min_three max_four min_four   -- for this text's walks alone
set_option linter.unusedVariables false
set_option linter.unusedSimpArgs false

open Go.Proofs.YtfhblnbicnmndaaDoorW.PrintWords renaming blk_drewN → bN, blk_drew → bD, blk_alloc → bA, blk_cell → bC, blk_below → bB, below_set → bS
/-! ### spec_HasRate: function 18 -/
mutual
def spec_HasRate.l0 : Nat → Int → Int → Int → ByteArray → ByteArray → List (S26) → Option (Bool)
 | 0, _, _, _, _, _, _ => none
 | k + 1, x3, x469000, x469001, x469002, x469003, x469004 => if x3 < (x469004.length : Int) then (if 0 ≤ x3 then ((spec_HasRate.f k ((rd_T26 x469004 x3).f0) ((rd_T26 x469004 x3).f1) ((rd_T26 x469004 x3).f2) ((rd_T26 x469004 x3).f3) ((rd_T26 x469004 x3).f4)).bind fun t470 => (if t470 = true then (some true) else (spec_HasRate.l0 k (wrap64 (x3 + 1)) x469000 x469001 x469002 x469003 x469004))) else (none)) else (some false)
def spec_HasRate.f : Nat → Int → Int → ByteArray → ByteArray → List (S26) → Option (Bool)
 | 0, _, _, _, _, _ => none
 | k + 1, a0_0, a0_1, a0_2, a0_3, l0_4 => if a0_0 = 6 then (some true) else (spec_HasRate.l0 k 0 a0_0 a0_1 a0_2 a0_3 l0_4)
end
theorem spec_HasRate.mono_l : ∀ k, (∀ y0 y1 y2 y3 y4, LeO (spec_HasRate.f k y0 y1 y2 y3 y4) (spec_HasRate.f (k + 1) y0 y1 y2 y3 y4)) ∧ (∀ y0 y1 y2 y3 y4 y5, LeO (spec_HasRate.l0 k y0 y1 y2 y3 y4 y5) (spec_HasRate.l0 (k + 1) y0 y1 y2 y3 y4 y5))
 | 0 => ⟨fun _ _ _ _ _ r h => by simp [spec_HasRate.f] at h, fun _ _ _ _ _ _ r h => by simp [spec_HasRate.l0] at h⟩
 | k + 1 => by
  obtain ⟨ih0, ih1⟩ := spec_HasRate.mono_l k
  refine ⟨?_, ?_⟩
  ·intro y0 y1 y2 y3 y4
   unfold spec_HasRate.f
   repeat' first
   | (with_reducible exact ih0 _ _ _ _ _)
   | (with_reducible exact ih1 _ _ _ _ _ _)
   | (with_reducible exact LeO.refl _)
   | (with_reducible exact LeO.none _)
   | (with_reducible refine LeO.ite ?_ ?_)
   | (with_reducible refine LeO.bind ?_ (fun _ => ?_))
   | exact ih0 _ _ _ _ _
   | exact ih1 _ _ _ _ _ _
   | exact LeO.none _
   | refine LeO.ite ?_ ?_
   | refine LeO.bind ?_ (fun _ => ?_)
  ·intro y0 y1 y2 y3 y4 y5
   unfold spec_HasRate.l0
   repeat' first
   | (with_reducible exact ih0 _ _ _ _ _)
   | (with_reducible exact ih1 _ _ _ _ _ _)
   | (with_reducible exact LeO.refl _)
   | (with_reducible exact LeO.none _)
   | (with_reducible refine LeO.ite ?_ ?_)
   | (with_reducible refine LeO.bind ?_ (fun _ => ?_))
   | exact ih0 _ _ _ _ _
   | exact ih1 _ _ _ _ _ _
   | exact LeO.none _
   | refine LeO.ite ?_ ?_
   | refine LeO.bind ?_ (fun _ => ?_)
theorem spec_HasRate.mono : ∀ a0 a1 a2 a3 a4 k, LeO (spec_HasRate.f k a0 a1 a2 a3 a4) (spec_HasRate.f (k + 1) a0 a1 a2 a3 a4) := by
 intro a0 a1 a2 a3 a4 k
 obtain ⟨ih0, ih1⟩ := spec_HasRate.mono_l k
 exact ih0 a0 a1 a2 a3 a4
set_option maxHeartbeats 8000000 in
set_option maxRecDepth 100000 in
theorem spec_HasRate.calls (k : Nat) : ∀ (a0_0 : Int) (a0_1 : Int) (a0_2 : ByteArray) (a0_3 : ByteArray) (A0_4 : Option Addr) (c0_4 : Nat) (l0_4 : List (S26)) (r : Bool) (w : World) (hr0_4 : Kd.C k26 w A0_4 l0_4.length l0_4) (hc0_4 : l0_4.length ≤ c0_4) (h : spec_HasRate.f k a0_0 a0_1 a0_2 a0_3 l0_4 = some r),
  Calls Tryd.prog 18 #[.agg #[.int .i64 a0_0, .int .i64 a0_1, .string a0_2, .string a0_3, .slice A0_4 l0_4.length c0_4]] w fun e w' => e = .returned (.bool r) ∧ Below w.heap.size w w' := by
 induction k using Nat.strongRecOn with
 | _ k ih =>
 intro a0_0 a0_1 a0_2 a0_3 A0_4 c0_4 l0_4 r w hr0_4 hc0_4 h
 cases k with
 | zero => exact absurd h (by simp [spec_HasRate.f])
 | succ k =>
 simp only [spec_HasRate.f] at h
 have hu26 := Tryd.underlying26
 have HR0_4 := Aside0.mk hr0_4
 have HC0_4 := Aside0.mk hc0_4
 clear hr0_4 hc0_4
 have HB := Aside0.mk (Below.refl w.heap.size w)
 have H : (if a0_0 = 6 then (some true) else (spec_HasRate.l0 k 0 a0_0 a0_1 a0_2 a0_3 l0_4)) = some r := h
 clear h
 by_cases c2 : a0_0 = 6
 ·rw [if_pos c2] at H
  obtain ⟨c2b0, c2b1⟩ := zt c2
  clear c2
  obtain rfl := Option.some.inj H
  go_enter Tryd.func18, Tryd.ntmps18
  go_wp2_with (first | ((with_reducible refine gD 1 rfl ?_); refine bE 1 #[.int .i64 a0_0, .int .i64 a0_1, .string a0_2, .string a0_3, .slice A0_4 l0_4.length c0_4] 26 ?_; intro gb468 hg w3 hbox hb; have BK468 := Aside0.mk hbox; have GW468 := Aside0.mk (zg (zL HB.out) hg : w.heap.size ≤ gb468); have GE468 := GW468; replace HB := zLB (zL HB.out) hb; clear hb hbox hg; have hcz4 := zc5 BK468.out; have hfz4 := zf5 BK468.out))
  go_ret
  exact ⟨zW, zL1 HB.out GE468.out⟩
 ·rw [if_neg c2] at H
  obtain ⟨c2b0, c2b1⟩ := zf c2
  have H' := Aside0.mk H
  clear H
  go_enter Tryd.func18, Tryd.ntmps18
  go_wp2_with (first | ((with_reducible refine gD 1 rfl ?_); refine bE 1 #[.int .i64 a0_0, .int .i64 a0_1, .string a0_2, .string a0_3, .slice A0_4 l0_4.length c0_4] 26 ?_; intro gb468 hg w5 hbox hb; have BK468 := Aside0.mk hbox; have GW468 := Aside0.mk (zg (zL HB.out) hg : w.heap.size ≤ gb468); have GE468 := GW468; replace HB := zLB (zL HB.out) hb; clear hb hbox hg; have hcz6 := zc5 BK468.out; have hfz6 := zf5 BK468.out))
  go_loopg [3] k (fun kq v3 w' => ∃ (x3_1 : Int), v3 = .int .i64 x3_1 ∧ Aside0 (spec_HasRate.l0 kq x3_1 a0_0 a0_1 a0_2 a0_3 l0_4 = some r) ∧ Aside0 (kq ≤ k) ∧ Aside0 (w'.heap[gb468]? = some (.cells #[.int .i64 a0_0, .int .i64 a0_1, .string a0_2, .string a0_3, (.slice A0_4 l0_4.length c0_4)] 26 (0, 0))) ∧ Aside0 (Below w.heap.size w w'))
  case atStart => exact ⟨(0), zV, H', ⟨Nat.le_refl _⟩, ⟨zB BK468.out⟩, ⟨zL1 HB.out GE468.out⟩⟩
  case round =>
   clear H'
   try clear c1
   try clear c2
   try clear c2b0
   try clear c2b1
   try clear p2
   try clear hcz4; try clear hcz6; try clear hfz4; try clear hfz6
   try clear BK468
   obtain ⟨x3_1, rfl, HA, HK1, BK468, HB⟩ := hrel
   cases gk with
   | zero => exact absurd HA.out (by simp [spec_HasRate.l0])
   | succ k1 =>
    have H := HA.out
    clear HA
    simp only [spec_HasRate.l0] at H
    by_cases c7 : x3_1 < (l0_4.length : Int)
    ·rw [if_pos c7] at H
     have c7b0 := decide_eq_true c7
     clear c7
     by_cases c8 : 0 ≤ x3_1
     ·rw [if_pos c8] at H
      have c8b0 := decide_eq_true c8
      clear c8
      obtain ⟨t470, A9, H⟩ := zO H; try dsimp only at H
      by_cases c10 : t470 = true
      ·subst c10
       rw [if_pos rfl] at H
       obtain rfl := Option.some.inj H
       have hcz11 := zc5 BK468.out
       have hfz11 := zf5 BK468.out
       have p469 : 0 ≤ (x3_1 : Int) := zD
       have q469 : x3_1 < (l0_4.length : Int) := zD
       obtain ⟨ad469, A469_4, c469_4, e469, hx469_0, hx469_1, hx469_2, hx469_3, hx469_4, hl469_4, hi469_4⟩ := at_T26 HR0_4.out x3_1 p469 q469
       cases e469
       replace hx469_0 := zh HB.out hx469_0
       replace hx469_1 := zh HB.out hx469_1
       replace hx469_2 := zh HB.out hx469_2
       replace hx469_3 := zh HB.out hx469_3
       replace hx469_4 := zh HB.out hx469_4
       have HR469_4 := Aside0.mk hi469_4
       have HC469_4 := Aside0.mk hl469_4
       clear hi469_4 hl469_4
       replace p469 := eq_true p469
       replace q469 := eq_true q469
       go_wp2_with (first | ((with_reducible refine gC 18 rfl ?_); refine gL 19 Tryd.func18 #[.agg #[.int .i64 ((rd_T26 l0_4 x3_1).f0), .int .i64 ((rd_T26 l0_4 x3_1).f1), .string ((rd_T26 l0_4 x3_1).f2), .string ((rd_T26 l0_4 x3_1).f3), .slice A469_4 ((rd_T26 l0_4 x3_1).f4).length c469_4]] ?_; (with_reducible refine (ih k1 (by have := HK1.out; omega) ((rd_T26 l0_4 x3_1).f0) ((rd_T26 l0_4 x3_1).f1) ((rd_T26 l0_4 x3_1).f2) ((rd_T26 l0_4 x3_1).f3) _ _ ((rd_T26 l0_4 x3_1).f4) true _ ?side1 ?side2 A9.out).mono ?_); (case side1 => exact zC (Kd.C_below HR469_4.out HB.out)); (case side2 => exact HC469_4.out); rintro e w12 ⟨rfl, hb⟩; refine ⟨_, rfl, ?_⟩; replace BK468 := zBB BK468 hb; replace HB := zLB (zL1 HB.out GE468.out) hb; clear hb))
       go_ret
       exact ⟨zW, zL1 HB.out GE468.out⟩
      ·obtain rfl := Bool.eq_false_iff.mpr c10
       rw [if_neg zn] at H
       have H' := Aside0.mk H
       clear H
       have hcz13 := zc5 BK468.out
       have hfz13 := zf5 BK468.out
       have p469 : 0 ≤ (x3_1 : Int) := zD
       have q469 : x3_1 < (l0_4.length : Int) := zD
       obtain ⟨ad469, A469_4, c469_4, e469, hx469_0, hx469_1, hx469_2, hx469_3, hx469_4, hl469_4, hi469_4⟩ := at_T26 HR0_4.out x3_1 p469 q469
       cases e469
       replace hx469_0 := zh HB.out hx469_0
       replace hx469_1 := zh HB.out hx469_1
       replace hx469_2 := zh HB.out hx469_2
       replace hx469_3 := zh HB.out hx469_3
       replace hx469_4 := zh HB.out hx469_4
       have HR469_4 := Aside0.mk hi469_4
       have HC469_4 := Aside0.mk hl469_4
       clear hi469_4 hl469_4
       replace p469 := eq_true p469
       replace q469 := eq_true q469
       go_wp2_with (first | ((with_reducible refine gC 18 rfl ?_); refine gL 19 Tryd.func18 #[.agg #[.int .i64 ((rd_T26 l0_4 x3_1).f0), .int .i64 ((rd_T26 l0_4 x3_1).f1), .string ((rd_T26 l0_4 x3_1).f2), .string ((rd_T26 l0_4 x3_1).f3), .slice A469_4 ((rd_T26 l0_4 x3_1).f4).length c469_4]] ?_; (with_reducible refine (ih k1 (by have := HK1.out; omega) ((rd_T26 l0_4 x3_1).f0) ((rd_T26 l0_4 x3_1).f1) ((rd_T26 l0_4 x3_1).f2) ((rd_T26 l0_4 x3_1).f3) _ _ ((rd_T26 l0_4 x3_1).f4) false _ ?side1 ?side2 A9.out).mono ?_); (case side1 => exact zC (Kd.C_below HR469_4.out HB.out)); (case side2 => exact HC469_4.out); rintro e w14 ⟨rfl, hb⟩; refine ⟨_, rfl, ?_⟩; replace BK468 := zBB BK468 hb; replace HB := zLB (zL1 HB.out GE468.out) hb; clear hb))
       go_roundg k1
       case measure => have := HK1.out; omega
       case rel => exact ⟨(wrap64 (x3_1 + 1)), zV, H', ⟨by have := HK1.out; omega⟩, ⟨zB BK468.out⟩, ⟨zL1 HB.out GE468.out⟩⟩
     ·rw [if_neg c8] at H
      exact absurd H (by simp)
    ·rw [if_neg c7] at H
     have c7b0 := decide_eq_false c7
     clear c7
     obtain rfl := Option.some.inj H
     have hcz15 := zc5 BK468.out
     have hfz15 := zf5 BK468.out
     go_wp2
     go_ret
     exact ⟨zW, zL1 HB.out GE468.out⟩

-- function 69: below what is taken by its contract

-- function 73: below what is taken by its contract

-- function 74: below what is taken by its contract

-- function 75: below what is taken by its contract

-- function 70: below what is taken by its contract

-- function 71: below what is taken by its contract

-- function 76: below what is taken by its contract

-- function 78: below what is taken by its contract

-- function 79: below what is taken by its contract

-- function 77: below what is taken by its contract

-- function 72: below what is taken by its contract

-- function 66: below what is taken by its contract

-- function 63: below what is taken by its contract

/-! ### strconv_Itoa: function 59, by hand -/
/-- The table still reads so in a later world. -/
theorem tab_at {P : Program} {n : String} {q : IntKind} {zs : List Int} {w w1 : World} (h : Lib.TabIs P w n q zs) (hb : Below w.heap.size w w1) : Lib.TabIs P w1 n q zs := Lib.tabBelow_of_tabIs h w1 hb
def strconv_Itoa.f (a0 : Int) : Option ByteArray := if -9223372036854775808 ≤ a0 then if a0 ≤ 9223372036854775807 then some ⟨(Lib.itoa a0).toArray⟩ else none else none
theorem strconv_Itoa.calls (a0 : Int) (r : ByteArray) (w : World) (htab_ : Lib.TabIs Tryd.prog w "internal/strconv.uint64pow10" .u64 Lib.pow10Tab) (h : strconv_Itoa.f a0 = some r) :
    Calls Tryd.prog 59 #[.int .i64 a0] w fun e w' => e = .returned (.string r) ∧ Below w.heap.size w w' := by
  unfold strconv_Itoa.f at h
  by_cases h0 : -9223372036854775808 ≤ a0
  · by_cases h1 : a0 ≤ 9223372036854775807
    · rw [if_pos h0, if_pos h1] at h
      obtain rfl := Option.some.inj h
      refine (Any.strconv_Itoa Tryd.laysM171 a0 h0 h1 w htab_).mono ?_
      rintro e w' ⟨rfl, k, os, rfl⟩
      exact ⟨rfl, Lib.below_grow _ w (Nat.le_refl _) k os⟩
    · rw [if_pos h0, if_neg h1] at h
      cases h
  · rw [if_neg h0] at h
    cases h

open Go.Proofs.YtfhblnbicnmndaaDoorW.PrintWords renaming blk_drewN → bN, blk_drew → bD, blk_alloc → bA, blk_cell → bC, blk_below → bB, below_set → bS
/-! ### impl_NumText: function 46 -/
def impl_NumText.f (a0 : Int) : Option (ByteArray) := (strconv_Itoa.f a0).bind fun t471 => (some t471)
set_option maxHeartbeats 8000000 in
set_option maxRecDepth 100000 in
theorem impl_NumText.calls (a0 : Int) (r : ByteArray) (w : World) (htab_ : Lib.TabIs Tryd.prog w "internal/strconv.uint64pow10" .u64 Lib.pow10Tab) (h : impl_NumText.f a0 = some r) :
  Calls Tryd.prog 46 #[.int .i64 a0] w fun e w' => e = .returned (.string r) ∧ Below w.heap.size w w' := by
 have HTAB := Aside0.mk htab_
 clear htab_
 have HB := Aside0.mk (Below.refl w.heap.size w)
 unfold impl_NumText.f at h; have H := h
 clear h
 obtain ⟨t471, A2, H⟩ := zO H; try dsimp only at H
 obtain rfl := Option.some.inj H
 go_enter Tryd.func46, Tryd.ntmps46
 go_wp2_with (first | ((with_reducible refine gC 59 rfl ?_); refine gL 4 Tryd.func59 #[.int .i64 a0] ?_; (with_reducible refine (strconv_Itoa.calls a0 t471 _ (tab_at HTAB.out (zL HB.out)) A2.out).mono ?_); rintro e w3 ⟨rfl, hb⟩; refine ⟨_, rfl, ?_⟩; replace HB := zLB (zL HB.out) hb; clear hb))
 go_ret
 exact ⟨zW, zL HB.out⟩

-- function 67: below what is taken by its contract

-- NOT PRINTED: function 64 (strings_Builder_copyCheck)

-- function 68: below what is taken by its contract

-- NOT PRINTED: function 65 (strings_Builder_grow)

-- NOT PRINTED: function 60 (strings_Builder_Grow)

-- NOT PRINTED: function 61 (strings_Builder_WriteString)

-- NOT PRINTED: function 62 (strings_Builder_String)

/-! ### strings_Join: function 47, by hand -/
def strings_Join.f (l0 : List ByteArray) (a1 : ByteArray) : Option ByteArray := if (Lib.join (l0.map (·.data.toList)) a1.data.toList).length ≤ 140737488355328 then if l0.length ≤ 140737488355328 then some ⟨(Lib.join (l0.map (·.data.toList)) a1.data.toList).toArray⟩ else none else none
theorem strings_Join.calls (A0 : Option Addr) (c0 : Nat) (l0 : List ByteArray) (a1 : ByteArray) (r : ByteArray) (w : World) (hr0 : Kd.C Kd.string w A0 l0.length l0) (hc0 : l0.length ≤ c0) (h : strings_Join.f l0 a1 = some r) :
    Calls Tryd.prog 47 #[.slice A0 l0.length c0, .string a1] w fun e w' => e = .returned (.string r) ∧ Below w.heap.size w w' := by
  unfold strings_Join.f at h
  by_cases h0 : (Lib.join (l0.map (·.data.toList)) a1.data.toList).length ≤ 140737488355328
  · by_cases h1 : l0.length ≤ 140737488355328
    · rw [if_pos h0, if_pos h1] at h
      obtain rfl := Option.some.inj h
      cases l0 with
      | nil =>
        refine (Any.strings_Join_none Tryd.lays156 Tryd.bx156 A0 c0 a1 w).mono ?_
        rintro e w' ⟨rfl, rfl⟩
        exact ⟨rfl, Below.refl _ _⟩
      | cons x l =>
        obtain ⟨ad, rfl, hc⟩ := hr0.2.2 (by simp)
        have hcell : ∀ (j : Nat) (p : ByteArray), (x :: l)[j]? = some p → w.cell? (ad.add j) = some (.string p) := by
          intro j p hj
          obtain ⟨c, _, hk, hcc⟩ := hc j p hj
          have e : c = [Value.string p] := hk
          subst e
          have := hcc 0 _ rfl
          have e2 : j * Kd.string.sz + 0 = j := Nat.mul_one j
          rwa [e2] at this
        obtain ⟨bk, o, sp⟩ := ad
        have h00 := hcell 0 x rfl
        have hs : sp = none := by
          cases sp with
          | none => rfl
          | some q =>
            simp [Addr.add, World.cell?] at h00
            split at h00 <;> cases h00
        subst hs
        have hbk : bk < w.heap.size := by
          have := World.block_lt_of_cell? w _ h00
          simpa [Addr.add] using this
        refine (Any.strings_Join Tryd.lays156 Tryd.bx156 bk o c0 (x :: l) a1 w (fun j p hj => ?_) hbk h1 hc0 h0).mono ?_
        · have := hcell j p hj
          have e : (⟨bk, o, none⟩ : Addr).add j = ⟨bk, o + j, none⟩ := by
            unfold Addr.add
            split <;> simp_all
          rwa [e] at this
        · rintro e w' ⟨rfl, hb⟩
          exact ⟨rfl, hb⟩
    · rw [if_pos h0, if_neg h1] at h
      cases h
  · rw [if_neg h0] at h
    cases h

open Go.Proofs.YtfhblnbicnmndaaDoorW.PrintWords renaming blk_drewN → bN, blk_drew → bD, blk_alloc → bA, blk_cell → bC, blk_below → bB, below_set → bS
/-! ### impl_polText: function 32 -/
mutual
def impl_polText.j0 : Nat → ByteArray → Int → Int → ByteArray → ByteArray → List (S26) → Option (ByteArray)
 | 0, _, _, _, _, _, _ => none
 | k + 1, x3, x473000, x473001, x473002, x473003, x473004 => impl_polText.l0 k x3 ([] : List ByteArray) x473004 (x473004.length : Int) 0
def impl_polText.l0 : Nat → ByteArray → List ByteArray → List (S26) → Int → Int → Option (ByteArray)
 | 0, _, _, _, _, _ => none
 | k + 1, x3, x4, x46, x47, x48 => if x48 < x47 then (if 0 ≤ x48 then (if x48 < (x46.length : Int) then ((impl_polText.f k ((rd_T26 x46 x48).f0) ((rd_T26 x46 x48).f1) ((rd_T26 x46 x48).f2) ((rd_T26 x46 x48).f3) ((rd_T26 x46 x48).f4)).bind fun t477 => (if x4.length < 8796093022208 then (impl_polText.l0 k x3 (x4 ++ [t477]) x46 x47 (wrap64 (x48 + 1))) else (none))) else (none)) else (none)) else ((strings_Join.f x4 (⟨#[44, 32]⟩ : ByteArray)).bind fun t481 => (if x3.size + t481.size ≤ 9223372036854775807 then (if (x3 ++ t481).size + 1 ≤ 9223372036854775807 then (some ((x3 ++ t481) ++ (⟨#[41]⟩ : ByteArray))) else (none)) else (none)))
def impl_polText.f : Nat → Int → Int → ByteArray → ByteArray → List (S26) → Option (ByteArray)
 | 0, _, _, _, _, _ => none
 | k + 1, a0_0, a0_1, a0_2, a0_3, l0_4 => if a0_0 = 1 then (some (⟨#[97, 108, 108]⟩ : ByteArray)) else (if a0_0 = 2 then (some (⟨#[101, 114, 114]⟩ : ByteArray)) else (if a0_0 = 3 then ((impl_NumText.f a0_1).bind fun t473 => (if 5 + t473.size ≤ 9223372036854775807 then (some ((⟨#[108, 111, 110, 103, 32]⟩ : ByteArray) ++ t473)) else (none))) else (if a0_0 = 4 then (if 5 + a0_2.size ≤ 9223372036854775807 then (if ((⟨#[116, 101, 120, 116, 32]⟩ : ByteArray) ++ a0_2).size + 2 ≤ 9223372036854775807 then (if (((⟨#[116, 101, 120, 116, 32]⟩ : ByteArray) ++ a0_2) ++ (⟨#[32, 34]⟩ : ByteArray)).size + a0_3.size ≤ 9223372036854775807 then (if ((((⟨#[116, 101, 120, 116, 32]⟩ : ByteArray) ++ a0_2) ++ (⟨#[32, 34]⟩ : ByteArray)) ++ a0_3).size + 1 ≤ 9223372036854775807 then (some (((((⟨#[116, 101, 120, 116, 32]⟩ : ByteArray) ++ a0_2) ++ (⟨#[32, 34]⟩ : ByteArray)) ++ a0_3) ++ (⟨#[34]⟩ : ByteArray))) else (none)) else (none)) else (none)) else (none)) else (if a0_0 = 5 then (if 4 + a0_2.size ≤ 9223372036854775807 then (if ((⟨#[110, 117, 109, 32]⟩ : ByteArray) ++ a0_2).size + 1 ≤ 9223372036854775807 then ((impl_NumText.f a0_1).bind fun t474 => (if (((⟨#[110, 117, 109, 32]⟩ : ByteArray) ++ a0_2) ++ (⟨#[32]⟩ : ByteArray)).size + t474.size ≤ 9223372036854775807 then (some ((((⟨#[110, 117, 109, 32]⟩ : ByteArray) ++ a0_2) ++ (⟨#[32]⟩ : ByteArray)) ++ t474)) else (none))) else (none)) else (none)) else (if a0_0 = 6 then (some (⟨#[114, 97, 116, 101]⟩ : ByteArray)) else (if a0_0 = 7 then (impl_polText.j0 k (⟨#[97, 110, 100, 40]⟩ : ByteArray) a0_0 a0_1 a0_2 a0_3 l0_4) else (if a0_0 = 8 then (impl_polText.j0 k (⟨#[111, 114, 40]⟩ : ByteArray) a0_0 a0_1 a0_2 a0_3 l0_4) else (impl_polText.j0 k (⟨#[110, 111, 116, 40]⟩ : ByteArray) a0_0 a0_1 a0_2 a0_3 l0_4))))))))
end
theorem impl_polText.mono_l : ∀ k, (∀ y0 y1 y2 y3 y4, LeO (impl_polText.f k y0 y1 y2 y3 y4) (impl_polText.f (k + 1) y0 y1 y2 y3 y4)) ∧ (∀ y0 y1 y2 y3 y4 y5, LeO (impl_polText.j0 k y0 y1 y2 y3 y4 y5) (impl_polText.j0 (k + 1) y0 y1 y2 y3 y4 y5)) ∧ (∀ y0 y1 y2 y3 y4, LeO (impl_polText.l0 k y0 y1 y2 y3 y4) (impl_polText.l0 (k + 1) y0 y1 y2 y3 y4))
 | 0 => ⟨fun _ _ _ _ _ r h => by simp [impl_polText.f] at h, fun _ _ _ _ _ _ r h => by simp [impl_polText.j0] at h, fun _ _ _ _ _ r h => by simp [impl_polText.l0] at h⟩
 | k + 1 => by
  obtain ⟨ih0, ih1, ih2⟩ := impl_polText.mono_l k
  refine ⟨?_, ?_, ?_⟩
  ·intro y0 y1 y2 y3 y4
   unfold impl_polText.f
   repeat' first
   | (with_reducible exact ih0 _ _ _ _ _)
   | (with_reducible exact ih1 _ _ _ _ _ _)
   | (with_reducible exact ih2 _ _ _ _ _)
   | (with_reducible exact LeO.refl _)
   | (with_reducible exact LeO.none _)
   | (with_reducible refine LeO.ite ?_ ?_)
   | (with_reducible refine LeO.bind ?_ (fun _ => ?_))
   | exact ih0 _ _ _ _ _
   | exact ih1 _ _ _ _ _ _
   | exact ih2 _ _ _ _ _
   | exact LeO.none _
   | refine LeO.ite ?_ ?_
   | refine LeO.bind ?_ (fun _ => ?_)
  ·intro y0 y1 y2 y3 y4 y5
   unfold impl_polText.j0
   repeat' first
   | (with_reducible exact ih0 _ _ _ _ _)
   | (with_reducible exact ih1 _ _ _ _ _ _)
   | (with_reducible exact ih2 _ _ _ _ _)
   | (with_reducible exact LeO.refl _)
   | (with_reducible exact LeO.none _)
   | (with_reducible refine LeO.ite ?_ ?_)
   | (with_reducible refine LeO.bind ?_ (fun _ => ?_))
   | exact ih0 _ _ _ _ _
   | exact ih1 _ _ _ _ _ _
   | exact ih2 _ _ _ _ _
   | exact LeO.none _
   | refine LeO.ite ?_ ?_
   | refine LeO.bind ?_ (fun _ => ?_)
  ·intro y0 y1 y2 y3 y4
   unfold impl_polText.l0
   repeat' first
   | (with_reducible exact ih0 _ _ _ _ _)
   | (with_reducible exact ih1 _ _ _ _ _ _)
   | (with_reducible exact ih2 _ _ _ _ _)
   | (with_reducible exact LeO.refl _)
   | (with_reducible exact LeO.none _)
   | (with_reducible refine LeO.ite ?_ ?_)
   | (with_reducible refine LeO.bind ?_ (fun _ => ?_))
   | exact ih0 _ _ _ _ _
   | exact ih1 _ _ _ _ _ _
   | exact ih2 _ _ _ _ _
   | exact LeO.none _
   | refine LeO.ite ?_ ?_
   | refine LeO.bind ?_ (fun _ => ?_)
theorem impl_polText.mono : ∀ a0 a1 a2 a3 a4 k, LeO (impl_polText.f k a0 a1 a2 a3 a4) (impl_polText.f (k + 1) a0 a1 a2 a3 a4) := by
 intro a0 a1 a2 a3 a4 k
 obtain ⟨ih0, ih1, ih2⟩ := impl_polText.mono_l k
 exact ih0 a0 a1 a2 a3 a4
def impl_polText.T13 : Bool × List (List Nat × List Nat) := (true, [([], []), ([0], [0]), ([1], [1]), ([2], [2]), ([], []), ([4], [4]), ([5], [5]), ([3, 6], [3, 6]), ([7, 6, 0, 1, 2, 3, 4, 5, 6, 7], [7])])
def impl_polText.B13 : List Nat := [0, 1, 3, 7, 0, 16, 48, 127, 255]
theorem impl_polText.tab13 : rtab .any (opsOf Tryd.f32 13) = impl_polText.T13 := by kernel_rfl
theorem impl_polText.bits13 : waitsOk impl_polText.T13.2 impl_polText.B13 = true := by kernel_rfl
set_option maxHeartbeats 8000000 in
set_option maxRecDepth 100000 in
theorem impl_polText.calls (k : Nat) : ∀ (a0_0 : Int) (a0_1 : Int) (a0_2 : ByteArray) (a0_3 : ByteArray) (A0_4 : Option Addr) (c0_4 : Nat) (l0_4 : List (S26)) (r : ByteArray) (w : World) (hr0_4 : Kd.C k26 w A0_4 l0_4.length l0_4) (hc0_4 : l0_4.length ≤ c0_4) (htab_ : Lib.TabIs Tryd.prog w "internal/strconv.uint64pow10" .u64 Lib.pow10Tab) (h : impl_polText.f k a0_0 a0_1 a0_2 a0_3 l0_4 = some r),
  Calls Tryd.prog 32 #[.agg #[.int .i64 a0_0, .int .i64 a0_1, .string a0_2, .string a0_3, .slice A0_4 l0_4.length c0_4]] w fun e w' => e = .returned (.string r) ∧ Below w.heap.size w w' := by
 induction k using Nat.strongRecOn with
 | _ k ih =>
 intro a0_0 a0_1 a0_2 a0_3 A0_4 c0_4 l0_4 r w hr0_4 hc0_4 htab_ h
 have HTAB := Aside0.mk htab_
 clear htab_
 cases k with
 | zero => exact absurd h (by simp [impl_polText.f])
 | succ k =>
 simp only [impl_polText.f] at h
 have hu26 := Tryd.underlying26
 have HR0_4 := Aside0.mk hr0_4
 have HC0_4 := Aside0.mk hc0_4
 clear hr0_4 hc0_4
 have HB := Aside0.mk (Below.refl w.heap.size w)
 have H : (if a0_0 = 1 then (some (⟨#[97, 108, 108]⟩ : ByteArray)) else (if a0_0 = 2 then (some (⟨#[101, 114, 114]⟩ : ByteArray)) else (if a0_0 = 3 then ((impl_NumText.f a0_1).bind fun t473 => (if 5 + t473.size ≤ 9223372036854775807 then (some ((⟨#[108, 111, 110, 103, 32]⟩ : ByteArray) ++ t473)) else (none))) else (if a0_0 = 4 then (if 5 + a0_2.size ≤ 9223372036854775807 then (if ((⟨#[116, 101, 120, 116, 32]⟩ : ByteArray) ++ a0_2).size + 2 ≤ 9223372036854775807 then (if (((⟨#[116, 101, 120, 116, 32]⟩ : ByteArray) ++ a0_2) ++ (⟨#[32, 34]⟩ : ByteArray)).size + a0_3.size ≤ 9223372036854775807 then (if ((((⟨#[116, 101, 120, 116, 32]⟩ : ByteArray) ++ a0_2) ++ (⟨#[32, 34]⟩ : ByteArray)) ++ a0_3).size + 1 ≤ 9223372036854775807 then (some (((((⟨#[116, 101, 120, 116, 32]⟩ : ByteArray) ++ a0_2) ++ (⟨#[32, 34]⟩ : ByteArray)) ++ a0_3) ++ (⟨#[34]⟩ : ByteArray))) else (none)) else (none)) else (none)) else (none)) else (if a0_0 = 5 then (if 4 + a0_2.size ≤ 9223372036854775807 then (if ((⟨#[110, 117, 109, 32]⟩ : ByteArray) ++ a0_2).size + 1 ≤ 9223372036854775807 then ((impl_NumText.f a0_1).bind fun t474 => (if (((⟨#[110, 117, 109, 32]⟩ : ByteArray) ++ a0_2) ++ (⟨#[32]⟩ : ByteArray)).size + t474.size ≤ 9223372036854775807 then (some ((((⟨#[110, 117, 109, 32]⟩ : ByteArray) ++ a0_2) ++ (⟨#[32]⟩ : ByteArray)) ++ t474)) else (none))) else (none)) else (none)) else (if a0_0 = 6 then (some (⟨#[114, 97, 116, 101]⟩ : ByteArray)) else (if a0_0 = 7 then (impl_polText.j0 k (⟨#[97, 110, 100, 40]⟩ : ByteArray) a0_0 a0_1 a0_2 a0_3 l0_4) else (if a0_0 = 8 then (impl_polText.j0 k (⟨#[111, 114, 40]⟩ : ByteArray) a0_0 a0_1 a0_2 a0_3 l0_4) else (impl_polText.j0 k (⟨#[110, 111, 116, 40]⟩ : ByteArray) a0_0 a0_1 a0_2 a0_3 l0_4))))))))) = some r := h
 clear h
 have HC2 := Aside0.mk H
 clear H
 go_enter Tryd.func32, Tryd.ntmps32
 go_upto_block 0 with (first | ((with_reducible refine gD 1 rfl ?_); refine bE 1 #[.int .i64 a0_0, .int .i64 a0_1, .string a0_2, .string a0_3, .slice A0_4 l0_4.length c0_4] 26 ?_; intro gb472 hg w3 hbox hb; have BK472 := Aside0.mk hbox; have GW472 := Aside0.mk (zg (zL HB.out) hg : w.heap.size ≤ gb472); have GE472 := GW472; replace HB := zLB (zL HB.out) hb; clear hb hbox hg; have hcz4 := zc5 BK472.out; have hfz4 := zf5 BK472.out))
 (try simp only [Act.put, List.setIfInBounds_toArray, List.set_cons_zero, List.set_cons_succ])
 go_cut [3] (fun v3 wc => ∃ (kq : Nat) (x3_1 : ByteArray), v3 = .string x3_1 ∧ Aside0 (impl_polText.j0 kq x3_1 a0_0 a0_1 a0_2 a0_3 l0_4 = some r) ∧ Aside0 (kq ≤ k) ∧ Aside0 (wc.heap[gb472]? = some (.cells #[.int .i64 a0_0, .int .i64 a0_1, .string a0_2, .string a0_3, (.slice A0_4 l0_4.length c0_4)] 26 (0, 0))) ∧ Aside0 (Below w.heap.size w wc))
 case first =>
  have H := HC2.out
  clear HC2
  by_cases c5 : a0_0 = 1
  ·rw [if_pos c5] at H
   obtain ⟨c5b0, c5b1⟩ := zt c5
   clear c5
   (first | rw [c5b0] | (simp only [i64_w, i32_w]; rw [c5b0]) | skip)
   obtain rfl := Option.some.inj H
   go_wp2
   go_ret
   exact ⟨zW, zL1 HB.out GE472.out⟩
  ·rw [if_neg c5] at H
   obtain ⟨c5b0, c5b1⟩ := zf c5
   (first | rw [c5b0] | (simp only [i64_w, i32_w]; rw [c5b0]) | skip)
   by_cases c6 : a0_0 = 2
   ·rw [if_pos c6] at H
    obtain ⟨c6b0, c6b1⟩ := zt c6
    clear c6
    obtain rfl := Option.some.inj H
    go_wp2
    go_ret
    exact ⟨zW, zL1 HB.out GE472.out⟩
   ·rw [if_neg c6] at H
    obtain ⟨c6b0, c6b1⟩ := zf c6
    by_cases c7 : a0_0 = 3
    ·rw [if_pos c7] at H
     obtain ⟨c7b0, c7b1⟩ := zt c7
     clear c7
     obtain ⟨t473, A8, H⟩ := zO H; try dsimp only at H
     by_cases c9 : 5 + t473.size ≤ 9223372036854775807
     ·rw [if_pos c9] at H
      have c9b0 := eq_true c9
      have c9b1 := decide_eq_true c9
      have c9b2 := eq_false (Nat.not_lt.2 c9)
      obtain rfl := Option.some.inj H
      have hcz10 := zc5 BK472.out
      have hfz10 := zf5 BK472.out
      go_wp2_with (first | ((with_reducible refine gC 46 rfl ?_); refine gL 17 Tryd.func46 #[.int .i64 a0_1] ?_; (with_reducible refine (impl_NumText.calls a0_1 t473 _ (tab_at HTAB.out (zL1 HB.out GE472.out)) A8.out).mono ?_); rintro e w11 ⟨rfl, hb⟩; refine ⟨_, rfl, ?_⟩; replace BK472 := zBB BK472 hb; replace HB := zLB (zL1 HB.out GE472.out) hb; clear hb))
      go_ret
      exact ⟨zW, zL1 HB.out GE472.out⟩
     ·rw [if_neg c9] at H
      exact absurd H (by simp)
    ·rw [if_neg c7] at H
     obtain ⟨c7b0, c7b1⟩ := zf c7
     by_cases c12 : a0_0 = 4
     ·rw [if_pos c12] at H
      obtain ⟨c12b0, c12b1⟩ := zt c12
      clear c12
      by_cases c13 : 5 + a0_2.size ≤ 9223372036854775807
      ·rw [if_pos c13] at H
       have c13b0 := eq_true c13
       have c13b1 := decide_eq_true c13
       have c13b2 := eq_false (Nat.not_lt.2 c13)
       by_cases c14 : ((⟨#[116, 101, 120, 116, 32]⟩ : ByteArray) ++ a0_2).size + 2 ≤ 9223372036854775807
       ·rw [if_pos c14] at H
        have c14b0 := eq_true c14
        have c14b1 := decide_eq_true c14
        have c14b2 := eq_false (Nat.not_lt.2 c14)
        try have c14b3 : (9223372036854775807 < 5 + a0_2.size + 2) = False := eq_false (by have z_ := c14; simp only [ByteArray.size_append] at z_; have e0_ : ((⟨#[116, 101, 120, 116, 32]⟩ : ByteArray)).size = 5 := rfl; omega)
        by_cases c15 : (((⟨#[116, 101, 120, 116, 32]⟩ : ByteArray) ++ a0_2) ++ (⟨#[32, 34]⟩ : ByteArray)).size + a0_3.size ≤ 9223372036854775807
        ·rw [if_pos c15] at H
         have c15b0 := eq_true c15
         have c15b1 := decide_eq_true c15
         have c15b2 := eq_false (Nat.not_lt.2 c15)
         try have c15b3 : (9223372036854775807 < 5 + a0_2.size + 2 + a0_3.size) = False := eq_false (by have z_ := c15; simp only [ByteArray.size_append] at z_; have e0_ : ((⟨#[116, 101, 120, 116, 32]⟩ : ByteArray)).size = 5 := rfl; have e1_ : ((⟨#[32, 34]⟩ : ByteArray)).size = 2 := rfl; omega)
         by_cases c16 : ((((⟨#[116, 101, 120, 116, 32]⟩ : ByteArray) ++ a0_2) ++ (⟨#[32, 34]⟩ : ByteArray)) ++ a0_3).size + 1 ≤ 9223372036854775807
         ·rw [if_pos c16] at H
          have c16b0 := eq_true c16
          have c16b1 := decide_eq_true c16
          have c16b2 := eq_false (Nat.not_lt.2 c16)
          try have c16b3 : (9223372036854775807 < 5 + a0_2.size + 2 + a0_3.size + 1) = False := eq_false (by have z_ := c16; simp only [ByteArray.size_append] at z_; have e0_ : ((⟨#[116, 101, 120, 116, 32]⟩ : ByteArray)).size = 5 := rfl; have e1_ : ((⟨#[32, 34]⟩ : ByteArray)).size = 2 := rfl; omega)
          obtain rfl := Option.some.inj H
          have hcz17 := zc5 BK472.out
          have hfz17 := zf5 BK472.out
          go_wp2
          go_ret
          exact ⟨zW, zL1 HB.out GE472.out⟩
         ·rw [if_neg c16] at H
          exact absurd H (by simp)
        ·rw [if_neg c15] at H
         exact absurd H (by simp)
       ·rw [if_neg c14] at H
        exact absurd H (by simp)
      ·rw [if_neg c13] at H
       exact absurd H (by simp)
     ·rw [if_neg c12] at H
      obtain ⟨c12b0, c12b1⟩ := zf c12
      by_cases c18 : a0_0 = 5
      ·rw [if_pos c18] at H
       obtain ⟨c18b0, c18b1⟩ := zt c18
       clear c18
       by_cases c19 : 4 + a0_2.size ≤ 9223372036854775807
       ·rw [if_pos c19] at H
        have c19b0 := eq_true c19
        have c19b1 := decide_eq_true c19
        have c19b2 := eq_false (Nat.not_lt.2 c19)
        by_cases c20 : ((⟨#[110, 117, 109, 32]⟩ : ByteArray) ++ a0_2).size + 1 ≤ 9223372036854775807
        ·rw [if_pos c20] at H
         have c20b0 := eq_true c20
         have c20b1 := decide_eq_true c20
         have c20b2 := eq_false (Nat.not_lt.2 c20)
         try have c20b3 : (9223372036854775807 < 4 + a0_2.size + 1) = False := eq_false (by have z_ := c20; simp only [ByteArray.size_append] at z_; have e0_ : ((⟨#[110, 117, 109, 32]⟩ : ByteArray)).size = 4 := rfl; omega)
         obtain ⟨t474, A21, H⟩ := zO H; try dsimp only at H
         by_cases c22 : (((⟨#[110, 117, 109, 32]⟩ : ByteArray) ++ a0_2) ++ (⟨#[32]⟩ : ByteArray)).size + t474.size ≤ 9223372036854775807
         ·rw [if_pos c22] at H
          have c22b0 := eq_true c22
          have c22b1 := decide_eq_true c22
          have c22b2 := eq_false (Nat.not_lt.2 c22)
          try have c22b3 : (9223372036854775807 < 4 + a0_2.size + 1 + t474.size) = False := eq_false (by have z_ := c22; simp only [ByteArray.size_append] at z_; have e0_ : ((⟨#[110, 117, 109, 32]⟩ : ByteArray)).size = 4 := rfl; have e1_ : ((⟨#[32]⟩ : ByteArray)).size = 1 := rfl; omega)
          obtain rfl := Option.some.inj H
          try go_wp2
          replace BK472 := zBD BK472; replace HB := zLD HB
          refine start_ (n := 9) (S := fun w' => zs5 w' gb472 (.int .i64 a0_0) (.int .i64 a0_1) (.string a0_2) (.string a0_3) (.slice A0_4 l0_4.length c0_4)) (ds := []) (fB 9 0) (by kernel_rfl) rfl rfl (zc5 BK472.out) (fun hHeld => ?_); refine with_tabW impl_polText.tab13 impl_polText.bits13 (fun HT_ HW_ => ?_)
          generalize w3.drew = w23 at BK472 HB hHeld ⊢
          refine pY 0 31 (fB 9 1) HT_.out ?_
          refine pY 4 35 (fB 9 17) HT_.out ?_
          refine tY 1 32 (fB 9 19) HT_.out HW_.out hHeld ?_
          refine pY 2 33 (fB 9 23) HT_.out ?_
          refine pY 3 34 (fB 9 31) HT_.out ?_
          refine tY 5 36 (fB 9 63) HT_.out HW_.out hHeld ?_
          refine oN 6 37 (fB 9 127) HT_.out fun K hK => ?_
          refine gS Tryd.func46 #[.int .i64 a0_1] ?_
          with_reducible refine (impl_NumText.calls a0_1 t474 _ (tab_at HTAB.out (zL1 HB.out GE472.out)) A21.out).mono ?_
          rintro e w24 ⟨rfl, hb⟩
          refine ⟨_, rfl, ?_⟩
          replace BK472 := zBB BK472 hb; replace HB := zLB (zL1 HB.out GE472.out) hb
          clear hb
          refine hK.out _ _ (zc5 BK472.out) fun hHeld => ?_; clear hK K
          refine nZ 37 ?_
          refine pY 7 38 (fB 9 255) HT_.out ?_
          refine pY 8 2 (fB 9 511) HT_.out ?_
          refine done_ (done_of HT_.out (by kernel_rfl)) ?_
          try go_wp2
          go_ret
          exact ⟨zW, zL1 HB.out GE472.out⟩
         ·rw [if_neg c22] at H
          exact absurd H (by simp)
        ·rw [if_neg c20] at H
         exact absurd H (by simp)
       ·rw [if_neg c19] at H
        exact absurd H (by simp)
      ·rw [if_neg c18] at H
       obtain ⟨c18b0, c18b1⟩ := zf c18
       by_cases c25 : a0_0 = 6
       ·rw [if_pos c25] at H
        obtain ⟨c25b0, c25b1⟩ := zt c25
        clear c25
        obtain rfl := Option.some.inj H
        go_wp2
        go_ret
        exact ⟨zW, zL1 HB.out GE472.out⟩
       ·rw [if_neg c25] at H
        obtain ⟨c25b0, c25b1⟩ := zf c25
        by_cases c26 : a0_0 = 7
        ·rw [if_pos c26] at H
         obtain ⟨c26b0, c26b1⟩ := zt c26
         clear c26
         have H' := Aside0.mk H
         clear H
         go_wp2
         go_meet
         case rel => exact ⟨_, ((⟨#[97, 110, 100, 40]⟩ : ByteArray)), zV, H', ⟨by first | omega | exact Nat.le_refl _⟩, ⟨zB BK472.out⟩, ⟨zL1 HB.out GE472.out⟩⟩
        ·rw [if_neg c26] at H
         obtain ⟨c26b0, c26b1⟩ := zf c26
         by_cases c27 : a0_0 = 8
         ·rw [if_pos c27] at H
          obtain ⟨c27b0, c27b1⟩ := zt c27
          clear c27
          have H' := Aside0.mk H
          clear H
          go_wp2
          go_meet
          case rel => exact ⟨_, ((⟨#[111, 114, 40]⟩ : ByteArray)), zV, H', ⟨by first | omega | exact Nat.le_refl _⟩, ⟨zB BK472.out⟩, ⟨zL1 HB.out GE472.out⟩⟩
         ·rw [if_neg c27] at H
          obtain ⟨c27b0, c27b1⟩ := zf c27
          have H' := Aside0.mk H
          clear H
          go_wp2
          go_meet
          case rel => exact ⟨_, ((⟨#[110, 111, 116, 40]⟩ : ByteArray)), zV, H', ⟨by first | omega | exact Nat.le_refl _⟩, ⟨zB BK472.out⟩, ⟨zL1 HB.out GE472.out⟩⟩
 case rest =>
  clear HC2
  try clear c1
  try clear c2
  try clear p2
  try clear c3
  try clear c4
  try clear c5
  try clear c5b0
  try clear c5b1
  try clear c6
  try clear c6b0
  try clear c6b1
  try clear c7
  try clear c7b0
  try clear c7b1
  try clear c9
  try clear c9b0
  try clear c9b1
  try clear c9b2
  try clear c12
  try clear c12b0
  try clear c12b1
  try clear c13
  try clear c13b0
  try clear c13b1
  try clear c13b2
  try clear c14
  try clear c14b0
  try clear c14b1
  try clear c14b2
  try clear c15
  try clear c15b0
  try clear c15b1
  try clear c15b2
  try clear c16
  try clear c16b0
  try clear c16b1
  try clear c16b2
  try clear c18
  try clear c18b0
  try clear c18b1
  try clear c19
  try clear c19b0
  try clear c19b1
  try clear c19b2
  try clear c20
  try clear c20b0
  try clear c20b1
  try clear c20b2
  try clear c22
  try clear c22b0
  try clear c22b1
  try clear c22b2
  try clear c25
  try clear c25b0
  try clear c25b1
  try clear c26
  try clear c26b0
  try clear c26b1
  try clear c27
  try clear c27b0
  try clear c27b1
  try clear hcz10; try clear hcz17; try clear hcz4; try clear hfz10; try clear hfz17; try clear hfz4
  obtain ⟨kq, x3_1, rfl, HA, HJ1, BK472, HB⟩ := hcut
  cases kq with
  | zero => exact absurd HA.out (by simp [impl_polText.j0])
  | succ kj1 =>
   have H := HA.out
   clear HA
   simp only [impl_polText.j0] at H
   have H' := Aside0.mk H
   clear H
   have hcz28 := zc5 BK472.out
   have hfz28 := zf5 BK472.out
   go_wp2
   go_loopg [4, 48] kj1 (fun kq v4 v48 w' => ∃ (x4_2 : List ByteArray) (x48_2 : Int), v48 = .int .i64 x48_2 ∧ Aside0 (impl_polText.l0 kq x3_1 x4_2 l0_4 (l0_4.length : Int) x48_2 = some r) ∧ Aside0 (kq ≤ kj1) ∧ Aside0 (Kd.R Kd.string 9 w' w.heap.size (fun _ => True) v4 x4_2) ∧ Aside0 (w'.heap[gb472]? = some (.cells #[.int .i64 a0_0, .int .i64 a0_1, .string a0_2, .string a0_3, (.slice A0_4 l0_4.length c0_4)] 26 (0, 0))) ∧ Aside0 (Below w.heap.size w w'))
   case atStart => exact ⟨(([] : List ByteArray)), (0), zV, H', ⟨Nat.le_refl _⟩, ⟨by first | exact Kd.R_nil _ _ _ _ _ | exact Kd.N_nil _ _ _ _ _ | exact Kd.V_nil _ _ _ _ _ | exact Kd.Q_nil _ _ _ _ _ | exact Kd.S_nil _ _ _ _ _⟩, ⟨zB BK472.out⟩, ⟨zL1 HB.out GE472.out⟩⟩
   case round =>
    clear H'
    try clear c1
    try clear c2
    try clear p2
    try clear c3
    try clear c4
    try clear c5
    try clear c5b0
    try clear c5b1
    try clear c6
    try clear c6b0
    try clear c6b1
    try clear c7
    try clear c7b0
    try clear c7b1
    try clear c9
    try clear c9b0
    try clear c9b1
    try clear c9b2
    try clear c12
    try clear c12b0
    try clear c12b1
    try clear c13
    try clear c13b0
    try clear c13b1
    try clear c13b2
    try clear c14
    try clear c14b0
    try clear c14b1
    try clear c14b2
    try clear c15
    try clear c15b0
    try clear c15b1
    try clear c15b2
    try clear c16
    try clear c16b0
    try clear c16b1
    try clear c16b2
    try clear c18
    try clear c18b0
    try clear c18b1
    try clear c19
    try clear c19b0
    try clear c19b1
    try clear c19b2
    try clear c20
    try clear c20b0
    try clear c20b1
    try clear c20b2
    try clear c22
    try clear c22b0
    try clear c22b1
    try clear c22b2
    try clear c25
    try clear c25b0
    try clear c25b1
    try clear c26
    try clear c26b0
    try clear c26b1
    try clear c27
    try clear c27b0
    try clear c27b1
    try clear hcz10; try clear hcz17; try clear hcz28; try clear hcz4; try clear hfz10; try clear hfz17; try clear hfz28; try clear hfz4
    try clear p2
    try clear BK472
    obtain ⟨x4_2, x48_2, rfl, HA, HK2, HO_4, BK472, HB⟩ := hrel
    cases gk with
    | zero => exact absurd HA.out (by simp [impl_polText.l0])
    | succ k2 =>
     have H := HA.out
     clear HA
     simp only [impl_polText.l0] at H
     by_cases c29 : x48_2 < (l0_4.length : Int)
     ·rw [if_pos c29] at H
      have c29b0 := decide_eq_true c29
      clear c29
      by_cases c30 : 0 ≤ x48_2
      ·rw [if_pos c30] at H
       have c30b0 := decide_eq_true c30
       clear c30
       by_cases c31 : x48_2 < (l0_4.length : Int)
       ·rw [if_pos c31] at H
        have c31b0 := decide_eq_true c31
        clear c31
        obtain ⟨t477, A32, H⟩ := zO H; try dsimp only at H
        by_cases c33 : x4_2.length < 8796093022208
        ·rw [if_pos c33] at H
         have LMc33 := Aside0.mk c33
         clear c33
         generalize hy478 : (x4_2 ++ [t477]) = y478 at H; (try rw [Option.bind_some] at H); have Ny478 := Aside0.mk hy478.symm; clear hy478
         have H' := Aside0.mk H
         clear H
         have p475 : 0 ≤ (x48_2 : Int) := zD
         have q475 : x48_2 < (l0_4.length : Int) := zD
         obtain ⟨ad475, A475_4, c475_4, e475, hx475_0, hx475_1, hx475_2, hx475_3, hx475_4, hl475_4, hi475_4⟩ := at_T26 HR0_4.out x48_2 p475 q475
         cases e475
         replace hx475_0 := zh HB.out hx475_0
         replace hx475_1 := zh HB.out hx475_1
         replace hx475_2 := zh HB.out hx475_2
         replace hx475_3 := zh HB.out hx475_3
         replace hx475_4 := zh HB.out hx475_4
         have HR475_4 := Aside0.mk hi475_4
         have HC475_4 := Aside0.mk hl475_4
         clear hi475_4 hl475_4
         replace p475 := eq_true p475
         replace q475 := eq_true q475
         go_wp2_with (first | ((with_reducible refine gD 6 rfl ?_); refine bE 6 #[.int .i64 0, .int .i64 0, .string (⟨#[]⟩ : ByteArray), .string (⟨#[]⟩ : ByteArray), .slice none 0 0] 26 ?_; intro gb476 hg w34 hbox hb; replace HO_4 := zRB HO_4 hb; have BK476 := Aside0.mk hbox; have GW476 := Aside0.mk (zg (zL1 HB.out GE472.out) hg : w.heap.size ≤ gb476); have GE476 := GW476; replace HB := zLB (zL1 HB.out GE472.out) hb; have NB472_476 := Aside0.mk (zN BK472.out hg : gb472 ≠ gb476); have NB476_472 := Aside0.mk (zM BK472.out hg : gb476 ≠ gb472); replace BK472 := zBB BK472 hb; clear hb hbox hg; have hnb35 := NB476_472.out; have hnc35 := NB472_476.out; have hcz36 := zc5 BK476.out; have hfz36 := zf5 BK476.out) | ((with_reducible refine gC 32 rfl ?_); refine gL 54 Tryd.func32 #[.agg #[.int .i64 ((rd_T26 l0_4 x48_2).f0), .int .i64 ((rd_T26 l0_4 x48_2).f1), .string ((rd_T26 l0_4 x48_2).f2), .string ((rd_T26 l0_4 x48_2).f3), .slice A475_4 ((rd_T26 l0_4 x48_2).f4).length c475_4]] ?_; (with_reducible refine (ih k2 (by have := HJ1.out; have := HK2.out; omega) ((rd_T26 l0_4 x48_2).f0) ((rd_T26 l0_4 x48_2).f1) ((rd_T26 l0_4 x48_2).f2) ((rd_T26 l0_4 x48_2).f3) _ _ ((rd_T26 l0_4 x48_2).f4) t477 _ ?side1 ?side2 (tab_at HTAB.out (zL2 HB.out GE472.out GE476.out)) A32.out).mono ?_); (case side1 => exact Kd.C_below HR475_4.out (zL2 HB.out GE472.out GE476.out)); (case side2 => exact HC475_4.out); rintro e w37 ⟨rfl, hb⟩; refine ⟨_, rfl, ?_⟩; replace HO_4 := Aside0.mk (Kd.R_below (by (with_reducible repeat (first | apply Kd.R_alloc | apply Kd.R_drewN | apply Kd.R_drew)); exact (Kd.R_mono (zRF5 (Kd.R_types HO_4.out BK476.out (by decide)) gb476 (fun _ hk => hk.2) (.int .i64 ((rd_T26 l0_4 x48_2).f0)) (.int .i64 ((rd_T26 l0_4 x48_2).f1)) (.string ((rd_T26 l0_4 x48_2).f2)) (.string ((rd_T26 l0_4 x48_2).f3)) (.slice A475_4 ((rd_T26 l0_4 x48_2).f4).length c475_4)) (fun _ h_ => h_.1))) hb); replace BK472 := Aside0.mk (bB (g := gb472) (o := .cells #[.int .i64 a0_0, .int .i64 a0_1, .string a0_2, .string a0_3, .slice (some ad475) l0_4.length c0_4] 26 (0, 0)) (by refine zB ?_; refine zr5 ?_ NB472_476.out; exact zB BK472.out) hb); replace BK476 := Aside0.mk (bB (g := gb476) (o := .cells #[.int .i64 ((rd_T26 l0_4 x48_2).f0), .int .i64 ((rd_T26 l0_4 x48_2).f1), .string ((rd_T26 l0_4 x48_2).f2), .string ((rd_T26 l0_4 x48_2).f3), .slice A475_4 ((rd_T26 l0_4 x48_2).f4).length c475_4] 26 (0, 0)) (by refine zB ?_; refine zp5 (cs := #[.int .i64 0, .int .i64 0, .string (⟨#[]⟩ : ByteArray), .string (⟨#[]⟩ : ByteArray), .slice none 0 0]) ?_; exact zB BK476.out) hb); replace HB := zLB (zL2 HB.out GE472.out GE476.out) hb; clear hb) | ((with_reducible refine gate_builtin (b := .append) (xs := #[.tmp 52, .tmp 55]) rfl ?_); at_builtin; refine Kd.R_append Kd.string (w0 := w) w.heap.size rfl (.tmp 52) (.tmp 55) 62 9 (.string ⟨#[]⟩) 16 rfl Tryd.underlying62 info9 rfl (by decide) (by omega) u4 x4_2 t477 [.string t477] (fun _ => True) (fun _ => False) rfl rfl ?aP (fun _ hk => hk.elim) ?aF ?aO ?aB ?aS ?aL ?_; (case aP => exact rfl); (case aB => exact (zL2 HB.out GE472.out GE476.out)); (case aF => exact (fun _ _ => trivial)); (case aO => exact (zR HO_4.out)); (case aS => exact (below_size (zL2 HB.out GE472.out GE476.out))); (case aL => have := LMc33.out; omega); intro v479 w38 ho hb hg hat; rw [← Ny478.out] at ho; replace BK472 := Aside0.mk (blk_grown (g := gb472) (o := .cells #[.int .i64 a0_0, .int .i64 a0_1, .string a0_2, .string a0_3, .slice (some ad475) l0_4.length c0_4] 26 (0, 0)) (zB BK472.out) hg (Kd.R_ne HO_4.out BK472.out (by decide))); replace BK476 := Aside0.mk (blk_grown (g := gb476) (o := .cells #[.int .i64 ((rd_T26 l0_4 x48_2).f0), .int .i64 ((rd_T26 l0_4 x48_2).f1), .string ((rd_T26 l0_4 x48_2).f2), .string ((rd_T26 l0_4 x48_2).f3), .slice A475_4 ((rd_T26 l0_4 x48_2).f4).length c475_4] 26 (0, 0)) (zB BK476.out) hg (Kd.R_ne HO_4.out BK476.out (by decide))); replace HB := Aside0.mk hb; have HO480 := Aside0.mk (ho); clear HO_4; clear ho hb hg hat))
         go_roundg k2
         case measure => have := HJ1.out; have := HK2.out; omega
         case rel => exact ⟨(y478), (wrap64 (x48_2 + 1)), zV, H', ⟨by have := HJ1.out; have := HK2.out; omega⟩, ⟨zR HO480.out⟩, ⟨zB BK472.out⟩, ⟨zL2 HB.out GE472.out GE476.out⟩⟩
        ·rw [if_neg c33] at H
         exact absurd H (by simp)
       ·rw [if_neg c31] at H
        exact absurd H (by simp)
      ·rw [if_neg c30] at H
       exact absurd H (by simp)
     ·rw [if_neg c29] at H
      have c29b0 := decide_eq_false c29
      clear c29
      obtain ⟨t481, A39, H⟩ := zO H; try dsimp only at H
      by_cases c40 : x3_1.size + t481.size ≤ 9223372036854775807
      ·rw [if_pos c40] at H
       have c40b0 := eq_true c40
       have c40b1 := decide_eq_true c40
       have c40b2 := eq_false (Nat.not_lt.2 c40)
       by_cases c41 : (x3_1 ++ t481).size + 1 ≤ 9223372036854775807
       ·rw [if_pos c41] at H
        have c41b0 := eq_true c41
        have c41b1 := decide_eq_true c41
        have c41b2 := eq_false (Nat.not_lt.2 c41)
        try have c41b3 : (9223372036854775807 < x3_1.size + t481.size + 1) = False := eq_false (by have z_ := c41; simp only [ByteArray.size_append] at z_; omega)
        obtain rfl := Option.some.inj H
        obtain ⟨Ao42, co42, eo42⟩ := Kd.R_slice HO_4.out
        subst eo42
        go_wp2_with (first | ((with_reducible refine gC 47 rfl ?_); refine gL 60 Tryd.func47 #[.slice Ao42 x4_2.length co42, .string (⟨#[44, 32]⟩ : ByteArray)] ?_; (with_reducible refine (strings_Join.calls _ _ x4_2 (⟨#[44, 32]⟩ : ByteArray) t481 _ ?side1 ?side2 A39.out).mono ?_); (case side1 => exact zC (Kd.R_reads' HO_4.out).2.2); (case side2 => exact (Kd.R_reads' HO_4.out).2.1); rintro e w43 ⟨rfl, hb⟩; refine ⟨_, rfl, ?_⟩; replace HO_4 := zRB HO_4 hb; replace BK472 := zBB BK472 hb; replace HB := zLB (zL1 HB.out GE472.out) hb; clear hb))
        go_ret
        exact ⟨zW, zL1 HB.out GE472.out⟩
       ·rw [if_neg c41] at H
        exact absurd H (by simp)
      ·rw [if_neg c40] at H
       exact absurd H (by simp)

open Go.Proofs.YtfhblnbicnmndaaDoorW.PrintWords renaming blk_drewN → bN, blk_drew → bD, blk_alloc → bA, blk_cell → bC, blk_below → bB, below_set → bS
/-! ### impl_PolText: function 19 -/
def impl_PolText.f (k : Nat) (a0_0 : Int) (a0_1 : Int) (a0_2 : ByteArray) (a0_3 : ByteArray) (l0_4 : List (S26)) : Option (ByteArray) := (impl_PolOk.f k a0_0 a0_1 a0_2 a0_3 l0_4).bind fun t483 => (if t483 = true then ((impl_polText.f k a0_0 a0_1 a0_2 a0_3 l0_4).bind fun t484 => (some t484)) else (some (⟨#[]⟩ : ByteArray)))
theorem impl_PolText.mono : ∀ a0 a1 a2 a3 a4 k, LeO (impl_PolText.f k a0 a1 a2 a3 a4) (impl_PolText.f (k + 1) a0 a1 a2 a3 a4) := by
 intro a0 a1 a2 a3 a4 k
 unfold impl_PolText.f
 repeat' first
   | (with_reducible apply impl_PolOk.mono)
   | (with_reducible apply impl_polText.mono)
   | (with_reducible exact LeO.refl _)
   | (with_reducible exact LeO.none _)
   | (with_reducible refine LeO.ite ?_ ?_)
   | (with_reducible refine LeO.bind ?_ (fun _ => ?_))
   | apply impl_PolOk.mono
   | apply impl_polText.mono
   | exact LeO.none _
   | refine LeO.ite ?_ ?_
   | refine LeO.bind ?_ (fun _ => ?_)
set_option maxHeartbeats 8000000 in
set_option maxRecDepth 100000 in
theorem impl_PolText.calls (k : Nat) (a0_0 : Int) (a0_1 : Int) (a0_2 : ByteArray) (a0_3 : ByteArray) (A0_4 : Option Addr) (c0_4 : Nat) (l0_4 : List (S26)) (r : ByteArray) (w : World) (hr0_4 : Kd.C k26 w A0_4 l0_4.length l0_4) (hc0_4 : l0_4.length ≤ c0_4) (htab_ : Lib.TabIs Tryd.prog w "internal/strconv.uint64pow10" .u64 Lib.pow10Tab) (h : impl_PolText.f k a0_0 a0_1 a0_2 a0_3 l0_4 = some r) :
  Calls Tryd.prog 19 #[.agg #[.int .i64 a0_0, .int .i64 a0_1, .string a0_2, .string a0_3, .slice A0_4 l0_4.length c0_4]] w fun e w' => e = .returned (.string r) ∧ Below w.heap.size w w' := by
 have HTAB := Aside0.mk htab_
 clear htab_
 have hu26 := Tryd.underlying26
 have HR0_4 := Aside0.mk hr0_4
 have HC0_4 := Aside0.mk hc0_4
 clear hr0_4 hc0_4
 have HB := Aside0.mk (Below.refl w.heap.size w)
 unfold impl_PolText.f at h; have H := h
 clear h
 obtain ⟨t483, A2, H⟩ := zO H; try dsimp only at H
 by_cases c3 : t483 = true
 ·subst c3
  rw [if_pos rfl] at H
  obtain ⟨t484, A4, H⟩ := zO H; try dsimp only at H
  obtain rfl := Option.some.inj H
  go_enter Tryd.func19, Tryd.ntmps19
  go_wp2_with (first | ((with_reducible refine gD 1 rfl ?_); refine bE 1 #[.int .i64 a0_0, .int .i64 a0_1, .string a0_2, .string a0_3, .slice A0_4 l0_4.length c0_4] 26 ?_; intro gb482 hg w5 hbox hb; have BK482 := Aside0.mk hbox; have GW482 := Aside0.mk (zg (zL HB.out) hg : w.heap.size ≤ gb482); have GE482 := GW482; replace HB := zLB (zL HB.out) hb; clear hb hbox hg; have hcz6 := zc5 BK482.out; have hfz6 := zf5 BK482.out) | ((with_reducible refine gC 11 rfl ?_); refine gL 4 Tryd.func11 #[.agg #[.int .i64 a0_0, .int .i64 a0_1, .string a0_2, .string a0_3, .slice A0_4 l0_4.length c0_4]] ?_; (with_reducible refine (impl_PolOk.calls k a0_0 a0_1 a0_2 a0_3 _ _ l0_4 true _ ?side1 ?side2 A2.out).mono ?_); (case side1 => exact zC (Kd.C_below HR0_4.out HB.out)); (case side2 => exact HC0_4.out); rintro e w7 ⟨rfl, hb⟩; refine ⟨_, rfl, ?_⟩; replace BK482 := zBB BK482 hb; replace HB := zLB (zL1 HB.out GE482.out) hb; clear hb; have hcz8 := zc5 BK482.out; have hfz8 := zf5 BK482.out) | ((with_reducible refine gC 32 rfl ?_); refine gL 7 Tryd.func32 #[.agg #[.int .i64 a0_0, .int .i64 a0_1, .string a0_2, .string a0_3, .slice A0_4 l0_4.length c0_4]] ?_; (with_reducible refine (impl_polText.calls k a0_0 a0_1 a0_2 a0_3 _ _ l0_4 t484 _ ?side1 ?side2 (tab_at HTAB.out (zL1 HB.out GE482.out)) A4.out).mono ?_); (case side1 => exact zC (Kd.C_below HR0_4.out HB.out)); (case side2 => exact HC0_4.out); rintro e w9 ⟨rfl, hb⟩; refine ⟨_, rfl, ?_⟩; replace BK482 := zBB BK482 hb; replace HB := zLB (zL1 HB.out GE482.out) hb; clear hb))
  go_ret
  exact ⟨zW, zL1 HB.out GE482.out⟩
 ·obtain rfl := Bool.eq_false_iff.mpr c3
  rw [if_neg zn] at H
  obtain rfl := Option.some.inj H
  go_enter Tryd.func19, Tryd.ntmps19
  go_wp2_with (first | ((with_reducible refine gD 1 rfl ?_); refine bE 1 #[.int .i64 a0_0, .int .i64 a0_1, .string a0_2, .string a0_3, .slice A0_4 l0_4.length c0_4] 26 ?_; intro gb482 hg w10 hbox hb; have BK482 := Aside0.mk hbox; have GW482 := Aside0.mk (zg (zL HB.out) hg : w.heap.size ≤ gb482); have GE482 := GW482; replace HB := zLB (zL HB.out) hb; clear hb hbox hg; have hcz11 := zc5 BK482.out; have hfz11 := zf5 BK482.out) | ((with_reducible refine gC 11 rfl ?_); refine gL 4 Tryd.func11 #[.agg #[.int .i64 a0_0, .int .i64 a0_1, .string a0_2, .string a0_3, .slice A0_4 l0_4.length c0_4]] ?_; (with_reducible refine (impl_PolOk.calls k a0_0 a0_1 a0_2 a0_3 _ _ l0_4 false _ ?side1 ?side2 A2.out).mono ?_); (case side1 => exact zC (Kd.C_below HR0_4.out HB.out)); (case side2 => exact HC0_4.out); rintro e w12 ⟨rfl, hb⟩; refine ⟨_, rfl, ?_⟩; replace BK482 := zBB BK482 hb; replace HB := zLB (zL1 HB.out GE482.out) hb; clear hb))
  go_ret
  exact ⟨zW, zL1 HB.out GE482.out⟩

end Go.Proofs.YtfhblnbicnmndaaDoor.QFnPols
