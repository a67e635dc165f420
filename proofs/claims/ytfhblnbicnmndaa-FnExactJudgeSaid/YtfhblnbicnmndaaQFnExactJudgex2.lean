/- What the Go functions that the law FnExactJudge reaches answer: each as a Lean function, with its walk. Written by a program of this session. Conditions: those that each theorem names. -/
import Derived.Test.YtfhblnbicnmndaaQFnExactJudgex0
import Derived.Test.YtfhblnbicnmndaaQFnExactJudgex1
namespace Go.Proofs.Ytfhblnbicnmndaa.QFnExactJudge
open Go.RowKit Go.Proofs.YtfhblnbicnmndaaW.PrintWords Go.Proofs.YtfhblnbicnmndaaW.PrintLast Go.Proofs.YtfhblnbicnmndaaW.PrintMore
attribute [local go_sem] max2_int min2_int max_two min_two max_three min_three max_four min_four   -- for this text's walks alone
set_option linter.unusedVariables false
set_option linter.unusedSimpArgs false

open Go.Proofs.YtfhblnbicnmndaaW.PrintWords renaming blk_drewN → bN, blk_drew → bD, blk_alloc → bA, blk_cell → bC, blk_below → bB, below_set → bS
/-! ### laws_szSpanS: function 22 -/
def laws_szSpanS.l0 : Nat → List (S70) → Int → Int → Option (Int)
 | 0, _, _, _ => none
 | k + 1, x0, x1, x5 => if x5 < (x0.length : Int) then (if 0 ≤ x5 then ((laws_szSpan.f k ((rd_T70 x0 x5).f0) ((rd_T70 x0 x5).f1) ((rd_T70 x0 x5).f2) ((rd_T70 x0 x5).f3) ((rd_T70 x0 x5).f4) ((rd_T70 x0 x5).f5) x1).bind fun t135 => (if t135 < 0 then (some (-1)) else (laws_szSpanS.l0 k x0 t135 (wrap64 (x5 + 1))))) else (none)) else (some x1)
def laws_szSpanS.f (k : Nat) (l0 : List (S70)) (a1 : Int) : Option (Int) := if (wrap64 (a1 - (l0.length : Int))) < 0 then (some (-1)) else (laws_szSpanS.l0 k l0 (wrap64 (a1 - (l0.length : Int))) 0)
theorem laws_szSpanS.mono_l : ∀ k, (∀ y0 y1 y2, LeO (laws_szSpanS.l0 k y0 y1 y2) (laws_szSpanS.l0 (k + 1) y0 y1 y2))
 | 0 => fun _ _ _ r h => by simp [laws_szSpanS.l0] at h
 | k + 1 => by
  have ih0 := laws_szSpanS.mono_l k
  ·intro y0 y1 y2
   unfold laws_szSpanS.l0
   repeat' first
   | (with_reducible exact ih0 _ _ _)
   | (with_reducible apply laws_szSpan.mono)
   | (with_reducible exact LeO.refl _)
   | (with_reducible exact LeO.none _)
   | (with_reducible refine LeO.ite ?_ ?_)
   | (with_reducible refine LeO.bind ?_ (fun _ => ?_))
   | exact ih0 _ _ _
   | apply laws_szSpan.mono
   | exact LeO.none _
   | refine LeO.ite ?_ ?_
   | refine LeO.bind ?_ (fun _ => ?_)
theorem laws_szSpanS.mono : ∀ a0 a1 k, LeO (laws_szSpanS.f k a0 a1) (laws_szSpanS.f (k + 1) a0 a1) := by
 intro a0 a1 k
 have ih0 := laws_szSpanS.mono_l k
 unfold laws_szSpanS.f
 repeat' first
   | (with_reducible exact ih0 _ _ _)
   | (with_reducible apply laws_szSpan.mono)
   | (with_reducible exact LeO.refl _)
   | (with_reducible exact LeO.none _)
   | (with_reducible refine LeO.ite ?_ ?_)
   | (with_reducible refine LeO.bind ?_ (fun _ => ?_))
   | exact ih0 _ _ _
   | apply laws_szSpan.mono
   | exact LeO.none _
   | refine LeO.ite ?_ ?_
   | refine LeO.bind ?_ (fun _ => ?_)
set_option maxHeartbeats 8000000 in
set_option maxRecDepth 100000 in
theorem laws_szSpanS.calls (k : Nat) (A0 : Option Addr) (c0 : Nat) (l0 : List (S70)) (a1 : Int) (r : Int) (w : World) (hr0 : Kd.C k70 w A0 l0.length l0) (hc0 : l0.length ≤ c0) (h : laws_szSpanS.f k l0 a1 = some r) :
  Calls Try.prog 22 #[.slice A0 l0.length c0, .int .i64 a1] w fun e w' => e = .returned (.int .i64 r) ∧ Below w.heap.size w w' := by
 have hu70 := Try.underlying70
 have HR0 := Aside0.mk hr0
 have HC0 := Aside0.mk hc0
 clear hr0 hc0
 have HB := Aside0.mk (Below.refl w.heap.size w)
 unfold laws_szSpanS.f at h; have H := h
 clear h
 by_cases c3 : (wrap64 (a1 - (l0.length : Int))) < 0
 ·rw [if_pos c3] at H
  have c3b0 := decide_eq_true c3
  clear c3
  obtain rfl := Option.some.inj H
  go_enter Try.func22, Try.ntmps22
  go_wp2
  go_ret
  exact ⟨zW, zL HB.out⟩
 ·rw [if_neg c3] at H
  have c3b0 := decide_eq_false c3
  clear c3
  have H' := Aside0.mk H
  clear H
  go_enter Try.func22, Try.ntmps22
  go_wp2
  go_loopg [1, 5] k (fun kq v1 v5 w' => ∃ (x1_1 : Int) (x5_1 : Int), v1 = .int .i64 x1_1 ∧ v5 = .int .i64 x5_1 ∧ Aside0 (laws_szSpanS.l0 kq l0 x1_1 x5_1 = some r) ∧ Aside0 (kq ≤ k) ∧ Aside0 (Below w.heap.size w w'))
  case atStart => exact ⟨(wrap64 (a1 - (l0.length : Int))), (0), zV, zV, H', ⟨Nat.le_refl _⟩, ⟨zL HB.out⟩⟩
  case round =>
   clear H'
   try clear c2
   try clear p2
   try clear c3
   try clear c3b0
   obtain ⟨x1_1, x5_1, rfl, rfl, HA, HK1, HB⟩ := hrel
   cases gk with
   | zero => exact absurd HA.out (by simp [laws_szSpanS.l0])
   | succ k1 =>
    have H := HA.out
    clear HA
    simp only [laws_szSpanS.l0] at H
    by_cases c4 : x5_1 < (l0.length : Int)
    ·rw [if_pos c4] at H
     have c4b0 := decide_eq_true c4
     clear c4
     by_cases c5 : 0 ≤ x5_1
     ·rw [if_pos c5] at H
      have c5b0 := decide_eq_true c5
      clear c5
      obtain ⟨t135, A6, H⟩ := zO H; try dsimp only at H
      by_cases c7 : t135 < 0
      ·rw [if_pos c7] at H
       have c7b0 := decide_eq_true c7
       clear c7
       obtain rfl := Option.some.inj H
       have p134 : 0 ≤ (x5_1 : Int) := zD
       have q134 : x5_1 < (l0.length : Int) := zD
       obtain ⟨ad134, A134_5, c134_5, e134, hx134_0, hx134_1, hx134_2, hx134_3, hx134_4, hx134_5, hl134_5, hi134_5⟩ := at_T70 HR0.out x5_1 p134 q134
       cases e134
       replace hx134_0 := zh HB.out hx134_0
       replace hx134_1 := zh HB.out hx134_1
       replace hx134_2 := zh HB.out hx134_2
       replace hx134_3 := zh HB.out hx134_3
       replace hx134_4 := zh HB.out hx134_4
       replace hx134_5 := zh HB.out hx134_5
       have HR134_5 := Aside0.mk hi134_5
       have HC134_5 := Aside0.mk hl134_5
       clear hi134_5 hl134_5
       replace p134 := eq_true p134
       replace q134 := eq_true q134
       go_wp2_with (first | ((with_reducible refine gC 51 rfl ?_); refine gL 23 Try.func51 #[.agg #[.int .i64 ((rd_T70 l0 x5_1).f0), .int .i64 ((rd_T70 l0 x5_1).f1), .int .i64 ((rd_T70 l0 x5_1).f2), .int .i64 ((rd_T70 l0 x5_1).f3), .bool ((rd_T70 l0 x5_1).f4), .slice A134_5 ((rd_T70 l0 x5_1).f5).length c134_5], .int .i64 x1_1] ?_; (with_reducible refine (laws_szSpan.calls k1 ((rd_T70 l0 x5_1).f0) ((rd_T70 l0 x5_1).f1) ((rd_T70 l0 x5_1).f2) ((rd_T70 l0 x5_1).f3) ((rd_T70 l0 x5_1).f4) _ _ ((rd_T70 l0 x5_1).f5) x1_1 t135 _ ?side1 ?side2 A6.out).mono ?_); (case side1 => exact zC (Kd.C_below HR134_5.out HB.out)); (case side2 => exact HC134_5.out); rintro e w8 ⟨rfl, hb⟩; refine ⟨_, rfl, ?_⟩; replace HB := zLB (zL HB.out) hb; clear hb))
       go_ret
       exact ⟨zW, zL HB.out⟩
      ·rw [if_neg c7] at H
       have c7b0 := decide_eq_false c7
       clear c7
       have H' := Aside0.mk H
       clear H
       have p134 : 0 ≤ (x5_1 : Int) := zD
       have q134 : x5_1 < (l0.length : Int) := zD
       obtain ⟨ad134, A134_5, c134_5, e134, hx134_0, hx134_1, hx134_2, hx134_3, hx134_4, hx134_5, hl134_5, hi134_5⟩ := at_T70 HR0.out x5_1 p134 q134
       cases e134
       replace hx134_0 := zh HB.out hx134_0
       replace hx134_1 := zh HB.out hx134_1
       replace hx134_2 := zh HB.out hx134_2
       replace hx134_3 := zh HB.out hx134_3
       replace hx134_4 := zh HB.out hx134_4
       replace hx134_5 := zh HB.out hx134_5
       have HR134_5 := Aside0.mk hi134_5
       have HC134_5 := Aside0.mk hl134_5
       clear hi134_5 hl134_5
       replace p134 := eq_true p134
       replace q134 := eq_true q134
       go_wp2_with (first | ((with_reducible refine gC 51 rfl ?_); refine gL 23 Try.func51 #[.agg #[.int .i64 ((rd_T70 l0 x5_1).f0), .int .i64 ((rd_T70 l0 x5_1).f1), .int .i64 ((rd_T70 l0 x5_1).f2), .int .i64 ((rd_T70 l0 x5_1).f3), .bool ((rd_T70 l0 x5_1).f4), .slice A134_5 ((rd_T70 l0 x5_1).f5).length c134_5], .int .i64 x1_1] ?_; (with_reducible refine (laws_szSpan.calls k1 ((rd_T70 l0 x5_1).f0) ((rd_T70 l0 x5_1).f1) ((rd_T70 l0 x5_1).f2) ((rd_T70 l0 x5_1).f3) ((rd_T70 l0 x5_1).f4) _ _ ((rd_T70 l0 x5_1).f5) x1_1 t135 _ ?side1 ?side2 A6.out).mono ?_); (case side1 => exact zC (Kd.C_below HR134_5.out HB.out)); (case side2 => exact HC134_5.out); rintro e w9 ⟨rfl, hb⟩; refine ⟨_, rfl, ?_⟩; replace HB := zLB (zL HB.out) hb; clear hb))
       go_roundg k1
       case measure => have := HK1.out; omega
       case rel => exact ⟨(t135), (wrap64 (x5_1 + 1)), zV, zV, H', ⟨by have := HK1.out; omega⟩, ⟨zL HB.out⟩⟩
     ·rw [if_neg c5] at H
      exact absurd H (by simp)
    ·rw [if_neg c4] at H
     have c4b0 := decide_eq_false c4
     clear c4
     obtain rfl := Option.some.inj H
     go_wp2
     go_ret
     exact ⟨zW, zL HB.out⟩

open Go.Proofs.YtfhblnbicnmndaaW.PrintWords renaming blk_drewN → bN, blk_drew → bD, blk_alloc → bA, blk_cell → bC, blk_below → bB, below_set → bS
/-! ### laws_toAttr: function 98 -/
def laws_toAttr.f (a0_0 : ByteArray) (a0_1 : Bool) (a0_2 : Int) (a0_3 : ByteArray) : Option (ByteArray × Bool × Int × ByteArray) := some (a0_0, a0_1, a0_2, a0_3)
set_option maxHeartbeats 8000000 in
set_option maxRecDepth 100000 in
theorem laws_toAttr.calls (a0_0 : ByteArray) (a0_1 : Bool) (a0_2 : Int) (a0_3 : ByteArray) (r1 : ByteArray) (r2 : Bool) (r3 : Int) (r4 : ByteArray) (w : World) (h : laws_toAttr.f a0_0 a0_1 a0_2 a0_3 = some (r1, r2, r3, r4)) :
  Calls Try.prog 98 #[.agg #[.string a0_0, .bool a0_1, .int .i64 a0_2, .string a0_3]] w fun e w' => e = .returned (.agg #[.string r1, .bool r2, .int .i64 r3, .string r4]) ∧ Below w.heap.size w w' := by
 have hu110 := Try.underlying110
 have hu83 := Try.underlying83
 have HB := Aside0.mk (Below.refl w.heap.size w)
 unfold laws_toAttr.f at h; have H := h
 clear h
 simp only [Option.some.injEq, Prod.mk.injEq] at H
 obtain ⟨rfl, rfl, rfl, rfl⟩ := H
 go_enter Try.func98, Try.ntmps98
 go_wp2_with (first | ((with_reducible refine gD 1 rfl ?_); refine bE 1 #[.string a0_0, .bool a0_1, .int .i64 a0_2, .string a0_3] 110 ?_; intro gb136 hg w2 hbox hb; have BK136 := Aside0.mk hbox; have GW136 := Aside0.mk (zg (zL HB.out) hg : w.heap.size ≤ gb136); have GE136 := GW136; replace HB := zLB (zL HB.out) hb; clear hb hbox hg) | ((with_reducible refine gD 2 rfl ?_); refine bE 2 #[.string (⟨#[]⟩ : ByteArray), .bool false, .int .i64 0, .string (⟨#[]⟩ : ByteArray)] 83 ?_; intro gb137 hg w3 hbox hb; have BK137 := Aside0.mk hbox; have GW137 := Aside0.mk (zg (zL1 HB.out GE136.out) hg : w.heap.size ≤ gb137); have GE137 := GW137; replace HB := zLB (zL1 HB.out GE136.out) hb; have NB136_137 := Aside0.mk (zN BK136.out hg : gb136 ≠ gb137); have NB137_136 := Aside0.mk (zM BK136.out hg : gb137 ≠ gb136); replace BK136 := zBB BK136 hb; clear hb hbox hg) | ((with_reducible refine gD 3 rfl ?_); refine bE 3 #[.string (⟨#[]⟩ : ByteArray), .bool false, .int .i64 0, .string (⟨#[]⟩ : ByteArray)] 83 ?_; intro gb138 hg w4 hbox hb; have BK138 := Aside0.mk hbox; have GW138 := Aside0.mk (zg (zL2 HB.out GE136.out GE137.out) hg : w.heap.size ≤ gb138); have GE138 := GW138; replace HB := zLB (zL2 HB.out GE136.out GE137.out) hb; have NB136_138 := Aside0.mk (zN BK136.out hg : gb136 ≠ gb138); have NB138_136 := Aside0.mk (zM BK136.out hg : gb138 ≠ gb136); replace BK136 := zBB BK136 hb; have NB137_138 := Aside0.mk (zN BK137.out hg : gb137 ≠ gb138); have NB138_137 := Aside0.mk (zM BK137.out hg : gb138 ≠ gb137); replace BK137 := zBB BK137 hb; clear hb hbox hg; have hnb5 := NB136_137.out; have hnc5 := NB137_136.out; have hnb6 := NB136_138.out; have hnc6 := NB138_136.out; have hcz7 := zc4 BK136.out; have hfz7 := zf4 BK136.out; have hnb8 := NB138_137.out; have hnc8 := NB137_138.out; have hcz9 := zc4 BK138.out; have hfz9 := zf4 BK138.out; have hcz10 := zc4 BK137.out; have hfz10 := zf4 BK137.out))
 refine bodyPost_ret (results_cell_row rfl _ _ gb137 83 #[.string a0_0, .bool a0_1, .int .i64 a0_2, .string a0_3] (0, 0) _ rfl (by refine zB ?_; refine zp4 (cs := #[.string (⟨#[]⟩ : ByteArray), .bool false, .int .i64 0, .string (⟨#[]⟩ : ByteArray)]) ?_; refine zB ?_; refine zr4 ?_ NB137_138.out; exact zB BK137.out) Try.underlying83 rfl (by kernel_rfl)) rfl ?_
 exact ⟨zW, zL3 HB.out GE136.out GE137.out GE138.out⟩

open Go.Proofs.YtfhblnbicnmndaaW.PrintWords renaming blk_drewN → bN, blk_drew → bD, blk_alloc → bA, blk_cell → bC, blk_below → bB, below_set → bS
/-! ### laws_toAttrS: function 80 -/
def laws_toAttrS.l0 : Nat → List (S110) → List (S83) → Int → Option ((List (S83)))
 | 0, _, _, _ => none
 | k + 1, x0, x3, x4 => if x4 < (x0.length : Int) then (if 0 ≤ x4 then ((laws_toAttr.f ((rd_T110 x0 x4).f0) ((rd_T110 x0 x4).f1) ((rd_T110 x0 x4).f2) ((rd_T110 x0 x4).f3)).bind fun bt143 => (if x4 < (x3.length : Int) then (laws_toAttrS.l0 k x0 (x3.set (x4 : Int).toNat (⟨bt143.1, bt143.2.1, bt143.2.2.1, bt143.2.2.2⟩ : S83)) (wrap64 (x4 + 1))) else (none))) else (none)) else (some x3)
def laws_toAttrS.f (k : Nat) (l0 : List (S110)) : Option ((List (S83))) := if 0 ≤ (l0.length : Int) then (if ((l0.length : Int) : Int).toNat ≤ 5864062014805 then (laws_toAttrS.l0 k l0 (List.replicate ((l0.length : Int) : Int).toNat z83) 0) else (none)) else (none)
theorem laws_toAttrS.mono_l : ∀ k, (∀ y0 y1 y2, LeO (laws_toAttrS.l0 k y0 y1 y2) (laws_toAttrS.l0 (k + 1) y0 y1 y2))
 | 0 => fun _ _ _ r h => by simp [laws_toAttrS.l0] at h
 | k + 1 => by
  have ih0 := laws_toAttrS.mono_l k
  ·intro y0 y1 y2
   unfold laws_toAttrS.l0
   repeat' first
   | (with_reducible exact ih0 _ _ _)
   | (with_reducible exact LeO.refl _)
   | (with_reducible exact LeO.none _)
   | (with_reducible refine LeO.ite ?_ ?_)
   | (with_reducible refine LeO.bind ?_ (fun _ => ?_))
   | exact ih0 _ _ _
   | exact LeO.none _
   | refine LeO.ite ?_ ?_
   | refine LeO.bind ?_ (fun _ => ?_)
theorem laws_toAttrS.mono : ∀ a0 k, LeO (laws_toAttrS.f k a0) (laws_toAttrS.f (k + 1) a0) := by
 intro a0 k
 have ih0 := laws_toAttrS.mono_l k
 unfold laws_toAttrS.f
 repeat' first
   | (with_reducible exact ih0 _ _ _)
   | (with_reducible exact LeO.refl _)
   | (with_reducible exact LeO.none _)
   | (with_reducible refine LeO.ite ?_ ?_)
   | (with_reducible refine LeO.bind ?_ (fun _ => ?_))
   | exact ih0 _ _ _
   | exact LeO.none _
   | refine LeO.ite ?_ ?_
   | refine LeO.bind ?_ (fun _ => ?_)
set_option maxHeartbeats 8000000 in
set_option maxRecDepth 100000 in
theorem laws_toAttrS.calls (k : Nat) (A0 : Option Addr) (c0 : Nat) (l0 : List (S110)) (r : List (S83)) (w : World) (hr0 : Kd.C k110 w A0 l0.length l0) (hc0 : l0.length ≤ c0) (h : laws_toAttrS.f k l0 = some r) :
  Calls Try.prog 80 #[.slice A0 l0.length c0] w fun e w' => ∃ v0_ : Value, e = .returned (v0_) ∧ Kd.R k83 83 w' w.heap.size (fun _ => True) v0_ r ∧ Below w.heap.size w w' := by
 have hu110 := Try.underlying110
 have hu83 := Try.underlying83
 have HR0 := Aside0.mk hr0
 have HC0 := Aside0.mk hc0
 clear hr0 hc0
 have HB := Aside0.mk (Below.refl w.heap.size w)
 unfold laws_toAttrS.f at h; have H := h
 clear h
 by_cases c2 : 0 ≤ (l0.length : Int)
 ·rw [if_pos c2] at H
  have c2b0 := eq_true c2
  have c2b1 := decide_eq_true c2
  clear c2
  by_cases c3 : ((l0.length : Int) : Int).toNat ≤ 5864062014805
  ·rw [if_pos c3] at H
   have c3b0 := eq_true c3
   have c3b1 := decide_eq_true c3
   clear c3
   generalize hy139 : (List.replicate ((l0.length : Int) : Int).toNat z83) = y139 at H; (try rw [Option.bind_some] at H); have Ny139 := Aside0.mk hy139.symm; clear hy139
   have H' := Aside0.mk H
   clear H
   go_enter Try.func80, Try.ntmps80
   go_wp2_with (first | ((with_reducible refine gD 7 rfl ?_); refine Kd.R_make k83 _ 83 rfl (N := 7) rfl 71 _ _ rfl (l0.length : Int) rfl rfl Try.underlying71 (.agg #[(.string ⟨#[]⟩), (.bool false), (.int .i64 0), (.string ⟨#[]⟩)]) 48 info83 rfl (by decide) (by omega) z83 (ok := fun _ => True) (okp := fun _ => True) (k83_mkM _ _ _ z83 ) (fun _ hk => hk) trivial (zD) (Nat.le_trans (Nat.mul_le_mul_right _ (zD : (l0.length : Int).toNat ≤ 5864062014805)) (by omega)) (Below.refl _ _) (Nat.le_refl _) ?_; intro v140 w4 ho5 hb hg_ hnew_; clear hg_ hnew_; (first | rw [← Ny139.out] at ho5 | (simp only [Int.reduceToNat] at ho5; rw [← Ny139.out] at ho5)); have HO141 := Aside0.mk (Kd.R_lower ho5 (below_size (zL HB.out))); replace HB := zLB (zL HB.out) hb; clear hb ho5))
   go_loopg [4] k (fun kq v4 w' => ∃ (x3_1 : List (S83)) (x4_1 : Int), v4 = .int .i64 x4_1 ∧ Aside0 (laws_toAttrS.l0 kq l0 x3_1 x4_1 = some r) ∧ Aside0 (kq ≤ k) ∧ Aside0 (Kd.R k83 83 w' w.heap.size (fun _ => True) v140 x3_1) ∧ Aside0 (Below w.heap.size w w'))
   case atStart => exact ⟨(y139), (0), zV, H', ⟨Nat.le_refl _⟩, ⟨zR HO141.out⟩, ⟨zL HB.out⟩⟩
   case round =>
    clear H'
    try clear c2
    try clear c2b0
    try clear c2b1
    try clear p2
    try clear c3
    try clear c3b0
    try clear c3b1
    obtain ⟨x3_1, x4_1, rfl, HA, HK1, HO_3, HB⟩ := hrel
    cases gk with
    | zero => exact absurd HA.out (by simp [laws_toAttrS.l0])
    | succ k1 =>
     have H := HA.out
     clear HA
     simp only [laws_toAttrS.l0] at H
     by_cases c6 : x4_1 < (l0.length : Int)
     ·rw [if_pos c6] at H
      have c6b0 := decide_eq_true c6
      clear c6
      by_cases c7 : 0 ≤ x4_1
      ·rw [if_pos c7] at H
       have c7b0 := decide_eq_true c7
       clear c7
       obtain ⟨⟨t143, t144, t145, t146⟩, A8, H⟩ := zO H; try dsimp only at H
       by_cases c9 : x4_1 < (x3_1.length : Int)
       ·rw [if_pos c9] at H
        have c9b0 := decide_eq_true c9
        clear c9
        generalize hy147 : (x3_1.set (x4_1 : Int).toNat (⟨t143, t144, t145, t146⟩ : S83)) = y147 at H; (try rw [Option.bind_some] at H); have Ny147 := Aside0.mk hy147.symm; clear hy147
        have H' := Aside0.mk H
        clear H
        have p142 : 0 ≤ (x4_1 : Int) := zD
        have q142 : x4_1 < (l0.length : Int) := zD
        obtain ⟨ad142, e142, hx142_0, hx142_1, hx142_2, hx142_3⟩ := at_T110 HR0.out x4_1 p142 q142
        cases e142
        replace hx142_0 := zh HB.out hx142_0
        replace hx142_1 := zh HB.out hx142_1
        replace hx142_2 := zh HB.out hx142_2
        replace hx142_3 := zh HB.out hx142_3
        replace p142 := eq_true p142
        replace q142 := eq_true q142
        go_wp2_with (first | ((with_reducible refine gC 98 rfl ?_); refine gL 20 Try.func98 #[.agg #[.string ((rd_T110 l0 x4_1).f0), .bool ((rd_T110 l0 x4_1).f1), .int .i64 ((rd_T110 l0 x4_1).f2), .string ((rd_T110 l0 x4_1).f3)]] ?_; (with_reducible refine (laws_toAttr.calls ((rd_T110 l0 x4_1).f0) ((rd_T110 l0 x4_1).f1) ((rd_T110 l0 x4_1).f2) ((rd_T110 l0 x4_1).f3) t143 t144 t145 t146 _ A8.out).mono ?_); rintro e w11 ⟨rfl, hb⟩; refine ⟨_, rfl, ?_⟩; replace HO_3 := zRB HO_3 hb; replace HB := zLB (zL HB.out) hb; clear hb; have p10 : 0 ≤ (x4_1 : Int) := zD; have q10 : (x4_1 : Int) < ((x3_1.length : Int) : Int) := zD; obtain ⟨go10, co10, eo10, gb10, gl10, cl10, HG10⟩ := Kd.R_form HO_3.out (by omega); (first | cases eo10 | (injection eo10 with ea_ en_ ec_; (first | subst ea_ | (injection ea_ with ea_; subst ea_)); subst ec_; clear en_)); have GB10 := Aside0.mk gb10; have GG10 := Aside0.mk HG10; clear gb10 gl10 HG10; obtain ⟨ce10, hcl10, hM10, hcc10, hfr10⟩ := Kd.R_elem HO_3.out z83 (x4_1 : Int) p10 q10; obtain rfl := k83_openM hM10; have hx10_0 : w11.cell? ⟨go10, (x4_1 : Int).toNat * 4, none⟩ = some (.string ((rd_T83 x3_1 x4_1).f0)) := hcc10 0 _ rfl; have hx10_1 : w11.cell? ⟨go10, (x4_1 : Int).toNat * 4 + 1, none⟩ = some (.bool ((rd_T83 x3_1 x4_1).f1)) := hcc10 1 _ rfl; have hx10_2 : w11.cell? ⟨go10, (x4_1 : Int).toNat * 4 + 2, none⟩ = some (.int .i64 ((rd_T83 x3_1 x4_1).f2)) := hcc10 2 _ rfl; have hx10_3 : w11.cell? ⟨go10, (x4_1 : Int).toNat * 4 + 3, none⟩ = some (.string ((rd_T83 x3_1 x4_1).f3)) := hcc10 3 _ rfl; have hf10_0 : w11.frozen? ⟨go10, (x4_1 : Int).toNat * 4, none⟩ = false := hfr10 0; have hf10_1 : w11.frozen? ⟨go10, (x4_1 : Int).toNat * 4 + 1, none⟩ = false := hfr10 1; have hf10_2 : w11.frozen? ⟨go10, (x4_1 : Int).toNat * 4 + 2, none⟩ = false := hfr10 2; have hf10_3 : w11.frozen? ⟨go10, (x4_1 : Int).toNat * 4 + 3, none⟩ = false := hfr10 3; clear hcl10 hcc10 hfr10; (try clear hM10); replace p10 := eq_true p10; replace q10 := eq_true q10; have HX12 := Aside0.mk (show Kd.R k83 83 w11 w.heap.size (fun _ => True) (.slice (some ⟨go10, 0, none⟩) x3_1.length co10) x3_1 from (zR HO_3.out)); obtain ⟨ce12, hcl12, hM12, hcc12, hfr12⟩ := Kd.R_elem HX12.out z83 (x4_1 : Int) (zD) (by have h_ : (x4_1 : Int) < ((x3_1.length : Int) : Int) := zD; first | exact h_ | (have e_ := (Kd.R_reads' HO_3.out).1; omega) | simpa using h_); obtain rfl := k83_openM hM12; have HP12 := Kd.R_seg HX12.out (x4_1 : Int) (zD) (by have h_ : (x4_1 : Int) < ((x3_1.length : Int) : Int) := zD; first | exact h_ | (have e_ := (Kd.R_reads' HO_3.out).1; omega) | simpa using h_) (seg := [.string t143, .bool t144, .int .i64 t145, .string t146]) (j := 0) hcl12 hcc12 (show 4 ≤ 4 from by decide) (x' := (⟨t143, t144, t145, t146⟩ : S83)) (k83_mkM _ _ _ (⟨t143, t144, t145, t146⟩ : S83) ) (fun _ hk => hk); have hx12_0 := hcc12 0 _ rfl; (try simp only [show (k83).sz = 4 from rfl, Nat.mul_one, Nat.add_zero] at hx12_0); have hf12_0 := hfr12 0; (try simp only [show (k83).sz = 4 from rfl, Nat.mul_one, Nat.add_zero] at hf12_0); have hx12_1 := hcc12 1 _ rfl; (try simp only [show (k83).sz = 4 from rfl, Nat.mul_one, Nat.add_zero] at hx12_1); have hf12_1 := hfr12 1; (try simp only [show (k83).sz = 4 from rfl, Nat.mul_one, Nat.add_zero] at hf12_1); have hx12_2 := hcc12 2 _ rfl; (try simp only [show (k83).sz = 4 from rfl, Nat.mul_one, Nat.add_zero] at hx12_2); have hf12_2 := hfr12 2; (try simp only [show (k83).sz = 4 from rfl, Nat.mul_one, Nat.add_zero] at hf12_2); have hx12_3 := hcc12 3 _ rfl; (try simp only [show (k83).sz = 4 from rfl, Nat.mul_one, Nat.add_zero] at hx12_3); have hf12_3 := hfr12 3; (try simp only [show (k83).sz = 4 from rfl, Nat.mul_one, Nat.add_zero] at hf12_3); clear hcl12 hcc12 hfr12; (try clear hM12)) | ((with_reducible refine gate_store (t := 83) (p := 21) rfl ?_); refine store_event (t := 83) (p := 21) (v := ?vo_w13) (w1 := ((((w11.setCell ⟨go10, (x4_1 : Int).toNat * 4, none⟩ (.string t143)).setCell ⟨go10, (x4_1 : Int).toNat * 4 + 1, none⟩ (.bool t144)).setCell ⟨go10, (x4_1 : Int).toNat * 4 + 2, none⟩ (.int .i64 t145)).setCell ⟨go10, (x4_1 : Int).toNat * 4 + 3, none⟩ (.string t146))) ?hg ?ho ?hn ?hr ?_; (case ho => rfl); (case hg => rfl); (case hn => rfl); (case hr => first | (go_simp; done) | (go_simp; rfl)); intro w13 hw; have hg : w11.grownBy w13 (some go10) := (by rw [hw]; exact HP12.2); have hp_ : Kd.R k83 83 w13 w.heap.size (fun _ => True) (.slice (some ⟨go10, 0, none⟩) x3_1.length co10) y147 := (by rw [hw, Ny147.out]; exact HP12.1); clear HP12; replace HO_3 := Aside0.mk (hp_); replace HB := Aside0.mk ((by rw [hw]; exact bS (bS (bS (bS (HB.out) GB10.out) GB10.out) GB10.out) GB10.out : Below w.heap.size w w13)); clear hg hw hp_))
        go_roundg k1
        case measure => have := HK1.out; omega
        case rel => exact ⟨(y147), (wrap64 (x4_1 + 1)), zV, H', ⟨by have := HK1.out; omega⟩, ⟨zR HO_3.out⟩, ⟨zL HB.out⟩⟩
       ·rw [if_neg c9] at H
        exact absurd H (by simp)
      ·rw [if_neg c7] at H
       exact absurd H (by simp)
     ·rw [if_neg c6] at H
      have c6b0 := decide_eq_false c6
      clear c6
      obtain rfl := Option.some.inj H
      go_wp2
      go_ret
      exact ⟨_, zW, zR HO_3.out, zL HB.out⟩
  ·rw [if_neg c3] at H
   exact absurd H (by simp)
 ·rw [if_neg c2] at H
  exact absurd H (by simp)

open Go.Proofs.YtfhblnbicnmndaaW.PrintWords renaming blk_drewN → bN, blk_drew → bD, blk_alloc → bA, blk_cell → bC, blk_below → bB, below_set → bS
/-! ### laws_toSpan: function 52 -/
def laws_toSpan.f (k : Nat) (a0_0 : Int) (a0_1 : Int) (a0_2 : Int) (a0_3 : Int) (a0_4 : Bool) (l0_5 : List (S110)) : Option (Int × Int × Int × Int × Bool × (List (S83))) := (laws_toAttrS.f k l0_5).bind fun t151 => (some (a0_0, a0_1, a0_2, a0_3, a0_4, t151))
theorem laws_toSpan.mono : ∀ a0 a1 a2 a3 a4 a5 k, LeO (laws_toSpan.f k a0 a1 a2 a3 a4 a5) (laws_toSpan.f (k + 1) a0 a1 a2 a3 a4 a5) := by
 intro a0 a1 a2 a3 a4 a5 k
 unfold laws_toSpan.f
 repeat' first
   | (with_reducible apply laws_toAttrS.mono)
   | (with_reducible exact LeO.refl _)
   | (with_reducible exact LeO.none _)
   | (with_reducible refine LeO.ite ?_ ?_)
   | (with_reducible refine LeO.bind ?_ (fun _ => ?_))
   | apply laws_toAttrS.mono
   | exact LeO.none _
   | refine LeO.ite ?_ ?_
   | refine LeO.bind ?_ (fun _ => ?_)
set_option maxHeartbeats 8000000 in
set_option maxRecDepth 100000 in
theorem laws_toSpan.calls (k : Nat) (a0_0 : Int) (a0_1 : Int) (a0_2 : Int) (a0_3 : Int) (a0_4 : Bool) (A0_5 : Option Addr) (c0_5 : Nat) (l0_5 : List (S110)) (r1 : Int) (r2 : Int) (r3 : Int) (r4 : Int) (r5 : Bool) (r6 : List (S83)) (w : World) (hr0_5 : Kd.C k110 w A0_5 l0_5.length l0_5) (hc0_5 : l0_5.length ≤ c0_5) (h : laws_toSpan.f k a0_0 a0_1 a0_2 a0_3 a0_4 l0_5 = some (r1, r2, r3, r4, r5, r6)) :
  Calls Try.prog 52 #[.agg #[.int .i64 a0_0, .int .i64 a0_1, .int .i64 a0_2, .int .i64 a0_3, .bool a0_4, .slice A0_5 l0_5.length c0_5]] w fun e w' => ∃ v5_ : Value, e = .returned (.agg #[.int .i64 r1, .int .i64 r2, .int .i64 r3, .int .i64 r4, .bool r5, v5_]) ∧ Kd.R k83 83 w' w.heap.size (fun _ => True) v5_ r6 ∧ Below w.heap.size w w' := by
 have hu70 := Try.underlying70
 have hu73 := Try.underlying73
 have HR0_5 := Aside0.mk hr0_5
 have HC0_5 := Aside0.mk hc0_5
 clear hr0_5 hc0_5
 have HB := Aside0.mk (Below.refl w.heap.size w)
 unfold laws_toSpan.f at h; have H := h
 clear h
 obtain ⟨t151, A2, H⟩ := zO H; try dsimp only at H
 simp only [Option.some.injEq, Prod.mk.injEq] at H
 obtain ⟨rfl, rfl, rfl, rfl, rfl, rfl⟩ := H
 go_enter Try.func52, Try.ntmps52
 go_wp2_with (first | ((with_reducible refine gD 1 rfl ?_); refine bE 1 #[.int .i64 a0_0, .int .i64 a0_1, .int .i64 a0_2, .int .i64 a0_3, .bool a0_4, .slice A0_5 l0_5.length c0_5] 70 ?_; intro gb148 hg w3 hbox hb; have BK148 := Aside0.mk hbox; have GW148 := Aside0.mk (zg (zL HB.out) hg : w.heap.size ≤ gb148); have GE148 := GW148; replace HB := zLB (zL HB.out) hb; clear hb hbox hg) | ((with_reducible refine gD 2 rfl ?_); refine bE 2 #[.int .i64 0, .int .i64 0, .int .i64 0, .int .i64 0, .bool false, .slice none 0 0] 73 ?_; intro gb149 hg w4 hbox hb; have BK149 := Aside0.mk hbox; have GW149 := Aside0.mk (zg (zL1 HB.out GE148.out) hg : w.heap.size ≤ gb149); have GE149 := GW149; replace HB := zLB (zL1 HB.out GE148.out) hb; have NB148_149 := Aside0.mk (zN BK148.out hg : gb148 ≠ gb149); have NB149_148 := Aside0.mk (zM BK148.out hg : gb149 ≠ gb148); replace BK148 := zBB BK148 hb; clear hb hbox hg) | ((with_reducible refine gD 3 rfl ?_); refine bE 3 #[.int .i64 0, .int .i64 0, .int .i64 0, .int .i64 0, .bool false, .slice none 0 0] 73 ?_; intro gb150 hg w5 hbox hb; have BK150 := Aside0.mk hbox; have GW150 := Aside0.mk (zg (zL2 HB.out GE148.out GE149.out) hg : w.heap.size ≤ gb150); have GE150 := GW150; replace HB := zLB (zL2 HB.out GE148.out GE149.out) hb; have NB148_150 := Aside0.mk (zN BK148.out hg : gb148 ≠ gb150); have NB150_148 := Aside0.mk (zM BK148.out hg : gb150 ≠ gb148); replace BK148 := zBB BK148 hb; have NB149_150 := Aside0.mk (zN BK149.out hg : gb149 ≠ gb150); have NB150_149 := Aside0.mk (zM BK149.out hg : gb150 ≠ gb149); replace BK149 := zBB BK149 hb; clear hb hbox hg; have hnb6 := NB148_149.out; have hnc6 := NB149_148.out; have hnb7 := NB148_150.out; have hnc7 := NB150_148.out; have hcz8 := zc6 BK148.out; have hfz8 := zf6 BK148.out; have hnb9 := NB150_149.out; have hnc9 := NB149_150.out; have hcz10 := zc6 BK150.out; have hfz10 := zf6 BK150.out) | ((with_reducible refine gC 80 rfl ?_); refine gL 21 Try.func80 #[.slice A0_5 l0_5.length c0_5] ?_; (with_reducible refine (laws_toAttrS.calls k _ _ l0_5 t151 _ ?side1 ?side2 A2.out).mono ?_); (case side1 => exact Kd.C_below HR0_5.out (zL3 HB.out GE148.out GE149.out GE150.out)); (case side2 => exact HC0_5.out); rintro e w11 ⟨v152, rfl, ho0, hb⟩; refine ⟨_, rfl, ?_⟩; have HO153 := Aside0.mk (Kd.R_lower ho0 (below_size (zL3 HB.out GE148.out GE149.out GE150.out))); replace BK148 := Aside0.mk (bB (g := gb148) (o := .cells #[.int .i64 a0_0, .int .i64 a0_1, .int .i64 a0_2, .int .i64 a0_3, .bool a0_4, .slice A0_5 l0_5.length c0_5] 70 (0, 0)) (by refine zB ?_; refine zr5 ?_ NB148_150.out; exact zB BK148.out) hb); replace BK149 := Aside0.mk (bB (g := gb149) (o := .cells #[.int .i64 0, .int .i64 0, .int .i64 0, .int .i64 0, .bool false, .slice none 0 0] 73 (0, 0)) (by refine zB ?_; refine zr5 ?_ NB149_150.out; exact zB BK149.out) hb); replace BK150 := Aside0.mk (bB (g := gb150) (o := .cells #[.int .i64 a0_0, .int .i64 a0_1, .int .i64 a0_2, .int .i64 a0_3, .bool a0_4, .slice none 0 0] 73 (0, 0)) (by (with_reducible repeat (first | refine bN ?_ _ | refine bD ?_ | refine bA ?_ _)); refine blk_put (cs := #[.int .i64 a0_0, .int .i64 a0_1, .int .i64 a0_2, .int .i64 a0_3, .bool false, .slice none 0 0]) ?_ 4 _ rfl; (with_reducible repeat (first | refine bN ?_ _ | refine bD ?_ | refine bA ?_ _)); refine blk_put (cs := #[.int .i64 a0_0, .int .i64 a0_1, .int .i64 a0_2, .int .i64 0, .bool false, .slice none 0 0]) ?_ 3 _ rfl; (with_reducible repeat (first | refine bN ?_ _ | refine bD ?_ | refine bA ?_ _)); refine blk_put (cs := #[.int .i64 a0_0, .int .i64 a0_1, .int .i64 0, .int .i64 0, .bool false, .slice none 0 0]) ?_ 2 _ rfl; (with_reducible repeat (first | refine bN ?_ _ | refine bD ?_ | refine bA ?_ _)); refine blk_put (cs := #[.int .i64 a0_0, .int .i64 0, .int .i64 0, .int .i64 0, .bool false, .slice none 0 0]) ?_ 1 _ rfl; (with_reducible repeat (first | refine bN ?_ _ | refine bD ?_ | refine bA ?_ _)); refine blk_put (cs := #[.int .i64 0, .int .i64 0, .int .i64 0, .int .i64 0, .bool false, .slice none 0 0]) ?_ 0 _ rfl; exact zB BK150.out) hb); replace HB := zLB (zL3 HB.out GE148.out GE149.out GE150.out) hb; clear ho0 hb; obtain ⟨Ao12, co12, eo12⟩ := Kd.R_slice HO153.out; subst eo12; have hcz13 := zc6 BK150.out; have hfz13 := zf6 BK150.out; have hcz14 := zc6 BK149.out; have hfz14 := zf6 BK149.out))
 refine bodyPost_ret (results_cell_row rfl _ _ gb149 73 #[.int .i64 a0_0, .int .i64 a0_1, .int .i64 a0_2, .int .i64 a0_3, .bool a0_4, .slice Ao12 t151.length co12] (0, 0) _ rfl (by refine zB ?_; refine zp6 (cs := #[.int .i64 0, .int .i64 0, .int .i64 0, .int .i64 0, .bool false, .slice none 0 0]) ?_; (with_reducible repeat (first | refine bN ?_ _ | refine bD ?_ | refine bA ?_ _)); refine blk_far ?_ NB149_150.out _; exact zB BK149.out) Try.underlying73 rfl (by kernel_rfl)) rfl ?_
 exact ⟨_, zW, by (with_reducible repeat (first | apply Kd.R_alloc | apply Kd.R_drewN | apply Kd.R_drew)); exact Kd.R_mono (zRF6 (Kd.R_far (p := ⟨gb150, 5, none⟩) (Kd.R_types (Kd.R_types HO153.out BK150.out (by decide)) BK149.out (by decide)) (fun _ hk => hk.1.2) (.slice Ao12 t151.length co12)) gb149 (fun _ hk => hk.2) (.int .i64 a0_0) (.int .i64 a0_1) (.int .i64 a0_2) (.int .i64 a0_3) (.bool a0_4) (.slice Ao12 t151.length co12)) (fun _ hk => trivial), zL3 HB.out GE148.out GE149.out GE150.out⟩

open Go.Proofs.YtfhblnbicnmndaaW.PrintWords renaming blk_drewN → bN, blk_drew → bD, blk_alloc → bA, blk_cell → bC, blk_below → bB, below_set → bS
/-! ### laws_toSpanS: function 24 -/
def laws_toSpanS.l0 : Nat → List (S70) → List (S73) → Int → Option ((List (S73)))
 | 0, _, _, _ => none
 | k + 1, x0, x3, x4 => if x4 < (x0.length : Int) then (if 0 ≤ x4 then ((laws_toSpan.f k ((rd_T70 x0 x4).f0) ((rd_T70 x0 x4).f1) ((rd_T70 x0 x4).f2) ((rd_T70 x0 x4).f3) ((rd_T70 x0 x4).f4) ((rd_T70 x0 x4).f5)).bind fun bt158 => (if x4 < (x3.length : Int) then (laws_toSpanS.l0 k x0 (x3.set (x4 : Int).toNat (⟨bt158.1, bt158.2.1, bt158.2.2.1, bt158.2.2.2.1, bt158.2.2.2.2.1, bt158.2.2.2.2.2⟩ : S73)) (wrap64 (x4 + 1))) else (none))) else (none)) else (some x3)
def laws_toSpanS.f (k : Nat) (l0 : List (S70)) : Option ((List (S73))) := if 0 ≤ (l0.length : Int) then (if ((l0.length : Int) : Int).toNat ≤ 4398046511104 then (laws_toSpanS.l0 k l0 (List.replicate ((l0.length : Int) : Int).toNat z73) 0) else (none)) else (none)
theorem laws_toSpanS.mono_l : ∀ k, (∀ y0 y1 y2, LeO (laws_toSpanS.l0 k y0 y1 y2) (laws_toSpanS.l0 (k + 1) y0 y1 y2))
 | 0 => fun _ _ _ r h => by simp [laws_toSpanS.l0] at h
 | k + 1 => by
  have ih0 := laws_toSpanS.mono_l k
  ·intro y0 y1 y2
   unfold laws_toSpanS.l0
   repeat' first
   | (with_reducible exact ih0 _ _ _)
   | (with_reducible apply laws_toSpan.mono)
   | (with_reducible exact LeO.refl _)
   | (with_reducible exact LeO.none _)
   | (with_reducible refine LeO.ite ?_ ?_)
   | (with_reducible refine LeO.bind ?_ (fun _ => ?_))
   | exact ih0 _ _ _
   | apply laws_toSpan.mono
   | exact LeO.none _
   | refine LeO.ite ?_ ?_
   | refine LeO.bind ?_ (fun _ => ?_)
theorem laws_toSpanS.mono : ∀ a0 k, LeO (laws_toSpanS.f k a0) (laws_toSpanS.f (k + 1) a0) := by
 intro a0 k
 have ih0 := laws_toSpanS.mono_l k
 unfold laws_toSpanS.f
 repeat' first
   | (with_reducible exact ih0 _ _ _)
   | (with_reducible apply laws_toSpan.mono)
   | (with_reducible exact LeO.refl _)
   | (with_reducible exact LeO.none _)
   | (with_reducible refine LeO.ite ?_ ?_)
   | (with_reducible refine LeO.bind ?_ (fun _ => ?_))
   | exact ih0 _ _ _
   | apply laws_toSpan.mono
   | exact LeO.none _
   | refine LeO.ite ?_ ?_
   | refine LeO.bind ?_ (fun _ => ?_)
set_option maxHeartbeats 8000000 in
set_option maxRecDepth 100000 in
theorem laws_toSpanS.calls (k : Nat) (A0 : Option Addr) (c0 : Nat) (l0 : List (S70)) (r : List (S73)) (w : World) (hr0 : Kd.C k70 w A0 l0.length l0) (hc0 : l0.length ≤ c0) (h : laws_toSpanS.f k l0 = some r) :
  Calls Try.prog 24 #[.slice A0 l0.length c0] w fun e w' => ∃ v0_ : Value, e = .returned (v0_) ∧ Kd.S k73 73 w' w.heap.size (fun _ => True) v0_ r ∧ Below w.heap.size w w' := by
 have hu70 := Try.underlying70
 have hu73 := Try.underlying73
 have HR0 := Aside0.mk hr0
 have HC0 := Aside0.mk hc0
 clear hr0 hc0
 have HB := Aside0.mk (Below.refl w.heap.size w)
 unfold laws_toSpanS.f at h; have H := h
 clear h
 by_cases c2 : 0 ≤ (l0.length : Int)
 ·rw [if_pos c2] at H
  have c2b0 := eq_true c2
  have c2b1 := decide_eq_true c2
  clear c2
  by_cases c3 : ((l0.length : Int) : Int).toNat ≤ 4398046511104
  ·rw [if_pos c3] at H
   have c3b0 := eq_true c3
   have c3b1 := decide_eq_true c3
   clear c3
   generalize hy154 : (List.replicate ((l0.length : Int) : Int).toNat z73) = y154 at H; (try rw [Option.bind_some] at H); have Ny154 := Aside0.mk hy154.symm; clear hy154
   have H' := Aside0.mk H
   clear H
   go_enter Try.func24, Try.ntmps24
   go_wp2_with (first | ((with_reducible refine gD 7 rfl ?_); refine Kd.S_make k73 _ 73 rfl (N := 7) rfl 38 _ _ rfl (l0.length : Int) rfl rfl Try.underlying38 (.agg #[(.int .i64 0), (.int .i64 0), (.int .i64 0), (.int .i64 0), (.bool false), (.slice none 0 0)]) 64 info73 rfl (by decide) (by omega) z73 (ok := fun _ => True) (okp := fun _ => True) (k73_mkM _ _ _ z73 (Kd.R_nil _ _ _ _ _)) (fun _ hk => hk) trivial (zD) (Nat.le_trans (Nat.mul_le_mul_right _ (zD : (l0.length : Int).toNat ≤ 4398046511104)) (by omega)) (Below.refl _ _) (Nat.le_refl _) ?_; intro v155 w4 ho5 hb hg_ hnew_; clear hg_ hnew_; (first | rw [← Ny154.out] at ho5 | (simp only [Int.reduceToNat] at ho5; rw [← Ny154.out] at ho5)); have HO156 := Aside0.mk (Kd.S_lower ho5 (below_size (zL HB.out))); replace HB := zLB (zL HB.out) hb; clear hb ho5))
   go_loopg [4] k (fun kq v4 w' => ∃ (x3_1 : List (S73)) (x4_1 : Int), v4 = .int .i64 x4_1 ∧ Aside0 (laws_toSpanS.l0 kq l0 x3_1 x4_1 = some r) ∧ Aside0 (kq ≤ k) ∧ Aside0 (Kd.S k73 73 w' w.heap.size (fun _ => True) v155 x3_1) ∧ Aside0 (Below w.heap.size w w'))
   case atStart => exact ⟨(y154), (0), zV, H', ⟨Nat.le_refl _⟩, ⟨zS HO156.out⟩, ⟨zL HB.out⟩⟩
   case round =>
    clear H'
    try clear c2
    try clear c2b0
    try clear c2b1
    try clear p2
    try clear c3
    try clear c3b0
    try clear c3b1
    obtain ⟨x3_1, x4_1, rfl, HA, HK1, HO_3, HB⟩ := hrel
    cases gk with
    | zero => exact absurd HA.out (by simp [laws_toSpanS.l0])
    | succ k1 =>
     have H := HA.out
     clear HA
     simp only [laws_toSpanS.l0] at H
     by_cases c6 : x4_1 < (l0.length : Int)
     ·rw [if_pos c6] at H
      have c6b0 := decide_eq_true c6
      clear c6
      by_cases c7 : 0 ≤ x4_1
      ·rw [if_pos c7] at H
       have c7b0 := decide_eq_true c7
       clear c7
       obtain ⟨⟨t158, t159, t160, t161, t162, t163⟩, A8, H⟩ := zO H; try dsimp only at H
       by_cases c9 : x4_1 < (x3_1.length : Int)
       ·rw [if_pos c9] at H
        have c9b0 := decide_eq_true c9
        clear c9
        generalize hy166 : (x3_1.set (x4_1 : Int).toNat (⟨t158, t159, t160, t161, t162, t163⟩ : S73)) = y166 at H; (try rw [Option.bind_some] at H); have Ny166 := Aside0.mk hy166.symm; clear hy166
        have H' := Aside0.mk H
        clear H
        have p157 : 0 ≤ (x4_1 : Int) := zD
        have q157 : x4_1 < (l0.length : Int) := zD
        obtain ⟨ad157, A157_5, c157_5, e157, hx157_0, hx157_1, hx157_2, hx157_3, hx157_4, hx157_5, hl157_5, hi157_5⟩ := at_T70 HR0.out x4_1 p157 q157
        cases e157
        replace hx157_0 := zh HB.out hx157_0
        replace hx157_1 := zh HB.out hx157_1
        replace hx157_2 := zh HB.out hx157_2
        replace hx157_3 := zh HB.out hx157_3
        replace hx157_4 := zh HB.out hx157_4
        replace hx157_5 := zh HB.out hx157_5
        have HR157_5 := Aside0.mk hi157_5
        have HC157_5 := Aside0.mk hl157_5
        clear hi157_5 hl157_5
        replace p157 := eq_true p157
        replace q157 := eq_true q157
        go_wp2_with (first | ((with_reducible refine gC 52 rfl ?_); refine gL 20 Try.func52 #[.agg #[.int .i64 ((rd_T70 l0 x4_1).f0), .int .i64 ((rd_T70 l0 x4_1).f1), .int .i64 ((rd_T70 l0 x4_1).f2), .int .i64 ((rd_T70 l0 x4_1).f3), .bool ((rd_T70 l0 x4_1).f4), .slice A157_5 ((rd_T70 l0 x4_1).f5).length c157_5]] ?_; (with_reducible refine (laws_toSpan.calls k1 ((rd_T70 l0 x4_1).f0) ((rd_T70 l0 x4_1).f1) ((rd_T70 l0 x4_1).f2) ((rd_T70 l0 x4_1).f3) ((rd_T70 l0 x4_1).f4) _ _ ((rd_T70 l0 x4_1).f5) t158 t159 t160 t161 t162 t163 _ ?side1 ?side2 A8.out).mono ?_); (case side1 => exact zC (Kd.C_below HR157_5.out HB.out)); (case side2 => exact HC157_5.out); rintro e w11 ⟨v164, rfl, ho0, hb⟩; refine ⟨_, rfl, ?_⟩; replace HO_3 := Aside0.mk (Kd.S_elder' (zS HO_3.out) (Kd.R_base ho0) hb); have HO165 := Aside0.mk (Kd.R_lower ho0 (below_size (zL HB.out))); replace HB := zLB (zL HB.out) hb; clear ho0 hb; have p10 : 0 ≤ (x4_1 : Int) := zD; have q10 : (x4_1 : Int) < ((x3_1.length : Int) : Int) := zD; obtain ⟨go10, co10, eo10, gb10, gl10, cl10, HG10⟩ := Kd.S_form HO_3.out (by omega); (first | cases eo10 | (injection eo10 with ea_ en_ ec_; (first | subst ea_ | (injection ea_ with ea_; subst ea_)); subst ec_; clear en_)); have GB10 := Aside0.mk gb10; have GG10 := Aside0.mk HG10; clear gb10 gl10 HG10; obtain ⟨_, ce10, hcl10, hM10, hcc10, hfr10, _, _⟩ := Kd.S_elem HO_3.out z73 (x4_1 : Int) p10 q10; obtain ⟨ve10_5, rfl, ge10_5⟩ := k73_openM hM10; have hx10_0 : w11.cell? ⟨go10, (x4_1 : Int).toNat * 6, none⟩ = some (.int .i64 ((rd_T73 x3_1 x4_1).f0)) := hcc10 0 _ rfl; have hx10_1 : w11.cell? ⟨go10, (x4_1 : Int).toNat * 6 + 1, none⟩ = some (.int .i64 ((rd_T73 x3_1 x4_1).f1)) := hcc10 1 _ rfl; have hx10_2 : w11.cell? ⟨go10, (x4_1 : Int).toNat * 6 + 2, none⟩ = some (.int .i64 ((rd_T73 x3_1 x4_1).f2)) := hcc10 2 _ rfl; have hx10_3 : w11.cell? ⟨go10, (x4_1 : Int).toNat * 6 + 3, none⟩ = some (.int .i64 ((rd_T73 x3_1 x4_1).f3)) := hcc10 3 _ rfl; have hx10_4 : w11.cell? ⟨go10, (x4_1 : Int).toNat * 6 + 4, none⟩ = some (.bool ((rd_T73 x3_1 x4_1).f4)) := hcc10 4 _ rfl; have hx10_5 : w11.cell? ⟨go10, (x4_1 : Int).toNat * 6 + 5, none⟩ = some (ve10_5) := hcc10 5 _ rfl; have hf10_0 : w11.frozen? ⟨go10, (x4_1 : Int).toNat * 6, none⟩ = false := hfr10 0; have hf10_1 : w11.frozen? ⟨go10, (x4_1 : Int).toNat * 6 + 1, none⟩ = false := hfr10 1; have hf10_2 : w11.frozen? ⟨go10, (x4_1 : Int).toNat * 6 + 2, none⟩ = false := hfr10 2; have hf10_3 : w11.frozen? ⟨go10, (x4_1 : Int).toNat * 6 + 3, none⟩ = false := hfr10 3; have hf10_4 : w11.frozen? ⟨go10, (x4_1 : Int).toNat * 6 + 4, none⟩ = false := hfr10 4; have hf10_5 : w11.frozen? ⟨go10, (x4_1 : Int).toNat * 6 + 5, none⟩ = false := hfr10 5; clear hcl10 hcc10 hfr10; (try clear hM10); replace p10 := eq_true p10; replace q10 := eq_true q10; have n_ := Aside0.mk (Kd.S_mono (ok' := (fun k_ => some k_ ≠ (v164 : Value).ownBlock)) HO_3.out (fun k_ hk => hk.2)); clear HO_3; have HO_3 := n_; clear n_; have HX12 := Aside0.mk (show Kd.S k73 73 w11 w.heap.size (fun k_ => ((fun _ => True)) k_ ∧ ¬ ((fun k_ => some k_ = (v164 : Value).ownBlock)) k_) (.slice (some ⟨go10, 0, none⟩) x3_1.length co10) x3_1 from (zSm HO_3.out (fun k_ hk => ⟨trivial, fun e_ => hk e_⟩))); obtain ⟨oki12, ce12, hcl12, hM12, hcc12, hfr12, hoki12, hH12⟩ := Kd.S_elem HX12.out z73 (x4_1 : Int) (zD) (by have h_ : (x4_1 : Int) < ((x3_1.length : Int) : Int) := zD; first | exact h_ | (have e_ := (Kd.S_reads' HO_3.out).1; omega) | simpa using h_); obtain ⟨ve12_5, rfl, ge12_5⟩ := k73_openM hM12; have HP12 := Kd.S_seg hH12 (zD) (by have h_ : (x4_1 : Int) < ((x3_1.length : Int) : Int) := zD; first | exact h_ | (have e_ := (Kd.S_reads' HO_3.out).1; omega) | simpa using h_) (seg := [.int .i64 t158, .int .i64 t159, .int .i64 t160, .int .i64 t161, .bool t162, v164]) (j := 0) (show 6 ≤ 6 from by decide) (x' := (⟨t158, t159, t160, t161, t162, t163⟩ : S73)) (k73_mkM _ _ _ (⟨t158, t159, t160, t161, t162, t163⟩ : S73) (Kd.R_mono (Kd.R_tight rfl (Kd.R_mono (ok' := fun k_ => ((fun _ => True)) k_ ∧ k_ ≠ go10) (Kd.R_apart' (HO165.out) (Kd.S_typed HO_3.out) (by decide)) (fun k_ hk => ⟨trivial, fun e_ => (hk.2) (by rw [e_]; rfl)⟩))) (fun _ h_ => Or.inr (h_)))) (fun _ hk => hk) (fun k_ hk_ => ((Kd.R_mono (ok' := fun k_ => ((fun _ => True)) k_ ∧ k_ ≠ go10) (Kd.R_apart' (HO165.out) (Kd.S_typed HO_3.out) (by decide)) (fun k_ hk => ⟨trivial, fun e_ => (hk.2) (by rw [e_]; rfl)⟩))).1 k_ hk_.symm); have hx12_0 := hcc12 0 _ rfl; (try simp only [show (k73).sz = 6 from rfl, Nat.mul_one, Nat.add_zero] at hx12_0); have hf12_0 := hfr12 0; (try simp only [show (k73).sz = 6 from rfl, Nat.mul_one, Nat.add_zero] at hf12_0); have hx12_1 := hcc12 1 _ rfl; (try simp only [show (k73).sz = 6 from rfl, Nat.mul_one, Nat.add_zero] at hx12_1); have hf12_1 := hfr12 1; (try simp only [show (k73).sz = 6 from rfl, Nat.mul_one, Nat.add_zero] at hf12_1); have hx12_2 := hcc12 2 _ rfl; (try simp only [show (k73).sz = 6 from rfl, Nat.mul_one, Nat.add_zero] at hx12_2); have hf12_2 := hfr12 2; (try simp only [show (k73).sz = 6 from rfl, Nat.mul_one, Nat.add_zero] at hf12_2); have hx12_3 := hcc12 3 _ rfl; (try simp only [show (k73).sz = 6 from rfl, Nat.mul_one, Nat.add_zero] at hx12_3); have hf12_3 := hfr12 3; (try simp only [show (k73).sz = 6 from rfl, Nat.mul_one, Nat.add_zero] at hf12_3); have hx12_4 := hcc12 4 _ rfl; (try simp only [show (k73).sz = 6 from rfl, Nat.mul_one, Nat.add_zero] at hx12_4); have hf12_4 := hfr12 4; (try simp only [show (k73).sz = 6 from rfl, Nat.mul_one, Nat.add_zero] at hf12_4); have hx12_5 := hcc12 5 _ rfl; (try simp only [show (k73).sz = 6 from rfl, Nat.mul_one, Nat.add_zero] at hx12_5); have hf12_5 := hfr12 5; (try simp only [show (k73).sz = 6 from rfl, Nat.mul_one, Nat.add_zero] at hf12_5); clear hcl12 hcc12 hfr12 hoki12 hH12; (try clear hM12)) | ((with_reducible refine gate_store (t := 73) (p := 21) rfl ?_); refine store_event (t := 73) (p := 21) (v := ?vo_w13) (w1 := ((((((w11.setCell ⟨go10, (x4_1 : Int).toNat * 6, none⟩ (.int .i64 t158)).setCell ⟨go10, (x4_1 : Int).toNat * 6 + 1, none⟩ (.int .i64 t159)).setCell ⟨go10, (x4_1 : Int).toNat * 6 + 2, none⟩ (.int .i64 t160)).setCell ⟨go10, (x4_1 : Int).toNat * 6 + 3, none⟩ (.int .i64 t161)).setCell ⟨go10, (x4_1 : Int).toNat * 6 + 4, none⟩ (.bool t162)).setCell ⟨go10, (x4_1 : Int).toNat * 6 + 5, none⟩ (v164))) ?hg ?ho ?hn ?hr ?_; (case ho => rfl); (case hg => rfl); (case hn => rfl); (case hr => first | (go_simp; done) | (go_simp; rfl) | (obtain ⟨_, _, ev164_⟩ := Kd.R_slice HO165.out; subst ev164_; first | (go_simp; done) | (go_simp; rfl))); intro w13 hw; have hg : w11.grownBy w13 (some go10) := (by rw [hw]; exact HP12.2); have hp_ : Kd.S k73 73 w13 w.heap.size (fun _ => True) (.slice (some ⟨go10, 0, none⟩) x3_1.length co10) y166 := (by rw [hw, Ny166.out]; exact HP12.1); clear HP12; replace HO_3 := Aside0.mk (hp_); replace HB := Aside0.mk ((by rw [hw]; exact bS (bS (bS (bS (bS (bS (HB.out) GB10.out) GB10.out) GB10.out) GB10.out) GB10.out) GB10.out : Below w.heap.size w w13)); clear HO165; clear hg hw hp_))
        go_roundg k1
        case measure => have := HK1.out; omega
        case rel => exact ⟨(y166), (wrap64 (x4_1 + 1)), zV, H', ⟨by have := HK1.out; omega⟩, ⟨zS HO_3.out⟩, ⟨zL HB.out⟩⟩
       ·rw [if_neg c9] at H
        exact absurd H (by simp)
      ·rw [if_neg c7] at H
       exact absurd H (by simp)
     ·rw [if_neg c6] at H
      have c6b0 := decide_eq_false c6
      clear c6
      obtain rfl := Option.some.inj H
      go_wp2
      go_ret
      exact ⟨_, zW, zS HO_3.out, zL HB.out⟩
  ·rw [if_neg c3] at H
   exact absurd H (by simp)
 ·rw [if_neg c2] at H
  exact absurd H (by simp)

open Go.Proofs.YtfhblnbicnmndaaW.PrintWords renaming blk_drewN → bN, blk_drew → bD, blk_alloc → bA, blk_cell → bC, blk_below → bB, below_set → bS
/-! ### laws_eqAttr: function 99 -/
def laws_eqAttr.f (a0_0 : ByteArray) (a0_1 : Bool) (a0_2 : Int) (a0_3 : ByteArray) (a1_0 : ByteArray) (a1_1 : Bool) (a1_2 : Int) (a1_3 : ByteArray) : Option (Bool) := if a0_0.toList = a1_0.toList then (if (a0_1 != a1_1) = true then (some false) else (if a0_2 = a1_2 then (if a0_3.toList = a1_3.toList then (some true) else (some false)) else (some false))) else (some false)
set_option maxHeartbeats 8000000 in
set_option maxRecDepth 100000 in
theorem laws_eqAttr.calls (a0_0 : ByteArray) (a0_1 : Bool) (a0_2 : Int) (a0_3 : ByteArray) (a1_0 : ByteArray) (a1_1 : Bool) (a1_2 : Int) (a1_3 : ByteArray) (r : Bool) (w : World) (h : laws_eqAttr.f a0_0 a0_1 a0_2 a0_3 a1_0 a1_1 a1_2 a1_3 = some r) :
  Calls Try.prog 99 #[.agg #[.string a0_0, .bool a0_1, .int .i64 a0_2, .string a0_3], .agg #[.string a1_0, .bool a1_1, .int .i64 a1_2, .string a1_3]] w fun e w' => e = .returned (.bool r) ∧ Below w.heap.size w w' := by
 have hu83 := Try.underlying83
 have HB := Aside0.mk (Below.refl w.heap.size w)
 unfold laws_eqAttr.f at h; have H := h
 clear h
 by_cases c3 : a0_0.toList = a1_0.toList
 ·rw [if_pos c3] at H
  obtain ⟨c3b0, c3b1⟩ := zt c3
  clear c3
  by_cases c4 : (a0_1 != a1_1) = true
  ·rw [if_pos c4] at H
   have c4b0 := c4
   (try (have c4b1 : decide (a0_1 = a1_1) = false := by simpa using c4))
   (try (have c4b2 : (a0_1 == a1_1) = false := by simpa using c4))
   (try (have c4b3 : ¬ (a0_1 = a1_1) := by simpa using c4))
   clear c4
   obtain rfl := Option.some.inj H
   go_enter Try.func99, Try.ntmps99
   go_wp2_with (first | ((with_reducible refine gD 2 rfl ?_); refine bE 2 #[.string a0_0, .bool a0_1, .int .i64 a0_2, .string a0_3] 83 ?_; intro gb167 hg w5 hbox hb; have BK167 := Aside0.mk hbox; have GW167 := Aside0.mk (zg (zL HB.out) hg : w.heap.size ≤ gb167); have GE167 := GW167; replace HB := zLB (zL HB.out) hb; clear hb hbox hg) | ((with_reducible refine gD 3 rfl ?_); refine bE 3 #[.string a1_0, .bool a1_1, .int .i64 a1_2, .string a1_3] 83 ?_; intro gb168 hg w6 hbox hb; have BK168 := Aside0.mk hbox; have GW168 := Aside0.mk (zg (zL1 HB.out GE167.out) hg : w.heap.size ≤ gb168); have GE168 := GW168; replace HB := zLB (zL1 HB.out GE167.out) hb; have NB167_168 := Aside0.mk (zN BK167.out hg : gb167 ≠ gb168); have NB168_167 := Aside0.mk (zM BK167.out hg : gb168 ≠ gb167); replace BK167 := zBB BK167 hb; clear hb hbox hg; have hnb7 := NB167_168.out; have hnc7 := NB168_167.out; have hcz8 := zc4 BK167.out; have hfz8 := zf4 BK167.out; have hcz9 := zc4 BK168.out; have hfz9 := zf4 BK168.out))
   go_ret
   exact ⟨zW, zL2 HB.out GE167.out GE168.out⟩
  ·rw [if_neg c4] at H
   have c4b0 : (a0_1 != a1_1) = false := by simpa using c4
   (try (have c4b1 : decide (a0_1 = a1_1) = true := by simpa using c4))
   (try (have c4b2 : (a0_1 == a1_1) = true := by simpa using c4))
   clear c4
   by_cases c10 : a0_2 = a1_2
   ·rw [if_pos c10] at H
    obtain ⟨c10b0, c10b1⟩ := zt c10
    clear c10
    by_cases c11 : a0_3.toList = a1_3.toList
    ·rw [if_pos c11] at H
     obtain ⟨c11b0, c11b1⟩ := zt c11
     clear c11
     obtain rfl := Option.some.inj H
     go_enter Try.func99, Try.ntmps99
     go_wp2_with (first | ((with_reducible refine gD 2 rfl ?_); refine bE 2 #[.string a0_0, .bool a0_1, .int .i64 a0_2, .string a0_3] 83 ?_; intro gb167 hg w12 hbox hb; have BK167 := Aside0.mk hbox; have GW167 := Aside0.mk (zg (zL HB.out) hg : w.heap.size ≤ gb167); have GE167 := GW167; replace HB := zLB (zL HB.out) hb; clear hb hbox hg) | ((with_reducible refine gD 3 rfl ?_); refine bE 3 #[.string a1_0, .bool a1_1, .int .i64 a1_2, .string a1_3] 83 ?_; intro gb168 hg w13 hbox hb; have BK168 := Aside0.mk hbox; have GW168 := Aside0.mk (zg (zL1 HB.out GE167.out) hg : w.heap.size ≤ gb168); have GE168 := GW168; replace HB := zLB (zL1 HB.out GE167.out) hb; have NB167_168 := Aside0.mk (zN BK167.out hg : gb167 ≠ gb168); have NB168_167 := Aside0.mk (zM BK167.out hg : gb168 ≠ gb167); replace BK167 := zBB BK167 hb; clear hb hbox hg; have hnb14 := NB167_168.out; have hnc14 := NB168_167.out; have hcz15 := zc4 BK167.out; have hfz15 := zf4 BK167.out; have hcz16 := zc4 BK168.out; have hfz16 := zf4 BK168.out))
     go_ret
     exact ⟨zW, zL2 HB.out GE167.out GE168.out⟩
    ·rw [if_neg c11] at H
     obtain ⟨c11b0, c11b1⟩ := zf c11
     obtain rfl := Option.some.inj H
     go_enter Try.func99, Try.ntmps99
     go_wp2_with (first | ((with_reducible refine gD 2 rfl ?_); refine bE 2 #[.string a0_0, .bool a0_1, .int .i64 a0_2, .string a0_3] 83 ?_; intro gb167 hg w17 hbox hb; have BK167 := Aside0.mk hbox; have GW167 := Aside0.mk (zg (zL HB.out) hg : w.heap.size ≤ gb167); have GE167 := GW167; replace HB := zLB (zL HB.out) hb; clear hb hbox hg) | ((with_reducible refine gD 3 rfl ?_); refine bE 3 #[.string a1_0, .bool a1_1, .int .i64 a1_2, .string a1_3] 83 ?_; intro gb168 hg w18 hbox hb; have BK168 := Aside0.mk hbox; have GW168 := Aside0.mk (zg (zL1 HB.out GE167.out) hg : w.heap.size ≤ gb168); have GE168 := GW168; replace HB := zLB (zL1 HB.out GE167.out) hb; have NB167_168 := Aside0.mk (zN BK167.out hg : gb167 ≠ gb168); have NB168_167 := Aside0.mk (zM BK167.out hg : gb168 ≠ gb167); replace BK167 := zBB BK167 hb; clear hb hbox hg; have hnb19 := NB167_168.out; have hnc19 := NB168_167.out; have hcz20 := zc4 BK167.out; have hfz20 := zf4 BK167.out; have hcz21 := zc4 BK168.out; have hfz21 := zf4 BK168.out))
     go_ret
     exact ⟨zW, zL2 HB.out GE167.out GE168.out⟩
   ·rw [if_neg c10] at H
    obtain ⟨c10b0, c10b1⟩ := zf c10
    obtain rfl := Option.some.inj H
    go_enter Try.func99, Try.ntmps99
    go_wp2_with (first | ((with_reducible refine gD 2 rfl ?_); refine bE 2 #[.string a0_0, .bool a0_1, .int .i64 a0_2, .string a0_3] 83 ?_; intro gb167 hg w22 hbox hb; have BK167 := Aside0.mk hbox; have GW167 := Aside0.mk (zg (zL HB.out) hg : w.heap.size ≤ gb167); have GE167 := GW167; replace HB := zLB (zL HB.out) hb; clear hb hbox hg) | ((with_reducible refine gD 3 rfl ?_); refine bE 3 #[.string a1_0, .bool a1_1, .int .i64 a1_2, .string a1_3] 83 ?_; intro gb168 hg w23 hbox hb; have BK168 := Aside0.mk hbox; have GW168 := Aside0.mk (zg (zL1 HB.out GE167.out) hg : w.heap.size ≤ gb168); have GE168 := GW168; replace HB := zLB (zL1 HB.out GE167.out) hb; have NB167_168 := Aside0.mk (zN BK167.out hg : gb167 ≠ gb168); have NB168_167 := Aside0.mk (zM BK167.out hg : gb168 ≠ gb167); replace BK167 := zBB BK167 hb; clear hb hbox hg; have hnb24 := NB167_168.out; have hnc24 := NB168_167.out; have hcz25 := zc4 BK167.out; have hfz25 := zf4 BK167.out; have hcz26 := zc4 BK168.out; have hfz26 := zf4 BK168.out))
    go_ret
    exact ⟨zW, zL2 HB.out GE167.out GE168.out⟩
 ·rw [if_neg c3] at H
  obtain ⟨c3b0, c3b1⟩ := zf c3
  obtain rfl := Option.some.inj H
  go_enter Try.func99, Try.ntmps99
  go_wp2_with (first | ((with_reducible refine gD 2 rfl ?_); refine bE 2 #[.string a0_0, .bool a0_1, .int .i64 a0_2, .string a0_3] 83 ?_; intro gb167 hg w27 hbox hb; have BK167 := Aside0.mk hbox; have GW167 := Aside0.mk (zg (zL HB.out) hg : w.heap.size ≤ gb167); have GE167 := GW167; replace HB := zLB (zL HB.out) hb; clear hb hbox hg) | ((with_reducible refine gD 3 rfl ?_); refine bE 3 #[.string a1_0, .bool a1_1, .int .i64 a1_2, .string a1_3] 83 ?_; intro gb168 hg w28 hbox hb; have BK168 := Aside0.mk hbox; have GW168 := Aside0.mk (zg (zL1 HB.out GE167.out) hg : w.heap.size ≤ gb168); have GE168 := GW168; replace HB := zLB (zL1 HB.out GE167.out) hb; have NB167_168 := Aside0.mk (zN BK167.out hg : gb167 ≠ gb168); have NB168_167 := Aside0.mk (zM BK167.out hg : gb168 ≠ gb167); replace BK167 := zBB BK167 hb; clear hb hbox hg; have hnb29 := NB167_168.out; have hnc29 := NB168_167.out; have hcz30 := zc4 BK167.out; have hfz30 := zf4 BK167.out; have hcz31 := zc4 BK168.out; have hfz31 := zf4 BK168.out))
  go_ret
  exact ⟨zW, zL2 HB.out GE167.out GE168.out⟩

open Go.Proofs.YtfhblnbicnmndaaW.PrintWords renaming blk_drewN → bN, blk_drew → bD, blk_alloc → bA, blk_cell → bC, blk_below → bB, below_set → bS
/-! ### laws_eqAttrS: function 81 -/
def laws_eqAttrS.l0 : Nat → List (S83) → List (S83) → Int → Option (Bool)
 | 0, _, _, _ => none
 | k + 1, x0, x1, x5 => if x5 < (x0.length : Int) then (if 0 ≤ x5 then (if x5 < (x1.length : Int) then ((laws_eqAttr.f ((rd_T83 x0 x5).f0) ((rd_T83 x0 x5).f1) ((rd_T83 x0 x5).f2) ((rd_T83 x0 x5).f3) ((rd_T83 x1 x5).f0) ((rd_T83 x1 x5).f1) ((rd_T83 x1 x5).f2) ((rd_T83 x1 x5).f3)).bind fun t171 => (if t171 = true then (laws_eqAttrS.l0 k x0 x1 (wrap64 (x5 + 1))) else (some false))) else (none)) else (none)) else (some true)
def laws_eqAttrS.f (k : Nat) (l0 : List (S83)) (l1 : List (S83)) : Option (Bool) := if (l0.length : Int) = (l1.length : Int) then (laws_eqAttrS.l0 k l0 l1 0) else (some false)
theorem laws_eqAttrS.mono_l : ∀ k, (∀ y0 y1 y2, LeO (laws_eqAttrS.l0 k y0 y1 y2) (laws_eqAttrS.l0 (k + 1) y0 y1 y2))
 | 0 => fun _ _ _ r h => by simp [laws_eqAttrS.l0] at h
 | k + 1 => by
  have ih0 := laws_eqAttrS.mono_l k
  ·intro y0 y1 y2
   unfold laws_eqAttrS.l0
   repeat' first
   | (with_reducible exact ih0 _ _ _)
   | (with_reducible exact LeO.refl _)
   | (with_reducible exact LeO.none _)
   | (with_reducible refine LeO.ite ?_ ?_)
   | (with_reducible refine LeO.bind ?_ (fun _ => ?_))
   | exact ih0 _ _ _
   | exact LeO.none _
   | refine LeO.ite ?_ ?_
   | refine LeO.bind ?_ (fun _ => ?_)
theorem laws_eqAttrS.mono : ∀ a0 a1 k, LeO (laws_eqAttrS.f k a0 a1) (laws_eqAttrS.f (k + 1) a0 a1) := by
 intro a0 a1 k
 have ih0 := laws_eqAttrS.mono_l k
 unfold laws_eqAttrS.f
 repeat' first
   | (with_reducible exact ih0 _ _ _)
   | (with_reducible exact LeO.refl _)
   | (with_reducible exact LeO.none _)
   | (with_reducible refine LeO.ite ?_ ?_)
   | (with_reducible refine LeO.bind ?_ (fun _ => ?_))
   | exact ih0 _ _ _
   | exact LeO.none _
   | refine LeO.ite ?_ ?_
   | refine LeO.bind ?_ (fun _ => ?_)
def laws_eqAttrS.T6 : Bool × List (List Nat × List Nat) := (true, [([], []), ([], []), ([0, 1], [0, 1]), ([2], [2]), ([], []), ([], []), ([4, 5], [4, 5]), ([6], [6]), ([3, 7], [3, 7]), ([8], [8])])
def laws_eqAttrS.B6 : List Nat := [0, 0, 3, 7, 0, 0, 48, 112, 255, 511]
theorem laws_eqAttrS.tab6 : rtab .any (opsOf Try.f81 6) = laws_eqAttrS.T6 := by kernel_rfl
theorem laws_eqAttrS.bits6 : waitsOk laws_eqAttrS.T6.2 laws_eqAttrS.B6 = true := by kernel_rfl
set_option maxHeartbeats 8000000 in
set_option maxRecDepth 100000 in
theorem laws_eqAttrS.calls (k : Nat) (A0 : Option Addr) (c0 : Nat) (l0 : List (S83)) (A1 : Option Addr) (c1 : Nat) (l1 : List (S83)) (r : Bool) (w : World) (hr0 : Kd.C k83 w A0 l0.length l0) (hc0 : l0.length ≤ c0) (hr1 : Kd.C k83 w A1 l1.length l1) (hc1 : l1.length ≤ c1) (h : laws_eqAttrS.f k l0 l1 = some r) :
  Calls Try.prog 81 #[.slice A0 l0.length c0, .slice A1 l1.length c1] w fun e w' => e = .returned (.bool r) ∧ Below w.heap.size w w' := by
 have hu83 := Try.underlying83
 have HR0 := Aside0.mk hr0
 have HC0 := Aside0.mk hc0
 clear hr0 hc0
 have HR1 := Aside0.mk hr1
 have HC1 := Aside0.mk hc1
 clear hr1 hc1
 have HB := Aside0.mk (Below.refl w.heap.size w)
 unfold laws_eqAttrS.f at h; have H := h
 clear h
 by_cases c3 : (l0.length : Int) = (l1.length : Int)
 ·rw [if_pos c3] at H
  obtain ⟨c3b0, c3b1⟩ := zt c3
  have c3b2 : (l0.length == l1.length) = true := by first | simpa using c3 | (simp at c3 ⊢; omega)
  clear c3
  have H' := Aside0.mk H
  clear H
  go_enter Try.func81, Try.ntmps81
  go_wp2
  go_loopg [5] k (fun kq v5 w' => ∃ (x5_1 : Int), v5 = .int .i64 x5_1 ∧ Aside0 (laws_eqAttrS.l0 kq l0 l1 x5_1 = some r) ∧ Aside0 (kq ≤ k) ∧ Aside0 (Below w.heap.size w w'))
  case atStart => exact ⟨(0), zV, H', ⟨Nat.le_refl _⟩, ⟨zL HB.out⟩⟩
  case round =>
   clear H'
   try clear c1
   try clear p2
   try clear c3
   try clear c3b0
   try clear c3b1
   try clear c3b2
   obtain ⟨x5_1, rfl, HA, HK1, HB⟩ := hrel
   cases gk with
   | zero => exact absurd HA.out (by simp [laws_eqAttrS.l0])
   | succ k1 =>
    have H := HA.out
    clear HA
    simp only [laws_eqAttrS.l0] at H
    by_cases c4 : x5_1 < (l0.length : Int)
    ·rw [if_pos c4] at H
     have c4b0 := decide_eq_true c4
     clear c4
     by_cases c5 : 0 ≤ x5_1
     ·rw [if_pos c5] at H
      have c5b0 := decide_eq_true c5
      clear c5
      by_cases c6 : x5_1 < (l1.length : Int)
      ·rw [if_pos c6] at H
       have c6b0 := decide_eq_true c6
       clear c6
       obtain ⟨t171, A7, H⟩ := zO H; try dsimp only at H
       by_cases c8 : t171 = true
       ·subst c8
        rw [if_pos rfl] at H
        have H' := Aside0.mk H
        clear H
        try go_wp2
        replace HB := zLD HB
        have p169 : 0 ≤ (x5_1 : Int) := zD
        have q169 : x5_1 < (l0.length : Int) := zD
        obtain ⟨ad169, e169, hx169_0, hx169_1, hx169_2, hx169_3⟩ := at_T83 HR0.out x5_1 p169 q169
        have hw169_3 := hx169_3
        have hw169_2 := hx169_2
        have hw169_1 := hx169_1
        have hw169_0 := hx169_0
        cases e169
        replace hx169_0 := zh HB.out hx169_0
        replace hx169_1 := zh HB.out hx169_1
        replace hx169_2 := zh HB.out hx169_2
        replace hx169_3 := zh HB.out hx169_3
        replace p169 := eq_true p169
        replace q169 := eq_true q169
        have p170 : 0 ≤ (x5_1 : Int) := zD
        have q170 : x5_1 < (l1.length : Int) := zD
        obtain ⟨ad170, e170, hx170_0, hx170_1, hx170_2, hx170_3⟩ := at_T83 HR1.out x5_1 p170 q170
        have hw170_3 := hx170_3
        have hw170_2 := hx170_2
        have hw170_1 := hx170_1
        have hw170_0 := hx170_0
        cases e170
        replace hx170_0 := zh HB.out hx170_0
        replace hx170_1 := zh HB.out hx170_1
        replace hx170_2 := zh HB.out hx170_2
        replace hx170_3 := zh HB.out hx170_3
        replace p170 := eq_true p170
        replace q170 := eq_true q170
        refine start_ (n := 10) (S := fun w' => w'.cell? (ad169.add ((x5_1).toNat * 4)) = some (.string ((rd_T83 l0 x5_1).f0)) ∧ w'.cell? ⟨(ad169.add ((x5_1).toNat * 4)).block, (ad169.add ((x5_1).toNat * 4)).off + 1, none⟩ = some (.bool ((rd_T83 l0 x5_1).f1)) ∧ w'.cell? ⟨(ad169.add ((x5_1).toNat * 4)).block, (ad169.add ((x5_1).toNat * 4)).off + 2, none⟩ = some (.int .i64 ((rd_T83 l0 x5_1).f2)) ∧ w'.cell? ⟨(ad169.add ((x5_1).toNat * 4)).block, (ad169.add ((x5_1).toNat * 4)).off + 3, none⟩ = some (.string ((rd_T83 l0 x5_1).f3)) ∧ w'.cell? (ad170.add ((x5_1).toNat * 4)) = some (.string ((rd_T83 l1 x5_1).f0)) ∧ w'.cell? ⟨(ad170.add ((x5_1).toNat * 4)).block, (ad170.add ((x5_1).toNat * 4)).off + 1, none⟩ = some (.bool ((rd_T83 l1 x5_1).f1)) ∧ w'.cell? ⟨(ad170.add ((x5_1).toNat * 4)).block, (ad170.add ((x5_1).toNat * 4)).off + 2, none⟩ = some (.int .i64 ((rd_T83 l1 x5_1).f2)) ∧ w'.cell? ⟨(ad170.add ((x5_1).toNat * 4)).block, (ad170.add ((x5_1).toNat * 4)).off + 3, none⟩ = some (.string ((rd_T83 l1 x5_1).f3))) (ds := []) (fB 10 0) (by kernel_rfl) rfl rfl ⟨(zh HB.out hw169_0), (zh HB.out hw169_1), (zh HB.out hw169_2), (zh HB.out hw169_3), (zh HB.out hw170_0), (zh HB.out hw170_1), (zh HB.out hw170_2), (zh HB.out hw170_3)⟩ (fun hHeld => ?_); refine with_tabW laws_eqAttrS.tab6 laws_eqAttrS.bits6 (fun HT_ HW_ => ?_)
        generalize wr.drew = w9 at HB hx169_0 hx169_1 hx169_2 hx169_3 hx170_0 hx170_1 hx170_2 hx170_3 hHeld ⊢
        refine pY 0 17 (fB 10 1) HT_.out ?_
        refine pY 1 18 (fB 10 3) HT_.out ?_
        refine pY 2 19 (fB 10 7) HT_.out ?_
        refine pY 4 21 (fB 10 23) HT_.out ?_
        refine pY 5 22 (fB 10 55) HT_.out ?_
        refine pY 6 23 (fB 10 119) HT_.out ?_
        refine tY 3 20 (fB 10 127) HT_.out HW_.out hHeld ?_
        refine tY 7 24 (fB 10 255) HT_.out HW_.out hHeld ?_
        refine oN 8 25 (fB 10 511) HT_.out fun K hK => ?_
        refine gS Try.func99 #[.agg #[.string ((rd_T83 l0 x5_1).f0), .bool ((rd_T83 l0 x5_1).f1), .int .i64 ((rd_T83 l0 x5_1).f2), .string ((rd_T83 l0 x5_1).f3)], .agg #[.string ((rd_T83 l1 x5_1).f0), .bool ((rd_T83 l1 x5_1).f1), .int .i64 ((rd_T83 l1 x5_1).f2), .string ((rd_T83 l1 x5_1).f3)]] ?_
        with_reducible refine (laws_eqAttr.calls ((rd_T83 l0 x5_1).f0) ((rd_T83 l0 x5_1).f1) ((rd_T83 l0 x5_1).f2) ((rd_T83 l0 x5_1).f3) ((rd_T83 l1 x5_1).f0) ((rd_T83 l1 x5_1).f1) ((rd_T83 l1 x5_1).f2) ((rd_T83 l1 x5_1).f3) true _ A7.out).mono ?_
        rintro e w10 ⟨rfl, hb⟩
        refine ⟨_, rfl, ?_⟩
        replace HB := zLB (zL HB.out) hb
        clear hb
        refine hK.out _ _ ⟨(zh HB.out hw169_0), (zh HB.out hw169_1), (zh HB.out hw169_2), (zh HB.out hw169_3), (zh HB.out hw170_0), (zh HB.out hw170_1), (zh HB.out hw170_2), (zh HB.out hw170_3)⟩ fun hHeld => ?_; clear hK K
        refine nZ 25 ?_
        refine pY 9 26 (fB 10 1023) HT_.out ?_
        refine done_ (done_of HT_.out (by kernel_rfl)) ?_
        try go_wp2
        go_roundg k1
        case measure => have := HK1.out; omega
        case rel => exact ⟨(wrap64 (x5_1 + 1)), zV, H', ⟨by have := HK1.out; omega⟩, ⟨zL HB.out⟩⟩
       ·obtain rfl := Bool.eq_false_iff.mpr c8
        rw [if_neg zn] at H
        obtain rfl := Option.some.inj H
        try go_wp2
        replace HB := zLD HB
        have p169 : 0 ≤ (x5_1 : Int) := zD
        have q169 : x5_1 < (l0.length : Int) := zD
        obtain ⟨ad169, e169, hx169_0, hx169_1, hx169_2, hx169_3⟩ := at_T83 HR0.out x5_1 p169 q169
        have hw169_3 := hx169_3
        have hw169_2 := hx169_2
        have hw169_1 := hx169_1
        have hw169_0 := hx169_0
        cases e169
        replace hx169_0 := zh HB.out hx169_0
        replace hx169_1 := zh HB.out hx169_1
        replace hx169_2 := zh HB.out hx169_2
        replace hx169_3 := zh HB.out hx169_3
        replace p169 := eq_true p169
        replace q169 := eq_true q169
        have p170 : 0 ≤ (x5_1 : Int) := zD
        have q170 : x5_1 < (l1.length : Int) := zD
        obtain ⟨ad170, e170, hx170_0, hx170_1, hx170_2, hx170_3⟩ := at_T83 HR1.out x5_1 p170 q170
        have hw170_3 := hx170_3
        have hw170_2 := hx170_2
        have hw170_1 := hx170_1
        have hw170_0 := hx170_0
        cases e170
        replace hx170_0 := zh HB.out hx170_0
        replace hx170_1 := zh HB.out hx170_1
        replace hx170_2 := zh HB.out hx170_2
        replace hx170_3 := zh HB.out hx170_3
        replace p170 := eq_true p170
        replace q170 := eq_true q170
        refine start_ (n := 10) (S := fun w' => w'.cell? (ad169.add ((x5_1).toNat * 4)) = some (.string ((rd_T83 l0 x5_1).f0)) ∧ w'.cell? ⟨(ad169.add ((x5_1).toNat * 4)).block, (ad169.add ((x5_1).toNat * 4)).off + 1, none⟩ = some (.bool ((rd_T83 l0 x5_1).f1)) ∧ w'.cell? ⟨(ad169.add ((x5_1).toNat * 4)).block, (ad169.add ((x5_1).toNat * 4)).off + 2, none⟩ = some (.int .i64 ((rd_T83 l0 x5_1).f2)) ∧ w'.cell? ⟨(ad169.add ((x5_1).toNat * 4)).block, (ad169.add ((x5_1).toNat * 4)).off + 3, none⟩ = some (.string ((rd_T83 l0 x5_1).f3)) ∧ w'.cell? (ad170.add ((x5_1).toNat * 4)) = some (.string ((rd_T83 l1 x5_1).f0)) ∧ w'.cell? ⟨(ad170.add ((x5_1).toNat * 4)).block, (ad170.add ((x5_1).toNat * 4)).off + 1, none⟩ = some (.bool ((rd_T83 l1 x5_1).f1)) ∧ w'.cell? ⟨(ad170.add ((x5_1).toNat * 4)).block, (ad170.add ((x5_1).toNat * 4)).off + 2, none⟩ = some (.int .i64 ((rd_T83 l1 x5_1).f2)) ∧ w'.cell? ⟨(ad170.add ((x5_1).toNat * 4)).block, (ad170.add ((x5_1).toNat * 4)).off + 3, none⟩ = some (.string ((rd_T83 l1 x5_1).f3))) (ds := []) (fB 10 0) (by kernel_rfl) rfl rfl ⟨(zh HB.out hw169_0), (zh HB.out hw169_1), (zh HB.out hw169_2), (zh HB.out hw169_3), (zh HB.out hw170_0), (zh HB.out hw170_1), (zh HB.out hw170_2), (zh HB.out hw170_3)⟩ (fun hHeld => ?_); refine with_tabW laws_eqAttrS.tab6 laws_eqAttrS.bits6 (fun HT_ HW_ => ?_)
        generalize wr.drew = w11 at HB hx169_0 hx169_1 hx169_2 hx169_3 hx170_0 hx170_1 hx170_2 hx170_3 hHeld ⊢
        refine pY 0 17 (fB 10 1) HT_.out ?_
        refine pY 1 18 (fB 10 3) HT_.out ?_
        refine pY 2 19 (fB 10 7) HT_.out ?_
        refine pY 4 21 (fB 10 23) HT_.out ?_
        refine pY 5 22 (fB 10 55) HT_.out ?_
        refine pY 6 23 (fB 10 119) HT_.out ?_
        refine tY 3 20 (fB 10 127) HT_.out HW_.out hHeld ?_
        refine tY 7 24 (fB 10 255) HT_.out HW_.out hHeld ?_
        refine oN 8 25 (fB 10 511) HT_.out fun K hK => ?_
        refine gS Try.func99 #[.agg #[.string ((rd_T83 l0 x5_1).f0), .bool ((rd_T83 l0 x5_1).f1), .int .i64 ((rd_T83 l0 x5_1).f2), .string ((rd_T83 l0 x5_1).f3)], .agg #[.string ((rd_T83 l1 x5_1).f0), .bool ((rd_T83 l1 x5_1).f1), .int .i64 ((rd_T83 l1 x5_1).f2), .string ((rd_T83 l1 x5_1).f3)]] ?_
        with_reducible refine (laws_eqAttr.calls ((rd_T83 l0 x5_1).f0) ((rd_T83 l0 x5_1).f1) ((rd_T83 l0 x5_1).f2) ((rd_T83 l0 x5_1).f3) ((rd_T83 l1 x5_1).f0) ((rd_T83 l1 x5_1).f1) ((rd_T83 l1 x5_1).f2) ((rd_T83 l1 x5_1).f3) false _ A7.out).mono ?_
        rintro e w12 ⟨rfl, hb⟩
        refine ⟨_, rfl, ?_⟩
        replace HB := zLB (zL HB.out) hb
        clear hb
        refine hK.out _ _ ⟨(zh HB.out hw169_0), (zh HB.out hw169_1), (zh HB.out hw169_2), (zh HB.out hw169_3), (zh HB.out hw170_0), (zh HB.out hw170_1), (zh HB.out hw170_2), (zh HB.out hw170_3)⟩ fun hHeld => ?_; clear hK K
        refine nZ 25 ?_
        refine pY 9 26 (fB 10 1023) HT_.out ?_
        refine done_ (done_of HT_.out (by kernel_rfl)) ?_
        try go_wp2
        go_ret
        exact ⟨zW, zL HB.out⟩
      ·rw [if_neg c6] at H
       exact absurd H (by simp)
     ·rw [if_neg c5] at H
      exact absurd H (by simp)
    ·rw [if_neg c4] at H
     have c4b0 := decide_eq_false c4
     clear c4
     obtain rfl := Option.some.inj H
     go_wp2
     go_ret
     exact ⟨zW, zL HB.out⟩
 ·rw [if_neg c3] at H
  obtain ⟨c3b0, c3b1⟩ := zf c3
  have c3b2 : (l0.length == l1.length) = false := by first | simpa using c3 | (simp at c3 ⊢; omega)
  obtain rfl := Option.some.inj H
  go_enter Try.func81, Try.ntmps81
  go_wp2
  go_ret
  exact ⟨zW, zL HB.out⟩

open Go.Proofs.YtfhblnbicnmndaaW.PrintWords renaming blk_drewN → bN, blk_drew → bD, blk_alloc → bA, blk_cell → bC, blk_below → bB, below_set → bS
/-! ### laws_eqSpan: function 53 -/
def laws_eqSpan.f (k : Nat) (a0_0 : Int) (a0_1 : Int) (a0_2 : Int) (a0_3 : Int) (a0_4 : Bool) (l0_5 : List (S83)) (a1_0 : Int) (a1_1 : Int) (a1_2 : Int) (a1_3 : Int) (a1_4 : Bool) (l1_5 : List (S83)) : Option (Bool) := if a0_0 = a1_0 then (if a0_1 = a1_1 then (if a0_2 = a1_2 then (if a0_3 = a1_3 then (if (a0_4 != a1_4) = true then (some false) else ((laws_eqAttrS.f k l0_5 l1_5).bind fun t174 => (if t174 = true then (some true) else (some false)))) else (some false)) else (some false)) else (some false)) else (some false)
theorem laws_eqSpan.mono : ∀ a0 a1 a2 a3 a4 a5 a6 a7 a8 a9 a10 a11 k, LeO (laws_eqSpan.f k a0 a1 a2 a3 a4 a5 a6 a7 a8 a9 a10 a11) (laws_eqSpan.f (k + 1) a0 a1 a2 a3 a4 a5 a6 a7 a8 a9 a10 a11) := by
 intro a0 a1 a2 a3 a4 a5 a6 a7 a8 a9 a10 a11 k
 unfold laws_eqSpan.f
 repeat' first
   | (with_reducible apply laws_eqAttrS.mono)
   | (with_reducible exact LeO.refl _)
   | (with_reducible exact LeO.none _)
   | (with_reducible refine LeO.ite ?_ ?_)
   | (with_reducible refine LeO.bind ?_ (fun _ => ?_))
   | apply laws_eqAttrS.mono
   | exact LeO.none _
   | refine LeO.ite ?_ ?_
   | refine LeO.bind ?_ (fun _ => ?_)
set_option maxHeartbeats 8000000 in
set_option maxRecDepth 100000 in
theorem laws_eqSpan.calls (k : Nat) (a0_0 : Int) (a0_1 : Int) (a0_2 : Int) (a0_3 : Int) (a0_4 : Bool) (A0_5 : Option Addr) (c0_5 : Nat) (l0_5 : List (S83)) (a1_0 : Int) (a1_1 : Int) (a1_2 : Int) (a1_3 : Int) (a1_4 : Bool) (A1_5 : Option Addr) (c1_5 : Nat) (l1_5 : List (S83)) (r : Bool) (w : World) (hr0_5 : Kd.C k83 w A0_5 l0_5.length l0_5) (hc0_5 : l0_5.length ≤ c0_5) (hr1_5 : Kd.C k83 w A1_5 l1_5.length l1_5) (hc1_5 : l1_5.length ≤ c1_5) (h : laws_eqSpan.f k a0_0 a0_1 a0_2 a0_3 a0_4 l0_5 a1_0 a1_1 a1_2 a1_3 a1_4 l1_5 = some r) :
  Calls Try.prog 53 #[.agg #[.int .i64 a0_0, .int .i64 a0_1, .int .i64 a0_2, .int .i64 a0_3, .bool a0_4, .slice A0_5 l0_5.length c0_5], .agg #[.int .i64 a1_0, .int .i64 a1_1, .int .i64 a1_2, .int .i64 a1_3, .bool a1_4, .slice A1_5 l1_5.length c1_5]] w fun e w' => e = .returned (.bool r) ∧ Below w.heap.size w w' := by
 have hu73 := Try.underlying73
 have HR0_5 := Aside0.mk hr0_5
 have HC0_5 := Aside0.mk hc0_5
 clear hr0_5 hc0_5
 have HR1_5 := Aside0.mk hr1_5
 have HC1_5 := Aside0.mk hc1_5
 clear hr1_5 hc1_5
 have HB := Aside0.mk (Below.refl w.heap.size w)
 unfold laws_eqSpan.f at h; have H := h
 clear h
 by_cases c3 : a0_0 = a1_0
 ·rw [if_pos c3] at H
  obtain ⟨c3b0, c3b1⟩ := zt c3
  clear c3
  by_cases c4 : a0_1 = a1_1
  ·rw [if_pos c4] at H
   obtain ⟨c4b0, c4b1⟩ := zt c4
   clear c4
   by_cases c5 : a0_2 = a1_2
   ·rw [if_pos c5] at H
    obtain ⟨c5b0, c5b1⟩ := zt c5
    clear c5
    by_cases c6 : a0_3 = a1_3
    ·rw [if_pos c6] at H
     obtain ⟨c6b0, c6b1⟩ := zt c6
     clear c6
     by_cases c7 : (a0_4 != a1_4) = true
     ·rw [if_pos c7] at H
      have c7b0 := c7
      (try (have c7b1 : decide (a0_4 = a1_4) = false := by simpa using c7))
      (try (have c7b2 : (a0_4 == a1_4) = false := by simpa using c7))
      (try (have c7b3 : ¬ (a0_4 = a1_4) := by simpa using c7))
      clear c7
      obtain rfl := Option.some.inj H
      go_enter Try.func53, Try.ntmps53
      go_wp2_with (first | ((with_reducible refine gD 2 rfl ?_); refine bE 2 #[.int .i64 a0_0, .int .i64 a0_1, .int .i64 a0_2, .int .i64 a0_3, .bool a0_4, .slice A0_5 l0_5.length c0_5] 73 ?_; intro gb172 hg w8 hbox hb; have BK172 := Aside0.mk hbox; have GW172 := Aside0.mk (zg (zL HB.out) hg : w.heap.size ≤ gb172); have GE172 := GW172; replace HB := zLB (zL HB.out) hb; clear hb hbox hg) | ((with_reducible refine gD 3 rfl ?_); refine bE 3 #[.int .i64 a1_0, .int .i64 a1_1, .int .i64 a1_2, .int .i64 a1_3, .bool a1_4, .slice A1_5 l1_5.length c1_5] 73 ?_; intro gb173 hg w9 hbox hb; have BK173 := Aside0.mk hbox; have GW173 := Aside0.mk (zg (zL1 HB.out GE172.out) hg : w.heap.size ≤ gb173); have GE173 := GW173; replace HB := zLB (zL1 HB.out GE172.out) hb; have NB172_173 := Aside0.mk (zN BK172.out hg : gb172 ≠ gb173); have NB173_172 := Aside0.mk (zM BK172.out hg : gb173 ≠ gb172); replace BK172 := zBB BK172 hb; clear hb hbox hg; have hnb10 := NB172_173.out; have hnc10 := NB173_172.out; have hcz11 := zc6 BK172.out; have hfz11 := zf6 BK172.out; have hcz12 := zc6 BK173.out; have hfz12 := zf6 BK173.out))
      go_ret
      exact ⟨zW, zL2 HB.out GE172.out GE173.out⟩
     ·rw [if_neg c7] at H
      have c7b0 : (a0_4 != a1_4) = false := by simpa using c7
      (try (have c7b1 : decide (a0_4 = a1_4) = true := by simpa using c7))
      (try (have c7b2 : (a0_4 == a1_4) = true := by simpa using c7))
      clear c7
      obtain ⟨t174, A13, H⟩ := zO H; try dsimp only at H
      by_cases c14 : t174 = true
      ·subst c14
       rw [if_pos rfl] at H
       obtain rfl := Option.some.inj H
       go_enter Try.func53, Try.ntmps53
       go_wp2_with (first | ((with_reducible refine gD 2 rfl ?_); refine bE 2 #[.int .i64 a0_0, .int .i64 a0_1, .int .i64 a0_2, .int .i64 a0_3, .bool a0_4, .slice A0_5 l0_5.length c0_5] 73 ?_; intro gb172 hg w15 hbox hb; have BK172 := Aside0.mk hbox; have GW172 := Aside0.mk (zg (zL HB.out) hg : w.heap.size ≤ gb172); have GE172 := GW172; replace HB := zLB (zL HB.out) hb; clear hb hbox hg) | ((with_reducible refine gD 3 rfl ?_); refine bE 3 #[.int .i64 a1_0, .int .i64 a1_1, .int .i64 a1_2, .int .i64 a1_3, .bool a1_4, .slice A1_5 l1_5.length c1_5] 73 ?_; intro gb173 hg w16 hbox hb; have BK173 := Aside0.mk hbox; have GW173 := Aside0.mk (zg (zL1 HB.out GE172.out) hg : w.heap.size ≤ gb173); have GE173 := GW173; replace HB := zLB (zL1 HB.out GE172.out) hb; have NB172_173 := Aside0.mk (zN BK172.out hg : gb172 ≠ gb173); have NB173_172 := Aside0.mk (zM BK172.out hg : gb173 ≠ gb172); replace BK172 := zBB BK172 hb; clear hb hbox hg; have hnb17 := NB172_173.out; have hnc17 := NB173_172.out; have hcz18 := zc6 BK172.out; have hfz18 := zf6 BK172.out; have hcz19 := zc6 BK173.out; have hfz19 := zf6 BK173.out) | ((with_reducible refine gC 81 rfl ?_); refine gL 34 Try.func81 #[.slice A0_5 l0_5.length c0_5, .slice A1_5 l1_5.length c1_5] ?_; (with_reducible refine (laws_eqAttrS.calls k _ _ l0_5 _ _ l1_5 true _ ?side1 ?side2 ?side3 ?side4 A13.out).mono ?_); (case side1 => exact zC (Kd.C_below HR0_5.out HB.out)); (case side2 => exact HC0_5.out); (case side3 => exact zC (Kd.C_below HR1_5.out HB.out)); (case side4 => exact HC1_5.out); rintro e w20 ⟨rfl, hb⟩; refine ⟨_, rfl, ?_⟩; replace BK172 := zBB BK172 hb; replace BK173 := zBB BK173 hb; replace HB := zLB (zL2 HB.out GE172.out GE173.out) hb; clear hb))
       go_ret
       exact ⟨zW, zL2 HB.out GE172.out GE173.out⟩
      ·obtain rfl := Bool.eq_false_iff.mpr c14
       rw [if_neg zn] at H
       obtain rfl := Option.some.inj H
       go_enter Try.func53, Try.ntmps53
       go_wp2_with (first | ((with_reducible refine gD 2 rfl ?_); refine bE 2 #[.int .i64 a0_0, .int .i64 a0_1, .int .i64 a0_2, .int .i64 a0_3, .bool a0_4, .slice A0_5 l0_5.length c0_5] 73 ?_; intro gb172 hg w21 hbox hb; have BK172 := Aside0.mk hbox; have GW172 := Aside0.mk (zg (zL HB.out) hg : w.heap.size ≤ gb172); have GE172 := GW172; replace HB := zLB (zL HB.out) hb; clear hb hbox hg) | ((with_reducible refine gD 3 rfl ?_); refine bE 3 #[.int .i64 a1_0, .int .i64 a1_1, .int .i64 a1_2, .int .i64 a1_3, .bool a1_4, .slice A1_5 l1_5.length c1_5] 73 ?_; intro gb173 hg w22 hbox hb; have BK173 := Aside0.mk hbox; have GW173 := Aside0.mk (zg (zL1 HB.out GE172.out) hg : w.heap.size ≤ gb173); have GE173 := GW173; replace HB := zLB (zL1 HB.out GE172.out) hb; have NB172_173 := Aside0.mk (zN BK172.out hg : gb172 ≠ gb173); have NB173_172 := Aside0.mk (zM BK172.out hg : gb173 ≠ gb172); replace BK172 := zBB BK172 hb; clear hb hbox hg; have hnb23 := NB172_173.out; have hnc23 := NB173_172.out; have hcz24 := zc6 BK172.out; have hfz24 := zf6 BK172.out; have hcz25 := zc6 BK173.out; have hfz25 := zf6 BK173.out) | ((with_reducible refine gC 81 rfl ?_); refine gL 34 Try.func81 #[.slice A0_5 l0_5.length c0_5, .slice A1_5 l1_5.length c1_5] ?_; (with_reducible refine (laws_eqAttrS.calls k _ _ l0_5 _ _ l1_5 false _ ?side1 ?side2 ?side3 ?side4 A13.out).mono ?_); (case side1 => exact zC (Kd.C_below HR0_5.out HB.out)); (case side2 => exact HC0_5.out); (case side3 => exact zC (Kd.C_below HR1_5.out HB.out)); (case side4 => exact HC1_5.out); rintro e w26 ⟨rfl, hb⟩; refine ⟨_, rfl, ?_⟩; replace BK172 := zBB BK172 hb; replace BK173 := zBB BK173 hb; replace HB := zLB (zL2 HB.out GE172.out GE173.out) hb; clear hb))
       go_ret
       exact ⟨zW, zL2 HB.out GE172.out GE173.out⟩
    ·rw [if_neg c6] at H
     obtain ⟨c6b0, c6b1⟩ := zf c6
     obtain rfl := Option.some.inj H
     go_enter Try.func53, Try.ntmps53
     go_wp2_with (first | ((with_reducible refine gD 2 rfl ?_); refine bE 2 #[.int .i64 a0_0, .int .i64 a0_1, .int .i64 a0_2, .int .i64 a0_3, .bool a0_4, .slice A0_5 l0_5.length c0_5] 73 ?_; intro gb172 hg w27 hbox hb; have BK172 := Aside0.mk hbox; have GW172 := Aside0.mk (zg (zL HB.out) hg : w.heap.size ≤ gb172); have GE172 := GW172; replace HB := zLB (zL HB.out) hb; clear hb hbox hg) | ((with_reducible refine gD 3 rfl ?_); refine bE 3 #[.int .i64 a1_0, .int .i64 a1_1, .int .i64 a1_2, .int .i64 a1_3, .bool a1_4, .slice A1_5 l1_5.length c1_5] 73 ?_; intro gb173 hg w28 hbox hb; have BK173 := Aside0.mk hbox; have GW173 := Aside0.mk (zg (zL1 HB.out GE172.out) hg : w.heap.size ≤ gb173); have GE173 := GW173; replace HB := zLB (zL1 HB.out GE172.out) hb; have NB172_173 := Aside0.mk (zN BK172.out hg : gb172 ≠ gb173); have NB173_172 := Aside0.mk (zM BK172.out hg : gb173 ≠ gb172); replace BK172 := zBB BK172 hb; clear hb hbox hg; have hnb29 := NB172_173.out; have hnc29 := NB173_172.out; have hcz30 := zc6 BK172.out; have hfz30 := zf6 BK172.out; have hcz31 := zc6 BK173.out; have hfz31 := zf6 BK173.out))
     go_ret
     exact ⟨zW, zL2 HB.out GE172.out GE173.out⟩
   ·rw [if_neg c5] at H
    obtain ⟨c5b0, c5b1⟩ := zf c5
    obtain rfl := Option.some.inj H
    go_enter Try.func53, Try.ntmps53
    go_wp2_with (first | ((with_reducible refine gD 2 rfl ?_); refine bE 2 #[.int .i64 a0_0, .int .i64 a0_1, .int .i64 a0_2, .int .i64 a0_3, .bool a0_4, .slice A0_5 l0_5.length c0_5] 73 ?_; intro gb172 hg w32 hbox hb; have BK172 := Aside0.mk hbox; have GW172 := Aside0.mk (zg (zL HB.out) hg : w.heap.size ≤ gb172); have GE172 := GW172; replace HB := zLB (zL HB.out) hb; clear hb hbox hg) | ((with_reducible refine gD 3 rfl ?_); refine bE 3 #[.int .i64 a1_0, .int .i64 a1_1, .int .i64 a1_2, .int .i64 a1_3, .bool a1_4, .slice A1_5 l1_5.length c1_5] 73 ?_; intro gb173 hg w33 hbox hb; have BK173 := Aside0.mk hbox; have GW173 := Aside0.mk (zg (zL1 HB.out GE172.out) hg : w.heap.size ≤ gb173); have GE173 := GW173; replace HB := zLB (zL1 HB.out GE172.out) hb; have NB172_173 := Aside0.mk (zN BK172.out hg : gb172 ≠ gb173); have NB173_172 := Aside0.mk (zM BK172.out hg : gb173 ≠ gb172); replace BK172 := zBB BK172 hb; clear hb hbox hg; have hnb34 := NB172_173.out; have hnc34 := NB173_172.out; have hcz35 := zc6 BK172.out; have hfz35 := zf6 BK172.out; have hcz36 := zc6 BK173.out; have hfz36 := zf6 BK173.out))
    go_ret
    exact ⟨zW, zL2 HB.out GE172.out GE173.out⟩
  ·rw [if_neg c4] at H
   obtain ⟨c4b0, c4b1⟩ := zf c4
   obtain rfl := Option.some.inj H
   go_enter Try.func53, Try.ntmps53
   go_wp2_with (first | ((with_reducible refine gD 2 rfl ?_); refine bE 2 #[.int .i64 a0_0, .int .i64 a0_1, .int .i64 a0_2, .int .i64 a0_3, .bool a0_4, .slice A0_5 l0_5.length c0_5] 73 ?_; intro gb172 hg w37 hbox hb; have BK172 := Aside0.mk hbox; have GW172 := Aside0.mk (zg (zL HB.out) hg : w.heap.size ≤ gb172); have GE172 := GW172; replace HB := zLB (zL HB.out) hb; clear hb hbox hg) | ((with_reducible refine gD 3 rfl ?_); refine bE 3 #[.int .i64 a1_0, .int .i64 a1_1, .int .i64 a1_2, .int .i64 a1_3, .bool a1_4, .slice A1_5 l1_5.length c1_5] 73 ?_; intro gb173 hg w38 hbox hb; have BK173 := Aside0.mk hbox; have GW173 := Aside0.mk (zg (zL1 HB.out GE172.out) hg : w.heap.size ≤ gb173); have GE173 := GW173; replace HB := zLB (zL1 HB.out GE172.out) hb; have NB172_173 := Aside0.mk (zN BK172.out hg : gb172 ≠ gb173); have NB173_172 := Aside0.mk (zM BK172.out hg : gb173 ≠ gb172); replace BK172 := zBB BK172 hb; clear hb hbox hg; have hnb39 := NB172_173.out; have hnc39 := NB173_172.out; have hcz40 := zc6 BK172.out; have hfz40 := zf6 BK172.out; have hcz41 := zc6 BK173.out; have hfz41 := zf6 BK173.out))
   go_ret
   exact ⟨zW, zL2 HB.out GE172.out GE173.out⟩
 ·rw [if_neg c3] at H
  obtain ⟨c3b0, c3b1⟩ := zf c3
  obtain rfl := Option.some.inj H
  go_enter Try.func53, Try.ntmps53
  go_wp2_with (first | ((with_reducible refine gD 2 rfl ?_); refine bE 2 #[.int .i64 a0_0, .int .i64 a0_1, .int .i64 a0_2, .int .i64 a0_3, .bool a0_4, .slice A0_5 l0_5.length c0_5] 73 ?_; intro gb172 hg w42 hbox hb; have BK172 := Aside0.mk hbox; have GW172 := Aside0.mk (zg (zL HB.out) hg : w.heap.size ≤ gb172); have GE172 := GW172; replace HB := zLB (zL HB.out) hb; clear hb hbox hg) | ((with_reducible refine gD 3 rfl ?_); refine bE 3 #[.int .i64 a1_0, .int .i64 a1_1, .int .i64 a1_2, .int .i64 a1_3, .bool a1_4, .slice A1_5 l1_5.length c1_5] 73 ?_; intro gb173 hg w43 hbox hb; have BK173 := Aside0.mk hbox; have GW173 := Aside0.mk (zg (zL1 HB.out GE172.out) hg : w.heap.size ≤ gb173); have GE173 := GW173; replace HB := zLB (zL1 HB.out GE172.out) hb; have NB172_173 := Aside0.mk (zN BK172.out hg : gb172 ≠ gb173); have NB173_172 := Aside0.mk (zM BK172.out hg : gb173 ≠ gb172); replace BK172 := zBB BK172 hb; clear hb hbox hg; have hnb44 := NB172_173.out; have hnc44 := NB173_172.out; have hcz45 := zc6 BK172.out; have hfz45 := zf6 BK172.out; have hcz46 := zc6 BK173.out; have hfz46 := zf6 BK173.out))
  go_ret
  exact ⟨zW, zL2 HB.out GE172.out GE173.out⟩

end Go.Proofs.Ytfhblnbicnmndaa.QFnExactJudge
