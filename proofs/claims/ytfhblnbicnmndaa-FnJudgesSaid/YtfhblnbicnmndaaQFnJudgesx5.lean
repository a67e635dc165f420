/- What the Go functions that the law FnJudges reaches answer: each as a Lean function, with its walk. Written by a program of this session. Conditions: those that each theorem names. -/
import Derived.Test.YtfhblnbicnmndaaQFnJudgesx0
import Derived.Test.YtfhblnbicnmndaaQFnJudgesx1
import Derived.Test.YtfhblnbicnmndaaQFnJudgesx4
namespace Go.Proofs.Ytfhblnbicnmndaa.QFnJudges
open Go.RowKit Go.Proofs.YtfhblnbicnmndaaW.PrintWords Go.Proofs.YtfhblnbicnmndaaW.PrintLast Go.Proofs.YtfhblnbicnmndaaW.PrintMore
attribute [local go_sem] max2_int min2_int max_two min_two max_three min_three max_four min_four   -- for this text's walks alone
set_option linter.unusedVariables false
set_option linter.unusedSimpArgs false

/-! ### impl_Span_87: function 87, by hand -/
/-- The function value of code f_ and captures c_ answers of a thing as F_ does, in each later world. -/
@[reducible] def CloS (F_ : Int → Int → Int → Int → Bool → List S83 → Option (Bool)) (f_ : FuncId) (c_ : Array Value) (w : World) : Prop := ∀ (x0_ x1_ x2_ x3_ : Int) (x4_ : Bool) (A5_ : Option Addr) (c5_ : Nat) (x5_ : List S83) (q_ : Bool) (W_ : World), Below w.heap.size w W_ → Kd.C k83 W_ A5_ x5_.length x5_ → x5_.length ≤ c5_ → F_ x0_ x1_ x2_ x3_ x4_ x5_ = some q_ → Calls Try.prog f_ (#[.agg #[.int .i64 x0_, .int .i64 x1_, .int .i64 x2_, .int .i64 x3_, .bool x4_, .slice A5_ x5_.length c5_]] ++ c_) W_ fun e w' => e = .returned (.bool q_) ∧ Below W_.heap.size W_ w'
def impl_Span_87.f (F_ : Int → Int → Int → Int → Bool → List S83 → Option (Bool)) (k : Nat) (l0 : List (S73)) : Option Bool := (impl_Span_107.f F_ k l0).bind fun t => some (decide (0 ≤ t))
section
variable {f_ : FuncId} {fn_ : Func} {c_ : Array Value} (hf_ : Try.prog.funcs[f_]? = some fn_) (hn_ : (fn_.name == "runtime.NumGoroutine") = false) (hb_ : fn_.body.isSome = true) (k : Nat) (A0 : Option Addr) (c0 : Nat)
set_option maxHeartbeats 8000000 in
set_option maxRecDepth 100000 in
include hf_ hn_ hb_ in
theorem impl_Span_87.calls {F_ : Int → Int → Int → Int → Bool → List S83 → Option (Bool)} (l0 : List S73) (r : Bool) (w : World) (hF_ : CloS F_ f_ c_ w) (hr0 : Kd.C k73 w A0 l0.length l0) (hc0 : l0.length ≤ c0) (h : impl_Span_87.f F_ k l0 = some r) :
    Calls Try.prog 87 #[.slice A0 l0.length c0, .func (.func f_) #[] c_] w fun e w' => e = .returned (.bool r) ∧ Below w.heap.size w w' := by
  unfold impl_Span_87.f at h
  obtain ⟨t, ht, h⟩ := Option.bind_eq_some_iff.mp h
  obtain rfl := Option.some.inj h
  have HX := Aside0.mk (impl_Span_107.calls hf_ hn_ hb_ k A0 c0 l0 t w hF_ hr0 hc0 ht)
  clear hF_ hr0 hc0 ht h
  go_enter Try.func87, Try.ntmps87
  go_wp2_with (go_at_call 107; refine HX.out.mono ?_; rintro e w7 ⟨rfl, hb⟩; have HB := Aside0.mk hb; clear hb)
  go_ret
  exact ⟨rfl, HB.out⟩
set_option maxHeartbeats 8000000 in
set_option maxRecDepth 100000 in
include hf_ hn_ hb_ in
theorem impl_someSpan.calls {F_ : Int → Int → Int → Int → Bool → List S83 → Option (Bool)} (l0 : List S73) (r : Bool) (w : World) (hF_ : CloS F_ f_ c_ w) (hr0 : Kd.C k73 w A0 l0.length l0) (hc0 : l0.length ≤ c0) (h : impl_Span_87.f F_ k l0 = some r) :
    Calls Try.prog 63 #[.slice A0 l0.length c0, .func (.func f_) #[] c_] w fun e w' => e = .returned (.bool r) ∧ Below w.heap.size w w' := by
  have HX := Aside0.mk (impl_Span_87.calls hf_ hn_ hb_ k A0 c0 l0 r w hF_ hr0 hc0 h)
  clear hF_ hr0 hc0 h
  go_enter Try.func63, Try.ntmps63
  go_wp2_with (go_at_call 87; refine HX.out.mono ?_; rintro e w7 ⟨rfl, hb⟩; have HB := Aside0.mk hb; clear hb)
  go_ret
  exact ⟨rfl, HB.out⟩
end

-- impl_someSpan: by hand, with its caller

open Go.Proofs.YtfhblnbicnmndaaW.PrintWords renaming blk_drewN → bN, blk_drew → bD, blk_alloc → bA, blk_cell → bC, blk_below → bB, below_set → bS
/-! ### impl_Cap: function 45 -/
def impl_Cap.f (a0 : Int) : Option (Int) := some (mn (mx a0 0) 2147483647)
set_option maxHeartbeats 8000000 in
set_option maxRecDepth 100000 in
theorem impl_Cap.calls (a0 : Int) (r : Int) (w : World) (h : impl_Cap.f a0 = some r) :
  Calls Try.prog 45 #[.int .i64 a0] w fun e w' => e = .returned (.int .i64 r) ∧ Below w.heap.size w w' := by
 have HB := Aside0.mk (Below.refl w.heap.size w)
 unfold impl_Cap.f at h; have H := h
 clear h
 obtain ⟨ji2, hji2⟩ : ∃ j_ : Int, (mx a0 0) = j_ := ⟨_, rfl⟩
 replace H : (some (mn (ji2) 2147483647)) = some r := by first | (rw [hji2] at H; exact H) | (simp only [hji2] at H ⊢; exact H)
 (try (have hji2l : 0 ≤ ji2 := by (rw [← hji2]; unfold mx; (repeat' split) <;> omega)))
 (try (have hji2m : 0 ≤ ji2 := by omega))
 have hji2_ : (if a0 < 0 then 0 else a0) = ji2 := hji2
 obtain ⟨ji3, hji3⟩ : ∃ j_ : Int, (mn (ji2) 2147483647) = j_ := ⟨_, rfl⟩
 replace H : (some ji3) = some r := by first | (rw [hji3] at H; exact H) | (simp only [hji3] at H ⊢; exact H)
 have hji3_ : (if 2147483647 < (ji2) then 2147483647 else (ji2)) = ji3 := hji3
 obtain rfl := Option.some.inj H
 go_enter Try.func45, Try.ntmps45
 go_wp2
 go_ret
 exact ⟨by first | rfl | (simp [errW_none, errW_some] <;> rfl) | (simp only [← hji2, ← hji3]; first | rfl | (simp [errW_none, errW_some] <;> rfl)) | (simp [*, errW_none, errW_some] <;> rfl), zL HB.out⟩

open Go.Proofs.YtfhblnbicnmndaaW.PrintWords renaming blk_drewN → bN, blk_drew → bD, blk_alloc → bA, blk_cell → bC, blk_below → bB, below_set → bS
/-! ### impl_Sub: function 88 -/
def impl_Sub.f (a0 : Int) (a1 : Int) : Option (Int) := (impl_Cap.f a0).bind fun t219 => ((impl_Cap.f a1).bind fun t220 => ((impl_Cap.f (wrap64 (t219 - t220))).bind fun t221 => (some t221)))
set_option maxHeartbeats 8000000 in
set_option maxRecDepth 100000 in
theorem impl_Sub.calls (a0 : Int) (a1 : Int) (r : Int) (w : World) (h : impl_Sub.f a0 a1 = some r) :
  Calls Try.prog 88 #[.int .i64 a0, .int .i64 a1] w fun e w' => e = .returned (.int .i64 r) ∧ Below w.heap.size w w' := by
 have HB := Aside0.mk (Below.refl w.heap.size w)
 unfold impl_Sub.f at h; have H := h
 clear h
 obtain ⟨t219, A3, H⟩ := zO H; try dsimp only at H
 obtain ⟨t220, A4, H⟩ := zO H; try dsimp only at H
 obtain ⟨t221, A5, H⟩ := zO H; try dsimp only at H
 obtain rfl := Option.some.inj H
 go_enter Try.func88, Try.ntmps88
 go_wp2_with (first | ((with_reducible refine gC 45 rfl ?_); refine gL 6 Try.func45 #[.int .i64 a0] ?_; (with_reducible refine (impl_Cap.calls a0 t219 _ A3.out).mono ?_); rintro e w6 ⟨rfl, hb⟩; refine ⟨_, rfl, ?_⟩; replace HB := zLB (zL HB.out) hb; clear hb) | ((with_reducible refine gC 45 rfl ?_); refine gL 8 Try.func45 #[.int .i64 a1] ?_; (with_reducible refine (impl_Cap.calls a1 t220 _ A4.out).mono ?_); rintro e w7 ⟨rfl, hb⟩; refine ⟨_, rfl, ?_⟩; replace HB := zLB (zL HB.out) hb; clear hb) | ((with_reducible refine gC 45 rfl ?_); refine gL 10 Try.func45 #[.int .i64 (wrap64 (t219 - t220))] ?_; (with_reducible refine (impl_Cap.calls (wrap64 (t219 - t220)) t221 _ A5.out).mono ?_); rintro e w8 ⟨rfl, hb⟩; refine ⟨_, rfl, ?_⟩; replace HB := zLB (zL HB.out) hb; clear hb))
 go_ret
 exact ⟨zW, zL HB.out⟩

open Go.Proofs.YtfhblnbicnmndaaW.PrintWords renaming blk_drewN → bN, blk_drew → bD, blk_alloc → bA, blk_cell → bC, blk_below → bB, below_set → bS
/-! ### impl_LengthOf: function 65 -/
def impl_LengthOf.f (a0_0 : Int) (a0_1 : Int) (a0_2 : Int) (a0_3 : Int) (a0_4 : Bool) (l0_5 : List (S83)) : Option (Int) := (impl_Sub.f a0_3 a0_2).bind fun t223 => (some t223)
set_option maxHeartbeats 8000000 in
set_option maxRecDepth 100000 in
theorem impl_LengthOf.calls (a0_0 : Int) (a0_1 : Int) (a0_2 : Int) (a0_3 : Int) (a0_4 : Bool) (A0_5 : Option Addr) (c0_5 : Nat) (l0_5 : List (S83)) (r : Int) (w : World) (hr0_5 : Kd.C k83 w A0_5 l0_5.length l0_5) (hc0_5 : l0_5.length ≤ c0_5) (h : impl_LengthOf.f a0_0 a0_1 a0_2 a0_3 a0_4 l0_5 = some r) :
  Calls Try.prog 65 #[.agg #[.int .i64 a0_0, .int .i64 a0_1, .int .i64 a0_2, .int .i64 a0_3, .bool a0_4, .slice A0_5 l0_5.length c0_5]] w fun e w' => e = .returned (.int .i64 r) ∧ Below w.heap.size w w' := by
 have hu73 := Try.underlying73
 have HR0_5 := Aside0.mk hr0_5
 have HC0_5 := Aside0.mk hc0_5
 clear hr0_5 hc0_5
 have HB := Aside0.mk (Below.refl w.heap.size w)
 unfold impl_LengthOf.f at h; have H := h
 clear h
 obtain ⟨t223, A2, H⟩ := zO H; try dsimp only at H
 obtain rfl := Option.some.inj H
 go_enter Try.func65, Try.ntmps65
 go_wp2_with (first | ((with_reducible refine gD 1 rfl ?_); refine bE 1 #[.int .i64 a0_0, .int .i64 a0_1, .int .i64 a0_2, .int .i64 a0_3, .bool a0_4, .slice A0_5 l0_5.length c0_5] 73 ?_; intro gb222 hg w3 hbox hb; have BK222 := Aside0.mk hbox; have GW222 := Aside0.mk (zg (zL HB.out) hg : w.heap.size ≤ gb222); have GE222 := GW222; replace HB := zLB (zL HB.out) hb; clear hb hbox hg; have hcz4 := zc6 BK222.out; have hfz4 := zf6 BK222.out) | ((with_reducible refine gC 88 rfl ?_); refine gL 7 Try.func88 #[.int .i64 a0_3, .int .i64 a0_2] ?_; (with_reducible refine (impl_Sub.calls a0_3 a0_2 t223 _ A2.out).mono ?_); rintro e w5 ⟨rfl, hb⟩; refine ⟨_, rfl, ?_⟩; replace BK222 := zBB BK222 hb; replace HB := zLB (zL1 HB.out GE222.out) hb; clear hb))
 go_ret
 exact ⟨zW, zL1 HB.out GE222.out⟩

open Go.Proofs.YtfhblnbicnmndaaW.PrintWords renaming blk_drewN → bN, blk_drew → bD, blk_alloc → bA, blk_cell → bC, blk_below → bB, below_set → bS
/-! ### impl_FindAttr: function 67 -/
def impl_FindAttr.l0 : Nat → ByteArray → List (S83) → Int → Int → Option (ByteArray × Bool × Int × ByteArray × Bool)
 | 0, _, _, _, _ => none
 | k + 1, x1, x8, x9, x10 => if x10 < x9 then (if 0 ≤ x10 then (if x10 < (x8.length : Int) then (if ((rd_T83 x8 x10).f0).toList = x1.toList then (some ((rd_T83 x8 x10).f0, (rd_T83 x8 x10).f1, (rd_T83 x8 x10).f2, (rd_T83 x8 x10).f3, true)) else (impl_FindAttr.l0 k x1 x8 x9 (wrap64 (x10 + 1)))) else (none)) else (none)) else (some ((⟨#[]⟩ : ByteArray), false, 0, (⟨#[]⟩ : ByteArray), false))
def impl_FindAttr.f (k : Nat) (l0 : List (S83)) (a1 : ByteArray) : Option (ByteArray × Bool × Int × ByteArray × Bool) := impl_FindAttr.l0 k a1 l0 (l0.length : Int) 0
theorem impl_FindAttr.mono_l : ∀ k, (∀ y0 y1 y2 y3, LeO (impl_FindAttr.l0 k y0 y1 y2 y3) (impl_FindAttr.l0 (k + 1) y0 y1 y2 y3))
 | 0 => fun _ _ _ _ r h => by simp [impl_FindAttr.l0] at h
 | k + 1 => by
  have ih0 := impl_FindAttr.mono_l k
  ·intro y0 y1 y2 y3
   unfold impl_FindAttr.l0
   repeat' first
   | (with_reducible exact ih0 _ _ _ _)
   | (with_reducible exact LeO.refl _)
   | (with_reducible exact LeO.none _)
   | (with_reducible refine LeO.ite ?_ ?_)
   | (with_reducible refine LeO.bind ?_ (fun _ => ?_))
   | exact ih0 _ _ _ _
   | exact LeO.none _
   | refine LeO.ite ?_ ?_
   | refine LeO.bind ?_ (fun _ => ?_)
theorem impl_FindAttr.mono : ∀ a0 a1 k, LeO (impl_FindAttr.f k a0 a1) (impl_FindAttr.f (k + 1) a0 a1) := by
 intro a0 a1 k
 have ih0 := impl_FindAttr.mono_l k
 unfold impl_FindAttr.f
 repeat' first
   | (with_reducible exact ih0 _ _ _ _)
   | (with_reducible exact LeO.refl _)
   | (with_reducible exact LeO.none _)
   | (with_reducible refine LeO.ite ?_ ?_)
   | (with_reducible refine LeO.bind ?_ (fun _ => ?_))
   | exact ih0 _ _ _ _
   | exact LeO.none _
   | refine LeO.ite ?_ ?_
   | refine LeO.bind ?_ (fun _ => ?_)
set_option maxHeartbeats 8000000 in
set_option maxRecDepth 100000 in
theorem impl_FindAttr.calls (k : Nat) (A0 : Option Addr) (c0 : Nat) (l0 : List (S83)) (a1 : ByteArray) (r1 : ByteArray) (r2 : Bool) (r3 : Int) (r4 : ByteArray) (r5 : Bool) (w : World) (hr0 : Kd.C k83 w A0 l0.length l0) (hc0 : l0.length ≤ c0) (h : impl_FindAttr.f k l0 a1 = some (r1, r2, r3, r4, r5)) :
  Calls Try.prog 67 #[.slice A0 l0.length c0, .string a1] w fun e w' => e = .returned (.tuple #[.agg #[.string r1, .bool r2, .int .i64 r3, .string r4], .bool r5]) ∧ Below w.heap.size w w' := by
 have hu83 := Try.underlying83
 have HR0 := Aside0.mk hr0
 have HC0 := Aside0.mk hc0
 clear hr0 hc0
 have HB := Aside0.mk (Below.refl w.heap.size w)
 unfold impl_FindAttr.f at h; have H := h
 clear h
 have H' := Aside0.mk H
 clear H
 go_enter Try.func67, Try.ntmps67
 go_wp2_with (first | ((with_reducible refine gD 4 rfl ?_); refine bE 4 #[.string (⟨#[]⟩ : ByteArray), .bool false, .int .i64 0, .string (⟨#[]⟩ : ByteArray)] 83 ?_; intro gb224 hg w3 hbox hb; have BK224 := Aside0.mk hbox; have GW224 := Aside0.mk (zg (zL HB.out) hg : w.heap.size ≤ gb224); have GE224 := GW224; replace HB := zLB (zL HB.out) hb; clear hb hbox hg))
 go_loopg [10] k (fun kq v10 w' => ∃ (x10_1 : Int) (x225000_1 : ByteArray) (x225001_1 : Bool) (x225002_1 : Int) (x225003_1 : ByteArray), v10 = .int .i64 x10_1 ∧ Aside0 (impl_FindAttr.l0 kq a1 l0 (l0.length : Int) x10_1 = some (r1, r2, r3, r4, r5)) ∧ Aside0 (kq ≤ k) ∧ Aside0 (w'.heap[gb224]? = some (.cells #[.string x225000_1, .bool x225001_1, .int .i64 x225002_1, .string x225003_1] 83 (0, 0))) ∧ Aside0 (Below w.heap.size w w'))
 case atStart => exact ⟨(0), ((⟨#[]⟩ : ByteArray)), (false), (0), ((⟨#[]⟩ : ByteArray)), zV, H', ⟨Nat.le_refl _⟩, ⟨zB BK224.out⟩, ⟨zL1 HB.out GE224.out⟩⟩
 case round =>
  clear H'
  try clear p2
  try clear BK224
  obtain ⟨x10_1, x225000_1, x225001_1, x225002_1, x225003_1, rfl, HA, HK1, BK224, HB⟩ := hrel
  cases gk with
  | zero => exact absurd HA.out (by simp [impl_FindAttr.l0])
  | succ k1 =>
   have H := HA.out
   clear HA
   simp only [impl_FindAttr.l0] at H
   by_cases c4 : x10_1 < (l0.length : Int)
   ·rw [if_pos c4] at H
    have c4b0 := decide_eq_true c4
    clear c4
    by_cases c5 : 0 ≤ x10_1
    ·rw [if_pos c5] at H
     have c5b0 := decide_eq_true c5
     clear c5
     by_cases c6 : x10_1 < (l0.length : Int)
     ·rw [if_pos c6] at H
      have c6b0 := decide_eq_true c6
      clear c6
      by_cases c7 : ((rd_T83 l0 x10_1).f0).toList = a1.toList
      ·rw [if_pos c7] at H
       obtain ⟨c7b0, c7b1⟩ := zt c7
       clear c7
       simp only [Option.some.injEq, Prod.mk.injEq] at H
       obtain ⟨rfl, rfl, rfl, rfl, rfl⟩ := H
       have p225 : 0 ≤ (x10_1 : Int) := zD
       have q225 : x10_1 < (l0.length : Int) := zD
       obtain ⟨ad225, e225, hx225_0, hx225_1, hx225_2, hx225_3⟩ := at_T83 HR0.out x10_1 p225 q225
       cases e225
       replace hx225_0 := zh HB.out hx225_0
       replace hx225_1 := zh HB.out hx225_1
       replace hx225_2 := zh HB.out hx225_2
       replace hx225_3 := zh HB.out hx225_3
       replace p225 := eq_true p225
       replace q225 := eq_true q225
       go_wp2_with (first | ((with_reducible refine gD 7 rfl ?_); refine bE 7 #[.string (⟨#[]⟩ : ByteArray), .bool false, .int .i64 0, .string (⟨#[]⟩ : ByteArray)] 83 ?_; intro gb226 hg w8 hbox hb; have BK226 := Aside0.mk hbox; have GW226 := Aside0.mk (zg (zL1 HB.out GE224.out) hg : w.heap.size ≤ gb226); have GE226 := GW226; replace HB := zLB (zL1 HB.out GE224.out) hb; have NB224_226 := Aside0.mk (zN BK224.out hg : gb224 ≠ gb226); have NB226_224 := Aside0.mk (zM BK224.out hg : gb226 ≠ gb224); replace BK224 := zBB BK224 hb; clear hb hbox hg; have hnb9 := NB226_224.out; have hnc9 := NB224_226.out; have hcz10 := zc4 BK226.out; have hfz10 := zf4 BK226.out; have hcz11 := zc4 BK224.out; have hfz11 := zf4 BK224.out))
       refine bodyPost_ret (results_ct rfl _ _ gb224 83 #[.string ((rd_T83 l0 x10_1).f0), .bool ((rd_T83 l0 x10_1).f1), .int .i64 ((rd_T83 l0 x10_1).f2), .string ((rd_T83 l0 x10_1).f3)] (0, 0) _ rfl (by refine zB ?_; refine zp4 (cs := #[.string x225000_1, .bool x225001_1, .int .i64 x225002_1, .string x225003_1]) ?_; refine zB ?_; refine zr4 ?_ NB224_226.out; exact zB BK224.out) Try.underlying83 rfl (by kernel_rfl)) rfl ?_
       exact ⟨zW, zL2 HB.out GE224.out GE226.out⟩
      ·rw [if_neg c7] at H
       obtain ⟨c7b0, c7b1⟩ := zf c7
       have H' := Aside0.mk H
       clear H
       have p225 : 0 ≤ (x10_1 : Int) := zD
       have q225 : x10_1 < (l0.length : Int) := zD
       obtain ⟨ad225, e225, hx225_0, hx225_1, hx225_2, hx225_3⟩ := at_T83 HR0.out x10_1 p225 q225
       cases e225
       replace hx225_0 := zh HB.out hx225_0
       replace hx225_1 := zh HB.out hx225_1
       replace hx225_2 := zh HB.out hx225_2
       replace hx225_3 := zh HB.out hx225_3
       replace p225 := eq_true p225
       replace q225 := eq_true q225
       go_wp2_with (first | ((with_reducible refine gD 7 rfl ?_); refine bE 7 #[.string (⟨#[]⟩ : ByteArray), .bool false, .int .i64 0, .string (⟨#[]⟩ : ByteArray)] 83 ?_; intro gb226 hg w12 hbox hb; have BK226 := Aside0.mk hbox; have GW226 := Aside0.mk (zg (zL1 HB.out GE224.out) hg : w.heap.size ≤ gb226); have GE226 := GW226; replace HB := zLB (zL1 HB.out GE224.out) hb; have NB224_226 := Aside0.mk (zN BK224.out hg : gb224 ≠ gb226); have NB226_224 := Aside0.mk (zM BK224.out hg : gb226 ≠ gb224); replace BK224 := zBB BK224 hb; clear hb hbox hg; have hnb13 := NB226_224.out; have hnc13 := NB224_226.out; have hcz14 := zc4 BK226.out; have hfz14 := zf4 BK226.out))
       go_roundg k1
       case measure => have := HK1.out; omega
       case rel => exact ⟨(wrap64 (x10_1 + 1)), (x225000_1), (x225001_1), (x225002_1), (x225003_1), zV, H', ⟨by have := HK1.out; omega⟩, ⟨by refine zB ?_; refine zr4 ?_ NB224_226.out; exact zB BK224.out⟩, ⟨zL2 HB.out GE224.out GE226.out⟩⟩
     ·rw [if_neg c6] at H
      exact absurd H (by simp)
    ·rw [if_neg c5] at H
     exact absurd H (by simp)
   ·rw [if_neg c4] at H
    have c4b0 := decide_eq_false c4
    clear c4
    simp only [Option.some.injEq, Prod.mk.injEq] at H
    obtain ⟨rfl, rfl, rfl, rfl, rfl⟩ := H
    have hcz15 := zc4 BK224.out
    have hfz15 := zf4 BK224.out
    go_wp2
    refine bodyPost_ret (results_ct rfl _ _ gb224 83 #[.string (⟨#[]⟩ : ByteArray), .bool false, .int .i64 0, .string (⟨#[]⟩ : ByteArray)] (0, 0) _ rfl (by refine zB ?_; refine zp4 (cs := #[.string x225000_1, .bool x225001_1, .int .i64 x225002_1, .string x225003_1]) ?_; exact zB BK224.out) Try.underlying83 rfl (by kernel_rfl)) rfl ?_
    exact ⟨zW, zL1 HB.out GE224.out⟩

/-! ### impl_Wants: function 39, by hand -/
/-- What the closure over a text asks of a thing. -/
def clo3.f (k : Nat) (key text : ByteArray) (x5 : List S83) : Option Bool := (impl_FindAttr.f k x5 key).bind fun t => some (t.2.2.2.2 && (!t.2.1 && t.2.2.2.1.toList == text.toList))
set_option maxHeartbeats 8000000 in
set_option maxRecDepth 100000 in
theorem clo3.calls (k : Nat) (p0 p1 : Int) (p2 p3 : ByteArray) (pv : Value) (g : Nat) (w : World) (hg : w.heap[g]? = some (.cells #[.int .i64 p0, .int .i64 p1, .string p2, .string p3, pv] 29 (0, 0))) :
    CloS (fun _ _ _ _ _ x5 => clo3.f k p2 p3 x5) 66 #[.pointer (some ⟨g, 0, none⟩)] w := by
  intro x0 x1 x2 x3 x4 A5 c5 x5 q W hB hr hc h
  show Calls Try.prog 66 #[.agg #[.int .i64 x0, .int .i64 x1, .int .i64 x2, .int .i64 x3, .bool x4, .slice A5 x5.length c5], .pointer (some ⟨g, 0, none⟩)] W _
  unfold clo3.f at h
  obtain ⟨⟨t1, t2, t3, t4, t5⟩, ht, h⟩ := Option.bind_eq_some_iff.mp h
  simp only [Option.some.injEq] at h
  subst h
  have BK := Aside0.mk (blk_below hg hB)
  have HR := Aside0.mk hr
  have HC := Aside0.mk hc
  have A1 := Aside0.mk ht
  have HB := Aside0.mk (Below.refl W.heap.size W)
  clear hg hB hr hc ht
  have hu73 := Try.underlying73
  have hu83 := Try.underlying83
  go_enter Try.func66, Try.ntmps66
  go_wp2_with (first
    | ((with_reducible refine gD 2 rfl ?_); refine bE 2 #[.int .i64 x0, .int .i64 x1, .int .i64 x2, .int .i64 x3, .bool x4, .slice A5 x5.length c5] 73 ?_; intro gb1 hg w7 hbox hb; have BK1 := Aside0.mk hbox; have GE1 := Aside0.mk (zg (zL HB.out) hg : W.heap.size ≤ gb1); replace HB := zLB (zL HB.out) hb; replace BK := zBB BK hb; clear hb hbox hg; have hcz1 := zc6 BK1.out; have hfz1 := zf6 BK1.out; have hcz0 := zc5 BK.out)
    | ((with_reducible refine gC 67 rfl ?_); refine gL 11 Try.func67 #[.slice A5 x5.length c5, .string p2] ?_; (with_reducible refine (impl_FindAttr.calls k _ _ x5 p2 t1 t2 t3 t4 t5 _ ?side1 ?side2 A1.out).mono ?_); (case side1 => exact zC (Kd.C_below HR.out HB.out)); (case side2 => exact HC.out); rintro e w8 ⟨rfl, hb⟩; refine ⟨_, rfl, ?_⟩; replace BK := zBB BK hb; replace HB := zLB (zL1 HB.out GE1.out) hb; clear hb)
    | ((with_reducible refine gD 4 rfl ?_); refine bE 4 #[.string (⟨#[]⟩ : ByteArray), .bool false, .int .i64 0, .string (⟨#[]⟩ : ByteArray)] 83 ?_; intro gb2 hg w9 hbox hb; have BK2 := Aside0.mk hbox; have GE2 := Aside0.mk (zg (zL1 HB.out GE1.out) hg : W.heap.size ≤ gb2); have NB := Aside0.mk (zN BK.out hg : g ≠ gb2); have NB2 := Aside0.mk (zM BK.out hg : gb2 ≠ g); replace HB := zLB (zL1 HB.out GE1.out) hb; replace BK := zBB BK hb; clear hb hbox hg; have hcz2 := zc4 BK2.out; have hfz2 := zf4 BK2.out; have hcz3 := zc5 BK.out; have hne := NB.out; have hne2 := NB2.out))
  all_goals go_ret
  all_goals exact ⟨by first | rfl | (simp; done), zL2 HB.out GE1.out GE2.out⟩
/-- What the closure over a number asks of a thing. -/
def clo4.f (k : Nat) (key : ByteArray) (n : Int) (x5 : List S83) : Option Bool := (impl_FindAttr.f k x5 key).bind fun t => some (t.2.2.2.2 && (t.2.1 && decide (t.2.2.1 ≥ n)))
set_option maxHeartbeats 8000000 in
set_option maxRecDepth 100000 in
theorem clo4.calls (k : Nat) (p0 p1 : Int) (p2 p3 : ByteArray) (pv : Value) (g : Nat) (w : World) (hg : w.heap[g]? = some (.cells #[.int .i64 p0, .int .i64 p1, .string p2, .string p3, pv] 29 (0, 0))) :
    CloS (fun _ _ _ _ _ x5 => clo4.f k p2 p1 x5) 68 #[.pointer (some ⟨g, 0, none⟩)] w := by
  intro x0 x1 x2 x3 x4 A5 c5 x5 q W hB hr hc h
  show Calls Try.prog 68 #[.agg #[.int .i64 x0, .int .i64 x1, .int .i64 x2, .int .i64 x3, .bool x4, .slice A5 x5.length c5], .pointer (some ⟨g, 0, none⟩)] W _
  unfold clo4.f at h
  obtain ⟨⟨t1, t2, t3, t4, t5⟩, ht, h⟩ := Option.bind_eq_some_iff.mp h
  simp only [Option.some.injEq] at h
  subst h
  have BK := Aside0.mk (blk_below hg hB)
  have HR := Aside0.mk hr
  have HC := Aside0.mk hc
  have A1 := Aside0.mk ht
  have HB := Aside0.mk (Below.refl W.heap.size W)
  clear hg hB hr hc ht
  have hu73 := Try.underlying73
  have hu83 := Try.underlying83
  go_enter Try.func68, Try.ntmps68
  go_wp2_with (first
    | ((with_reducible refine gD 2 rfl ?_); refine bE 2 #[.int .i64 x0, .int .i64 x1, .int .i64 x2, .int .i64 x3, .bool x4, .slice A5 x5.length c5] 73 ?_; intro gb1 hg w7 hbox hb; have BK1 := Aside0.mk hbox; have GE1 := Aside0.mk (zg (zL HB.out) hg : W.heap.size ≤ gb1); replace HB := zLB (zL HB.out) hb; replace BK := zBB BK hb; clear hb hbox hg; have hcz1 := zc6 BK1.out; have hfz1 := zf6 BK1.out; have hcz0 := zc5 BK.out)
    | ((with_reducible refine gC 67 rfl ?_); refine gL 11 Try.func67 #[.slice A5 x5.length c5, .string p2] ?_; (with_reducible refine (impl_FindAttr.calls k _ _ x5 p2 t1 t2 t3 t4 t5 _ ?side1 ?side2 A1.out).mono ?_); (case side1 => exact zC (Kd.C_below HR.out HB.out)); (case side2 => exact HC.out); rintro e w8 ⟨rfl, hb⟩; refine ⟨_, rfl, ?_⟩; replace BK := zBB BK hb; replace HB := zLB (zL1 HB.out GE1.out) hb; clear hb)
    | ((with_reducible refine gD 4 rfl ?_); refine bE 4 #[.string (⟨#[]⟩ : ByteArray), .bool false, .int .i64 0, .string (⟨#[]⟩ : ByteArray)] 83 ?_; intro gb2 hg w9 hbox hb; have BK2 := Aside0.mk hbox; have GE2 := Aside0.mk (zg (zL1 HB.out GE1.out) hg : W.heap.size ≤ gb2); have NB := Aside0.mk (zN BK.out hg : g ≠ gb2); have NB2 := Aside0.mk (zM BK.out hg : gb2 ≠ g); replace HB := zLB (zL1 HB.out GE1.out) hb; replace BK := zBB BK hb; clear hb hbox hg; have hcz2 := zc4 BK2.out; have hfz2 := zf4 BK2.out; have hcz3 := zc5 BK.out; have hne := NB.out; have hne2 := NB2.out))
  all_goals go_ret
  all_goals exact ⟨by first | rfl | (simp; done), zL2 HB.out GE1.out GE2.out⟩
/-- What the closure over a length asks of a thing. -/
def clo2.f (n x0 x1 x2 x3 : Int) (x4 : Bool) (x5 : List S83) : Option Bool := (impl_LengthOf.f x0 x1 x2 x3 x4 x5).bind fun t => some (decide (t ≥ n))
set_option maxHeartbeats 8000000 in
set_option maxRecDepth 100000 in
theorem clo2.calls (p0 p1 : Int) (p2 p3 : ByteArray) (pv : Value) (g : Nat) (w : World) (hg : w.heap[g]? = some (.cells #[.int .i64 p0, .int .i64 p1, .string p2, .string p3, pv] 29 (0, 0))) :
    CloS (fun x0 x1 x2 x3 x4 x5 => clo2.f p1 x0 x1 x2 x3 x4 x5) 64 #[.pointer (some ⟨g, 0, none⟩)] w := by
  intro x0 x1 x2 x3 x4 A5 c5 x5 q W hB hr hc h
  show Calls Try.prog 64 #[.agg #[.int .i64 x0, .int .i64 x1, .int .i64 x2, .int .i64 x3, .bool x4, .slice A5 x5.length c5], .pointer (some ⟨g, 0, none⟩)] W _
  unfold clo2.f at h
  obtain ⟨t, ht, h⟩ := Option.bind_eq_some_iff.mp h
  simp only [Option.some.injEq] at h
  subst h
  have BK := Aside0.mk (blk_below hg hB)
  have HR := Aside0.mk hr
  have HC := Aside0.mk hc
  have A1 := Aside0.mk ht
  have HB := Aside0.mk (Below.refl W.heap.size W)
  clear hg hB hr hc ht
  have hu73 := Try.underlying73
  go_enter Try.func64, Try.ntmps64
  go_wp2_with (first
    | ((with_reducible refine gD 2 rfl ?_); refine bE 2 #[.int .i64 x0, .int .i64 x1, .int .i64 x2, .int .i64 x3, .bool x4, .slice A5 x5.length c5] 73 ?_; intro gb1 hg w7 hbox hb; have BK1 := Aside0.mk hbox; have GE1 := Aside0.mk (zg (zL HB.out) hg : W.heap.size ≤ gb1); replace HB := zLB (zL HB.out) hb; replace BK := zBB BK hb; clear hb hbox hg))
  replace BK := zBD BK; replace BK1 := zBD BK1; replace HB := zLD HB
  refine start_ (n := 6) (S := fun w' => zt6 w' gb1 (.int .i64 x0) (.int .i64 x1) (.int .i64 x2) (.int .i64 x3) (.bool x4) (.slice A5 x5.length c5) (w'.cell? ⟨g, 1, none⟩ = some (.int .i64 p1))) (ds := []) (fB 6 0) (by kernel_rfl) rfl rfl (zk6 BK1.out (zq51 BK.out)) (fun hHeld => ?_)
  generalize w7.drew = w8 at BK BK1 HB hHeld ⊢
  refine tY (Bw := [0, 1, 0, 4, 15, 31]) 0 4 (fB 6 1) rfl (by kernel_rfl) hHeld ?_
  refine pY 2 6 (fB 6 5) rfl ?_
  refine tY (Bw := [0, 1, 0, 4, 15, 31]) 3 7 (fB 6 13) rfl (by kernel_rfl) hHeld ?_
  refine oN 1 5 (fB 6 15) rfl fun K hK => ?_
  refine gS Try.func65 #[.agg #[.int .i64 x0, .int .i64 x1, .int .i64 x2, .int .i64 x3, .bool x4, .slice A5 x5.length c5]] ?_
  with_reducible refine (impl_LengthOf.calls x0 x1 x2 x3 x4 _ _ x5 t _ ?side1 ?side2 A1.out).mono ?_
  (case side1 => exact zC (Kd.C_below HR.out HB.out))
  (case side2 => exact HC.out)
  rintro e w9 ⟨rfl, hb⟩
  refine ⟨_, rfl, ?_⟩
  replace BK := zBB BK hb; replace BK1 := zBB BK1 hb; replace HB := zLB (zL1 HB.out GE1.out) hb
  clear hb
  refine hK.out _ _ (zk6 BK1.out (zq51 BK.out)) fun hHeld => ?_; clear hK K
  refine nZ 5 ?_
  refine pY 4 8 (fB 6 31) rfl ?_
  refine pY 5 3 (fB 6 63) rfl ?_
  refine done_ (done_of rfl (by kernel_rfl)) ?_
  try go_wp2
  go_ret
  exact ⟨rfl, zL1 HB.out GE1.out⟩
def impl_Wants.f : Nat → Int → Int → ByteArray → ByteArray → List (S29) → List (S73) → Int → Option (Bool)
  | 0, _, _, _, _, _, _, _ => none
  | k + 1, a, b, c, d, q, l, t => if a = 1 then (some true) else (if a = 2 then ((impl_Errors.f k l).bind fun n => some (decide (n > 0))) else (if a = 3 then (impl_Span_87.f (fun x0 x1 x2 x3 x4 x5 => clo2.f b x0 x1 x2 x3 x4 x5) k l) else (if a = 4 then (impl_Span_87.f (fun _ _ _ _ _ x5 => clo3.f k c d x5) k l) else (if a = 5 then (impl_Span_87.f (fun _ _ _ _ _ x5 => clo4.f k c b x5) k l) else
    (if a = 6 then (some (decide (t ≥ (l.length : Int)))) else (if a = 7 then ((impl_Pol_49.f (fun x0 x1 x2 x3 x4 => (impl_Wants.f k x0 x1 x2 x3 x4 l t).bind fun v => some (!v)) k q).bind fun v => some (!v)) else (if a = 8 then (impl_Pol_49.f (fun x0 x1 x2 x3 x4 => impl_Wants.f k x0 x1 x2 x3 x4 l t) k q) else
    (if a = 9 then (if (q.length : Int) = 0 then (some true) else ((impl_Wants.f k ((rd_T29 q 0).f0) ((rd_T29 q 0).f1) ((rd_T29 q 0).f2) ((rd_T29 q 0).f3) ((rd_T29 q 0).f4) l t).bind fun v => some (!v))) else (some false)))))))))
/-- impl.Wants answers as told, with k rounds. -/
@[reducible] def WantsAt (k : Nat) : Prop := ∀ (a0 a1 : Int) (a2 a3 : ByteArray) (A4 : Option Addr) (c4 : Nat) (l4 : List S29) (A1 : Option Addr) (c1 : Nat) (l1 : List S73) (t : Int) (r : Bool) (w : World) (_ : Kd.C k29 w A4 l4.length l4) (_ : l4.length ≤ c4) (_ : Kd.C k73 w A1 l1.length l1) (_ : l1.length ≤ c1) (_ : impl_Wants.f k a0 a1 a2 a3 l4 l1 t = some r),
  Calls Try.prog 39 #[.agg #[.int .i64 a0, .int .i64 a1, .string a2, .string a3, .slice A4 l4.length c4], .slice A1 l1.length c1, .int .i64 t] w fun e w' => e = .returned (.bool r) ∧ Below w.heap.size w w'
section
variable (k : Nat) (ih : WantsAt k) (l : List S73) (t : Int) (A : Option Addr) (c : Nat) (g1 g2 g3 : Nat) (w : World) (h1 : w.heap[g1]? = some (.cells #[.slice A l.length c] 38 (0, 0))) (h2 : w.heap[g2]? = some (.cells #[.int .i64 t] 3 (0, 0))) (hr : Kd.C k73 w A l.length l) (hc : l.length ≤ c)
include ih h1 h2 hr hc
set_option maxHeartbeats 8000000 in
set_option maxRecDepth 100000 in
theorem clo1.calls : CloP (fun x0 x1 x2 x3 x4 => impl_Wants.f k x0 x1 x2 x3 x4 l t) 62 #[.pointer (some ⟨g1, 0, none⟩), .pointer (some ⟨g2, 0, none⟩)] w := by
  intro x0 x1 x2 x3 A4 c4 x4 q W hB hrx hcx h
  show Calls Try.prog 62 #[.agg #[.int .i64 x0, .int .i64 x1, .string x2, .string x3, .slice A4 x4.length c4], .pointer (some ⟨g1, 0, none⟩), .pointer (some ⟨g2, 0, none⟩)] W _
  have BG1 := Aside0.mk (blk_below h1 hB)
  have BG2 := Aside0.mk (blk_below h2 hB)
  have HRL := Aside0.mk (Kd.C_below hr hB)
  have HR := Aside0.mk hrx
  have HC := Aside0.mk hcx
  have HCL := Aside0.mk hc
  have IH := Aside0.mk ih
  have A1 := Aside0.mk h
  have HB := Aside0.mk (Below.refl W.heap.size W)
  clear h1 h2 hr hc hB hrx hcx h ih
  have hu29 := Try.underlying29
  go_enter Try.func62, Try.ntmps62
  go_wp2_with (first
    | ((with_reducible refine gD 3 rfl ?_); refine bE 3 #[.int .i64 x0, .int .i64 x1, .string x2, .string x3, .slice A4 x4.length c4] 29 ?_; intro gb1 hg w7 hbox hb; have BK1 := Aside0.mk hbox; have GE1 := Aside0.mk (zg (zL HB.out) hg : W.heap.size ≤ gb1); replace HB := zLB (zL HB.out) hb; replace BG1 := zBB BG1 hb; replace BG2 := zBB BG2 hb; clear hb hbox hg; have hcz1 := zc5 BK1.out; have hfz1 := zf5 BK1.out; have hx1 : w7.cell? ⟨g1, 0, none⟩ = some (.slice A l.length c) := (blk_cell BG1.out 0).trans rfl; have hx2 : w7.cell? ⟨g2, 0, none⟩ = some (.int .i64 t) := (blk_cell BG2.out 0).trans rfl)
    | ((with_reducible refine gC 39 rfl ?_); refine gL 8 Try.func39 #[.agg #[.int .i64 x0, .int .i64 x1, .string x2, .string x3, .slice A4 x4.length c4], .slice A l.length c, .int .i64 t] ?_; (with_reducible refine (IH.out x0 x1 x2 x3 _ _ x4 _ _ l t q _ (Kd.C_below HR.out HB.out) HC.out (Kd.C_below HRL.out HB.out) HCL.out A1.out).mono ?_); rintro e w8 ⟨rfl, hb⟩; refine ⟨_, rfl, ?_⟩; replace HB := zLB (zL1 HB.out GE1.out) hb; clear hb))
  go_ret
  exact ⟨rfl, zL1 HB.out GE1.out⟩
set_option maxHeartbeats 8000000 in
set_option maxRecDepth 100000 in
theorem clo5.calls (h3 : w.heap[g3]? = some (.cells #[.func (.func 62) #[] #[.pointer (some ⟨g1, 0, none⟩), .pointer (some ⟨g2, 0, none⟩)]] 33 (0, 0))) :
    CloP (fun x0 x1 x2 x3 x4 => (impl_Wants.f k x0 x1 x2 x3 x4 l t).bind fun v => some (!v)) 69 #[.pointer (some ⟨g3, 0, none⟩)] w := by
  intro x0 x1 x2 x3 A4 c4 x4 q W hB hrx hcx h
  show Calls Try.prog 69 #[.agg #[.int .i64 x0, .int .i64 x1, .string x2, .string x3, .slice A4 x4.length c4], .pointer (some ⟨g3, 0, none⟩)] W _
  obtain ⟨v, hv, h⟩ := Option.bind_eq_some_iff.mp h
  simp only [Option.some.injEq] at h
  subst h
  have HX := Aside0.mk (clo1.calls k ih l t A c g1 g2 w h1 h2 hr hc)
  have BG3 := Aside0.mk (blk_below h3 hB)
  have HR := Aside0.mk hrx
  have HC := Aside0.mk hcx
  have A1 := Aside0.mk hv
  have HB0 := Aside0.mk hB
  have HB := Aside0.mk (Below.refl W.heap.size W)
  clear h1 h2 h3 hr hc hB hrx hcx hv ih
  have hu29 := Try.underlying29
  go_enter Try.func69, Try.ntmps69
  go_wp2_with (first
    | ((with_reducible refine gD 2 rfl ?_); refine bE 2 #[.int .i64 x0, .int .i64 x1, .string x2, .string x3, .slice A4 x4.length c4] 29 ?_; intro gb1 hg w7 hbox hb; have BK1 := Aside0.mk hbox; have GE1 := Aside0.mk (zg (zL HB.out) hg : W.heap.size ≤ gb1); replace HB := zLB (zL HB.out) hb; replace BG3 := zBB BG3 hb; clear hb hbox hg; have hcz1 := zc5 BK1.out; have hfz1 := zf5 BK1.out; have hx3 : w7.cell? ⟨g3, 0, none⟩ = some (.func (.func 62) #[] #[.pointer (some ⟨g1, 0, none⟩), .pointer (some ⟨g2, 0, none⟩)]) := (blk_cell BG3.out 0).trans rfl)
    | ((with_reducible refine gate_calleeC (t := 4) rfl ?_); refine goesC_ (t := 4) (f := 62) (cap := #[.pointer (some ⟨g1, 0, none⟩), .pointer (some ⟨g2, 0, none⟩)]) (by rfl) (some 6) rfl rfl Try.func62 (by kernel_rfl) rfl #[.agg #[.int .i64 x0, .int .i64 x1, .string x2, .string x3, .slice A4 x4.length c4]] rfl zE ?_; (with_reducible refine (HX.out x0 x1 x2 x3 _ _ x4 v _ (below_step HB0.out HB.out) (Kd.C_below HR.out HB.out) HC.out A1.out).mono ?_); rintro e w8 ⟨rfl, hb⟩; refine ⟨_, rfl, ?_⟩; replace HB := zLB (zL1 HB.out GE1.out) hb; clear hb))
  go_ret
  exact ⟨rfl, zL1 HB.out GE1.out⟩
end
set_option maxHeartbeats 8000000 in
set_option maxRecDepth 100000 in
theorem wants_1 (k : Nat) (ih : WantsAt k) (a b : Int) (c d : ByteArray) (Aq : Option Addr) (cq : Nat) (q : List S29) (A : Option Addr) (cl : Nat) (l : List S73) (t : Int) (r : Bool) (w : World) (hrq : Kd.C k29 w Aq q.length q) (hcq : q.length ≤ cq) (hrl : Kd.C k73 w A l.length l) (hcl : l.length ≤ cl) (ha : a = 1) (h : r = true) :
    Calls Try.prog 39 #[.agg #[.int .i64 a, .int .i64 b, .string c, .string d, .slice Aq q.length cq], .slice A l.length cl, .int .i64 t] w fun e w' => e = .returned (.bool r) ∧ Below w.heap.size w w' := by
  have IH := Aside0.mk ih
  have HRQ := Aside0.mk hrq
  have HCQ := Aside0.mk hcq
  have HRL := Aside0.mk hrl
  have HCL := Aside0.mk hcl
  have HB := Aside0.mk (Below.refl w.heap.size w)
  clear ih hrq hcq hrl hcl
  have hu29 := Try.underlying29
  have hmf : ∀ (fn : Fn) (first cap : Array Value) (w : World), (Instr.makeFunc fn first cap).run Try.prog w = .ok (.func fn first cap) w := fun _ _ _ _ => rfl
  subst ha
  subst h
  go_enter Try.func39, Try.ntmps39
  go_wp2_with (first
    | ((with_reducible refine gD 3 rfl ?_); refine bE 3 #[.int .i64 1, .int .i64 b, .string c, .string d, .slice Aq q.length cq] 29 ?_; intro gp hg w1 hbox hb; have BP := Aside0.mk hbox; have GP := Aside0.mk (zg (zL HB.out) hg : w.heap.size ≤ gp); replace HB := zLB (zL HB.out) hb; clear hb hbox hg)
    | ((with_reducible refine gD 4 rfl ?_); refine bE 4 #[.slice A l.length cl] 38 ?_; intro gl hg w2 hbox hb; have BL := Aside0.mk hbox; have GL := Aside0.mk (zg (zL1 HB.out GP.out) hg : w.heap.size ≤ gl); have NPL := Aside0.mk (zN BP.out hg : gp ≠ gl); replace HB := zLB (zL1 HB.out GP.out) hb; replace BP := zBB BP hb; clear hb hbox hg)
    | ((with_reducible refine gD 5 rfl ?_); refine bE 5 #[.int .i64 t] 3 ?_; intro gt hg w3 hbox hb; have BT := Aside0.mk hbox; have GT := Aside0.mk (zg (zL2 HB.out GP.out GL.out) hg : w.heap.size ≤ gt); replace HB := zLB (zL2 HB.out GP.out GL.out) hb; replace BP := zBB BP hb; replace BL := zBB BL hb; clear hb hbox hg)
    | ((with_reducible refine gD 7 rfl ?_); refine bE 7 #[.nilFunc] 33 ?_; intro gw hg w4 hbox hb; have BW := Aside0.mk hbox; have GW := Aside0.mk (zg (zL3 HB.out GP.out GL.out GT.out) hg : w.heap.size ≤ gw); have NP := Aside0.mk (zN BP.out hg : gp ≠ gw); have NL := Aside0.mk (zN BL.out hg : gl ≠ gw); have NT := Aside0.mk (zN BT.out hg : gt ≠ gw); replace HB := zLB (zL3 HB.out GP.out GL.out GT.out) hb; replace BP := zBB BP hb; replace BL := zBB BL hb; replace BT := zBB BT hb; clear hb hbox hg; have hcp := zc5 BP.out; have hcl_ : w4.cell? ⟨gl, 0, none⟩ = some (.slice A l.length cl) := (blk_cell BL.out 0).trans rfl; have hct_ : w4.cell? ⟨gt, 0, none⟩ = some (.int .i64 t) := (blk_cell BT.out 0).trans rfl; have hcw_ : w4.cell? ⟨gw, 0, none⟩ = some .nilFunc := (blk_cell BW.out 0).trans rfl; have hfw_ := blk_frozen BW.out 0; have hst : (store ⟨gw, 0, none⟩ (.func (.func 62) #[] #[.pointer (some ⟨gl, 0, none⟩), .pointer (some ⟨gt, 0, none⟩)])).run Try.prog w4 = .ok () (w4.setCell ⟨gw, 0, none⟩ (.func (.func 62) #[] #[.pointer (some ⟨gl, 0, none⟩), .pointer (some ⟨gt, 0, none⟩)])) := (by rw [run_store _ _ _ _ _ rfl, hcw_]; simp [hfw_]); have hn1 := NP.out; have hn2 := NL.out; have hn3 := NT.out))
  go_ret
  exact ⟨rfl, zL4 HB.out GP.out GL.out GT.out GW.out⟩

set_option maxHeartbeats 8000000 in
set_option maxRecDepth 100000 in
theorem wants_2 (k : Nat) (ih : WantsAt k) (a b : Int) (c d : ByteArray) (Aq : Option Addr) (cq : Nat) (q : List S29) (A : Option Addr) (cl : Nat) (l : List S73) (t : Int) (r : Bool) (w : World) (hrq : Kd.C k29 w Aq q.length q) (hcq : q.length ≤ cq) (hrl : Kd.C k73 w A l.length l) (hcl : l.length ≤ cl) (ha : a = 2) (h : ((impl_Errors.f k l).bind fun n => some (decide (n > 0))) = some r) :
    Calls Try.prog 39 #[.agg #[.int .i64 a, .int .i64 b, .string c, .string d, .slice Aq q.length cq], .slice A l.length cl, .int .i64 t] w fun e w' => e = .returned (.bool r) ∧ Below w.heap.size w w' := by
  have IH := Aside0.mk ih
  have HRQ := Aside0.mk hrq
  have HCQ := Aside0.mk hcq
  have HRL := Aside0.mk hrl
  have HCL := Aside0.mk hcl
  have HB := Aside0.mk (Below.refl w.heap.size w)
  clear ih hrq hcq hrl hcl
  have hu29 := Try.underlying29
  have hmf : ∀ (fn : Fn) (first cap : Array Value) (w : World), (Instr.makeFunc fn first cap).run Try.prog w = .ok (.func fn first cap) w := fun _ _ _ _ => rfl
  subst ha
  obtain ⟨v, hv, h⟩ := Option.bind_eq_some_iff.mp h
  obtain rfl := Option.some.inj h
  have H := Aside0.mk hv
  clear hv h
  go_enter Try.func39, Try.ntmps39
  go_wp2_with (first
    | ((with_reducible refine gD 3 rfl ?_); refine bE 3 #[.int .i64 2, .int .i64 b, .string c, .string d, .slice Aq q.length cq] 29 ?_; intro gp hg w1 hbox hb; have BP := Aside0.mk hbox; have GP := Aside0.mk (zg (zL HB.out) hg : w.heap.size ≤ gp); replace HB := zLB (zL HB.out) hb; clear hb hbox hg)
    | ((with_reducible refine gD 4 rfl ?_); refine bE 4 #[.slice A l.length cl] 38 ?_; intro gl hg w2 hbox hb; have BL := Aside0.mk hbox; have GL := Aside0.mk (zg (zL1 HB.out GP.out) hg : w.heap.size ≤ gl); have NPL := Aside0.mk (zN BP.out hg : gp ≠ gl); replace HB := zLB (zL1 HB.out GP.out) hb; replace BP := zBB BP hb; clear hb hbox hg)
    | ((with_reducible refine gD 5 rfl ?_); refine bE 5 #[.int .i64 t] 3 ?_; intro gt hg w3 hbox hb; have BT := Aside0.mk hbox; have GT := Aside0.mk (zg (zL2 HB.out GP.out GL.out) hg : w.heap.size ≤ gt); replace HB := zLB (zL2 HB.out GP.out GL.out) hb; replace BP := zBB BP hb; replace BL := zBB BL hb; clear hb hbox hg)
    | ((with_reducible refine gD 7 rfl ?_); refine bE 7 #[.nilFunc] 33 ?_; intro gw hg w4 hbox hb; have BW := Aside0.mk hbox; have GW := Aside0.mk (zg (zL3 HB.out GP.out GL.out GT.out) hg : w.heap.size ≤ gw); have NP := Aside0.mk (zN BP.out hg : gp ≠ gw); have NL := Aside0.mk (zN BL.out hg : gl ≠ gw); have NT := Aside0.mk (zN BT.out hg : gt ≠ gw); replace HB := zLB (zL3 HB.out GP.out GL.out GT.out) hb; replace BP := zBB BP hb; replace BL := zBB BL hb; replace BT := zBB BT hb; clear hb hbox hg; have hcp := zc5 BP.out; have hcl_ : w4.cell? ⟨gl, 0, none⟩ = some (.slice A l.length cl) := (blk_cell BL.out 0).trans rfl; have hct_ : w4.cell? ⟨gt, 0, none⟩ = some (.int .i64 t) := (blk_cell BT.out 0).trans rfl; have hcw_ : w4.cell? ⟨gw, 0, none⟩ = some .nilFunc := (blk_cell BW.out 0).trans rfl; have hfw_ := blk_frozen BW.out 0; have hst : (store ⟨gw, 0, none⟩ (.func (.func 62) #[] #[.pointer (some ⟨gl, 0, none⟩), .pointer (some ⟨gt, 0, none⟩)])).run Try.prog w4 = .ok () (w4.setCell ⟨gw, 0, none⟩ (.func (.func 62) #[] #[.pointer (some ⟨gl, 0, none⟩), .pointer (some ⟨gt, 0, none⟩)])) := (by rw [run_store _ _ _ _ _ rfl, hcw_]; simp [hfw_]); have hn1 := NP.out; have hn2 := NL.out; have hn3 := NT.out)
    | ((with_reducible refine gC 25 rfl ?_); refine gL 16 Try.func25 #[.slice A l.length cl] ?_; (with_reducible refine (impl_Errors.calls k A cl l v _ (Kd.C_below HRL.out (below_set HB.out GW.out)) HCL.out H.out).mono ?_); rintro e w5 ⟨rfl, hb⟩; refine ⟨_, rfl, ?_⟩; replace HB := zLB (below_set HB.out GW.out) hb; clear hb))
  go_ret
  exact ⟨rfl, zL4 HB.out GP.out GL.out GT.out GW.out⟩

set_option maxHeartbeats 8000000 in
set_option maxRecDepth 100000 in
theorem wants_3 (k : Nat) (ih : WantsAt k) (a b : Int) (c d : ByteArray) (Aq : Option Addr) (cq : Nat) (q : List S29) (A : Option Addr) (cl : Nat) (l : List S73) (t : Int) (r : Bool) (w : World) (hrq : Kd.C k29 w Aq q.length q) (hcq : q.length ≤ cq) (hrl : Kd.C k73 w A l.length l) (hcl : l.length ≤ cl) (ha : a = 3) (h : impl_Span_87.f (fun x0 x1 x2 x3 x4 x5 => clo2.f b x0 x1 x2 x3 x4 x5) k l = some r) :
    Calls Try.prog 39 #[.agg #[.int .i64 a, .int .i64 b, .string c, .string d, .slice Aq q.length cq], .slice A l.length cl, .int .i64 t] w fun e w' => e = .returned (.bool r) ∧ Below w.heap.size w w' := by
  have IH := Aside0.mk ih
  have HRQ := Aside0.mk hrq
  have HCQ := Aside0.mk hcq
  have HRL := Aside0.mk hrl
  have HCL := Aside0.mk hcl
  have HB := Aside0.mk (Below.refl w.heap.size w)
  clear ih hrq hcq hrl hcl
  have hu29 := Try.underlying29
  have hmf : ∀ (fn : Fn) (first cap : Array Value) (w : World), (Instr.makeFunc fn first cap).run Try.prog w = .ok (.func fn first cap) w := fun _ _ _ _ => rfl
  subst ha
  have H := Aside0.mk h
  clear h
  go_enter Try.func39, Try.ntmps39
  go_wp2_with (first
    | ((with_reducible refine gD 3 rfl ?_); refine bE 3 #[.int .i64 3, .int .i64 b, .string c, .string d, .slice Aq q.length cq] 29 ?_; intro gp hg w1 hbox hb; have BP := Aside0.mk hbox; have GP := Aside0.mk (zg (zL HB.out) hg : w.heap.size ≤ gp); replace HB := zLB (zL HB.out) hb; clear hb hbox hg)
    | ((with_reducible refine gD 4 rfl ?_); refine bE 4 #[.slice A l.length cl] 38 ?_; intro gl hg w2 hbox hb; have BL := Aside0.mk hbox; have GL := Aside0.mk (zg (zL1 HB.out GP.out) hg : w.heap.size ≤ gl); have NPL := Aside0.mk (zN BP.out hg : gp ≠ gl); replace HB := zLB (zL1 HB.out GP.out) hb; replace BP := zBB BP hb; clear hb hbox hg)
    | ((with_reducible refine gD 5 rfl ?_); refine bE 5 #[.int .i64 t] 3 ?_; intro gt hg w3 hbox hb; have BT := Aside0.mk hbox; have GT := Aside0.mk (zg (zL2 HB.out GP.out GL.out) hg : w.heap.size ≤ gt); replace HB := zLB (zL2 HB.out GP.out GL.out) hb; replace BP := zBB BP hb; replace BL := zBB BL hb; clear hb hbox hg)
    | ((with_reducible refine gD 7 rfl ?_); refine bE 7 #[.nilFunc] 33 ?_; intro gw hg w4 hbox hb; have BW := Aside0.mk hbox; have GW := Aside0.mk (zg (zL3 HB.out GP.out GL.out GT.out) hg : w.heap.size ≤ gw); have NP := Aside0.mk (zN BP.out hg : gp ≠ gw); have NL := Aside0.mk (zN BL.out hg : gl ≠ gw); have NT := Aside0.mk (zN BT.out hg : gt ≠ gw); replace HB := zLB (zL3 HB.out GP.out GL.out GT.out) hb; replace BP := zBB BP hb; replace BL := zBB BL hb; replace BT := zBB BT hb; clear hb hbox hg; have hcp := zc5 BP.out; have hcl_ : w4.cell? ⟨gl, 0, none⟩ = some (.slice A l.length cl) := (blk_cell BL.out 0).trans rfl; have hct_ : w4.cell? ⟨gt, 0, none⟩ = some (.int .i64 t) := (blk_cell BT.out 0).trans rfl; have hcw_ : w4.cell? ⟨gw, 0, none⟩ = some .nilFunc := (blk_cell BW.out 0).trans rfl; have hfw_ := blk_frozen BW.out 0; have hst : (store ⟨gw, 0, none⟩ (.func (.func 62) #[] #[.pointer (some ⟨gl, 0, none⟩), .pointer (some ⟨gt, 0, none⟩)])).run Try.prog w4 = .ok () (w4.setCell ⟨gw, 0, none⟩ (.func (.func 62) #[] #[.pointer (some ⟨gl, 0, none⟩), .pointer (some ⟨gt, 0, none⟩)])) := (by rw [run_store _ _ _ _ _ rfl, hcw_]; simp [hfw_]); have hn1 := NP.out; have hn2 := NL.out; have hn3 := NT.out)
    | ((with_reducible refine gC 63 rfl ?_); refine gL 22 Try.func63 #[.slice A l.length cl, .func (.func 64) #[] #[.pointer (some ⟨gp, 0, none⟩)]] ?_; (with_reducible refine (impl_someSpan.calls Try.func64 (by kernel_rfl) rfl k A cl l r _ (clo2.calls 3 b c d _ gp _ (blk_far BP.out NP.out _)) (Kd.C_below HRL.out (below_set HB.out GW.out)) HCL.out H.out).mono ?_); rintro e w5 ⟨rfl, hb⟩; refine ⟨_, rfl, ?_⟩; replace HB := zLB (below_set HB.out GW.out) hb; clear hb))
  go_ret
  exact ⟨rfl, zL4 HB.out GP.out GL.out GT.out GW.out⟩

set_option maxHeartbeats 8000000 in
set_option maxRecDepth 100000 in
theorem wants_4 (k : Nat) (ih : WantsAt k) (a b : Int) (c d : ByteArray) (Aq : Option Addr) (cq : Nat) (q : List S29) (A : Option Addr) (cl : Nat) (l : List S73) (t : Int) (r : Bool) (w : World) (hrq : Kd.C k29 w Aq q.length q) (hcq : q.length ≤ cq) (hrl : Kd.C k73 w A l.length l) (hcl : l.length ≤ cl) (ha : a = 4) (h : impl_Span_87.f (fun _ _ _ _ _ x5 => clo3.f k c d x5) k l = some r) :
    Calls Try.prog 39 #[.agg #[.int .i64 a, .int .i64 b, .string c, .string d, .slice Aq q.length cq], .slice A l.length cl, .int .i64 t] w fun e w' => e = .returned (.bool r) ∧ Below w.heap.size w w' := by
  have IH := Aside0.mk ih
  have HRQ := Aside0.mk hrq
  have HCQ := Aside0.mk hcq
  have HRL := Aside0.mk hrl
  have HCL := Aside0.mk hcl
  have HB := Aside0.mk (Below.refl w.heap.size w)
  clear ih hrq hcq hrl hcl
  have hu29 := Try.underlying29
  have hmf : ∀ (fn : Fn) (first cap : Array Value) (w : World), (Instr.makeFunc fn first cap).run Try.prog w = .ok (.func fn first cap) w := fun _ _ _ _ => rfl
  subst ha
  have H := Aside0.mk h
  clear h
  go_enter Try.func39, Try.ntmps39
  go_wp2_with (first
    | ((with_reducible refine gD 3 rfl ?_); refine bE 3 #[.int .i64 4, .int .i64 b, .string c, .string d, .slice Aq q.length cq] 29 ?_; intro gp hg w1 hbox hb; have BP := Aside0.mk hbox; have GP := Aside0.mk (zg (zL HB.out) hg : w.heap.size ≤ gp); replace HB := zLB (zL HB.out) hb; clear hb hbox hg)
    | ((with_reducible refine gD 4 rfl ?_); refine bE 4 #[.slice A l.length cl] 38 ?_; intro gl hg w2 hbox hb; have BL := Aside0.mk hbox; have GL := Aside0.mk (zg (zL1 HB.out GP.out) hg : w.heap.size ≤ gl); have NPL := Aside0.mk (zN BP.out hg : gp ≠ gl); replace HB := zLB (zL1 HB.out GP.out) hb; replace BP := zBB BP hb; clear hb hbox hg)
    | ((with_reducible refine gD 5 rfl ?_); refine bE 5 #[.int .i64 t] 3 ?_; intro gt hg w3 hbox hb; have BT := Aside0.mk hbox; have GT := Aside0.mk (zg (zL2 HB.out GP.out GL.out) hg : w.heap.size ≤ gt); replace HB := zLB (zL2 HB.out GP.out GL.out) hb; replace BP := zBB BP hb; replace BL := zBB BL hb; clear hb hbox hg)
    | ((with_reducible refine gD 7 rfl ?_); refine bE 7 #[.nilFunc] 33 ?_; intro gw hg w4 hbox hb; have BW := Aside0.mk hbox; have GW := Aside0.mk (zg (zL3 HB.out GP.out GL.out GT.out) hg : w.heap.size ≤ gw); have NP := Aside0.mk (zN BP.out hg : gp ≠ gw); have NL := Aside0.mk (zN BL.out hg : gl ≠ gw); have NT := Aside0.mk (zN BT.out hg : gt ≠ gw); replace HB := zLB (zL3 HB.out GP.out GL.out GT.out) hb; replace BP := zBB BP hb; replace BL := zBB BL hb; replace BT := zBB BT hb; clear hb hbox hg; have hcp := zc5 BP.out; have hcl_ : w4.cell? ⟨gl, 0, none⟩ = some (.slice A l.length cl) := (blk_cell BL.out 0).trans rfl; have hct_ : w4.cell? ⟨gt, 0, none⟩ = some (.int .i64 t) := (blk_cell BT.out 0).trans rfl; have hcw_ : w4.cell? ⟨gw, 0, none⟩ = some .nilFunc := (blk_cell BW.out 0).trans rfl; have hfw_ := blk_frozen BW.out 0; have hst : (store ⟨gw, 0, none⟩ (.func (.func 62) #[] #[.pointer (some ⟨gl, 0, none⟩), .pointer (some ⟨gt, 0, none⟩)])).run Try.prog w4 = .ok () (w4.setCell ⟨gw, 0, none⟩ (.func (.func 62) #[] #[.pointer (some ⟨gl, 0, none⟩), .pointer (some ⟨gt, 0, none⟩)])) := (by rw [run_store _ _ _ _ _ rfl, hcw_]; simp [hfw_]); have hn1 := NP.out; have hn2 := NL.out; have hn3 := NT.out)
    | ((with_reducible refine gC 63 rfl ?_); refine gL 27 Try.func63 #[.slice A l.length cl, .func (.func 66) #[] #[.pointer (some ⟨gp, 0, none⟩)]] ?_; (with_reducible refine (impl_someSpan.calls Try.func66 (by kernel_rfl) rfl k A cl l r _ (clo3.calls k 4 b c d _ gp _ (blk_far BP.out NP.out _)) (Kd.C_below HRL.out (below_set HB.out GW.out)) HCL.out H.out).mono ?_); rintro e w5 ⟨rfl, hb⟩; refine ⟨_, rfl, ?_⟩; replace HB := zLB (below_set HB.out GW.out) hb; clear hb))
  go_ret
  exact ⟨rfl, zL4 HB.out GP.out GL.out GT.out GW.out⟩

set_option maxHeartbeats 8000000 in
set_option maxRecDepth 100000 in
theorem wants_5 (k : Nat) (ih : WantsAt k) (a b : Int) (c d : ByteArray) (Aq : Option Addr) (cq : Nat) (q : List S29) (A : Option Addr) (cl : Nat) (l : List S73) (t : Int) (r : Bool) (w : World) (hrq : Kd.C k29 w Aq q.length q) (hcq : q.length ≤ cq) (hrl : Kd.C k73 w A l.length l) (hcl : l.length ≤ cl) (ha : a = 5) (h : impl_Span_87.f (fun _ _ _ _ _ x5 => clo4.f k c b x5) k l = some r) :
    Calls Try.prog 39 #[.agg #[.int .i64 a, .int .i64 b, .string c, .string d, .slice Aq q.length cq], .slice A l.length cl, .int .i64 t] w fun e w' => e = .returned (.bool r) ∧ Below w.heap.size w w' := by
  have IH := Aside0.mk ih
  have HRQ := Aside0.mk hrq
  have HCQ := Aside0.mk hcq
  have HRL := Aside0.mk hrl
  have HCL := Aside0.mk hcl
  have HB := Aside0.mk (Below.refl w.heap.size w)
  clear ih hrq hcq hrl hcl
  have hu29 := Try.underlying29
  have hmf : ∀ (fn : Fn) (first cap : Array Value) (w : World), (Instr.makeFunc fn first cap).run Try.prog w = .ok (.func fn first cap) w := fun _ _ _ _ => rfl
  subst ha
  have H := Aside0.mk h
  clear h
  go_enter Try.func39, Try.ntmps39
  go_wp2_with (first
    | ((with_reducible refine gD 3 rfl ?_); refine bE 3 #[.int .i64 5, .int .i64 b, .string c, .string d, .slice Aq q.length cq] 29 ?_; intro gp hg w1 hbox hb; have BP := Aside0.mk hbox; have GP := Aside0.mk (zg (zL HB.out) hg : w.heap.size ≤ gp); replace HB := zLB (zL HB.out) hb; clear hb hbox hg)
    | ((with_reducible refine gD 4 rfl ?_); refine bE 4 #[.slice A l.length cl] 38 ?_; intro gl hg w2 hbox hb; have BL := Aside0.mk hbox; have GL := Aside0.mk (zg (zL1 HB.out GP.out) hg : w.heap.size ≤ gl); have NPL := Aside0.mk (zN BP.out hg : gp ≠ gl); replace HB := zLB (zL1 HB.out GP.out) hb; replace BP := zBB BP hb; clear hb hbox hg)
    | ((with_reducible refine gD 5 rfl ?_); refine bE 5 #[.int .i64 t] 3 ?_; intro gt hg w3 hbox hb; have BT := Aside0.mk hbox; have GT := Aside0.mk (zg (zL2 HB.out GP.out GL.out) hg : w.heap.size ≤ gt); replace HB := zLB (zL2 HB.out GP.out GL.out) hb; replace BP := zBB BP hb; replace BL := zBB BL hb; clear hb hbox hg)
    | ((with_reducible refine gD 7 rfl ?_); refine bE 7 #[.nilFunc] 33 ?_; intro gw hg w4 hbox hb; have BW := Aside0.mk hbox; have GW := Aside0.mk (zg (zL3 HB.out GP.out GL.out GT.out) hg : w.heap.size ≤ gw); have NP := Aside0.mk (zN BP.out hg : gp ≠ gw); have NL := Aside0.mk (zN BL.out hg : gl ≠ gw); have NT := Aside0.mk (zN BT.out hg : gt ≠ gw); replace HB := zLB (zL3 HB.out GP.out GL.out GT.out) hb; replace BP := zBB BP hb; replace BL := zBB BL hb; replace BT := zBB BT hb; clear hb hbox hg; have hcp := zc5 BP.out; have hcl_ : w4.cell? ⟨gl, 0, none⟩ = some (.slice A l.length cl) := (blk_cell BL.out 0).trans rfl; have hct_ : w4.cell? ⟨gt, 0, none⟩ = some (.int .i64 t) := (blk_cell BT.out 0).trans rfl; have hcw_ : w4.cell? ⟨gw, 0, none⟩ = some .nilFunc := (blk_cell BW.out 0).trans rfl; have hfw_ := blk_frozen BW.out 0; have hst : (store ⟨gw, 0, none⟩ (.func (.func 62) #[] #[.pointer (some ⟨gl, 0, none⟩), .pointer (some ⟨gt, 0, none⟩)])).run Try.prog w4 = .ok () (w4.setCell ⟨gw, 0, none⟩ (.func (.func 62) #[] #[.pointer (some ⟨gl, 0, none⟩), .pointer (some ⟨gt, 0, none⟩)])) := (by rw [run_store _ _ _ _ _ rfl, hcw_]; simp [hfw_]); have hn1 := NP.out; have hn2 := NL.out; have hn3 := NT.out)
    | ((with_reducible refine gC 63 rfl ?_); refine gL 32 Try.func63 #[.slice A l.length cl, .func (.func 68) #[] #[.pointer (some ⟨gp, 0, none⟩)]] ?_; (with_reducible refine (impl_someSpan.calls Try.func68 (by kernel_rfl) rfl k A cl l r _ (clo4.calls k 5 b c d _ gp _ (blk_far BP.out NP.out _)) (Kd.C_below HRL.out (below_set HB.out GW.out)) HCL.out H.out).mono ?_); rintro e w5 ⟨rfl, hb⟩; refine ⟨_, rfl, ?_⟩; replace HB := zLB (below_set HB.out GW.out) hb; clear hb))
  go_ret
  exact ⟨rfl, zL4 HB.out GP.out GL.out GT.out GW.out⟩

set_option maxHeartbeats 8000000 in
set_option maxRecDepth 100000 in
theorem wants_6 (k : Nat) (ih : WantsAt k) (a b : Int) (c d : ByteArray) (Aq : Option Addr) (cq : Nat) (q : List S29) (A : Option Addr) (cl : Nat) (l : List S73) (t : Int) (r : Bool) (w : World) (hrq : Kd.C k29 w Aq q.length q) (hcq : q.length ≤ cq) (hrl : Kd.C k73 w A l.length l) (hcl : l.length ≤ cl) (ha : a = 6) (h : decide (t ≥ (l.length : Int)) = r) :
    Calls Try.prog 39 #[.agg #[.int .i64 a, .int .i64 b, .string c, .string d, .slice Aq q.length cq], .slice A l.length cl, .int .i64 t] w fun e w' => e = .returned (.bool r) ∧ Below w.heap.size w w' := by
  have IH := Aside0.mk ih
  have HRQ := Aside0.mk hrq
  have HCQ := Aside0.mk hcq
  have HRL := Aside0.mk hrl
  have HCL := Aside0.mk hcl
  have HB := Aside0.mk (Below.refl w.heap.size w)
  clear ih hrq hcq hrl hcl
  have hu29 := Try.underlying29
  have hmf : ∀ (fn : Fn) (first cap : Array Value) (w : World), (Instr.makeFunc fn first cap).run Try.prog w = .ok (.func fn first cap) w := fun _ _ _ _ => rfl
  subst ha
  subst h
  go_enter Try.func39, Try.ntmps39
  go_wp2_with (first
    | ((with_reducible refine gD 3 rfl ?_); refine bE 3 #[.int .i64 6, .int .i64 b, .string c, .string d, .slice Aq q.length cq] 29 ?_; intro gp hg w1 hbox hb; have BP := Aside0.mk hbox; have GP := Aside0.mk (zg (zL HB.out) hg : w.heap.size ≤ gp); replace HB := zLB (zL HB.out) hb; clear hb hbox hg)
    | ((with_reducible refine gD 4 rfl ?_); refine bE 4 #[.slice A l.length cl] 38 ?_; intro gl hg w2 hbox hb; have BL := Aside0.mk hbox; have GL := Aside0.mk (zg (zL1 HB.out GP.out) hg : w.heap.size ≤ gl); have NPL := Aside0.mk (zN BP.out hg : gp ≠ gl); replace HB := zLB (zL1 HB.out GP.out) hb; replace BP := zBB BP hb; clear hb hbox hg)
    | ((with_reducible refine gD 5 rfl ?_); refine bE 5 #[.int .i64 t] 3 ?_; intro gt hg w3 hbox hb; have BT := Aside0.mk hbox; have GT := Aside0.mk (zg (zL2 HB.out GP.out GL.out) hg : w.heap.size ≤ gt); replace HB := zLB (zL2 HB.out GP.out GL.out) hb; replace BP := zBB BP hb; replace BL := zBB BL hb; clear hb hbox hg)
    | ((with_reducible refine gD 7 rfl ?_); refine bE 7 #[.nilFunc] 33 ?_; intro gw hg w4 hbox hb; have BW := Aside0.mk hbox; have GW := Aside0.mk (zg (zL3 HB.out GP.out GL.out GT.out) hg : w.heap.size ≤ gw); have NP := Aside0.mk (zN BP.out hg : gp ≠ gw); have NL := Aside0.mk (zN BL.out hg : gl ≠ gw); have NT := Aside0.mk (zN BT.out hg : gt ≠ gw); replace HB := zLB (zL3 HB.out GP.out GL.out GT.out) hb; replace BP := zBB BP hb; replace BL := zBB BL hb; replace BT := zBB BT hb; clear hb hbox hg; have hcp := zc5 BP.out; have hcl_ : w4.cell? ⟨gl, 0, none⟩ = some (.slice A l.length cl) := (blk_cell BL.out 0).trans rfl; have hct_ : w4.cell? ⟨gt, 0, none⟩ = some (.int .i64 t) := (blk_cell BT.out 0).trans rfl; have hcw_ : w4.cell? ⟨gw, 0, none⟩ = some .nilFunc := (blk_cell BW.out 0).trans rfl; have hfw_ := blk_frozen BW.out 0; have hst : (store ⟨gw, 0, none⟩ (.func (.func 62) #[] #[.pointer (some ⟨gl, 0, none⟩), .pointer (some ⟨gt, 0, none⟩)])).run Try.prog w4 = .ok () (w4.setCell ⟨gw, 0, none⟩ (.func (.func 62) #[] #[.pointer (some ⟨gl, 0, none⟩), .pointer (some ⟨gt, 0, none⟩)])) := (by rw [run_store _ _ _ _ _ rfl, hcw_]; simp [hfw_]); have hn1 := NP.out; have hn2 := NL.out; have hn3 := NT.out))
  go_ret
  exact ⟨rfl, zL4 HB.out GP.out GL.out GT.out GW.out⟩

set_option maxHeartbeats 8000000 in
set_option maxRecDepth 100000 in
theorem wants_7 (k : Nat) (ih : WantsAt k) (a b : Int) (c d : ByteArray) (Aq : Option Addr) (cq : Nat) (q : List S29) (A : Option Addr) (cl : Nat) (l : List S73) (t : Int) (r : Bool) (w : World) (hrq : Kd.C k29 w Aq q.length q) (hcq : q.length ≤ cq) (hrl : Kd.C k73 w A l.length l) (hcl : l.length ≤ cl) (ha : a = 7) (h : ((impl_Pol_49.f (fun x0 x1 x2 x3 x4 => (impl_Wants.f k x0 x1 x2 x3 x4 l t).bind fun v => some (!v)) k q).bind fun v => some (!v)) = some r) :
    Calls Try.prog 39 #[.agg #[.int .i64 a, .int .i64 b, .string c, .string d, .slice Aq q.length cq], .slice A l.length cl, .int .i64 t] w fun e w' => e = .returned (.bool r) ∧ Below w.heap.size w w' := by
  have IH := Aside0.mk ih
  have HRQ := Aside0.mk hrq
  have HCQ := Aside0.mk hcq
  have HRL := Aside0.mk hrl
  have HCL := Aside0.mk hcl
  have HB := Aside0.mk (Below.refl w.heap.size w)
  clear ih hrq hcq hrl hcl
  have hu29 := Try.underlying29
  have hmf : ∀ (fn : Fn) (first cap : Array Value) (w : World), (Instr.makeFunc fn first cap).run Try.prog w = .ok (.func fn first cap) w := fun _ _ _ _ => rfl
  subst ha
  obtain ⟨v, hv, h⟩ := Option.bind_eq_some_iff.mp h
  obtain rfl := Option.some.inj h
  have H := Aside0.mk hv
  clear hv h
  go_enter Try.func39, Try.ntmps39
  go_wp2_with (first
    | ((with_reducible refine gD 3 rfl ?_); refine bE 3 #[.int .i64 7, .int .i64 b, .string c, .string d, .slice Aq q.length cq] 29 ?_; intro gp hg w1 hbox hb; have BP := Aside0.mk hbox; have GP := Aside0.mk (zg (zL HB.out) hg : w.heap.size ≤ gp); replace HB := zLB (zL HB.out) hb; clear hb hbox hg)
    | ((with_reducible refine gD 4 rfl ?_); refine bE 4 #[.slice A l.length cl] 38 ?_; intro gl hg w2 hbox hb; have BL := Aside0.mk hbox; have GL := Aside0.mk (zg (zL1 HB.out GP.out) hg : w.heap.size ≤ gl); have NPL := Aside0.mk (zN BP.out hg : gp ≠ gl); replace HB := zLB (zL1 HB.out GP.out) hb; replace BP := zBB BP hb; clear hb hbox hg)
    | ((with_reducible refine gD 5 rfl ?_); refine bE 5 #[.int .i64 t] 3 ?_; intro gt hg w3 hbox hb; have BT := Aside0.mk hbox; have GT := Aside0.mk (zg (zL2 HB.out GP.out GL.out) hg : w.heap.size ≤ gt); replace HB := zLB (zL2 HB.out GP.out GL.out) hb; replace BP := zBB BP hb; replace BL := zBB BL hb; clear hb hbox hg)
    | ((with_reducible refine gD 7 rfl ?_); refine bE 7 #[.nilFunc] 33 ?_; intro gw hg w4 hbox hb; have BW := Aside0.mk hbox; have GW := Aside0.mk (zg (zL3 HB.out GP.out GL.out GT.out) hg : w.heap.size ≤ gw); have NP := Aside0.mk (zN BP.out hg : gp ≠ gw); have NL := Aside0.mk (zN BL.out hg : gl ≠ gw); have NT := Aside0.mk (zN BT.out hg : gt ≠ gw); replace HB := zLB (zL3 HB.out GP.out GL.out GT.out) hb; replace BP := zBB BP hb; replace BL := zBB BL hb; replace BT := zBB BT hb; clear hb hbox hg; have hcp := zc5 BP.out; have hcl_ : w4.cell? ⟨gl, 0, none⟩ = some (.slice A l.length cl) := (blk_cell BL.out 0).trans rfl; have hct_ : w4.cell? ⟨gt, 0, none⟩ = some (.int .i64 t) := (blk_cell BT.out 0).trans rfl; have hcw_ : w4.cell? ⟨gw, 0, none⟩ = some .nilFunc := (blk_cell BW.out 0).trans rfl; have hfw_ := blk_frozen BW.out 0; have hst : (store ⟨gw, 0, none⟩ (.func (.func 62) #[] #[.pointer (some ⟨gl, 0, none⟩), .pointer (some ⟨gt, 0, none⟩)])).run Try.prog w4 = .ok () (w4.setCell ⟨gw, 0, none⟩ (.func (.func 62) #[] #[.pointer (some ⟨gl, 0, none⟩), .pointer (some ⟨gt, 0, none⟩)])) := (by rw [run_store _ _ _ _ _ rfl, hcw_]; simp [hfw_]); have hn1 := NP.out; have hn2 := NL.out; have hn3 := NT.out)
    | ((with_reducible refine gC 49 rfl ?_); refine gL 44 Try.func49 #[.slice Aq q.length cq, .func (.func 69) #[] #[.pointer (some ⟨gw, 0, none⟩)]] ?_; (with_reducible refine (impl_Pol_49.calls Try.func69 (by kernel_rfl) rfl k Aq cq q v _ (clo5.calls k IH.out l t A cl gl gt gw _ (blk_far BL.out NL.out _) (blk_far BT.out NT.out _) (Kd.C_below HRL.out (below_set HB.out GW.out)) HCL.out (blk_put BW.out 0 _ rfl)) (Kd.C_below HRQ.out (below_set HB.out GW.out)) HCQ.out H.out).mono ?_); rintro e w5 ⟨rfl, hb⟩; refine ⟨_, rfl, ?_⟩; replace HB := zLB (below_set HB.out GW.out) hb; clear hb))
  go_ret
  exact ⟨rfl, zL4 HB.out GP.out GL.out GT.out GW.out⟩

set_option maxHeartbeats 8000000 in
set_option maxRecDepth 100000 in
theorem wants_8 (k : Nat) (ih : WantsAt k) (a b : Int) (c d : ByteArray) (Aq : Option Addr) (cq : Nat) (q : List S29) (A : Option Addr) (cl : Nat) (l : List S73) (t : Int) (r : Bool) (w : World) (hrq : Kd.C k29 w Aq q.length q) (hcq : q.length ≤ cq) (hrl : Kd.C k73 w A l.length l) (hcl : l.length ≤ cl) (ha : a = 8) (h : impl_Pol_49.f (fun x0 x1 x2 x3 x4 => impl_Wants.f k x0 x1 x2 x3 x4 l t) k q = some r) :
    Calls Try.prog 39 #[.agg #[.int .i64 a, .int .i64 b, .string c, .string d, .slice Aq q.length cq], .slice A l.length cl, .int .i64 t] w fun e w' => e = .returned (.bool r) ∧ Below w.heap.size w w' := by
  have IH := Aside0.mk ih
  have HRQ := Aside0.mk hrq
  have HCQ := Aside0.mk hcq
  have HRL := Aside0.mk hrl
  have HCL := Aside0.mk hcl
  have HB := Aside0.mk (Below.refl w.heap.size w)
  clear ih hrq hcq hrl hcl
  have hu29 := Try.underlying29
  have hmf : ∀ (fn : Fn) (first cap : Array Value) (w : World), (Instr.makeFunc fn first cap).run Try.prog w = .ok (.func fn first cap) w := fun _ _ _ _ => rfl
  subst ha
  have H := Aside0.mk h
  clear h
  go_enter Try.func39, Try.ntmps39
  go_wp2_with (first
    | ((with_reducible refine gD 3 rfl ?_); refine bE 3 #[.int .i64 8, .int .i64 b, .string c, .string d, .slice Aq q.length cq] 29 ?_; intro gp hg w1 hbox hb; have BP := Aside0.mk hbox; have GP := Aside0.mk (zg (zL HB.out) hg : w.heap.size ≤ gp); replace HB := zLB (zL HB.out) hb; clear hb hbox hg)
    | ((with_reducible refine gD 4 rfl ?_); refine bE 4 #[.slice A l.length cl] 38 ?_; intro gl hg w2 hbox hb; have BL := Aside0.mk hbox; have GL := Aside0.mk (zg (zL1 HB.out GP.out) hg : w.heap.size ≤ gl); have NPL := Aside0.mk (zN BP.out hg : gp ≠ gl); replace HB := zLB (zL1 HB.out GP.out) hb; replace BP := zBB BP hb; clear hb hbox hg)
    | ((with_reducible refine gD 5 rfl ?_); refine bE 5 #[.int .i64 t] 3 ?_; intro gt hg w3 hbox hb; have BT := Aside0.mk hbox; have GT := Aside0.mk (zg (zL2 HB.out GP.out GL.out) hg : w.heap.size ≤ gt); replace HB := zLB (zL2 HB.out GP.out GL.out) hb; replace BP := zBB BP hb; replace BL := zBB BL hb; clear hb hbox hg)
    | ((with_reducible refine gD 7 rfl ?_); refine bE 7 #[.nilFunc] 33 ?_; intro gw hg w4 hbox hb; have BW := Aside0.mk hbox; have GW := Aside0.mk (zg (zL3 HB.out GP.out GL.out GT.out) hg : w.heap.size ≤ gw); have NP := Aside0.mk (zN BP.out hg : gp ≠ gw); have NL := Aside0.mk (zN BL.out hg : gl ≠ gw); have NT := Aside0.mk (zN BT.out hg : gt ≠ gw); replace HB := zLB (zL3 HB.out GP.out GL.out GT.out) hb; replace BP := zBB BP hb; replace BL := zBB BL hb; replace BT := zBB BT hb; clear hb hbox hg; have hcp := zc5 BP.out; have hcl_ : w4.cell? ⟨gl, 0, none⟩ = some (.slice A l.length cl) := (blk_cell BL.out 0).trans rfl; have hct_ : w4.cell? ⟨gt, 0, none⟩ = some (.int .i64 t) := (blk_cell BT.out 0).trans rfl; have hcw_ : w4.cell? ⟨gw, 0, none⟩ = some .nilFunc := (blk_cell BW.out 0).trans rfl; have hfw_ := blk_frozen BW.out 0; have hst : (store ⟨gw, 0, none⟩ (.func (.func 62) #[] #[.pointer (some ⟨gl, 0, none⟩), .pointer (some ⟨gt, 0, none⟩)])).run Try.prog w4 = .ok () (w4.setCell ⟨gw, 0, none⟩ (.func (.func 62) #[] #[.pointer (some ⟨gl, 0, none⟩), .pointer (some ⟨gt, 0, none⟩)])) := (by rw [run_store _ _ _ _ _ rfl, hcw_]; simp [hfw_]); have hn1 := NP.out; have hn2 := NL.out; have hn3 := NT.out)
    | ((with_reducible refine gC 49 rfl ?_); refine gL 51 Try.func49 #[.slice Aq q.length cq, .func (.func 62) #[] #[.pointer (some ⟨gl, 0, none⟩), .pointer (some ⟨gt, 0, none⟩)]] ?_; (with_reducible refine (impl_Pol_49.calls Try.func62 (by kernel_rfl) rfl k Aq cq q r _ (clo1.calls k IH.out l t A cl gl gt _ (blk_far BL.out NL.out _) (blk_far BT.out NT.out _) (Kd.C_below HRL.out (below_set HB.out GW.out)) HCL.out) (Kd.C_below HRQ.out (below_set HB.out GW.out)) HCQ.out H.out).mono ?_); rintro e w5 ⟨rfl, hb⟩; refine ⟨_, rfl, ?_⟩; replace HB := zLB (below_set HB.out GW.out) hb; clear hb))
  go_ret
  exact ⟨rfl, zL4 HB.out GP.out GL.out GT.out GW.out⟩

set_option maxHeartbeats 8000000 in
set_option maxRecDepth 100000 in
theorem wants_0 (k : Nat) (ih : WantsAt k) (a b : Int) (c d : ByteArray) (Aq : Option Addr) (cq : Nat) (q : List S29) (A : Option Addr) (cl : Nat) (l : List S73) (t : Int) (r : Bool) (w : World) (hrq : Kd.C k29 w Aq q.length q) (hcq : q.length ≤ cq) (hrl : Kd.C k73 w A l.length l) (hcl : l.length ≤ cl) (h1 : a ≠ 1) (h2 : a ≠ 2) (h3 : a ≠ 3) (h4 : a ≠ 4) (h5 : a ≠ 5) (h6 : a ≠ 6) (h7 : a ≠ 7) (h8 : a ≠ 8) (h9 : a ≠ 9) (h : r = false) :
    Calls Try.prog 39 #[.agg #[.int .i64 a, .int .i64 b, .string c, .string d, .slice Aq q.length cq], .slice A l.length cl, .int .i64 t] w fun e w' => e = .returned (.bool r) ∧ Below w.heap.size w w' := by
  have IH := Aside0.mk ih
  have HRQ := Aside0.mk hrq
  have HCQ := Aside0.mk hcq
  have HRL := Aside0.mk hrl
  have HCL := Aside0.mk hcl
  have HB := Aside0.mk (Below.refl w.heap.size w)
  clear ih hrq hcq hrl hcl
  have hu29 := Try.underlying29
  have hmf : ∀ (fn : Fn) (first cap : Array Value) (w : World), (Instr.makeFunc fn first cap).run Try.prog w = .ok (.func fn first cap) w := fun _ _ _ _ => rfl
  subst h
  have b1 : (a == 1) = false := by simpa using h1
  have b2 : (a == 2) = false := by simpa using h2
  have b3 : (a == 3) = false := by simpa using h3
  have b4 : (a == 4) = false := by simpa using h4
  have b5 : (a == 5) = false := by simpa using h5
  have b6 : (a == 6) = false := by simpa using h6
  have b7 : (a == 7) = false := by simpa using h7
  have b8 : (a == 8) = false := by simpa using h8
  have b9 : (a == 9) = false := by simpa using h9
  go_enter Try.func39, Try.ntmps39
  go_wp2_with (first
    | ((with_reducible refine gD 3 rfl ?_); refine bE 3 #[.int .i64 a, .int .i64 b, .string c, .string d, .slice Aq q.length cq] 29 ?_; intro gp hg w1 hbox hb; have BP := Aside0.mk hbox; have GP := Aside0.mk (zg (zL HB.out) hg : w.heap.size ≤ gp); replace HB := zLB (zL HB.out) hb; clear hb hbox hg)
    | ((with_reducible refine gD 4 rfl ?_); refine bE 4 #[.slice A l.length cl] 38 ?_; intro gl hg w2 hbox hb; have BL := Aside0.mk hbox; have GL := Aside0.mk (zg (zL1 HB.out GP.out) hg : w.heap.size ≤ gl); have NPL := Aside0.mk (zN BP.out hg : gp ≠ gl); replace HB := zLB (zL1 HB.out GP.out) hb; replace BP := zBB BP hb; clear hb hbox hg)
    | ((with_reducible refine gD 5 rfl ?_); refine bE 5 #[.int .i64 t] 3 ?_; intro gt hg w3 hbox hb; have BT := Aside0.mk hbox; have GT := Aside0.mk (zg (zL2 HB.out GP.out GL.out) hg : w.heap.size ≤ gt); replace HB := zLB (zL2 HB.out GP.out GL.out) hb; replace BP := zBB BP hb; replace BL := zBB BL hb; clear hb hbox hg)
    | ((with_reducible refine gD 7 rfl ?_); refine bE 7 #[.nilFunc] 33 ?_; intro gw hg w4 hbox hb; have BW := Aside0.mk hbox; have GW := Aside0.mk (zg (zL3 HB.out GP.out GL.out GT.out) hg : w.heap.size ≤ gw); have NP := Aside0.mk (zN BP.out hg : gp ≠ gw); have NL := Aside0.mk (zN BL.out hg : gl ≠ gw); have NT := Aside0.mk (zN BT.out hg : gt ≠ gw); replace HB := zLB (zL3 HB.out GP.out GL.out GT.out) hb; replace BP := zBB BP hb; replace BL := zBB BL hb; replace BT := zBB BT hb; clear hb hbox hg; have hcp := zc5 BP.out; have hcl_ : w4.cell? ⟨gl, 0, none⟩ = some (.slice A l.length cl) := (blk_cell BL.out 0).trans rfl; have hct_ : w4.cell? ⟨gt, 0, none⟩ = some (.int .i64 t) := (blk_cell BT.out 0).trans rfl; have hcw_ : w4.cell? ⟨gw, 0, none⟩ = some .nilFunc := (blk_cell BW.out 0).trans rfl; have hfw_ := blk_frozen BW.out 0; have hst : (store ⟨gw, 0, none⟩ (.func (.func 62) #[] #[.pointer (some ⟨gl, 0, none⟩), .pointer (some ⟨gt, 0, none⟩)])).run Try.prog w4 = .ok () (w4.setCell ⟨gw, 0, none⟩ (.func (.func 62) #[] #[.pointer (some ⟨gl, 0, none⟩), .pointer (some ⟨gt, 0, none⟩)])) := (by rw [run_store _ _ _ _ _ rfl, hcw_]; simp [hfw_]); have hn1 := NP.out; have hn2 := NL.out; have hn3 := NT.out))
  go_ret
  exact ⟨rfl, zL4 HB.out GP.out GL.out GT.out GW.out⟩

section
variable {P : Program} {ops : Array Oper} {Q : Exit → Act → World → Prop}
/-- A call of a closure, in a region whose operations may come up in any order. -/
theorem gSC {oi : Oper} {N : Option Tmp} {a : Act} {w : World} {K : Act → World → Prop} {t : Tmp} {f : FuncId} {cap : Array Value} (hv : a.eval (.tmp t) = .func (.func f) #[] cap) {fn : Func} {us : Array Operand} {ts : Array TypeId} (hf : P.funcs[f]? = some fn) (args : Array Value)
    (h : Calls P f (args ++ cap) w fun e w' => ∃ v, e = .returned v ∧ K (a.put N v) w') (hname : (fn.name == "runtime.NumGoroutine") = false := by kernel_rfl) (hb : fn.body.isSome = true := by exact rfl)
    (hw : Region.wanted oi (yielded ops a.tmps) = true := by rfl) (hN : oi.dst = N := by exact rfl) (hop : oi.op = .call { callee := .value (.tmp t), args := us, argTypes := ts } := by exact rfl)
    (hargs : us.map a.eval = args := by (try simp only [List.map_toArray, List.map_cons, List.map_nil]); first | done | rfl) :
    if Region.wanted oi (yielded ops a.tmps) = true then Oper.wp P oi a w K Q else K (a.put N undef) w := by
  refine call_ f (args ++ cap) hw hN ?_ h
  have he := enters_ hf hname hb (args ++ cap) w
  unfold execOp
  simp [hop, resolve, Deferred.ofValue, invoke, hv, hargs, he]
end

set_option maxHeartbeats 8000000 in
set_option maxRecDepth 100000 in
theorem wants_9 (k : Nat) (ih : WantsAt k) (a b : Int) (c d : ByteArray) (Aq : Option Addr) (cq : Nat) (q : List S29) (A : Option Addr) (cl : Nat) (l : List S73) (t : Int) (r : Bool) (w : World) (hrq : Kd.C k29 w Aq q.length q) (hcq : q.length ≤ cq) (hrl : Kd.C k73 w A l.length l) (hcl : l.length ≤ cl) (ha : a = 9) (h : (if (q.length : Int) = 0 then (some true) else ((impl_Wants.f k ((rd_T29 q 0).f0) ((rd_T29 q 0).f1) ((rd_T29 q 0).f2) ((rd_T29 q 0).f3) ((rd_T29 q 0).f4) l t).bind fun v => some (!v))) = some r) :
    Calls Try.prog 39 #[.agg #[.int .i64 a, .int .i64 b, .string c, .string d, .slice Aq q.length cq], .slice A l.length cl, .int .i64 t] w fun e w' => e = .returned (.bool r) ∧ Below w.heap.size w w' := by
  have IH := Aside0.mk ih
  have HRQ := Aside0.mk hrq
  have HCQ := Aside0.mk hcq
  have HRL := Aside0.mk hrl
  have HCL := Aside0.mk hcl
  have HB := Aside0.mk (Below.refl w.heap.size w)
  clear ih hrq hcq hrl hcl
  have hu29 := Try.underlying29
  have hmf : ∀ (fn : Fn) (first cap : Array Value) (w : World), (Instr.makeFunc fn first cap).run Try.prog w = .ok (.func fn first cap) w := fun _ _ _ _ => rfl
  subst ha
  have H := Aside0.mk h
  clear h
  go_enter Try.func39, Try.ntmps39
  go_wp2_with (first
    | ((with_reducible refine gD 3 rfl ?_); refine bE 3 #[.int .i64 9, .int .i64 b, .string c, .string d, .slice Aq q.length cq] 29 ?_; intro gp hg w1 hbox hb; have BP := Aside0.mk hbox; have GP := Aside0.mk (zg (zL HB.out) hg : w.heap.size ≤ gp); replace HB := zLB (zL HB.out) hb; clear hb hbox hg)
    | ((with_reducible refine gD 4 rfl ?_); refine bE 4 #[.slice A l.length cl] 38 ?_; intro gl hg w2 hbox hb; have BL := Aside0.mk hbox; have GL := Aside0.mk (zg (zL1 HB.out GP.out) hg : w.heap.size ≤ gl); have NPL := Aside0.mk (zN BP.out hg : gp ≠ gl); replace HB := zLB (zL1 HB.out GP.out) hb; replace BP := zBB BP hb; clear hb hbox hg)
    | ((with_reducible refine gD 5 rfl ?_); refine bE 5 #[.int .i64 t] 3 ?_; intro gt hg w3 hbox hb; have BT := Aside0.mk hbox; have GT := Aside0.mk (zg (zL2 HB.out GP.out GL.out) hg : w.heap.size ≤ gt); replace HB := zLB (zL2 HB.out GP.out GL.out) hb; replace BP := zBB BP hb; replace BL := zBB BL hb; clear hb hbox hg)
    | ((with_reducible refine gD 7 rfl ?_); refine bE 7 #[.nilFunc] 33 ?_; intro gw hg w4 hbox hb; have BW := Aside0.mk hbox; have GW := Aside0.mk (zg (zL3 HB.out GP.out GL.out GT.out) hg : w.heap.size ≤ gw); have NP := Aside0.mk (zN BP.out hg : gp ≠ gw); have NL := Aside0.mk (zN BL.out hg : gl ≠ gw); have NT := Aside0.mk (zN BT.out hg : gt ≠ gw); replace HB := zLB (zL3 HB.out GP.out GL.out GT.out) hb; replace BP := zBB BP hb; replace BL := zBB BL hb; replace BT := zBB BT hb; clear hb hbox hg; have hcp := zc5 BP.out; have hcl_ : w4.cell? ⟨gl, 0, none⟩ = some (.slice A l.length cl) := (blk_cell BL.out 0).trans rfl; have hct_ : w4.cell? ⟨gt, 0, none⟩ = some (.int .i64 t) := (blk_cell BT.out 0).trans rfl; have hcw_ : w4.cell? ⟨gw, 0, none⟩ = some .nilFunc := (blk_cell BW.out 0).trans rfl; have hfw_ := blk_frozen BW.out 0; have hst : (store ⟨gw, 0, none⟩ (.func (.func 62) #[] #[.pointer (some ⟨gl, 0, none⟩), .pointer (some ⟨gt, 0, none⟩)])).run Try.prog w4 = .ok () (w4.setCell ⟨gw, 0, none⟩ (.func (.func 62) #[] #[.pointer (some ⟨gl, 0, none⟩), .pointer (some ⟨gt, 0, none⟩)])) := (by rw [run_store _ _ _ _ _ rfl, hcw_]; simp [hfw_]); have hn1 := NP.out; have hn2 := NL.out; have hn3 := NT.out))
  have HB' : Aside0 (Below w.heap.size w (w4.setCell ⟨gw, 0, none⟩ (.func (.func 62) #[] #[.pointer (some ⟨gl, 0, none⟩), .pointer (some ⟨gt, 0, none⟩)]))) := ⟨(below_set HB.out GW.out)⟩
  have BP' : Aside0 ((w4.setCell ⟨gw, 0, none⟩ (.func (.func 62) #[] #[.pointer (some ⟨gl, 0, none⟩), .pointer (some ⟨gt, 0, none⟩)])).heap[gp]? = some (.cells #[.int .i64 9, .int .i64 b, .string c, .string d, .slice Aq q.length cq] 29 (0, 0))) := ⟨(blk_far BP.out NP.out _)⟩
  have BL' : Aside0 ((w4.setCell ⟨gw, 0, none⟩ (.func (.func 62) #[] #[.pointer (some ⟨gl, 0, none⟩), .pointer (some ⟨gt, 0, none⟩)])).heap[gl]? = some (.cells #[.slice A l.length cl] 38 (0, 0))) := ⟨(blk_far BL.out NL.out _)⟩
  have BT' : Aside0 ((w4.setCell ⟨gw, 0, none⟩ (.func (.func 62) #[] #[.pointer (some ⟨gl, 0, none⟩), .pointer (some ⟨gt, 0, none⟩)])).heap[gt]? = some (.cells #[.int .i64 t] 3 (0, 0))) := ⟨(blk_far BT.out NT.out _)⟩
  have BW' : Aside0 ((w4.setCell ⟨gw, 0, none⟩ (.func (.func 62) #[] #[.pointer (some ⟨gl, 0, none⟩), .pointer (some ⟨gt, 0, none⟩)])).heap[gw]? = some (.cells #[.func (.func 62) #[] #[.pointer (some ⟨gl, 0, none⟩), .pointer (some ⟨gt, 0, none⟩)]] 33 (0, 0))) := ⟨(blk_put BW.out 0 _ rfl)⟩
  clear hst hcp hcl_ hct_ hcw_ hfw_ HB BP BL BT BW
  generalize (w4.setCell ⟨gw, 0, none⟩ (.func (.func 62) #[] #[.pointer (some ⟨gl, 0, none⟩), .pointer (some ⟨gt, 0, none⟩)])) = w5 at HB' BP' BL' BT' BW' ⊢
  replace BP' := zBD BP'; replace BL' := zBD BL'; replace BT' := zBD BT'; replace BW' := zBD BW'; replace HB' := zLD HB'
  have hw7 : w5.drew.cell? ⟨gw, 0, none⟩ = some (.func (.func 62) #[] #[.pointer (some ⟨gl, 0, none⟩), .pointer (some ⟨gt, 0, none⟩)]) := (blk_cell BW'.out 0).trans rfl
  by_cases c0 : (q.length : Int) = 0
  · have H := H.out
    rw [if_pos c0] at H
    obtain rfl := Option.some.inj H
    obtain ⟨c0b0, c0b1⟩ := zt c0
    refine start_ (n := 14) (S := fun w' => zt5 w' gp (.int .i64 9) (.int .i64 b) (.string c) (.string d) (.slice Aq q.length cq) (w'.cell? ⟨gw, 0, none⟩ = some (.func (.func 62) #[] #[.pointer (some ⟨gl, 0, none⟩), .pointer (some ⟨gt, 0, none⟩)]))) (ds := []) (fB 14 0) (by kernel_rfl) rfl rfl (zk5 BP'.out hw7) (fun hHeld => ?_)
    generalize w5.drew = w6 at BP' BL' BT' BW' HB' hHeld hw7 ⊢
    refine pY 0 54 (fB 14 1) rfl ?_
    refine tY (Bw := [0,1,3,7,15,31,31,95,223,479,1023,2047,4095,8191]) 1 55 (fB 14 3) rfl (by kernel_rfl) hHeld ?_
    refine pY 2 56 (fB 14 7) rfl ?_
    refine pY 3 57 (fB 14 15) rfl ?_
    refine pY 4 58 (fB 14 31) rfl ?_
    refine pN 5 59 (fB 14 63) rfl ?_
    refine pN 6 60 (fB 14 127) rfl ?_
    refine pN 7 61 (fB 14 255) rfl ?_
    refine pN 8 62 (fB 14 511) rfl ?_
    refine pN 9 63 (fB 14 1023) rfl ?_
    refine pN 10 64 (fB 14 2047) rfl ?_
    refine pN 11 65 (fB 14 4095) rfl ?_
    refine pY 12 66 (fB 14 8191) rfl ?_
    refine pY 13 6 (fB 14 16383) rfl ?_
    refine done_ (done_of rfl (by kernel_rfl)) ?_
    try go_wp2
    go_ret
    exact ⟨rfl, zL4 HB'.out GP.out GL.out GT.out GW.out⟩
  · have H := H.out
    rw [if_neg c0] at H
    obtain ⟨v, A1, H⟩ := zO H; try dsimp only at H
    obtain rfl := Option.some.inj H
    obtain ⟨c0b0, c0b1⟩ := zf c0
    have p207 : 0 ≤ (0 : Int) := (by omega)
    have q207 : 0 < (q.length : Int) := (by omega)
    obtain ⟨ad, A4, c4, e207, hx0, hx1, hx2, hx3, hx4, hl4, hi4⟩ := at_T29 HRQ.out 0 p207 q207
    cases e207
    have qi207 : (0 < q.length) = True := eq_true (by omega)
    rw [show ((0 : Int)).toNat = 0 from rfl, show 0 * 5 = 0 from rfl, Addr.add_zero'] at hx0 hx1 hx2 hx3 hx4
    replace hx0 := zh HB'.out hx0
    replace hx1 := zh HB'.out hx1
    replace hx2 := zh HB'.out hx2
    replace hx3 := zh HB'.out hx3
    replace hx4 := zh HB'.out hx4
    have HR4 := Aside0.mk hi4
    have HC4 := Aside0.mk hl4
    clear hi4 hl4
    replace p207 := eq_true p207
    replace q207 := eq_true q207
    refine start_ (n := 14) (S := fun w' => zt5 w' gp (.int .i64 9) (.int .i64 b) (.string c) (.string d) (.slice (some ad) q.length cq) (w'.cell? ⟨gw, 0, none⟩ = some (.func (.func 62) #[] #[.pointer (some ⟨gl, 0, none⟩), .pointer (some ⟨gt, 0, none⟩)]) ∧ w'.cell? ad = some (.int .i64 (rd_T29 q 0).f0) ∧ w'.cell? ⟨ad.block, ad.off + 1, none⟩ = some (.int .i64 (rd_T29 q 0).f1) ∧ w'.cell? ⟨ad.block, ad.off + 2, none⟩ = some (.string (rd_T29 q 0).f2) ∧ w'.cell? ⟨ad.block, ad.off + 3, none⟩ = some (.string (rd_T29 q 0).f3) ∧ w'.cell? ⟨ad.block, ad.off + 4, none⟩ = some (.slice A4 (rd_T29 q 0).f4.length c4))) (ds := []) (fB 14 0) (by kernel_rfl) rfl rfl (zk5 BP'.out ⟨hw7, hx0, hx1, hx2, hx3, hx4⟩) (fun hHeld => ?_)
    have HX := Aside0.mk (clo1.calls k IH.out l t A cl gl gt _ BL'.out BT'.out (Kd.C_below HRL.out HB'.out) HCL.out)
    generalize w5.drew = w6 at BP' BL' BT' BW' HB' hHeld hw7 hx0 hx1 hx2 hx3 hx4 HX ⊢
    refine pY 0 54 (fB 14 1) rfl ?_
    refine tY (Bw := [0,1,3,7,15,31,31,95,223,479,1023,2047,4095,8191]) 1 55 (fB 14 3) rfl (by kernel_rfl) hHeld ?_
    refine pY 2 56 (fB 14 7) rfl ?_
    refine pY 3 57 (fB 14 15) rfl ?_
    refine pY 4 58 (fB 14 31) rfl ?_
    refine tY (Bw := [0,1,3,7,15,31,31,95,223,479,1023,2047,4095,8191]) 5 59 (fB 14 63) rfl (by kernel_rfl) hHeld ?_
    refine pY 6 60 (fB 14 127) rfl ?_
    refine tY (Bw := [0,1,3,7,15,31,31,95,223,479,1023,2047,4095,8191]) 7 61 (fB 14 255) rfl (by kernel_rfl) hHeld ?_
    refine pY 8 62 (fB 14 511) rfl ?_
    refine tY (Bw := [0,1,3,7,15,31,31,95,223,479,1023,2047,4095,8191]) 9 63 (fB 14 1023) rfl (by kernel_rfl) hHeld ?_
    refine oN 10 64 (fB 14 2047) rfl fun K hK => ?_
    refine gSC (t := 59) (f := 62) (cap := #[.pointer (some ⟨gl, 0, none⟩), .pointer (some ⟨gt, 0, none⟩)]) rfl Try.func62 #[.agg #[.int .i64 (rd_T29 q 0).f0, .int .i64 (rd_T29 q 0).f1, .string (rd_T29 q 0).f2, .string (rd_T29 q 0).f3, .slice A4 (rd_T29 q 0).f4.length c4]] ?_
    with_reducible refine (HX.out _ _ _ _ _ _ (rd_T29 q 0).f4 v _ (Below.refl _ _) ?side1 HC4.out A1.out).mono ?_
    (case side1 => exact Kd.C_below HR4.out HB'.out)
    rintro e w9 ⟨rfl, hb⟩
    refine ⟨_, rfl, ?_⟩
    have HBn := Aside0.mk (below_step HB'.out hb)
    have S9 := zk5 (zBB BP' hb).out (And.intro ((blk_cell (zBB BW' hb).out 0).trans rfl : w9.cell? ⟨gw, 0, none⟩ = some (.func (.func 62) #[] #[.pointer (some ⟨gl, 0, none⟩), .pointer (some ⟨gt, 0, none⟩)])) (And.intro (zh hb hx0) (And.intro (zh hb hx1) (And.intro (zh hb hx2) (And.intro (zh hb hx3) (zh hb hx4))))))
    refine hK.out _ _ S9 fun hHeld => ?_; clear hK K
    refine nZ 64 ?_
    refine pY 11 65 (fB 14 4095) rfl ?_
    refine pY 12 66 (fB 14 8191) rfl ?_
    refine pY 13 6 (fB 14 16383) rfl ?_
    refine done_ (done_of rfl (by kernel_rfl)) ?_
    try go_wp2
    go_ret
    exact ⟨rfl, zL4 HBn.out GP.out GL.out GT.out GW.out⟩


set_option maxHeartbeats 8000000 in
set_option maxRecDepth 100000 in
theorem impl_Wants.at : ∀ k, WantsAt k
  | 0 => by
    intro a b c d Aq q0 cq A cl l t r w h1 h2 h3 h4 h
    simp [impl_Wants.f] at h
  | k + 1 => by
    intro a b c d Aq cq q A cl l t r w h1 h2 h3 h4 h
    have ih := impl_Wants.at k
    rw [impl_Wants.f] at h
    by_cases e1 : a = 1
    · rw [if_pos e1] at h; exact wants_1 k ih a b c d Aq cq q A cl l t r w h1 h2 h3 h4 e1 (Option.some.inj h).symm
    rw [if_neg e1] at h
    by_cases e2 : a = 2
    · rw [if_pos e2] at h; exact wants_2 k ih a b c d Aq cq q A cl l t r w h1 h2 h3 h4 e2 h
    rw [if_neg e2] at h
    by_cases e3 : a = 3
    · rw [if_pos e3] at h; exact wants_3 k ih a b c d Aq cq q A cl l t r w h1 h2 h3 h4 e3 h
    rw [if_neg e3] at h
    by_cases e4 : a = 4
    · rw [if_pos e4] at h; exact wants_4 k ih a b c d Aq cq q A cl l t r w h1 h2 h3 h4 e4 h
    rw [if_neg e4] at h
    by_cases e5 : a = 5
    · rw [if_pos e5] at h; exact wants_5 k ih a b c d Aq cq q A cl l t r w h1 h2 h3 h4 e5 h
    rw [if_neg e5] at h
    by_cases e6 : a = 6
    · rw [if_pos e6] at h; exact wants_6 k ih a b c d Aq cq q A cl l t r w h1 h2 h3 h4 e6 (Option.some.inj h)
    rw [if_neg e6] at h
    by_cases e7 : a = 7
    · rw [if_pos e7] at h; exact wants_7 k ih a b c d Aq cq q A cl l t r w h1 h2 h3 h4 e7 h
    rw [if_neg e7] at h
    by_cases e8 : a = 8
    · rw [if_pos e8] at h; exact wants_8 k ih a b c d Aq cq q A cl l t r w h1 h2 h3 h4 e8 h
    rw [if_neg e8] at h
    by_cases e9 : a = 9
    · rw [if_pos e9] at h; exact wants_9 k ih a b c d Aq cq q A cl l t r w h1 h2 h3 h4 e9 h
    rw [if_neg e9] at h
    exact wants_0 k ih a b c d Aq cq q A cl l t r w h1 h2 h3 h4 e1 e2 e3 e4 e5 e6 e7 e8 e9 (Option.some.inj h).symm
/-- impl.Wants answers as told. -/
theorem impl_Wants.calls (k : Nat) (a0 a1 : Int) (a2 a3 : ByteArray) (A0 : Option Addr) (c0 : Nat) (l0 : List S29) (A1 : Option Addr) (c1 : Nat) (l1 : List S73) (a4 : Int) (r : Bool) (w : World) (hr0 : Kd.C k29 w A0 l0.length l0) (hc0 : l0.length ≤ c0) (hr1 : Kd.C k73 w A1 l1.length l1) (hc1 : l1.length ≤ c1) (h : impl_Wants.f k a0 a1 a2 a3 l0 l1 a4 = some r) :
    Calls Try.prog 39 #[.agg #[.int .i64 a0, .int .i64 a1, .string a2, .string a3, .slice A0 l0.length c0], .slice A1 l1.length c1, .int .i64 a4] w fun e w' => e = .returned (.bool r) ∧ Below w.heap.size w w' := impl_Wants.at k a0 a1 a2 a3 A0 c0 l0 A1 c1 l1 a4 r w hr0 hc0 hr1 hc1 h

end Go.Proofs.Ytfhblnbicnmndaa.QFnJudges
