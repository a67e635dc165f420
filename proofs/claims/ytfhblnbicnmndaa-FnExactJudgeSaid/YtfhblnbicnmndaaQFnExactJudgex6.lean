/- What the Go functions that the law FnExactJudge reaches answer: each as a Lean function, with its walk. Written by a program of this session. Conditions: those that each theorem names. -/
import Derived.Test.YtfhblnbicnmndaaQFnExactJudgex0
import Derived.Test.YtfhblnbicnmndaaQFnExactJudgex5
namespace Go.Proofs.Ytfhblnbicnmndaa.QFnExactJudge
open Go.RowKit Go.Proofs.YtfhblnbicnmndaaW.PrintWords Go.Proofs.YtfhblnbicnmndaaW.PrintLast Go.Proofs.YtfhblnbicnmndaaW.PrintMore
attribute [local go_sem] max2_int min2_int max_two min_two max_three min_three max_four min_four   -- for this text's walks alone
set_option linter.unusedVariables false
set_option linter.unusedSimpArgs false

/-! ### impl_HasRate: function 19, by hand -/
def impl_HasRate.f : Nat → Int → Int → ByteArray → ByteArray → List (S29) → Option (Bool)
  | 0, _, _, _, _, _ => none
  | k + 1, a0_0, a0_1, a0_2, a0_3, l0_4 => if a0_0 = 6 then (some true) else (impl_Pol_49.f (fun b0 b1 b2 b3 b4 => impl_HasRate.f k b0 b1 b2 b3 b4) k l0_4)
set_option maxHeartbeats 8000000 in
set_option maxRecDepth 100000 in
theorem impl_HasRate.calls (k : Nat) : ∀ (a0_0 : Int) (a0_1 : Int) (a0_2 : ByteArray) (a0_3 : ByteArray) (A0_4 : Option Addr) (c0_4 : Nat) (l0_4 : List (S29)) (r : Bool) (w : World) (hr0_4 : Kd.C k29 w A0_4 l0_4.length l0_4) (hc0_4 : l0_4.length ≤ c0_4) (h : impl_HasRate.f k a0_0 a0_1 a0_2 a0_3 l0_4 = some r),
    Calls Try.prog 19 #[.agg #[.int .i64 a0_0, .int .i64 a0_1, .string a0_2, .string a0_3, .slice A0_4 l0_4.length c0_4]] w fun e w' => e = .returned (.bool r) ∧ Below w.heap.size w w' := by
  induction k with
  | zero =>
    intro a0_0 a0_1 a0_2 a0_3 A0_4 c0_4 l0_4 r w hr0_4 hc0_4 h
    exact absurd h (by simp [impl_HasRate.f])
  | succ k ih =>
  intro a0_0 a0_1 a0_2 a0_3 A0_4 c0_4 l0_4 r w hr0_4 hc0_4 h
  have HF : ∀ W, CloP (fun b0 b1 b2 b3 b4 => impl_HasRate.f k b0 b1 b2 b3 b4) 19 #[] W := fun W x0 x1 x2 x3 A4 c4 x4 q W' _ hr hc h => ih x0 x1 x2 x3 A4 c4 x4 q W' hr hc h
  have hu29 := Try.underlying29
  have HR := Aside0.mk hr0_4
  have HC := Aside0.mk hc0_4
  clear hr0_4 hc0_4 ih
  have HB := Aside0.mk (Below.refl w.heap.size w)
  rw [impl_HasRate.f] at h
  by_cases c2 : a0_0 = 6
  · rw [if_pos c2] at h
    obtain ⟨c2b0, c2b1⟩ := zt c2
    clear c2
    obtain rfl := Option.some.inj h
    go_enter Try.func19, Try.ntmps19
    go_wp2_with (first
      | ((with_reducible refine gD 1 rfl ?_); refine bE 1 #[.int .i64 a0_0, .int .i64 a0_1, .string a0_2, .string a0_3, .slice A0_4 l0_4.length c0_4] 29 ?_; intro gb1 hg w7 hbox hb; have BK1 := Aside0.mk hbox; have GE1 := Aside0.mk (zg (zL HB.out) hg : w.heap.size ≤ gb1); replace HB := zLB (zL HB.out) hb; clear hb hbox hg; have hcz1 := zc5 BK1.out; have hfz1 := zf5 BK1.out))
    go_ret
    exact ⟨zW, zL1 HB.out GE1.out⟩
  · rw [if_neg c2] at h
    obtain ⟨c2b0, c2b1⟩ := zf c2
    have A1 := Aside0.mk h
    clear h c2
    go_enter Try.func19, Try.ntmps19
    go_wp2_with (first
      | ((with_reducible refine gD 1 rfl ?_); refine bE 1 #[.int .i64 a0_0, .int .i64 a0_1, .string a0_2, .string a0_3, .slice A0_4 l0_4.length c0_4] 29 ?_; intro gb1 hg w7 hbox hb; have BK1 := Aside0.mk hbox; have GE1 := Aside0.mk (zg (zL HB.out) hg : w.heap.size ≤ gb1); replace HB := zLB (zL HB.out) hb; clear hb hbox hg; have hcz1 := zc5 BK1.out; have hfz1 := zf5 BK1.out)
      | (go_at_call 49; (with_reducible refine (impl_Pol_49.calls Try.func19 (by kernel_rfl) rfl k _ _ l0_4 r _ (HF _) ?side1 ?side2 A1.out).mono ?_); (case side1 => exact zC (Kd.C_below HR.out HB.out)); (case side2 => exact HC.out); rintro e w8 ⟨rfl, hb⟩; replace HB := zLB (zL1 HB.out GE1.out) hb; clear hb))
    go_ret
    exact ⟨zW, zL1 HB.out GE1.out⟩

open Go.Proofs.YtfhblnbicnmndaaW.PrintWords renaming blk_drewN → bN, blk_drew → bD, blk_alloc → bA, blk_cell → bC, blk_below → bB, below_set → bS
/-! ### impl_Errors: function 25 -/
def impl_Errors.l0 : Nat → Int → List (S73) → Int → Int → Option (Int)
 | 0, _, _, _, _ => none
 | k + 1, x3, x6, x7, x8 => if x8 < x7 then (if 0 ≤ x8 then (if x8 < (x6.length : Int) then (if (rd_T73 x6 x8).f4 = true then (impl_Errors.l0 k (wrap64 (x3 + 1)) x6 x7 (wrap64 (x8 + 1))) else (impl_Errors.l0 k x3 x6 x7 (wrap64 (x8 + 1)))) else (none)) else (none)) else (some x3)
def impl_Errors.f (k : Nat) (l0 : List (S73)) : Option (Int) := impl_Errors.l0 k 0 l0 (l0.length : Int) 0
theorem impl_Errors.mono_l : ∀ k, (∀ y0 y1 y2 y3, LeO (impl_Errors.l0 k y0 y1 y2 y3) (impl_Errors.l0 (k + 1) y0 y1 y2 y3))
 | 0 => fun _ _ _ _ r h => by simp [impl_Errors.l0] at h
 | k + 1 => by
  have ih0 := impl_Errors.mono_l k
  ·intro y0 y1 y2 y3
   unfold impl_Errors.l0
   repeat' first
   | (with_reducible exact ih0 _ _ _ _)
   | (with_reducible exact LeO.refl _)
   | (with_reducible exact LeO.none _)
   | (with_reducible refine LeO.ite ?_ ?_)
   | (with_reducible refine LeO.bind ?_ (fun _ => ?_))
   | exact ih0 _ _ _ _
   | exact LeO.none _
   | refine LeO.ite ?_ ?_
   | refine LeO.bind ?_ (fun _ => ?_)
theorem impl_Errors.mono : ∀ a0 k, LeO (impl_Errors.f k a0) (impl_Errors.f (k + 1) a0) := by
 intro a0 k
 have ih0 := impl_Errors.mono_l k
 unfold impl_Errors.f
 repeat' first
   | (with_reducible exact ih0 _ _ _ _)
   | (with_reducible exact LeO.refl _)
   | (with_reducible exact LeO.none _)
   | (with_reducible refine LeO.ite ?_ ?_)
   | (with_reducible refine LeO.bind ?_ (fun _ => ?_))
   | exact ih0 _ _ _ _
   | exact LeO.none _
   | refine LeO.ite ?_ ?_
   | refine LeO.bind ?_ (fun _ => ?_)
set_option maxHeartbeats 8000000 in
set_option maxRecDepth 100000 in
theorem impl_Errors.calls (k : Nat) (A0 : Option Addr) (c0 : Nat) (l0 : List (S73)) (r : Int) (w : World) (hr0 : Kd.C k73 w A0 l0.length l0) (hc0 : l0.length ≤ c0) (h : impl_Errors.f k l0 = some r) :
  Calls Try.prog 25 #[.slice A0 l0.length c0] w fun e w' => e = .returned (.int .i64 r) ∧ Below w.heap.size w w' := by
 have hu73 := Try.underlying73
 have HR0 := Aside0.mk hr0
 have HC0 := Aside0.mk hc0
 clear hr0 hc0
 have HB := Aside0.mk (Below.refl w.heap.size w)
 unfold impl_Errors.f at h; have H := h
 clear h
 have H' := Aside0.mk H
 clear H
 go_enter Try.func25, Try.ntmps25
 go_wp2
 go_loopg [3, 8] k (fun kq v3 v8 w' => ∃ (x3_1 : Int) (x8_1 : Int), v3 = .int .i64 x3_1 ∧ v8 = .int .i64 x8_1 ∧ Aside0 (impl_Errors.l0 kq x3_1 l0 (l0.length : Int) x8_1 = some r) ∧ Aside0 (kq ≤ k) ∧ Aside0 (Below w.heap.size w w'))
 case atStart => exact ⟨(0), (0), zV, zV, H', ⟨Nat.le_refl _⟩, ⟨zL HB.out⟩⟩
 case round =>
  clear H'
  obtain ⟨x3_1, x8_1, rfl, rfl, HA, HK1, HB⟩ := hrel
  cases gk with
  | zero => exact absurd HA.out (by simp [impl_Errors.l0])
  | succ k1 =>
   have H := HA.out
   clear HA
   simp only [impl_Errors.l0] at H
   by_cases c2 : x8_1 < (l0.length : Int)
   ·rw [if_pos c2] at H
    have c2b0 := decide_eq_true c2
    clear c2
    by_cases c3 : 0 ≤ x8_1
    ·rw [if_pos c3] at H
     have c3b0 := decide_eq_true c3
     clear c3
     by_cases c4 : x8_1 < (l0.length : Int)
     ·rw [if_pos c4] at H
      have c4b0 := decide_eq_true c4
      clear c4
      obtain ⟨bq5, hbq5⟩ : ∃ b_ : Bool, b_ = ((rd_T73 l0 x8_1).f4) := ⟨_, rfl⟩
      replace H : (if bq5 = true then (impl_Errors.l0 k1 (wrap64 (x3_1 + 1)) l0 (l0.length : Int) (wrap64 (x8_1 + 1))) else (impl_Errors.l0 k1 x3_1 l0 (l0.length : Int) (wrap64 (x8_1 + 1)))) = some r := by rw [← hbq5] at H; exact H
      have Nbq5 := Aside0.mk hbq5
      clear hbq5
      by_cases c6 : bq5 = true
      ·subst c6
       rw [if_pos rfl] at H
       have H' := Aside0.mk H
       clear H
       have p219 : 0 ≤ (x8_1 : Int) := zD
       have q219 : x8_1 < (l0.length : Int) := zD
       obtain ⟨ad219, A219_5, c219_5, e219, hx219_0, hx219_1, hx219_2, hx219_3, hx219_4, hx219_5, hl219_5, hi219_5⟩ := at_T73 HR0.out x8_1 p219 q219
       (try rw [← Nbq5.out] at hx219_4)
       cases e219
       replace hx219_0 := zh HB.out hx219_0
       replace hx219_1 := zh HB.out hx219_1
       replace hx219_2 := zh HB.out hx219_2
       replace hx219_3 := zh HB.out hx219_3
       replace hx219_4 := zh HB.out hx219_4
       replace hx219_5 := zh HB.out hx219_5
       have HR219_5 := Aside0.mk hi219_5
       have HC219_5 := Aside0.mk hl219_5
       clear hi219_5 hl219_5
       replace p219 := eq_true p219
       replace q219 := eq_true q219
       go_wp2_with (first | ((with_reducible refine gD 5 rfl ?_); refine bE 5 #[.int .i64 0, .int .i64 0, .int .i64 0, .int .i64 0, .bool false, .slice none 0 0] 73 ?_; intro gb220 hg w7 hbox hb; have BK220 := Aside0.mk hbox; have GW220 := Aside0.mk (zg (zL HB.out) hg : w.heap.size ≤ gb220); have GE220 := GW220; replace HB := zLB (zL HB.out) hb; clear hb hbox hg; have hcz8 := zc6 BK220.out; have hfz8 := zf6 BK220.out))
       go_roundg k1
       case measure => have := HK1.out; omega
       case rel => exact ⟨(wrap64 (x3_1 + 1)), (wrap64 (x8_1 + 1)), zV, zV, H', ⟨by have := HK1.out; omega⟩, ⟨zL1 HB.out GE220.out⟩⟩
      ·obtain rfl := Bool.eq_false_iff.mpr c6
       rw [if_neg zn] at H
       have H' := Aside0.mk H
       clear H
       have p219 : 0 ≤ (x8_1 : Int) := zD
       have q219 : x8_1 < (l0.length : Int) := zD
       obtain ⟨ad219, A219_5, c219_5, e219, hx219_0, hx219_1, hx219_2, hx219_3, hx219_4, hx219_5, hl219_5, hi219_5⟩ := at_T73 HR0.out x8_1 p219 q219
       (try rw [← Nbq5.out] at hx219_4)
       cases e219
       replace hx219_0 := zh HB.out hx219_0
       replace hx219_1 := zh HB.out hx219_1
       replace hx219_2 := zh HB.out hx219_2
       replace hx219_3 := zh HB.out hx219_3
       replace hx219_4 := zh HB.out hx219_4
       replace hx219_5 := zh HB.out hx219_5
       have HR219_5 := Aside0.mk hi219_5
       have HC219_5 := Aside0.mk hl219_5
       clear hi219_5 hl219_5
       replace p219 := eq_true p219
       replace q219 := eq_true q219
       go_wp2_with (first | ((with_reducible refine gD 5 rfl ?_); refine bE 5 #[.int .i64 0, .int .i64 0, .int .i64 0, .int .i64 0, .bool false, .slice none 0 0] 73 ?_; intro gb220 hg w9 hbox hb; have BK220 := Aside0.mk hbox; have GW220 := Aside0.mk (zg (zL HB.out) hg : w.heap.size ≤ gb220); have GE220 := GW220; replace HB := zLB (zL HB.out) hb; clear hb hbox hg; have hcz10 := zc6 BK220.out; have hfz10 := zf6 BK220.out))
       go_roundg k1
       case measure => have := HK1.out; omega
       case rel => exact ⟨(x3_1), (wrap64 (x8_1 + 1)), zV, zV, H', ⟨by have := HK1.out; omega⟩, ⟨zL1 HB.out GE220.out⟩⟩
     ·rw [if_neg c4] at H
      exact absurd H (by simp)
    ·rw [if_neg c3] at H
     exact absurd H (by simp)
   ·rw [if_neg c2] at H
    have c2b0 := decide_eq_false c2
    clear c2
    obtain rfl := Option.some.inj H
    go_wp2
    go_ret
    exact ⟨zW, zL HB.out⟩

open Go.Proofs.YtfhblnbicnmndaaW.PrintWords renaming blk_drewN → bN, blk_drew → bD, blk_alloc → bA, blk_cell → bC, blk_below → bB, below_set → bS
/-! ### impl_Span_107: function 107 -/
def impl_Span_107.l0 (F_ : Int → Int → Int → Int → Bool → List S83 → Option (Bool)) : Nat → List (S73) → Int → Int → Option (Int)
 | 0, _, _, _ => none
 | k + 1, x0, x7, x8 => if x8 < x7 then (if 0 ≤ x8 then (if x8 < (x0.length : Int) then ((F_ ((rd_T73 x0 x8).f0) ((rd_T73 x0 x8).f1) ((rd_T73 x0 x8).f2) ((rd_T73 x0 x8).f3) ((rd_T73 x0 x8).f4) ((rd_T73 x0 x8).f5)).bind fun t222 => (if t222 = true then (some x8) else (impl_Span_107.l0 F_ k x0 x7 (wrap64 (x8 + 1))))) else (none)) else (none)) else (some (-1))
def impl_Span_107.f (F_ : Int → Int → Int → Int → Bool → List S83 → Option (Bool)) (k : Nat) (l0 : List (S73)) : Option (Int) := impl_Span_107.l0 F_ k l0 (l0.length : Int) 0
set_option maxHeartbeats 8000000 in
set_option maxRecDepth 100000 in
theorem impl_Span_107.calls {F_ : Int → Int → Int → Int → Bool → List S83 → Option (Bool)} {f_ : FuncId} {fn_ : Func} {c_ : Array Value} (hf_ : Try.prog.funcs[f_]? = some fn_) (hn_ : (fn_.name == "runtime.NumGoroutine") = false) (hb_ : fn_.body.isSome = true) (k : Nat) (A0 : Option Addr) (c0 : Nat) (l0 : List (S73)) (r : Int) (w : World) (hF_ : ∀ (x0_ x1_ x2_ x3_ : Int) (x4_ : Bool) (A5_ : Option Addr) (c5_ : Nat) (x5_ : List S83) (q_ : Bool) (W_ : World), Below w.heap.size w W_ → Kd.C k83 W_ A5_ x5_.length x5_ → x5_.length ≤ c5_ → F_ x0_ x1_ x2_ x3_ x4_ x5_ = some q_ → Calls Try.prog f_ (#[.agg #[.int .i64 x0_, .int .i64 x1_, .int .i64 x2_, .int .i64 x3_, .bool x4_, .slice A5_ x5_.length c5_]] ++ c_) W_ fun e w' => e = .returned (.bool q_) ∧ Below W_.heap.size W_ w') (hr0 : Kd.C k73 w A0 l0.length l0) (hc0 : l0.length ≤ c0) (h : impl_Span_107.f F_ k l0 = some r) :
  Calls Try.prog 107 #[.slice A0 l0.length c0, .func (.func f_) #[] c_] w fun e w' => e = .returned (.int .i64 r) ∧ Below w.heap.size w w' := by
 have hu73 := Try.underlying73
 have HR0 := Aside0.mk hr0
 have HC0 := Aside0.mk hc0
 clear hr0 hc0
 have HB := Aside0.mk (Below.refl w.heap.size w)
 unfold impl_Span_107.f at h; have H := h
 clear h
 have H' := Aside0.mk H
 clear H
 go_enter Try.func107, Try.ntmps107
 go_wp2
 go_loopg [8] k (fun kq v8 w' => ∃ (x8_1 : Int), v8 = .int .i64 x8_1 ∧ Aside0 (impl_Span_107.l0 F_ kq l0 (l0.length : Int) x8_1 = some r) ∧ Aside0 (kq ≤ k) ∧ Aside0 (Below w.heap.size w w'))
 case atStart => exact ⟨(0), zV, H', ⟨Nat.le_refl _⟩, ⟨zL HB.out⟩⟩
 case round =>
  clear H'
  try clear c1
  obtain ⟨x8_1, rfl, HA, HK1, HB⟩ := hrel
  cases gk with
  | zero => exact absurd HA.out (by simp [impl_Span_107.l0])
  | succ k1 =>
   have H := HA.out
   clear HA
   simp only [impl_Span_107.l0] at H
   by_cases c2 : x8_1 < (l0.length : Int)
   ·rw [if_pos c2] at H
    have c2b0 := decide_eq_true c2
    clear c2
    by_cases c3 : 0 ≤ x8_1
    ·rw [if_pos c3] at H
     have c3b0 := decide_eq_true c3
     clear c3
     by_cases c4 : x8_1 < (l0.length : Int)
     ·rw [if_pos c4] at H
      have c4b0 := decide_eq_true c4
      clear c4
      obtain ⟨t222, A5, H⟩ := zO H; try dsimp only at H
      by_cases c6 : t222 = true
      ·subst c6
       rw [if_pos rfl] at H
       obtain rfl := Option.some.inj H
       have p221 : 0 ≤ (x8_1 : Int) := zD
       have q221 : x8_1 < (l0.length : Int) := zD
       obtain ⟨ad221, A221_5, c221_5, e221, hx221_0, hx221_1, hx221_2, hx221_3, hx221_4, hx221_5, hl221_5, hi221_5⟩ := at_T73 HR0.out x8_1 p221 q221
       cases e221
       replace hx221_0 := zh HB.out hx221_0
       replace hx221_1 := zh HB.out hx221_1
       replace hx221_2 := zh HB.out hx221_2
       replace hx221_3 := zh HB.out hx221_3
       replace hx221_4 := zh HB.out hx221_4
       replace hx221_5 := zh HB.out hx221_5
       have HR221_5 := Aside0.mk hi221_5
       have HC221_5 := Aside0.mk hl221_5
       clear hi221_5 hl221_5
       replace p221 := eq_true p221
       replace q221 := eq_true q221
       go_wp2_with (first | ((with_reducible refine gate_calleeC (t := 11) rfl ?_); refine goesC_ (t := 11) (f := f_) (cap := c_) (by rfl) (some 16) rfl rfl hf_ hn_ hb_ #[.agg #[.int .i64 ((rd_T73 l0 x8_1).f0), .int .i64 ((rd_T73 l0 x8_1).f1), .int .i64 ((rd_T73 l0 x8_1).f2), .int .i64 ((rd_T73 l0 x8_1).f3), .bool ((rd_T73 l0 x8_1).f4), .slice A221_5 ((rd_T73 l0 x8_1).f5).length c221_5]] rfl zE ?_; (with_reducible refine (hF_ ((rd_T73 l0 x8_1).f0) ((rd_T73 l0 x8_1).f1) ((rd_T73 l0 x8_1).f2) ((rd_T73 l0 x8_1).f3) ((rd_T73 l0 x8_1).f4) _ _ ((rd_T73 l0 x8_1).f5) true _ HB.out ?side1 ?side2 A5.out).mono ?_); (case side1 => exact zC (Kd.C_below HR221_5.out HB.out)); (case side2 => exact HC221_5.out); rintro e w7 ⟨rfl, hb⟩; refine ⟨_, rfl, ?_⟩; replace HB := zLB (zL HB.out) hb; clear hb))
       go_ret
       exact ⟨zW, zL HB.out⟩
      ·obtain rfl := Bool.eq_false_iff.mpr c6
       rw [if_neg zn] at H
       have H' := Aside0.mk H
       clear H
       have p221 : 0 ≤ (x8_1 : Int) := zD
       have q221 : x8_1 < (l0.length : Int) := zD
       obtain ⟨ad221, A221_5, c221_5, e221, hx221_0, hx221_1, hx221_2, hx221_3, hx221_4, hx221_5, hl221_5, hi221_5⟩ := at_T73 HR0.out x8_1 p221 q221
       cases e221
       replace hx221_0 := zh HB.out hx221_0
       replace hx221_1 := zh HB.out hx221_1
       replace hx221_2 := zh HB.out hx221_2
       replace hx221_3 := zh HB.out hx221_3
       replace hx221_4 := zh HB.out hx221_4
       replace hx221_5 := zh HB.out hx221_5
       have HR221_5 := Aside0.mk hi221_5
       have HC221_5 := Aside0.mk hl221_5
       clear hi221_5 hl221_5
       replace p221 := eq_true p221
       replace q221 := eq_true q221
       go_wp2_with (first | ((with_reducible refine gate_calleeC (t := 11) rfl ?_); refine goesC_ (t := 11) (f := f_) (cap := c_) (by rfl) (some 16) rfl rfl hf_ hn_ hb_ #[.agg #[.int .i64 ((rd_T73 l0 x8_1).f0), .int .i64 ((rd_T73 l0 x8_1).f1), .int .i64 ((rd_T73 l0 x8_1).f2), .int .i64 ((rd_T73 l0 x8_1).f3), .bool ((rd_T73 l0 x8_1).f4), .slice A221_5 ((rd_T73 l0 x8_1).f5).length c221_5]] rfl zE ?_; (with_reducible refine (hF_ ((rd_T73 l0 x8_1).f0) ((rd_T73 l0 x8_1).f1) ((rd_T73 l0 x8_1).f2) ((rd_T73 l0 x8_1).f3) ((rd_T73 l0 x8_1).f4) _ _ ((rd_T73 l0 x8_1).f5) false _ HB.out ?side1 ?side2 A5.out).mono ?_); (case side1 => exact zC (Kd.C_below HR221_5.out HB.out)); (case side2 => exact HC221_5.out); rintro e w8 ⟨rfl, hb⟩; refine ⟨_, rfl, ?_⟩; replace HB := zLB (zL HB.out) hb; clear hb))
       go_roundg k1
       case measure => have := HK1.out; omega
       case rel => exact ⟨(wrap64 (x8_1 + 1)), zV, H', ⟨by have := HK1.out; omega⟩, ⟨zL HB.out⟩⟩
     ·rw [if_neg c4] at H
      exact absurd H (by simp)
    ·rw [if_neg c3] at H
     exact absurd H (by simp)
   ·rw [if_neg c2] at H
    have c2b0 := decide_eq_false c2
    clear c2
    obtain rfl := Option.some.inj H
    go_wp2
    go_ret
    exact ⟨zW, zL HB.out⟩

/-! ### impl_Span_87: function 87, by hand -/
/-- The function value of code f_ and captures c_ answers of a thing as F_ does, in each later world. -/
@[reducible] def CloS (F_ : Int → Int → Int → Int → Bool → List S83 → Option (Bool)) (f_ : FuncId) (c_ : Array Value) (w : World) : Prop := ∀ (x0_ x1_ x2_ x3_ : Int) (x4_ : Bool) (A5_ : Option Addr) (c5_ : Nat) (x5_ : List S83) (q_ : Bool) (W_ : World), Below w.heap.size w W_ → Kd.C k83 W_ A5_ x5_.length x5_ → x5_.length ≤ c5_ → F_ x0_ x1_ x2_ x3_ x4_ x5_ = some q_ → Calls Try.prog f_ (#[.agg #[.int .i64 x0_, .int .i64 x1_, .int .i64 x2_, .int .i64 x3_, .bool x4_, .slice A5_ x5_.length c5_]] ++ c_) W_ fun e w' => e = .returned (.bool q_) ∧ Below W_.heap.size W_ w'
def impl_Span_87.f (F_ : Int → Int → Int → Int → Bool → List S83 → Option (Bool)) (k : Nat) (l0 : List (S73)) : Option Bool := (impl_Span_107.f F_ k l0).bind fun t => some (decide (0 ≤ t))
section
variable {f_ : FuncId} {fn_ : Func} {c_ : Array Value} (hf_ : Try.prog.funcs[f_]? = some fn_) (hn_ : (fn_.name == "runtime.NumGoroutine") = false) (hb_ : fn_.body.isSome = true) (k : Nat) (A0 : Option Addr) (c0 : Nat)
set_option maxHeartbeats 8000000 in
set_option maxRecDepth 100000 in
include hf_ hn_ hb_ in
theorem impl_Span_87.calls {F_ : Int → Int → Int → Int → Bool → List S83 → Option (Bool)} (l0 : List S73) (r : Bool) (w : World) (hF_ : CloS F_ f_ c_ w) (hr0 : Kd.C k73 w A0 l0.length l0) (hc0 : l0.length ≤ c0) (h : impl_Span_87.f F_ k l0 = some r) :
    Calls Try.prog 87 #[.slice A0 l0.length c0, .func (.func f_) #[] c_] w fun e w' => e = .returned (.bool r) ∧ Below w.heap.size w w' := by
  unfold impl_Span_87.f at h
  obtain ⟨t, ht, h⟩ := Option.bind_eq_some_iff.mp h
  obtain rfl := Option.some.inj h
  have HX := Aside0.mk (impl_Span_107.calls hf_ hn_ hb_ k A0 c0 l0 t w hF_ hr0 hc0 ht)
  clear hF_ hr0 hc0 ht h
  go_enter Try.func87, Try.ntmps87
  go_wp2_with (go_at_call 107; refine HX.out.mono ?_; rintro e w7 ⟨rfl, hb⟩; have HB := Aside0.mk hb; clear hb)
  go_ret
  exact ⟨rfl, HB.out⟩
set_option maxHeartbeats 8000000 in
set_option maxRecDepth 100000 in
include hf_ hn_ hb_ in
theorem impl_someSpan.calls {F_ : Int → Int → Int → Int → Bool → List S83 → Option (Bool)} (l0 : List S73) (r : Bool) (w : World) (hF_ : CloS F_ f_ c_ w) (hr0 : Kd.C k73 w A0 l0.length l0) (hc0 : l0.length ≤ c0) (h : impl_Span_87.f F_ k l0 = some r) :
    Calls Try.prog 63 #[.slice A0 l0.length c0, .func (.func f_) #[] c_] w fun e w' => e = .returned (.bool r) ∧ Below w.heap.size w w' := by
  have HX := Aside0.mk (impl_Span_87.calls hf_ hn_ hb_ k A0 c0 l0 r w hF_ hr0 hc0 h)
  clear hF_ hr0 hc0 h
  go_enter Try.func63, Try.ntmps63
  go_wp2_with (go_at_call 87; refine HX.out.mono ?_; rintro e w7 ⟨rfl, hb⟩; have HB := Aside0.mk hb; clear hb)
  go_ret
  exact ⟨rfl, HB.out⟩
end

-- impl_someSpan: by hand, with its caller

open Go.Proofs.YtfhblnbicnmndaaW.PrintWords renaming blk_drewN → bN, blk_drew → bD, blk_alloc → bA, blk_cell → bC, blk_below → bB, below_set → bS
/-! ### impl_Cap: function 45 -/
def impl_Cap.f (a0 : Int) : Option (Int) := some (mn (mx a0 0) 2147483647)
set_option maxHeartbeats 8000000 in
set_option maxRecDepth 100000 in
theorem impl_Cap.calls (a0 : Int) (r : Int) (w : World) (h : impl_Cap.f a0 = some r) :
  Calls Try.prog 45 #[.int .i64 a0] w fun e w' => e = .returned (.int .i64 r) ∧ Below w.heap.size w w' := by
 have HB := Aside0.mk (Below.refl w.heap.size w)
 unfold impl_Cap.f at h; have H := h
 clear h
 obtain ⟨ji2, hji2⟩ : ∃ j_ : Int, (mx a0 0) = j_ := ⟨_, rfl⟩
 replace H : (some (mn (ji2) 2147483647)) = some r := by first | (rw [hji2] at H; exact H) | (simp only [hji2] at H ⊢; exact H)
 (try (have hji2l : 0 ≤ ji2 := by (rw [← hji2]; unfold mx; (repeat' split) <;> omega)))
 (try (have hji2m : 0 ≤ ji2 := by omega))
 have hji2_ : (if a0 < 0 then 0 else a0) = ji2 := hji2
 obtain ⟨ji3, hji3⟩ : ∃ j_ : Int, (mn (ji2) 2147483647) = j_ := ⟨_, rfl⟩
 replace H : (some ji3) = some r := by first | (rw [hji3] at H; exact H) | (simp only [hji3] at H ⊢; exact H)
 have hji3_ : (if 2147483647 < (ji2) then 2147483647 else (ji2)) = ji3 := hji3
 obtain rfl := Option.some.inj H
 go_enter Try.func45, Try.ntmps45
 go_wp2
 go_ret
 exact ⟨by first | rfl | (simp [errW_none, errW_some] <;> rfl) | (simp only [← hji2, ← hji3]; first | rfl | (simp [errW_none, errW_some] <;> rfl)) | (simp [*, errW_none, errW_some] <;> rfl), zL HB.out⟩

open Go.Proofs.YtfhblnbicnmndaaW.PrintWords renaming blk_drewN → bN, blk_drew → bD, blk_alloc → bA, blk_cell → bC, blk_below → bB, below_set → bS
/-! ### impl_Sub: function 88 -/
def impl_Sub.f (a0 : Int) (a1 : Int) : Option (Int) := (impl_Cap.f a0).bind fun t223 => ((impl_Cap.f a1).bind fun t224 => ((impl_Cap.f (wrap64 (t223 - t224))).bind fun t225 => (some t225)))
set_option maxHeartbeats 8000000 in
set_option maxRecDepth 100000 in
theorem impl_Sub.calls (a0 : Int) (a1 : Int) (r : Int) (w : World) (h : impl_Sub.f a0 a1 = some r) :
  Calls Try.prog 88 #[.int .i64 a0, .int .i64 a1] w fun e w' => e = .returned (.int .i64 r) ∧ Below w.heap.size w w' := by
 have HB := Aside0.mk (Below.refl w.heap.size w)
 unfold impl_Sub.f at h; have H := h
 clear h
 obtain ⟨t223, A3, H⟩ := zO H; try dsimp only at H
 obtain ⟨t224, A4, H⟩ := zO H; try dsimp only at H
 obtain ⟨t225, A5, H⟩ := zO H; try dsimp only at H
 obtain rfl := Option.some.inj H
 go_enter Try.func88, Try.ntmps88
 go_wp2_with (first | ((with_reducible refine gC 45 rfl ?_); refine gL 6 Try.func45 #[.int .i64 a0] ?_; (with_reducible refine (impl_Cap.calls a0 t223 _ A3.out).mono ?_); rintro e w6 ⟨rfl, hb⟩; refine ⟨_, rfl, ?_⟩; replace HB := zLB (zL HB.out) hb; clear hb) | ((with_reducible refine gC 45 rfl ?_); refine gL 8 Try.func45 #[.int .i64 a1] ?_; (with_reducible refine (impl_Cap.calls a1 t224 _ A4.out).mono ?_); rintro e w7 ⟨rfl, hb⟩; refine ⟨_, rfl, ?_⟩; replace HB := zLB (zL HB.out) hb; clear hb) | ((with_reducible refine gC 45 rfl ?_); refine gL 10 Try.func45 #[.int .i64 (wrap64 (t223 - t224))] ?_; (with_reducible refine (impl_Cap.calls (wrap64 (t223 - t224)) t225 _ A5.out).mono ?_); rintro e w8 ⟨rfl, hb⟩; refine ⟨_, rfl, ?_⟩; replace HB := zLB (zL HB.out) hb; clear hb))
 go_ret
 exact ⟨zW, zL HB.out⟩

open Go.Proofs.YtfhblnbicnmndaaW.PrintWords renaming blk_drewN → bN, blk_drew → bD, blk_alloc → bA, blk_cell → bC, blk_below → bB, below_set → bS
/-! ### impl_LengthOf: function 65 -/
def impl_LengthOf.f (a0_0 : Int) (a0_1 : Int) (a0_2 : Int) (a0_3 : Int) (a0_4 : Bool) (l0_5 : List (S83)) : Option (Int) := (impl_Sub.f a0_3 a0_2).bind fun t227 => (some t227)
set_option maxHeartbeats 8000000 in
set_option maxRecDepth 100000 in
theorem impl_LengthOf.calls (a0_0 : Int) (a0_1 : Int) (a0_2 : Int) (a0_3 : Int) (a0_4 : Bool) (A0_5 : Option Addr) (c0_5 : Nat) (l0_5 : List (S83)) (r : Int) (w : World) (hr0_5 : Kd.C k83 w A0_5 l0_5.length l0_5) (hc0_5 : l0_5.length ≤ c0_5) (h : impl_LengthOf.f a0_0 a0_1 a0_2 a0_3 a0_4 l0_5 = some r) :
  Calls Try.prog 65 #[.agg #[.int .i64 a0_0, .int .i64 a0_1, .int .i64 a0_2, .int .i64 a0_3, .bool a0_4, .slice A0_5 l0_5.length c0_5]] w fun e w' => e = .returned (.int .i64 r) ∧ Below w.heap.size w w' := by
 have hu73 := Try.underlying73
 have HR0_5 := Aside0.mk hr0_5
 have HC0_5 := Aside0.mk hc0_5
 clear hr0_5 hc0_5
 have HB := Aside0.mk (Below.refl w.heap.size w)
 unfold impl_LengthOf.f at h; have H := h
 clear h
 obtain ⟨t227, A2, H⟩ := zO H; try dsimp only at H
 obtain rfl := Option.some.inj H
 go_enter Try.func65, Try.ntmps65
 go_wp2_with (first | ((with_reducible refine gD 1 rfl ?_); refine bE 1 #[.int .i64 a0_0, .int .i64 a0_1, .int .i64 a0_2, .int .i64 a0_3, .bool a0_4, .slice A0_5 l0_5.length c0_5] 73 ?_; intro gb226 hg w3 hbox hb; have BK226 := Aside0.mk hbox; have GW226 := Aside0.mk (zg (zL HB.out) hg : w.heap.size ≤ gb226); have GE226 := GW226; replace HB := zLB (zL HB.out) hb; clear hb hbox hg; have hcz4 := zc6 BK226.out; have hfz4 := zf6 BK226.out) | ((with_reducible refine gC 88 rfl ?_); refine gL 7 Try.func88 #[.int .i64 a0_3, .int .i64 a0_2] ?_; (with_reducible refine (impl_Sub.calls a0_3 a0_2 t227 _ A2.out).mono ?_); rintro e w5 ⟨rfl, hb⟩; refine ⟨_, rfl, ?_⟩; replace BK226 := zBB BK226 hb; replace HB := zLB (zL1 HB.out GE226.out) hb; clear hb))
 go_ret
 exact ⟨zW, zL1 HB.out GE226.out⟩

open Go.Proofs.YtfhblnbicnmndaaW.PrintWords renaming blk_drewN → bN, blk_drew → bD, blk_alloc → bA, blk_cell → bC, blk_below → bB, below_set → bS
/-! ### impl_FindAttr: function 67 -/
def impl_FindAttr.l0 : Nat → ByteArray → List (S83) → Int → Int → Option (ByteArray × Bool × Int × ByteArray × Bool)
 | 0, _, _, _, _ => none
 | k + 1, x1, x8, x9, x10 => if x10 < x9 then (if 0 ≤ x10 then (if x10 < (x8.length : Int) then (if ((rd_T83 x8 x10).f0).toList = x1.toList then (some ((rd_T83 x8 x10).f0, (rd_T83 x8 x10).f1, (rd_T83 x8 x10).f2, (rd_T83 x8 x10).f3, true)) else (impl_FindAttr.l0 k x1 x8 x9 (wrap64 (x10 + 1)))) else (none)) else (none)) else (some ((⟨#[]⟩ : ByteArray), false, 0, (⟨#[]⟩ : ByteArray), false))
def impl_FindAttr.f (k : Nat) (l0 : List (S83)) (a1 : ByteArray) : Option (ByteArray × Bool × Int × ByteArray × Bool) := impl_FindAttr.l0 k a1 l0 (l0.length : Int) 0
theorem impl_FindAttr.mono_l : ∀ k, (∀ y0 y1 y2 y3, LeO (impl_FindAttr.l0 k y0 y1 y2 y3) (impl_FindAttr.l0 (k + 1) y0 y1 y2 y3))
 | 0 => fun _ _ _ _ r h => by simp [impl_FindAttr.l0] at h
 | k + 1 => by
  have ih0 := impl_FindAttr.mono_l k
  ·intro y0 y1 y2 y3
   unfold impl_FindAttr.l0
   repeat' first
   | (with_reducible exact ih0 _ _ _ _)
   | (with_reducible exact LeO.refl _)
   | (with_reducible exact LeO.none _)
   | (with_reducible refine LeO.ite ?_ ?_)
   | (with_reducible refine LeO.bind ?_ (fun _ => ?_))
   | exact ih0 _ _ _ _
   | exact LeO.none _
   | refine LeO.ite ?_ ?_
   | refine LeO.bind ?_ (fun _ => ?_)
theorem impl_FindAttr.mono : ∀ a0 a1 k, LeO (impl_FindAttr.f k a0 a1) (impl_FindAttr.f (k + 1) a0 a1) := by
 intro a0 a1 k
 have ih0 := impl_FindAttr.mono_l k
 unfold impl_FindAttr.f
 repeat' first
   | (with_reducible exact ih0 _ _ _ _)
   | (with_reducible exact LeO.refl _)
   | (with_reducible exact LeO.none _)
   | (with_reducible refine LeO.ite ?_ ?_)
   | (with_reducible refine LeO.bind ?_ (fun _ => ?_))
   | exact ih0 _ _ _ _
   | exact LeO.none _
   | refine LeO.ite ?_ ?_
   | refine LeO.bind ?_ (fun _ => ?_)
set_option maxHeartbeats 8000000 in
set_option maxRecDepth 100000 in
theorem impl_FindAttr.calls (k : Nat) (A0 : Option Addr) (c0 : Nat) (l0 : List (S83)) (a1 : ByteArray) (r1 : ByteArray) (r2 : Bool) (r3 : Int) (r4 : ByteArray) (r5 : Bool) (w : World) (hr0 : Kd.C k83 w A0 l0.length l0) (hc0 : l0.length ≤ c0) (h : impl_FindAttr.f k l0 a1 = some (r1, r2, r3, r4, r5)) :
  Calls Try.prog 67 #[.slice A0 l0.length c0, .string a1] w fun e w' => e = .returned (.tuple #[.agg #[.string r1, .bool r2, .int .i64 r3, .string r4], .bool r5]) ∧ Below w.heap.size w w' := by
 have hu83 := Try.underlying83
 have HR0 := Aside0.mk hr0
 have HC0 := Aside0.mk hc0
 clear hr0 hc0
 have HB := Aside0.mk (Below.refl w.heap.size w)
 unfold impl_FindAttr.f at h; have H := h
 clear h
 have H' := Aside0.mk H
 clear H
 go_enter Try.func67, Try.ntmps67
 go_wp2_with (first | ((with_reducible refine gD 4 rfl ?_); refine bE 4 #[.string (⟨#[]⟩ : ByteArray), .bool false, .int .i64 0, .string (⟨#[]⟩ : ByteArray)] 83 ?_; intro gb228 hg w3 hbox hb; have BK228 := Aside0.mk hbox; have GW228 := Aside0.mk (zg (zL HB.out) hg : w.heap.size ≤ gb228); have GE228 := GW228; replace HB := zLB (zL HB.out) hb; clear hb hbox hg))
 go_loopg [10] k (fun kq v10 w' => ∃ (x10_1 : Int) (x229000_1 : ByteArray) (x229001_1 : Bool) (x229002_1 : Int) (x229003_1 : ByteArray), v10 = .int .i64 x10_1 ∧ Aside0 (impl_FindAttr.l0 kq a1 l0 (l0.length : Int) x10_1 = some (r1, r2, r3, r4, r5)) ∧ Aside0 (kq ≤ k) ∧ Aside0 (w'.heap[gb228]? = some (.cells #[.string x229000_1, .bool x229001_1, .int .i64 x229002_1, .string x229003_1] 83 (0, 0))) ∧ Aside0 (Below w.heap.size w w'))
 case atStart => exact ⟨(0), ((⟨#[]⟩ : ByteArray)), (false), (0), ((⟨#[]⟩ : ByteArray)), zV, H', ⟨Nat.le_refl _⟩, ⟨zB BK228.out⟩, ⟨zL1 HB.out GE228.out⟩⟩
 case round =>
  clear H'
  try clear p2
  try clear BK228
  obtain ⟨x10_1, x229000_1, x229001_1, x229002_1, x229003_1, rfl, HA, HK1, BK228, HB⟩ := hrel
  cases gk with
  | zero => exact absurd HA.out (by simp [impl_FindAttr.l0])
  | succ k1 =>
   have H := HA.out
   clear HA
   simp only [impl_FindAttr.l0] at H
   by_cases c4 : x10_1 < (l0.length : Int)
   ·rw [if_pos c4] at H
    have c4b0 := decide_eq_true c4
    clear c4
    by_cases c5 : 0 ≤ x10_1
    ·rw [if_pos c5] at H
     have c5b0 := decide_eq_true c5
     clear c5
     by_cases c6 : x10_1 < (l0.length : Int)
     ·rw [if_pos c6] at H
      have c6b0 := decide_eq_true c6
      clear c6
      by_cases c7 : ((rd_T83 l0 x10_1).f0).toList = a1.toList
      ·rw [if_pos c7] at H
       obtain ⟨c7b0, c7b1⟩ := zt c7
       clear c7
       simp only [Option.some.injEq, Prod.mk.injEq] at H
       obtain ⟨rfl, rfl, rfl, rfl, rfl⟩ := H
       have p229 : 0 ≤ (x10_1 : Int) := zD
       have q229 : x10_1 < (l0.length : Int) := zD
       obtain ⟨ad229, e229, hx229_0, hx229_1, hx229_2, hx229_3⟩ := at_T83 HR0.out x10_1 p229 q229
       cases e229
       replace hx229_0 := zh HB.out hx229_0
       replace hx229_1 := zh HB.out hx229_1
       replace hx229_2 := zh HB.out hx229_2
       replace hx229_3 := zh HB.out hx229_3
       replace p229 := eq_true p229
       replace q229 := eq_true q229
       go_wp2_with (first | ((with_reducible refine gD 7 rfl ?_); refine bE 7 #[.string (⟨#[]⟩ : ByteArray), .bool false, .int .i64 0, .string (⟨#[]⟩ : ByteArray)] 83 ?_; intro gb230 hg w8 hbox hb; have BK230 := Aside0.mk hbox; have GW230 := Aside0.mk (zg (zL1 HB.out GE228.out) hg : w.heap.size ≤ gb230); have GE230 := GW230; replace HB := zLB (zL1 HB.out GE228.out) hb; have NB228_230 := Aside0.mk (zN BK228.out hg : gb228 ≠ gb230); have NB230_228 := Aside0.mk (zM BK228.out hg : gb230 ≠ gb228); replace BK228 := zBB BK228 hb; clear hb hbox hg; have hnb9 := NB230_228.out; have hnc9 := NB228_230.out; have hcz10 := zc4 BK230.out; have hfz10 := zf4 BK230.out; have hcz11 := zc4 BK228.out; have hfz11 := zf4 BK228.out))
       refine bodyPost_ret (results_ct rfl _ _ gb228 83 #[.string ((rd_T83 l0 x10_1).f0), .bool ((rd_T83 l0 x10_1).f1), .int .i64 ((rd_T83 l0 x10_1).f2), .string ((rd_T83 l0 x10_1).f3)] (0, 0) _ rfl (by refine zB ?_; refine zp4 (cs := #[.string x229000_1, .bool x229001_1, .int .i64 x229002_1, .string x229003_1]) ?_; refine zB ?_; refine zr4 ?_ NB228_230.out; exact zB BK228.out) Try.underlying83 rfl (by kernel_rfl)) rfl ?_
       exact ⟨zW, zL2 HB.out GE228.out GE230.out⟩
      ·rw [if_neg c7] at H
       obtain ⟨c7b0, c7b1⟩ := zf c7
       have H' := Aside0.mk H
       clear H
       have p229 : 0 ≤ (x10_1 : Int) := zD
       have q229 : x10_1 < (l0.length : Int) := zD
       obtain ⟨ad229, e229, hx229_0, hx229_1, hx229_2, hx229_3⟩ := at_T83 HR0.out x10_1 p229 q229
       cases e229
       replace hx229_0 := zh HB.out hx229_0
       replace hx229_1 := zh HB.out hx229_1
       replace hx229_2 := zh HB.out hx229_2
       replace hx229_3 := zh HB.out hx229_3
       replace p229 := eq_true p229
       replace q229 := eq_true q229
       go_wp2_with (first | ((with_reducible refine gD 7 rfl ?_); refine bE 7 #[.string (⟨#[]⟩ : ByteArray), .bool false, .int .i64 0, .string (⟨#[]⟩ : ByteArray)] 83 ?_; intro gb230 hg w12 hbox hb; have BK230 := Aside0.mk hbox; have GW230 := Aside0.mk (zg (zL1 HB.out GE228.out) hg : w.heap.size ≤ gb230); have GE230 := GW230; replace HB := zLB (zL1 HB.out GE228.out) hb; have NB228_230 := Aside0.mk (zN BK228.out hg : gb228 ≠ gb230); have NB230_228 := Aside0.mk (zM BK228.out hg : gb230 ≠ gb228); replace BK228 := zBB BK228 hb; clear hb hbox hg; have hnb13 := NB230_228.out; have hnc13 := NB228_230.out; have hcz14 := zc4 BK230.out; have hfz14 := zf4 BK230.out))
       go_roundg k1
       case measure => have := HK1.out; omega
       case rel => exact ⟨(wrap64 (x10_1 + 1)), (x229000_1), (x229001_1), (x229002_1), (x229003_1), zV, H', ⟨by have := HK1.out; omega⟩, ⟨by refine zB ?_; refine zr4 ?_ NB228_230.out; exact zB BK228.out⟩, ⟨zL2 HB.out GE228.out GE230.out⟩⟩
     ·rw [if_neg c6] at H
      exact absurd H (by simp)
    ·rw [if_neg c5] at H
     exact absurd H (by simp)
   ·rw [if_neg c4] at H
    have c4b0 := decide_eq_false c4
    clear c4
    simp only [Option.some.injEq, Prod.mk.injEq] at H
    obtain ⟨rfl, rfl, rfl, rfl, rfl⟩ := H
    have hcz15 := zc4 BK228.out
    have hfz15 := zf4 BK228.out
    go_wp2
    refine bodyPost_ret (results_ct rfl _ _ gb228 83 #[.string (⟨#[]⟩ : ByteArray), .bool false, .int .i64 0, .string (⟨#[]⟩ : ByteArray)] (0, 0) _ rfl (by refine zB ?_; refine zp4 (cs := #[.string x229000_1, .bool x229001_1, .int .i64 x229002_1, .string x229003_1]) ?_; exact zB BK228.out) Try.underlying83 rfl (by kernel_rfl)) rfl ?_
    exact ⟨zW, zL1 HB.out GE228.out⟩

end Go.Proofs.Ytfhblnbicnmndaa.QFnExactJudge
