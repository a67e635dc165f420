/- What the Go functions that the law FnJudges reaches answer: each as a Lean function, with its walk. Written by a program of this session. Conditions: those that each theorem names. -/
import Derived.Test.YtfhblnbicnmndaaQFnJudgesx0
namespace Go.Proofs.Ytfhblnbicnmndaa.QFnJudges
open Go.RowKit Go.Proofs.YtfhblnbicnmndaaW.PrintWords Go.Proofs.YtfhblnbicnmndaaW.PrintLast Go.Proofs.YtfhblnbicnmndaaW.PrintMore
attribute [local go_sem] max2_int min2_int max_two min_two max_three min_three max_four min_four   -- for this text's walks alone
set_option linter.unusedVariables false
set_option linter.unusedSimpArgs false

section
variable {P : Program} {ops : Array Oper} {rest : List Oper} {Q : Exit → Act → World → Prop} {W : World} {a : Act}
/-- The operation is a call of a function value in a place. -/
theorem gate_calleeC {o : Oper} {t : Tmp} {us : Array Operand} {ts : Array TypeId} (_ho : o.op = .call { callee := .value (.tmp t), args := us, argTypes := ts }) (h : wpList P ops Q (o :: rest) a W) : wpList P ops Q (o :: rest) a W := h
/-- A call of a closure, in a plain region. -/
theorem goesC_ {oi : Oper} {w : World} {t : Tmp} {f : FuncId} {cap : Array Value} (hv : a.eval (.tmp t) = .func (.func f) #[] cap) (N : Option Tmp) (hd : oi.dst = N) (hg : oi.guard = none) {fn : Func} {us : Array Operand} {ts : Array TypeId} (hf : P.funcs[f]? = some fn) (hname : (fn.name == "runtime.NumGoroutine") = false) (hb : fn.body.isSome = true) (args : Array Value)
    (hop : oi.op = .call { callee := .value (.tmp t), args := us, argTypes := ts }) (hargs : us.map a.eval = args)
    (h : Calls P f (args ++ cap) w fun e w' => ∃ v, e = .returned v ∧ wpList P ops Q rest (a.put N v) w') : wpList P ops Q (oi :: rest) a w := by
  refine wpList_plain hg fun K hK => ?_
  have he := enters_ hf hname hb (args ++ cap) w
  have hrun : (execOp a.eval oi).run P w = .ok (.enter f (args ++ cap)) w := by
    unfold execOp
    simp [hop, resolve, Deferred.ofValue, invoke, hv, hargs, he]
  unfold Oper.wp
  rw [hrun, Oper.upon_enter]
  refine h.mono fun e w'' hh => ?_
  obtain ⟨v, rfl, hk⟩ := hh
  subst hd
  exact hK _ _ hk
end
open Go.Proofs.YtfhblnbicnmndaaW.PrintWords renaming blk_drewN → bN, blk_drew → bD, blk_alloc → bA, blk_cell → bC, blk_below → bB, below_set → bS
/-! ### impl_Pol_78: function 78 -/
def impl_Pol_78.l0 (F_ : Int → Int → ByteArray → ByteArray → List S29 → Option (Bool)) : Nat → List (S29) → Int → Int → Option (Int)
 | 0, _, _, _ => none
 | k + 1, x0, x7, x8 => if x8 < x7 then (if 0 ≤ x8 then (if x8 < (x0.length : Int) then ((F_ ((rd_T29 x0 x8).f0) ((rd_T29 x0 x8).f1) ((rd_T29 x0 x8).f2) ((rd_T29 x0 x8).f3) ((rd_T29 x0 x8).f4)).bind fun t102 => (if t102 = true then (some x8) else (impl_Pol_78.l0 F_ k x0 x7 (wrap64 (x8 + 1))))) else (none)) else (none)) else (some (-1))
def impl_Pol_78.f (F_ : Int → Int → ByteArray → ByteArray → List S29 → Option (Bool)) (k : Nat) (l0 : List (S29)) : Option (Int) := impl_Pol_78.l0 F_ k l0 (l0.length : Int) 0
set_option maxHeartbeats 8000000 in
set_option maxRecDepth 100000 in
theorem impl_Pol_78.calls {F_ : Int → Int → ByteArray → ByteArray → List S29 → Option (Bool)} {f_ : FuncId} {fn_ : Func} {c_ : Array Value} (hf_ : Try.prog.funcs[f_]? = some fn_) (hn_ : (fn_.name == "runtime.NumGoroutine") = false) (hb_ : fn_.body.isSome = true) (k : Nat) (A0 : Option Addr) (c0 : Nat) (l0 : List (S29)) (r : Int) (w : World) (hF_ : ∀ (x0_ x1_ : Int) (x2_ x3_ : ByteArray) (A4_ : Option Addr) (c4_ : Nat) (x4_ : List S29) (q_ : Bool) (W_ : World), Below w.heap.size w W_ → Kd.C k29 W_ A4_ x4_.length x4_ → x4_.length ≤ c4_ → F_ x0_ x1_ x2_ x3_ x4_ = some q_ → Calls Try.prog f_ (#[.agg #[.int .i64 x0_, .int .i64 x1_, .string x2_, .string x3_, .slice A4_ x4_.length c4_]] ++ c_) W_ fun e w' => e = .returned (.bool q_) ∧ Below W_.heap.size W_ w') (hr0 : Kd.C k29 w A0 l0.length l0) (hc0 : l0.length ≤ c0) (h : impl_Pol_78.f F_ k l0 = some r) :
  Calls Try.prog 78 #[.slice A0 l0.length c0, .func (.func f_) #[] c_] w fun e w' => e = .returned (.int .i64 r) ∧ Below w.heap.size w w' := by
 have hu29 := Try.underlying29
 have HR0 := Aside0.mk hr0
 have HC0 := Aside0.mk hc0
 clear hr0 hc0
 have HB := Aside0.mk (Below.refl w.heap.size w)
 unfold impl_Pol_78.f at h; have H := h
 clear h
 have H' := Aside0.mk H
 clear H
 go_enter Try.func78, Try.ntmps78
 go_wp2
 go_loopg [8] k (fun kq v8 w' => ∃ (x8_1 : Int), v8 = .int .i64 x8_1 ∧ Aside0 (impl_Pol_78.l0 F_ kq l0 (l0.length : Int) x8_1 = some r) ∧ Aside0 (kq ≤ k) ∧ Aside0 (Below w.heap.size w w'))
 case atStart => exact ⟨(0), zV, H', ⟨Nat.le_refl _⟩, ⟨zL HB.out⟩⟩
 case round =>
  clear H'
  obtain ⟨x8_1, rfl, HA, HK1, HB⟩ := hrel
  cases gk with
  | zero => exact absurd HA.out (by simp [impl_Pol_78.l0])
  | succ k1 =>
   have H := HA.out
   clear HA
   simp only [impl_Pol_78.l0] at H
   by_cases c2 : x8_1 < (l0.length : Int)
   ·rw [if_pos c2] at H
    have c2b0 := decide_eq_true c2
    clear c2
    by_cases c3 : 0 ≤ x8_1
    ·rw [if_pos c3] at H
     have c3b0 := decide_eq_true c3
     clear c3
     by_cases c4 : x8_1 < (l0.length : Int)
     ·rw [if_pos c4] at H
      have c4b0 := decide_eq_true c4
      clear c4
      obtain ⟨t102, A5, H⟩ := zO H; try dsimp only at H
      by_cases c6 : t102 = true
      ·subst c6
       rw [if_pos rfl] at H
       obtain rfl := Option.some.inj H
       have p101 : 0 ≤ (x8_1 : Int) := zD
       have q101 : x8_1 < (l0.length : Int) := zD
       obtain ⟨ad101, A101_4, c101_4, e101, hx101_0, hx101_1, hx101_2, hx101_3, hx101_4, hl101_4, hi101_4⟩ := at_T29 HR0.out x8_1 p101 q101
       cases e101
       replace hx101_0 := zh HB.out hx101_0
       replace hx101_1 := zh HB.out hx101_1
       replace hx101_2 := zh HB.out hx101_2
       replace hx101_3 := zh HB.out hx101_3
       replace hx101_4 := zh HB.out hx101_4
       have HR101_4 := Aside0.mk hi101_4
       have HC101_4 := Aside0.mk hl101_4
       clear hi101_4 hl101_4
       replace p101 := eq_true p101
       replace q101 := eq_true q101
       go_wp2_with (first | ((with_reducible refine gate_calleeC (t := 11) rfl ?_); refine goesC_ (t := 11) (f := f_) (cap := c_) (by rfl) (some 16) rfl rfl hf_ hn_ hb_ #[.agg #[.int .i64 ((rd_T29 l0 x8_1).f0), .int .i64 ((rd_T29 l0 x8_1).f1), .string ((rd_T29 l0 x8_1).f2), .string ((rd_T29 l0 x8_1).f3), .slice A101_4 ((rd_T29 l0 x8_1).f4).length c101_4]] rfl zE ?_; (with_reducible refine (hF_ ((rd_T29 l0 x8_1).f0) ((rd_T29 l0 x8_1).f1) ((rd_T29 l0 x8_1).f2) ((rd_T29 l0 x8_1).f3) _ _ ((rd_T29 l0 x8_1).f4) true _ HB.out ?side1 ?side2 A5.out).mono ?_); (case side1 => exact zC (Kd.C_below HR101_4.out HB.out)); (case side2 => exact HC101_4.out); rintro e w7 ⟨rfl, hb⟩; refine ⟨_, rfl, ?_⟩; replace HB := zLB (zL HB.out) hb; clear hb))
       go_ret
       exact ⟨zW, zL HB.out⟩
      ·obtain rfl := Bool.eq_false_iff.mpr c6
       rw [if_neg zn] at H
       have H' := Aside0.mk H
       clear H
       have p101 : 0 ≤ (x8_1 : Int) := zD
       have q101 : x8_1 < (l0.length : Int) := zD
       obtain ⟨ad101, A101_4, c101_4, e101, hx101_0, hx101_1, hx101_2, hx101_3, hx101_4, hl101_4, hi101_4⟩ := at_T29 HR0.out x8_1 p101 q101
       cases e101
       replace hx101_0 := zh HB.out hx101_0
       replace hx101_1 := zh HB.out hx101_1
       replace hx101_2 := zh HB.out hx101_2
       replace hx101_3 := zh HB.out hx101_3
       replace hx101_4 := zh HB.out hx101_4
       have HR101_4 := Aside0.mk hi101_4
       have HC101_4 := Aside0.mk hl101_4
       clear hi101_4 hl101_4
       replace p101 := eq_true p101
       replace q101 := eq_true q101
       go_wp2_with (first | ((with_reducible refine gate_calleeC (t := 11) rfl ?_); refine goesC_ (t := 11) (f := f_) (cap := c_) (by rfl) (some 16) rfl rfl hf_ hn_ hb_ #[.agg #[.int .i64 ((rd_T29 l0 x8_1).f0), .int .i64 ((rd_T29 l0 x8_1).f1), .string ((rd_T29 l0 x8_1).f2), .string ((rd_T29 l0 x8_1).f3), .slice A101_4 ((rd_T29 l0 x8_1).f4).length c101_4]] rfl zE ?_; (with_reducible refine (hF_ ((rd_T29 l0 x8_1).f0) ((rd_T29 l0 x8_1).f1) ((rd_T29 l0 x8_1).f2) ((rd_T29 l0 x8_1).f3) _ _ ((rd_T29 l0 x8_1).f4) false _ HB.out ?side1 ?side2 A5.out).mono ?_); (case side1 => exact zC (Kd.C_below HR101_4.out HB.out)); (case side2 => exact HC101_4.out); rintro e w8 ⟨rfl, hb⟩; refine ⟨_, rfl, ?_⟩; replace HB := zLB (zL HB.out) hb; clear hb))
       go_roundg k1
       case measure => have := HK1.out; omega
       case rel => exact ⟨(wrap64 (x8_1 + 1)), zV, H', ⟨by have := HK1.out; omega⟩, ⟨zL HB.out⟩⟩
     ·rw [if_neg c4] at H
      exact absurd H (by simp)
    ·rw [if_neg c3] at H
     exact absurd H (by simp)
   ·rw [if_neg c2] at H
    have c2b0 := decide_eq_false c2
    clear c2
    obtain rfl := Option.some.inj H
    go_wp2
    go_ret
    exact ⟨zW, zL HB.out⟩

/-! ### impl_Pol_49: function 49, by hand -/
/-- The function value of code f_ and captures c_ answers of a rule as F_ does, in each later world. -/
@[reducible] def CloP (F_ : Int → Int → ByteArray → ByteArray → List S29 → Option (Bool)) (f_ : FuncId) (c_ : Array Value) (w : World) : Prop := ∀ (x0_ x1_ : Int) (x2_ x3_ : ByteArray) (A4_ : Option Addr) (c4_ : Nat) (x4_ : List S29) (q_ : Bool) (W_ : World), Below w.heap.size w W_ → Kd.C k29 W_ A4_ x4_.length x4_ → x4_.length ≤ c4_ → F_ x0_ x1_ x2_ x3_ x4_ = some q_ → Calls Try.prog f_ (#[.agg #[.int .i64 x0_, .int .i64 x1_, .string x2_, .string x3_, .slice A4_ x4_.length c4_]] ++ c_) W_ fun e w' => e = .returned (.bool q_) ∧ Below W_.heap.size W_ w'
def impl_Pol_49.f (F_ : Int → Int → ByteArray → ByteArray → List S29 → Option (Bool)) (k : Nat) (l0 : List (S29)) : Option Bool := (impl_Pol_78.f F_ k l0).bind fun t => some (decide (0 ≤ t))
section
variable {f_ : FuncId} {fn_ : Func} {c_ : Array Value} (hf_ : Try.prog.funcs[f_]? = some fn_) (hn_ : (fn_.name == "runtime.NumGoroutine") = false) (hb_ : fn_.body.isSome = true) (k : Nat) (A0 : Option Addr) (c0 : Nat)
set_option maxHeartbeats 8000000 in
set_option maxRecDepth 100000 in
include hf_ hn_ hb_ in
theorem impl_Pol_49.calls {F_ : Int → Int → ByteArray → ByteArray → List S29 → Option (Bool)} (l0 : List S29) (r : Bool) (w : World) (hF_ : CloP F_ f_ c_ w) (hr0 : Kd.C k29 w A0 l0.length l0) (hc0 : l0.length ≤ c0) (h : impl_Pol_49.f F_ k l0 = some r) :
    Calls Try.prog 49 #[.slice A0 l0.length c0, .func (.func f_) #[] c_] w fun e w' => e = .returned (.bool r) ∧ Below w.heap.size w w' := by
  unfold impl_Pol_49.f at h
  obtain ⟨t, ht, h⟩ := Option.bind_eq_some_iff.mp h
  obtain rfl := Option.some.inj h
  have HX := Aside0.mk (impl_Pol_78.calls hf_ hn_ hb_ k A0 c0 l0 t w hF_ hr0 hc0 ht)
  clear hF_ hr0 hc0 ht h
  go_enter Try.func49, Try.ntmps49
  go_wp2_with (go_at_call 78; refine HX.out.mono ?_; rintro e w7 ⟨rfl, hb⟩; have HB := Aside0.mk hb; clear hb)
  go_ret
  exact ⟨rfl, HB.out⟩
end

/-! ### impl_HasRate: function 19, by hand -/
def impl_HasRate.f : Nat → Int → Int → ByteArray → ByteArray → List (S29) → Option (Bool)
  | 0, _, _, _, _, _ => none
  | k + 1, a0_0, a0_1, a0_2, a0_3, l0_4 => if a0_0 = 6 then (some true) else (impl_Pol_49.f (fun b0 b1 b2 b3 b4 => impl_HasRate.f k b0 b1 b2 b3 b4) k l0_4)
set_option maxHeartbeats 8000000 in
set_option maxRecDepth 100000 in
theorem impl_HasRate.calls (k : Nat) : ∀ (a0_0 : Int) (a0_1 : Int) (a0_2 : ByteArray) (a0_3 : ByteArray) (A0_4 : Option Addr) (c0_4 : Nat) (l0_4 : List (S29)) (r : Bool) (w : World) (hr0_4 : Kd.C k29 w A0_4 l0_4.length l0_4) (hc0_4 : l0_4.length ≤ c0_4) (h : impl_HasRate.f k a0_0 a0_1 a0_2 a0_3 l0_4 = some r),
    Calls Try.prog 19 #[.agg #[.int .i64 a0_0, .int .i64 a0_1, .string a0_2, .string a0_3, .slice A0_4 l0_4.length c0_4]] w fun e w' => e = .returned (.bool r) ∧ Below w.heap.size w w' := by
  induction k with
  | zero =>
    intro a0_0 a0_1 a0_2 a0_3 A0_4 c0_4 l0_4 r w hr0_4 hc0_4 h
    exact absurd h (by simp [impl_HasRate.f])
  | succ k ih =>
  intro a0_0 a0_1 a0_2 a0_3 A0_4 c0_4 l0_4 r w hr0_4 hc0_4 h
  have HF : ∀ W, CloP (fun b0 b1 b2 b3 b4 => impl_HasRate.f k b0 b1 b2 b3 b4) 19 #[] W := fun W x0 x1 x2 x3 A4 c4 x4 q W' _ hr hc h => ih x0 x1 x2 x3 A4 c4 x4 q W' hr hc h
  have hu29 := Try.underlying29
  have HR := Aside0.mk hr0_4
  have HC := Aside0.mk hc0_4
  clear hr0_4 hc0_4 ih
  have HB := Aside0.mk (Below.refl w.heap.size w)
  rw [impl_HasRate.f] at h
  by_cases c2 : a0_0 = 6
  · rw [if_pos c2] at h
    obtain ⟨c2b0, c2b1⟩ := zt c2
    clear c2
    obtain rfl := Option.some.inj h
    go_enter Try.func19, Try.ntmps19
    go_wp2_with (first
      | ((with_reducible refine gD 1 rfl ?_); refine bE 1 #[.int .i64 a0_0, .int .i64 a0_1, .string a0_2, .string a0_3, .slice A0_4 l0_4.length c0_4] 29 ?_; intro gb1 hg w7 hbox hb; have BK1 := Aside0.mk hbox; have GE1 := Aside0.mk (zg (zL HB.out) hg : w.heap.size ≤ gb1); replace HB := zLB (zL HB.out) hb; clear hb hbox hg; have hcz1 := zc5 BK1.out; have hfz1 := zf5 BK1.out))
    go_ret
    exact ⟨zW, zL1 HB.out GE1.out⟩
  · rw [if_neg c2] at h
    obtain ⟨c2b0, c2b1⟩ := zf c2
    have A1 := Aside0.mk h
    clear h c2
    go_enter Try.func19, Try.ntmps19
    go_wp2_with (first
      | ((with_reducible refine gD 1 rfl ?_); refine bE 1 #[.int .i64 a0_0, .int .i64 a0_1, .string a0_2, .string a0_3, .slice A0_4 l0_4.length c0_4] 29 ?_; intro gb1 hg w7 hbox hb; have BK1 := Aside0.mk hbox; have GE1 := Aside0.mk (zg (zL HB.out) hg : w.heap.size ≤ gb1); replace HB := zLB (zL HB.out) hb; clear hb hbox hg; have hcz1 := zc5 BK1.out; have hfz1 := zf5 BK1.out)
      | (go_at_call 49; (with_reducible refine (impl_Pol_49.calls Try.func19 (by kernel_rfl) rfl k _ _ l0_4 r _ (HF _) ?side1 ?side2 A1.out).mono ?_); (case side1 => exact zC (Kd.C_below HR.out HB.out)); (case side2 => exact HC.out); rintro e w8 ⟨rfl, hb⟩; replace HB := zLB (zL1 HB.out GE1.out) hb; clear hb))
    go_ret
    exact ⟨zW, zL1 HB.out GE1.out⟩

section
variable {P : Program} {ops : Array Oper} {rest : List Oper} {Q : Exit → Act → World → Prop} {W : World} {a : Act}
/-- The operation is a call of a function value in a place. -/
theorem gate_calleeT {o : Oper} {t : Tmp} {us : Array Operand} {ts : Array TypeId} (_ho : o.op = .call { callee := .value (.tmp t), args := us, argTypes := ts }) (h : wpList P ops Q (o :: rest) a W) : wpList P ops Q (o :: rest) a W := h
/-- A call of a function value, in a plain region. -/
theorem goesT_ {oi : Oper} {w : World} {t : Tmp} {f : FuncId} (hv : a.eval (.tmp t) = .func (.func f) #[] #[]) (N : Option Tmp) (hd : oi.dst = N) (hg : oi.guard = none) {fn : Func} {us : Array Operand} {ts : Array TypeId} (hf : P.funcs[f]? = some fn) (hname : (fn.name == "runtime.NumGoroutine") = false) (hb : fn.body.isSome = true) (args : Array Value)
    (hop : oi.op = .call { callee := .value (.tmp t), args := us, argTypes := ts }) (hargs : us.map a.eval = args)
    (h : Calls P f args w fun e w' => ∃ v, e = .returned v ∧ wpList P ops Q rest (a.put N v) w') : wpList P ops Q (oi :: rest) a w := by
  refine wpList_plain hg fun K hK => ?_
  have he := enters_ hf hname hb args w
  have hrun : (execOp a.eval oi).run P w = .ok (.enter f args) w := by
    unfold execOp
    simp [hop, resolve, Deferred.ofValue, invoke, hv, hargs, he]
  unfold Oper.wp
  rw [hrun, Oper.upon_enter]
  refine h.mono fun e w'' hh => ?_
  obtain ⟨v, rfl, hk⟩ := hh
  subst hd
  exact hK _ _ hk
end
open Go.Proofs.YtfhblnbicnmndaaW.PrintWords renaming blk_drewN → bN, blk_drew → bD, blk_alloc → bA, blk_cell → bC, blk_below → bB, below_set → bS
/-! ### impl_Pol_50: function 50 -/
def impl_Pol_50.l0 (F_ : Int → Int → ByteArray → ByteArray → List (S29) → Int → Int → ByteArray → ByteArray → List (S29) → Option (Bool)) : Nat → List (S29) → List (S29) → Int → Int → Option (Bool)
 | 0, _, _, _, _ => none
 | k + 1, x1, x15, x16, x17 => if x17 < x16 then (if 0 ≤ x17 then (if x17 < (x15.length : Int) then (if x17 < (x1.length : Int) then ((F_ ((rd_T29 x15 x17).f0) ((rd_T29 x15 x17).f1) ((rd_T29 x15 x17).f2) ((rd_T29 x15 x17).f3) ((rd_T29 x15 x17).f4) ((rd_T29 x1 x17).f0) ((rd_T29 x1 x17).f1) ((rd_T29 x1 x17).f2) ((rd_T29 x1 x17).f3) ((rd_T29 x1 x17).f4)).bind fun t107 => (if t107 = true then (impl_Pol_50.l0 F_ k x1 x15 x16 (wrap64 (x17 + 1))) else (some false))) else (none)) else (none)) else (none)) else (some true)
def impl_Pol_50.f (F_ : Int → Int → ByteArray → ByteArray → List (S29) → Int → Int → ByteArray → ByteArray → List (S29) → Option (Bool)) (k : Nat) (l0 : List (S29)) (l1 : List (S29)) : Option (Bool) := if (l0.length : Int) = (l1.length : Int) then (impl_Pol_50.l0 F_ k l1 l0 (l0.length : Int) 0) else (some false)
set_option maxHeartbeats 8000000 in
set_option maxRecDepth 100000 in
theorem impl_Pol_50.calls {F_ : Int → Int → ByteArray → ByteArray → List (S29) → Int → Int → ByteArray → ByteArray → List (S29) → Option (Bool)} (hF_ : ∀ (a0_0 : Int) (a0_1 : Int) (a0_2 : ByteArray) (a0_3 : ByteArray) (A0_4 : Option Addr) (c0_4 : Nat) (l0_4 : List (S29)) (a1_0 : Int) (a1_1 : Int) (a1_2 : ByteArray) (a1_3 : ByteArray) (A1_4 : Option Addr) (c1_4 : Nat) (l1_4 : List (S29)) (r : Bool) (w : World) (hr0_4 : Kd.C k29 w A0_4 l0_4.length l0_4) (hc0_4 : l0_4.length ≤ c0_4) (hr1_4 : Kd.C k29 w A1_4 l1_4.length l1_4) (hc1_4 : l1_4.length ≤ c1_4) (h : F_ a0_0 a0_1 a0_2 a0_3 l0_4 a1_0 a1_1 a1_2 a1_3 l1_4 = some r),
    Calls Try.prog 21 #[.agg #[.int .i64 a0_0, .int .i64 a0_1, .string a0_2, .string a0_3, .slice A0_4 l0_4.length c0_4], .agg #[.int .i64 a1_0, .int .i64 a1_1, .string a1_2, .string a1_3, .slice A1_4 l1_4.length c1_4]] w fun e w' => e = .returned (.bool r) ∧ Below w.heap.size w w') (k : Nat) (A0 : Option Addr) (c0 : Nat) (l0 : List (S29)) (A1 : Option Addr) (c1 : Nat) (l1 : List (S29)) (r : Bool) (w : World) (hr0 : Kd.C k29 w A0 l0.length l0) (hc0 : l0.length ≤ c0) (hr1 : Kd.C k29 w A1 l1.length l1) (hc1 : l1.length ≤ c1) (h : impl_Pol_50.f F_ k l0 l1 = some r) :
  Calls Try.prog 50 #[.slice A0 l0.length c0, .slice A1 l1.length c1, .func (.func 21) #[] #[]] w fun e w' => e = .returned (.bool r) ∧ Below w.heap.size w w' := by
 have hu29 := Try.underlying29
 have HR0 := Aside0.mk hr0
 have HC0 := Aside0.mk hc0
 clear hr0 hc0
 have HR1 := Aside0.mk hr1
 have HC1 := Aside0.mk hc1
 clear hr1 hc1
 have HB := Aside0.mk (Below.refl w.heap.size w)
 unfold impl_Pol_50.f at h; have H := h
 clear h
 by_cases c3 : (l0.length : Int) = (l1.length : Int)
 ·rw [if_pos c3] at H
  obtain ⟨c3b0, c3b1⟩ := zt c3
  have c3b2 : (l0.length == l1.length) = true := by first | simpa using c3 | (simp at c3 ⊢; omega)
  clear c3
  have H' := Aside0.mk H
  clear H
  go_enter Try.func50, Try.ntmps50
  go_wp2
  go_loopg [17] k (fun kq v17 w' => ∃ (x17_1 : Int), v17 = .int .i64 x17_1 ∧ Aside0 (impl_Pol_50.l0 F_ kq l1 l0 (l0.length : Int) x17_1 = some r) ∧ Aside0 (kq ≤ k) ∧ Aside0 (Below w.heap.size w w'))
  case atStart => exact ⟨(0), zV, H', ⟨Nat.le_refl _⟩, ⟨zL HB.out⟩⟩
  case round =>
   clear H'
   try clear c1
   try clear p2
   try clear c3
   try clear c3b0
   try clear c3b1
   try clear c3b2
   obtain ⟨x17_1, rfl, HA, HK1, HB⟩ := hrel
   cases gk with
   | zero => exact absurd HA.out (by simp [impl_Pol_50.l0])
   | succ k1 =>
    have H := HA.out
    clear HA
    simp only [impl_Pol_50.l0] at H
    by_cases c4 : x17_1 < (l0.length : Int)
    ·rw [if_pos c4] at H
     have c4b0 := decide_eq_true c4
     clear c4
     by_cases c5 : 0 ≤ x17_1
     ·rw [if_pos c5] at H
      have c5b0 := decide_eq_true c5
      clear c5
      by_cases c6 : x17_1 < (l0.length : Int)
      ·rw [if_pos c6] at H
       have c6b0 := decide_eq_true c6
       clear c6
       by_cases c7 : x17_1 < (l1.length : Int)
       ·rw [if_pos c7] at H
        have c7b0 := decide_eq_true c7
        clear c7
        obtain ⟨t107, A8, H⟩ := zO H; try dsimp only at H
        by_cases c9 : t107 = true
        ·subst c9
         rw [if_pos rfl] at H
         have H' := Aside0.mk H
         clear H
         have p103 : 0 ≤ (x17_1 : Int) := zD
         have q103 : x17_1 < (l0.length : Int) := zD
         obtain ⟨ad103, A103_4, c103_4, e103, hx103_0, hx103_1, hx103_2, hx103_3, hx103_4, hl103_4, hi103_4⟩ := at_T29 HR0.out x17_1 p103 q103
         cases e103
         replace hx103_0 := zh HB.out hx103_0
         replace hx103_1 := zh HB.out hx103_1
         replace hx103_2 := zh HB.out hx103_2
         replace hx103_3 := zh HB.out hx103_3
         replace hx103_4 := zh HB.out hx103_4
         have HR103_4 := Aside0.mk hi103_4
         have HC103_4 := Aside0.mk hl103_4
         clear hi103_4 hl103_4
         replace p103 := eq_true p103
         replace q103 := eq_true q103
         go_wp2_with (first | ((with_reducible refine gD 8 rfl ?_); refine bE 8 #[.int .i64 0, .int .i64 0, .string (⟨#[]⟩ : ByteArray), .string (⟨#[]⟩ : ByteArray), .slice none 0 0] 29 ?_; intro gb104 hg w10 hbox hb; have BK104 := Aside0.mk hbox; have GW104 := Aside0.mk (zg (zL HB.out) hg : w.heap.size ≤ gb104); have GE104 := GW104; replace HB := zLB (zL HB.out) hb; clear hb hbox hg; have hcz11 := zc5 BK104.out; have hfz11 := zf5 BK104.out; have p105 : 0 ≤ (x17_1 : Int) := zD; have q105 : x17_1 < (l1.length : Int) := zD; obtain ⟨ad105, A105_4, c105_4, e105, hx105_0, hx105_1, hx105_2, hx105_3, hx105_4, hl105_4, hi105_4⟩ := at_T29 HR1.out x17_1 p105 q105; cases e105; have hn105_0 : ad105.block ≠ gb104 := Nat.ne_of_lt (Nat.lt_of_lt_of_le (by have := World.block_lt_of_cell? _ _ hx105_0; first | rwa [add_block] at this | exact this) GW104.out); have hn105_1 : ad105.block ≠ gb104 := Nat.ne_of_lt (Nat.lt_of_lt_of_le (by have := World.block_lt_of_cell? _ _ hx105_0; first | rwa [add_block] at this | exact this) GW104.out); have hn105_2 : ad105.block ≠ gb104 := Nat.ne_of_lt (Nat.lt_of_lt_of_le (by have := World.block_lt_of_cell? _ _ hx105_0; first | rwa [add_block] at this | exact this) GW104.out); have hn105_3 : ad105.block ≠ gb104 := Nat.ne_of_lt (Nat.lt_of_lt_of_le (by have := World.block_lt_of_cell? _ _ hx105_0; first | rwa [add_block] at this | exact this) GW104.out); have hn105_4 : ad105.block ≠ gb104 := Nat.ne_of_lt (Nat.lt_of_lt_of_le (by have := World.block_lt_of_cell? _ _ hx105_0; first | rwa [add_block] at this | exact this) GW104.out); replace hx105_0 := zh HB.out hx105_0; replace hx105_1 := zh HB.out hx105_1; replace hx105_2 := zh HB.out hx105_2; replace hx105_3 := zh HB.out hx105_3; replace hx105_4 := zh HB.out hx105_4; have HR105_4 := Aside0.mk hi105_4; have HC105_4 := Aside0.mk hl105_4; clear hi105_4 hl105_4; replace hx105_0 := (cell_far (p := ⟨gb104, 0, none⟩) (by first | (rw [add_block]; exact hn105_0) | (show (Addr.add _ _).block ≠ _; rw [add_block]; exact hn105_0) | exact hn105_0) (.int .i64 ((rd_T29 l0 x17_1).f0))).trans hx105_0; replace hx105_1 := (cell_far (p := ⟨gb104, 0, none⟩) (by first | (rw [add_block]; exact hn105_0) | (show (Addr.add _ _).block ≠ _; rw [add_block]; exact hn105_0) | exact hn105_0) (.int .i64 ((rd_T29 l0 x17_1).f0))).trans hx105_1; replace hx105_2 := (cell_far (p := ⟨gb104, 0, none⟩) (by first | (rw [add_block]; exact hn105_0) | (show (Addr.add _ _).block ≠ _; rw [add_block]; exact hn105_0) | exact hn105_0) (.int .i64 ((rd_T29 l0 x17_1).f0))).trans hx105_2; replace hx105_3 := (cell_far (p := ⟨gb104, 0, none⟩) (by first | (rw [add_block]; exact hn105_0) | (show (Addr.add _ _).block ≠ _; rw [add_block]; exact hn105_0) | exact hn105_0) (.int .i64 ((rd_T29 l0 x17_1).f0))).trans hx105_3; replace hx105_4 := (cell_far (p := ⟨gb104, 0, none⟩) (by first | (rw [add_block]; exact hn105_0) | (show (Addr.add _ _).block ≠ _; rw [add_block]; exact hn105_0) | exact hn105_0) (.int .i64 ((rd_T29 l0 x17_1).f0))).trans hx105_4; replace hx105_0 := (cell_far (p := ⟨gb104, 1, none⟩) (by first | (rw [add_block]; exact hn105_1) | (show (Addr.add _ _).block ≠ _; rw [add_block]; exact hn105_1) | exact hn105_1) (.int .i64 ((rd_T29 l0 x17_1).f1))).trans hx105_0; replace hx105_1 := (cell_far (p := ⟨gb104, 1, none⟩) (by first | (rw [add_block]; exact hn105_1) | (show (Addr.add _ _).block ≠ _; rw [add_block]; exact hn105_1) | exact hn105_1) (.int .i64 ((rd_T29 l0 x17_1).f1))).trans hx105_1; replace hx105_2 := (cell_far (p := ⟨gb104, 1, none⟩) (by first | (rw [add_block]; exact hn105_1) | (show (Addr.add _ _).block ≠ _; rw [add_block]; exact hn105_1) | exact hn105_1) (.int .i64 ((rd_T29 l0 x17_1).f1))).trans hx105_2; replace hx105_3 := (cell_far (p := ⟨gb104, 1, none⟩) (by first | (rw [add_block]; exact hn105_1) | (show (Addr.add _ _).block ≠ _; rw [add_block]; exact hn105_1) | exact hn105_1) (.int .i64 ((rd_T29 l0 x17_1).f1))).trans hx105_3; replace hx105_4 := (cell_far (p := ⟨gb104, 1, none⟩) (by first | (rw [add_block]; exact hn105_1) | (show (Addr.add _ _).block ≠ _; rw [add_block]; exact hn105_1) | exact hn105_1) (.int .i64 ((rd_T29 l0 x17_1).f1))).trans hx105_4; replace hx105_0 := (cell_far (p := ⟨gb104, 2, none⟩) (by first | (rw [add_block]; exact hn105_2) | (show (Addr.add _ _).block ≠ _; rw [add_block]; exact hn105_2) | exact hn105_2) (.string ((rd_T29 l0 x17_1).f2))).trans hx105_0; replace hx105_1 := (cell_far (p := ⟨gb104, 2, none⟩) (by first | (rw [add_block]; exact hn105_2) | (show (Addr.add _ _).block ≠ _; rw [add_block]; exact hn105_2) | exact hn105_2) (.string ((rd_T29 l0 x17_1).f2))).trans hx105_1; replace hx105_2 := (cell_far (p := ⟨gb104, 2, none⟩) (by first | (rw [add_block]; exact hn105_2) | (show (Addr.add _ _).block ≠ _; rw [add_block]; exact hn105_2) | exact hn105_2) (.string ((rd_T29 l0 x17_1).f2))).trans hx105_2; replace hx105_3 := (cell_far (p := ⟨gb104, 2, none⟩) (by first | (rw [add_block]; exact hn105_2) | (show (Addr.add _ _).block ≠ _; rw [add_block]; exact hn105_2) | exact hn105_2) (.string ((rd_T29 l0 x17_1).f2))).trans hx105_3; replace hx105_4 := (cell_far (p := ⟨gb104, 2, none⟩) (by first | (rw [add_block]; exact hn105_2) | (show (Addr.add _ _).block ≠ _; rw [add_block]; exact hn105_2) | exact hn105_2) (.string ((rd_T29 l0 x17_1).f2))).trans hx105_4; replace hx105_0 := (cell_far (p := ⟨gb104, 3, none⟩) (by first | (rw [add_block]; exact hn105_3) | (show (Addr.add _ _).block ≠ _; rw [add_block]; exact hn105_3) | exact hn105_3) (.string ((rd_T29 l0 x17_1).f3))).trans hx105_0; replace hx105_1 := (cell_far (p := ⟨gb104, 3, none⟩) (by first | (rw [add_block]; exact hn105_3) | (show (Addr.add _ _).block ≠ _; rw [add_block]; exact hn105_3) | exact hn105_3) (.string ((rd_T29 l0 x17_1).f3))).trans hx105_1; replace hx105_2 := (cell_far (p := ⟨gb104, 3, none⟩) (by first | (rw [add_block]; exact hn105_3) | (show (Addr.add _ _).block ≠ _; rw [add_block]; exact hn105_3) | exact hn105_3) (.string ((rd_T29 l0 x17_1).f3))).trans hx105_2; replace hx105_3 := (cell_far (p := ⟨gb104, 3, none⟩) (by first | (rw [add_block]; exact hn105_3) | (show (Addr.add _ _).block ≠ _; rw [add_block]; exact hn105_3) | exact hn105_3) (.string ((rd_T29 l0 x17_1).f3))).trans hx105_3; replace hx105_4 := (cell_far (p := ⟨gb104, 3, none⟩) (by first | (rw [add_block]; exact hn105_3) | (show (Addr.add _ _).block ≠ _; rw [add_block]; exact hn105_3) | exact hn105_3) (.string ((rd_T29 l0 x17_1).f3))).trans hx105_4; replace hx105_0 := (cell_far (p := ⟨gb104, 4, none⟩) (by first | (rw [add_block]; exact hn105_4) | (show (Addr.add _ _).block ≠ _; rw [add_block]; exact hn105_4) | exact hn105_4) (.slice A103_4 ((rd_T29 l0 x17_1).f4).length c103_4)).trans hx105_0; replace hx105_1 := (cell_far (p := ⟨gb104, 4, none⟩) (by first | (rw [add_block]; exact hn105_4) | (show (Addr.add _ _).block ≠ _; rw [add_block]; exact hn105_4) | exact hn105_4) (.slice A103_4 ((rd_T29 l0 x17_1).f4).length c103_4)).trans hx105_1; replace hx105_2 := (cell_far (p := ⟨gb104, 4, none⟩) (by first | (rw [add_block]; exact hn105_4) | (show (Addr.add _ _).block ≠ _; rw [add_block]; exact hn105_4) | exact hn105_4) (.slice A103_4 ((rd_T29 l0 x17_1).f4).length c103_4)).trans hx105_2; replace hx105_3 := (cell_far (p := ⟨gb104, 4, none⟩) (by first | (rw [add_block]; exact hn105_4) | (show (Addr.add _ _).block ≠ _; rw [add_block]; exact hn105_4) | exact hn105_4) (.slice A103_4 ((rd_T29 l0 x17_1).f4).length c103_4)).trans hx105_3; replace hx105_4 := (cell_far (p := ⟨gb104, 4, none⟩) (by first | (rw [add_block]; exact hn105_4) | (show (Addr.add _ _).block ≠ _; rw [add_block]; exact hn105_4) | exact hn105_4) (.slice A103_4 ((rd_T29 l0 x17_1).f4).length c103_4)).trans hx105_4; clear hn105_0; clear hn105_1; clear hn105_2; clear hn105_3; clear hn105_4; replace p105 := eq_true p105; replace q105 := eq_true q105) | ((with_reducible refine gD 9 rfl ?_); refine bE 9 #[.int .i64 0, .int .i64 0, .string (⟨#[]⟩ : ByteArray), .string (⟨#[]⟩ : ByteArray), .slice none 0 0] 29 ?_; intro gb106 hg w12 hbox hb; have BK106 := Aside0.mk hbox; have GW106 := Aside0.mk (zg (zL1 HB.out GE104.out) hg : w.heap.size ≤ gb106); have GE106 := GW106; replace HB := zLB (zL1 HB.out GE104.out) hb; have NB104_106 := Aside0.mk ((by rw [hg]; exact Nat.ne_of_lt (blk_lt (g := gb104) (o := .cells #[.int .i64 ((rd_T29 l0 x17_1).f0), .int .i64 ((rd_T29 l0 x17_1).f1), .string ((rd_T29 l0 x17_1).f2), .string ((rd_T29 l0 x17_1).f3), .slice A103_4 ((rd_T29 l0 x17_1).f4).length c103_4] 29 (0, 0)) (by refine zB ?_; refine zp5 (cs := #[.int .i64 0, .int .i64 0, .string (⟨#[]⟩ : ByteArray), .string (⟨#[]⟩ : ByteArray), .slice none 0 0]) ?_; exact zB BK104.out)) : gb104 ≠ gb106)); have NB106_104 := Aside0.mk ((by rw [hg]; exact Nat.ne_of_gt (blk_lt (g := gb104) (o := .cells #[.int .i64 ((rd_T29 l0 x17_1).f0), .int .i64 ((rd_T29 l0 x17_1).f1), .string ((rd_T29 l0 x17_1).f2), .string ((rd_T29 l0 x17_1).f3), .slice A103_4 ((rd_T29 l0 x17_1).f4).length c103_4] 29 (0, 0)) (by refine zB ?_; refine zp5 (cs := #[.int .i64 0, .int .i64 0, .string (⟨#[]⟩ : ByteArray), .string (⟨#[]⟩ : ByteArray), .slice none 0 0]) ?_; exact zB BK104.out)) : gb106 ≠ gb104)); replace BK104 := Aside0.mk (bB (g := gb104) (o := .cells #[.int .i64 ((rd_T29 l0 x17_1).f0), .int .i64 ((rd_T29 l0 x17_1).f1), .string ((rd_T29 l0 x17_1).f2), .string ((rd_T29 l0 x17_1).f3), .slice A103_4 ((rd_T29 l0 x17_1).f4).length c103_4] 29 (0, 0)) (by refine zB ?_; refine zp5 (cs := #[.int .i64 0, .int .i64 0, .string (⟨#[]⟩ : ByteArray), .string (⟨#[]⟩ : ByteArray), .slice none 0 0]) ?_; exact zB BK104.out) hb); clear hb hbox hg; have hnb13 := NB106_104.out; have hnc13 := NB104_106.out; have hcz14 := zc5 BK106.out; have hfz14 := zf5 BK106.out; have hcz15 := zc5 BK104.out; have hfz15 := zf5 BK104.out) | ((with_reducible refine gate_calleeT (t := 26) rfl ?_); refine goesT_ (t := 26) (f := 21) (by rfl) (some 29) rfl rfl Try.func21 (by kernel_rfl) rfl #[.agg #[.int .i64 ((rd_T29 l0 x17_1).f0), .int .i64 ((rd_T29 l0 x17_1).f1), .string ((rd_T29 l0 x17_1).f2), .string ((rd_T29 l0 x17_1).f3), .slice A103_4 ((rd_T29 l0 x17_1).f4).length c103_4], .agg #[.int .i64 ((rd_T29 l1 x17_1).f0), .int .i64 ((rd_T29 l1 x17_1).f1), .string ((rd_T29 l1 x17_1).f2), .string ((rd_T29 l1 x17_1).f3), .slice A105_4 ((rd_T29 l1 x17_1).f4).length c105_4]] rfl zE ?_; (with_reducible refine (hF_ ((rd_T29 l0 x17_1).f0) ((rd_T29 l0 x17_1).f1) ((rd_T29 l0 x17_1).f2) ((rd_T29 l0 x17_1).f3) _ _ ((rd_T29 l0 x17_1).f4) ((rd_T29 l1 x17_1).f0) ((rd_T29 l1 x17_1).f1) ((rd_T29 l1 x17_1).f2) ((rd_T29 l1 x17_1).f3) _ _ ((rd_T29 l1 x17_1).f4) true _ ?side1 ?side2 ?side3 ?side4 A8.out).mono ?_); (case side1 => exact Kd.C_below HR103_4.out (zL2 HB.out GE104.out GE106.out)); (case side2 => exact HC103_4.out); (case side3 => exact Kd.C_below HR105_4.out (zL2 HB.out GE104.out GE106.out)); (case side4 => exact HC105_4.out); rintro e w16 ⟨rfl, hb⟩; refine ⟨_, rfl, ?_⟩; replace BK104 := Aside0.mk (bB (g := gb104) (o := .cells #[.int .i64 ((rd_T29 l0 x17_1).f0), .int .i64 ((rd_T29 l0 x17_1).f1), .string ((rd_T29 l0 x17_1).f2), .string ((rd_T29 l0 x17_1).f3), .slice A103_4 ((rd_T29 l0 x17_1).f4).length c103_4] 29 (0, 0)) (by refine zB ?_; refine zr5 ?_ NB104_106.out; exact zB BK104.out) hb); replace BK106 := Aside0.mk (bB (g := gb106) (o := .cells #[.int .i64 ((rd_T29 l1 x17_1).f0), .int .i64 ((rd_T29 l1 x17_1).f1), .string ((rd_T29 l1 x17_1).f2), .string ((rd_T29 l1 x17_1).f3), .slice A105_4 ((rd_T29 l1 x17_1).f4).length c105_4] 29 (0, 0)) (by refine zB ?_; refine zp5 (cs := #[.int .i64 0, .int .i64 0, .string (⟨#[]⟩ : ByteArray), .string (⟨#[]⟩ : ByteArray), .slice none 0 0]) ?_; exact zB BK106.out) hb); replace HB := zLB (zL2 HB.out GE104.out GE106.out) hb; clear hb))
         go_roundg k1
         case measure => have := HK1.out; omega
         case rel => exact ⟨(wrap64 (x17_1 + 1)), zV, H', ⟨by have := HK1.out; omega⟩, ⟨zL2 HB.out GE104.out GE106.out⟩⟩
        ·obtain rfl := Bool.eq_false_iff.mpr c9
         rw [if_neg zn] at H
         obtain rfl := Option.some.inj H
         have p103 : 0 ≤ (x17_1 : Int) := zD
         have q103 : x17_1 < (l0.length : Int) := zD
         obtain ⟨ad103, A103_4, c103_4, e103, hx103_0, hx103_1, hx103_2, hx103_3, hx103_4, hl103_4, hi103_4⟩ := at_T29 HR0.out x17_1 p103 q103
         cases e103
         replace hx103_0 := zh HB.out hx103_0
         replace hx103_1 := zh HB.out hx103_1
         replace hx103_2 := zh HB.out hx103_2
         replace hx103_3 := zh HB.out hx103_3
         replace hx103_4 := zh HB.out hx103_4
         have HR103_4 := Aside0.mk hi103_4
         have HC103_4 := Aside0.mk hl103_4
         clear hi103_4 hl103_4
         replace p103 := eq_true p103
         replace q103 := eq_true q103
         go_wp2_with (first | ((with_reducible refine gD 8 rfl ?_); refine bE 8 #[.int .i64 0, .int .i64 0, .string (⟨#[]⟩ : ByteArray), .string (⟨#[]⟩ : ByteArray), .slice none 0 0] 29 ?_; intro gb104 hg w17 hbox hb; have BK104 := Aside0.mk hbox; have GW104 := Aside0.mk (zg (zL HB.out) hg : w.heap.size ≤ gb104); have GE104 := GW104; replace HB := zLB (zL HB.out) hb; clear hb hbox hg; have hcz18 := zc5 BK104.out; have hfz18 := zf5 BK104.out; have p105 : 0 ≤ (x17_1 : Int) := zD; have q105 : x17_1 < (l1.length : Int) := zD; obtain ⟨ad105, A105_4, c105_4, e105, hx105_0, hx105_1, hx105_2, hx105_3, hx105_4, hl105_4, hi105_4⟩ := at_T29 HR1.out x17_1 p105 q105; cases e105; have hn105_0 : ad105.block ≠ gb104 := Nat.ne_of_lt (Nat.lt_of_lt_of_le (by have := World.block_lt_of_cell? _ _ hx105_0; first | rwa [add_block] at this | exact this) GW104.out); have hn105_1 : ad105.block ≠ gb104 := Nat.ne_of_lt (Nat.lt_of_lt_of_le (by have := World.block_lt_of_cell? _ _ hx105_0; first | rwa [add_block] at this | exact this) GW104.out); have hn105_2 : ad105.block ≠ gb104 := Nat.ne_of_lt (Nat.lt_of_lt_of_le (by have := World.block_lt_of_cell? _ _ hx105_0; first | rwa [add_block] at this | exact this) GW104.out); have hn105_3 : ad105.block ≠ gb104 := Nat.ne_of_lt (Nat.lt_of_lt_of_le (by have := World.block_lt_of_cell? _ _ hx105_0; first | rwa [add_block] at this | exact this) GW104.out); have hn105_4 : ad105.block ≠ gb104 := Nat.ne_of_lt (Nat.lt_of_lt_of_le (by have := World.block_lt_of_cell? _ _ hx105_0; first | rwa [add_block] at this | exact this) GW104.out); replace hx105_0 := zh HB.out hx105_0; replace hx105_1 := zh HB.out hx105_1; replace hx105_2 := zh HB.out hx105_2; replace hx105_3 := zh HB.out hx105_3; replace hx105_4 := zh HB.out hx105_4; have HR105_4 := Aside0.mk hi105_4; have HC105_4 := Aside0.mk hl105_4; clear hi105_4 hl105_4; replace hx105_0 := (cell_far (p := ⟨gb104, 0, none⟩) (by first | (rw [add_block]; exact hn105_0) | (show (Addr.add _ _).block ≠ _; rw [add_block]; exact hn105_0) | exact hn105_0) (.int .i64 ((rd_T29 l0 x17_1).f0))).trans hx105_0; replace hx105_1 := (cell_far (p := ⟨gb104, 0, none⟩) (by first | (rw [add_block]; exact hn105_0) | (show (Addr.add _ _).block ≠ _; rw [add_block]; exact hn105_0) | exact hn105_0) (.int .i64 ((rd_T29 l0 x17_1).f0))).trans hx105_1; replace hx105_2 := (cell_far (p := ⟨gb104, 0, none⟩) (by first | (rw [add_block]; exact hn105_0) | (show (Addr.add _ _).block ≠ _; rw [add_block]; exact hn105_0) | exact hn105_0) (.int .i64 ((rd_T29 l0 x17_1).f0))).trans hx105_2; replace hx105_3 := (cell_far (p := ⟨gb104, 0, none⟩) (by first | (rw [add_block]; exact hn105_0) | (show (Addr.add _ _).block ≠ _; rw [add_block]; exact hn105_0) | exact hn105_0) (.int .i64 ((rd_T29 l0 x17_1).f0))).trans hx105_3; replace hx105_4 := (cell_far (p := ⟨gb104, 0, none⟩) (by first | (rw [add_block]; exact hn105_0) | (show (Addr.add _ _).block ≠ _; rw [add_block]; exact hn105_0) | exact hn105_0) (.int .i64 ((rd_T29 l0 x17_1).f0))).trans hx105_4; replace hx105_0 := (cell_far (p := ⟨gb104, 1, none⟩) (by first | (rw [add_block]; exact hn105_1) | (show (Addr.add _ _).block ≠ _; rw [add_block]; exact hn105_1) | exact hn105_1) (.int .i64 ((rd_T29 l0 x17_1).f1))).trans hx105_0; replace hx105_1 := (cell_far (p := ⟨gb104, 1, none⟩) (by first | (rw [add_block]; exact hn105_1) | (show (Addr.add _ _).block ≠ _; rw [add_block]; exact hn105_1) | exact hn105_1) (.int .i64 ((rd_T29 l0 x17_1).f1))).trans hx105_1; replace hx105_2 := (cell_far (p := ⟨gb104, 1, none⟩) (by first | (rw [add_block]; exact hn105_1) | (show (Addr.add _ _).block ≠ _; rw [add_block]; exact hn105_1) | exact hn105_1) (.int .i64 ((rd_T29 l0 x17_1).f1))).trans hx105_2; replace hx105_3 := (cell_far (p := ⟨gb104, 1, none⟩) (by first | (rw [add_block]; exact hn105_1) | (show (Addr.add _ _).block ≠ _; rw [add_block]; exact hn105_1) | exact hn105_1) (.int .i64 ((rd_T29 l0 x17_1).f1))).trans hx105_3; replace hx105_4 := (cell_far (p := ⟨gb104, 1, none⟩) (by first | (rw [add_block]; exact hn105_1) | (show (Addr.add _ _).block ≠ _; rw [add_block]; exact hn105_1) | exact hn105_1) (.int .i64 ((rd_T29 l0 x17_1).f1))).trans hx105_4; replace hx105_0 := (cell_far (p := ⟨gb104, 2, none⟩) (by first | (rw [add_block]; exact hn105_2) | (show (Addr.add _ _).block ≠ _; rw [add_block]; exact hn105_2) | exact hn105_2) (.string ((rd_T29 l0 x17_1).f2))).trans hx105_0; replace hx105_1 := (cell_far (p := ⟨gb104, 2, none⟩) (by first | (rw [add_block]; exact hn105_2) | (show (Addr.add _ _).block ≠ _; rw [add_block]; exact hn105_2) | exact hn105_2) (.string ((rd_T29 l0 x17_1).f2))).trans hx105_1; replace hx105_2 := (cell_far (p := ⟨gb104, 2, none⟩) (by first | (rw [add_block]; exact hn105_2) | (show (Addr.add _ _).block ≠ _; rw [add_block]; exact hn105_2) | exact hn105_2) (.string ((rd_T29 l0 x17_1).f2))).trans hx105_2; replace hx105_3 := (cell_far (p := ⟨gb104, 2, none⟩) (by first | (rw [add_block]; exact hn105_2) | (show (Addr.add _ _).block ≠ _; rw [add_block]; exact hn105_2) | exact hn105_2) (.string ((rd_T29 l0 x17_1).f2))).trans hx105_3; replace hx105_4 := (cell_far (p := ⟨gb104, 2, none⟩) (by first | (rw [add_block]; exact hn105_2) | (show (Addr.add _ _).block ≠ _; rw [add_block]; exact hn105_2) | exact hn105_2) (.string ((rd_T29 l0 x17_1).f2))).trans hx105_4; replace hx105_0 := (cell_far (p := ⟨gb104, 3, none⟩) (by first | (rw [add_block]; exact hn105_3) | (show (Addr.add _ _).block ≠ _; rw [add_block]; exact hn105_3) | exact hn105_3) (.string ((rd_T29 l0 x17_1).f3))).trans hx105_0; replace hx105_1 := (cell_far (p := ⟨gb104, 3, none⟩) (by first | (rw [add_block]; exact hn105_3) | (show (Addr.add _ _).block ≠ _; rw [add_block]; exact hn105_3) | exact hn105_3) (.string ((rd_T29 l0 x17_1).f3))).trans hx105_1; replace hx105_2 := (cell_far (p := ⟨gb104, 3, none⟩) (by first | (rw [add_block]; exact hn105_3) | (show (Addr.add _ _).block ≠ _; rw [add_block]; exact hn105_3) | exact hn105_3) (.string ((rd_T29 l0 x17_1).f3))).trans hx105_2; replace hx105_3 := (cell_far (p := ⟨gb104, 3, none⟩) (by first | (rw [add_block]; exact hn105_3) | (show (Addr.add _ _).block ≠ _; rw [add_block]; exact hn105_3) | exact hn105_3) (.string ((rd_T29 l0 x17_1).f3))).trans hx105_3; replace hx105_4 := (cell_far (p := ⟨gb104, 3, none⟩) (by first | (rw [add_block]; exact hn105_3) | (show (Addr.add _ _).block ≠ _; rw [add_block]; exact hn105_3) | exact hn105_3) (.string ((rd_T29 l0 x17_1).f3))).trans hx105_4; replace hx105_0 := (cell_far (p := ⟨gb104, 4, none⟩) (by first | (rw [add_block]; exact hn105_4) | (show (Addr.add _ _).block ≠ _; rw [add_block]; exact hn105_4) | exact hn105_4) (.slice A103_4 ((rd_T29 l0 x17_1).f4).length c103_4)).trans hx105_0; replace hx105_1 := (cell_far (p := ⟨gb104, 4, none⟩) (by first | (rw [add_block]; exact hn105_4) | (show (Addr.add _ _).block ≠ _; rw [add_block]; exact hn105_4) | exact hn105_4) (.slice A103_4 ((rd_T29 l0 x17_1).f4).length c103_4)).trans hx105_1; replace hx105_2 := (cell_far (p := ⟨gb104, 4, none⟩) (by first | (rw [add_block]; exact hn105_4) | (show (Addr.add _ _).block ≠ _; rw [add_block]; exact hn105_4) | exact hn105_4) (.slice A103_4 ((rd_T29 l0 x17_1).f4).length c103_4)).trans hx105_2; replace hx105_3 := (cell_far (p := ⟨gb104, 4, none⟩) (by first | (rw [add_block]; exact hn105_4) | (show (Addr.add _ _).block ≠ _; rw [add_block]; exact hn105_4) | exact hn105_4) (.slice A103_4 ((rd_T29 l0 x17_1).f4).length c103_4)).trans hx105_3; replace hx105_4 := (cell_far (p := ⟨gb104, 4, none⟩) (by first | (rw [add_block]; exact hn105_4) | (show (Addr.add _ _).block ≠ _; rw [add_block]; exact hn105_4) | exact hn105_4) (.slice A103_4 ((rd_T29 l0 x17_1).f4).length c103_4)).trans hx105_4; clear hn105_0; clear hn105_1; clear hn105_2; clear hn105_3; clear hn105_4; replace p105 := eq_true p105; replace q105 := eq_true q105) | ((with_reducible refine gD 9 rfl ?_); refine bE 9 #[.int .i64 0, .int .i64 0, .string (⟨#[]⟩ : ByteArray), .string (⟨#[]⟩ : ByteArray), .slice none 0 0] 29 ?_; intro gb106 hg w19 hbox hb; have BK106 := Aside0.mk hbox; have GW106 := Aside0.mk (zg (zL1 HB.out GE104.out) hg : w.heap.size ≤ gb106); have GE106 := GW106; replace HB := zLB (zL1 HB.out GE104.out) hb; have NB104_106 := Aside0.mk ((by rw [hg]; exact Nat.ne_of_lt (blk_lt (g := gb104) (o := .cells #[.int .i64 ((rd_T29 l0 x17_1).f0), .int .i64 ((rd_T29 l0 x17_1).f1), .string ((rd_T29 l0 x17_1).f2), .string ((rd_T29 l0 x17_1).f3), .slice A103_4 ((rd_T29 l0 x17_1).f4).length c103_4] 29 (0, 0)) (by refine zB ?_; refine zp5 (cs := #[.int .i64 0, .int .i64 0, .string (⟨#[]⟩ : ByteArray), .string (⟨#[]⟩ : ByteArray), .slice none 0 0]) ?_; exact zB BK104.out)) : gb104 ≠ gb106)); have NB106_104 := Aside0.mk ((by rw [hg]; exact Nat.ne_of_gt (blk_lt (g := gb104) (o := .cells #[.int .i64 ((rd_T29 l0 x17_1).f0), .int .i64 ((rd_T29 l0 x17_1).f1), .string ((rd_T29 l0 x17_1).f2), .string ((rd_T29 l0 x17_1).f3), .slice A103_4 ((rd_T29 l0 x17_1).f4).length c103_4] 29 (0, 0)) (by refine zB ?_; refine zp5 (cs := #[.int .i64 0, .int .i64 0, .string (⟨#[]⟩ : ByteArray), .string (⟨#[]⟩ : ByteArray), .slice none 0 0]) ?_; exact zB BK104.out)) : gb106 ≠ gb104)); replace BK104 := Aside0.mk (bB (g := gb104) (o := .cells #[.int .i64 ((rd_T29 l0 x17_1).f0), .int .i64 ((rd_T29 l0 x17_1).f1), .string ((rd_T29 l0 x17_1).f2), .string ((rd_T29 l0 x17_1).f3), .slice A103_4 ((rd_T29 l0 x17_1).f4).length c103_4] 29 (0, 0)) (by refine zB ?_; refine zp5 (cs := #[.int .i64 0, .int .i64 0, .string (⟨#[]⟩ : ByteArray), .string (⟨#[]⟩ : ByteArray), .slice none 0 0]) ?_; exact zB BK104.out) hb); clear hb hbox hg; have hnb20 := NB106_104.out; have hnc20 := NB104_106.out; have hcz21 := zc5 BK106.out; have hfz21 := zf5 BK106.out; have hcz22 := zc5 BK104.out; have hfz22 := zf5 BK104.out) | ((with_reducible refine gate_calleeT (t := 26) rfl ?_); refine goesT_ (t := 26) (f := 21) (by rfl) (some 29) rfl rfl Try.func21 (by kernel_rfl) rfl #[.agg #[.int .i64 ((rd_T29 l0 x17_1).f0), .int .i64 ((rd_T29 l0 x17_1).f1), .string ((rd_T29 l0 x17_1).f2), .string ((rd_T29 l0 x17_1).f3), .slice A103_4 ((rd_T29 l0 x17_1).f4).length c103_4], .agg #[.int .i64 ((rd_T29 l1 x17_1).f0), .int .i64 ((rd_T29 l1 x17_1).f1), .string ((rd_T29 l1 x17_1).f2), .string ((rd_T29 l1 x17_1).f3), .slice A105_4 ((rd_T29 l1 x17_1).f4).length c105_4]] rfl zE ?_; (with_reducible refine (hF_ ((rd_T29 l0 x17_1).f0) ((rd_T29 l0 x17_1).f1) ((rd_T29 l0 x17_1).f2) ((rd_T29 l0 x17_1).f3) _ _ ((rd_T29 l0 x17_1).f4) ((rd_T29 l1 x17_1).f0) ((rd_T29 l1 x17_1).f1) ((rd_T29 l1 x17_1).f2) ((rd_T29 l1 x17_1).f3) _ _ ((rd_T29 l1 x17_1).f4) false _ ?side1 ?side2 ?side3 ?side4 A8.out).mono ?_); (case side1 => exact Kd.C_below HR103_4.out (zL2 HB.out GE104.out GE106.out)); (case side2 => exact HC103_4.out); (case side3 => exact Kd.C_below HR105_4.out (zL2 HB.out GE104.out GE106.out)); (case side4 => exact HC105_4.out); rintro e w23 ⟨rfl, hb⟩; refine ⟨_, rfl, ?_⟩; replace BK104 := Aside0.mk (bB (g := gb104) (o := .cells #[.int .i64 ((rd_T29 l0 x17_1).f0), .int .i64 ((rd_T29 l0 x17_1).f1), .string ((rd_T29 l0 x17_1).f2), .string ((rd_T29 l0 x17_1).f3), .slice A103_4 ((rd_T29 l0 x17_1).f4).length c103_4] 29 (0, 0)) (by refine zB ?_; refine zr5 ?_ NB104_106.out; exact zB BK104.out) hb); replace BK106 := Aside0.mk (bB (g := gb106) (o := .cells #[.int .i64 ((rd_T29 l1 x17_1).f0), .int .i64 ((rd_T29 l1 x17_1).f1), .string ((rd_T29 l1 x17_1).f2), .string ((rd_T29 l1 x17_1).f3), .slice A105_4 ((rd_T29 l1 x17_1).f4).length c105_4] 29 (0, 0)) (by refine zB ?_; refine zp5 (cs := #[.int .i64 0, .int .i64 0, .string (⟨#[]⟩ : ByteArray), .string (⟨#[]⟩ : ByteArray), .slice none 0 0]) ?_; exact zB BK106.out) hb); replace HB := zLB (zL2 HB.out GE104.out GE106.out) hb; clear hb))
         go_ret
         exact ⟨zW, zL2 HB.out GE104.out GE106.out⟩
       ·rw [if_neg c7] at H
        exact absurd H (by simp)
      ·rw [if_neg c6] at H
       exact absurd H (by simp)
     ·rw [if_neg c5] at H
      exact absurd H (by simp)
    ·rw [if_neg c4] at H
     have c4b0 := decide_eq_false c4
     clear c4
     obtain rfl := Option.some.inj H
     go_wp2
     go_ret
     exact ⟨zW, zL HB.out⟩
 ·rw [if_neg c3] at H
  obtain ⟨c3b0, c3b1⟩ := zf c3
  have c3b2 : (l0.length == l1.length) = false := by first | simpa using c3 | (simp at c3 ⊢; omega)
  obtain rfl := Option.some.inj H
  go_enter Try.func50, Try.ntmps50
  go_wp2
  go_ret
  exact ⟨zW, zL HB.out⟩

open Go.Proofs.YtfhblnbicnmndaaW.PrintWords renaming blk_drewN → bN, blk_drew → bD, blk_alloc → bA, blk_cell → bC, blk_below → bB, below_set → bS
/-! ### impl_SamePol: function 21 -/
def impl_SamePol.f : Nat → Int → Int → ByteArray → ByteArray → List (S29) → Int → Int → ByteArray → ByteArray → List (S29) → Option (Bool)
  | 0, _, _, _, _, _, _, _, _, _, _ => none
  | k + 1, a0_0, a0_1, a0_2, a0_3, l0_4, a1_0, a1_1, a1_2, a1_3, l1_4 => if a0_0 = a1_0 then (if a0_1 = a1_1 then (if a0_2.toList = a1_2.toList then (if a0_3.toList = a1_3.toList then ((impl_Pol_50.f (fun b0_ b1_ b2_ b3_ b4_ b5_ b6_ b7_ b8_ b9_ => impl_SamePol.f k b0_ b1_ b2_ b3_ b4_ b5_ b6_ b7_ b8_ b9_) k l0_4 l1_4).bind fun t110 => (some t110)) else (some false)) else (some false)) else (some false)) else (some false)
set_option maxHeartbeats 8000000 in
set_option maxRecDepth 100000 in
theorem impl_SamePol.calls (k : Nat) : ∀ (a0_0 : Int) (a0_1 : Int) (a0_2 : ByteArray) (a0_3 : ByteArray) (A0_4 : Option Addr) (c0_4 : Nat) (l0_4 : List (S29)) (a1_0 : Int) (a1_1 : Int) (a1_2 : ByteArray) (a1_3 : ByteArray) (A1_4 : Option Addr) (c1_4 : Nat) (l1_4 : List (S29)) (r : Bool) (w : World) (hr0_4 : Kd.C k29 w A0_4 l0_4.length l0_4) (hc0_4 : l0_4.length ≤ c0_4) (hr1_4 : Kd.C k29 w A1_4 l1_4.length l1_4) (hc1_4 : l1_4.length ≤ c1_4) (h : impl_SamePol.f k a0_0 a0_1 a0_2 a0_3 l0_4 a1_0 a1_1 a1_2 a1_3 l1_4 = some r),
   Calls Try.prog 21 #[.agg #[.int .i64 a0_0, .int .i64 a0_1, .string a0_2, .string a0_3, .slice A0_4 l0_4.length c0_4], .agg #[.int .i64 a1_0, .int .i64 a1_1, .string a1_2, .string a1_3, .slice A1_4 l1_4.length c1_4]] w fun e w' => e = .returned (.bool r) ∧ Below w.heap.size w w' := by
 induction k with
 | zero =>
   intro a0_0 a0_1 a0_2 a0_3 A0_4 c0_4 l0_4 a1_0 a1_1 a1_2 a1_3 A1_4 c1_4 l1_4 r w hr0_4 hc0_4 hr1_4 hc1_4 h
   exact absurd h (by simp [impl_SamePol.f])
 | succ k ih =>
 intro a0_0 a0_1 a0_2 a0_3 A0_4 c0_4 l0_4 a1_0 a1_1 a1_2 a1_3 A1_4 c1_4 l1_4 r w hr0_4 hc0_4 hr1_4 hc1_4 h
 have hu29 := Try.underlying29
 have HR0_4 := Aside0.mk hr0_4
 have HC0_4 := Aside0.mk hc0_4
 clear hr0_4 hc0_4
 have HR1_4 := Aside0.mk hr1_4
 have HC1_4 := Aside0.mk hc1_4
 clear hr1_4 hc1_4
 have HB := Aside0.mk (Below.refl w.heap.size w)
 unfold impl_SamePol.f at h; have H := h
 clear h
 by_cases c3 : a0_0 = a1_0
 ·rw [if_pos c3] at H
  obtain ⟨c3b0, c3b1⟩ := zt c3
  clear c3
  by_cases c4 : a0_1 = a1_1
  ·rw [if_pos c4] at H
   obtain ⟨c4b0, c4b1⟩ := zt c4
   clear c4
   by_cases c5 : a0_2.toList = a1_2.toList
   ·rw [if_pos c5] at H
    obtain ⟨c5b0, c5b1⟩ := zt c5
    clear c5
    by_cases c6 : a0_3.toList = a1_3.toList
    ·rw [if_pos c6] at H
     obtain ⟨c6b0, c6b1⟩ := zt c6
     clear c6
     obtain ⟨t110, A7, H⟩ := zO H; try dsimp only at H
     obtain rfl := Option.some.inj H
     go_enter Try.func21, Try.ntmps21
     go_wp2_with (first | ((with_reducible refine gD 2 rfl ?_); refine bE 2 #[.int .i64 a0_0, .int .i64 a0_1, .string a0_2, .string a0_3, .slice A0_4 l0_4.length c0_4] 29 ?_; intro gb108 hg w8 hbox hb; have BK108 := Aside0.mk hbox; have GW108 := Aside0.mk (zg (zL HB.out) hg : w.heap.size ≤ gb108); have GE108 := GW108; replace HB := zLB (zL HB.out) hb; clear hb hbox hg) | ((with_reducible refine gD 3 rfl ?_); refine bE 3 #[.int .i64 a1_0, .int .i64 a1_1, .string a1_2, .string a1_3, .slice A1_4 l1_4.length c1_4] 29 ?_; intro gb109 hg w9 hbox hb; have BK109 := Aside0.mk hbox; have GW109 := Aside0.mk (zg (zL1 HB.out GE108.out) hg : w.heap.size ≤ gb109); have GE109 := GW109; replace HB := zLB (zL1 HB.out GE108.out) hb; have NB108_109 := Aside0.mk (zN BK108.out hg : gb108 ≠ gb109); have NB109_108 := Aside0.mk (zM BK108.out hg : gb109 ≠ gb108); replace BK108 := zBB BK108 hb; clear hb hbox hg; have hnb10 := NB108_109.out; have hnc10 := NB109_108.out; have hcz11 := zc5 BK108.out; have hfz11 := zf5 BK108.out; have hcz12 := zc5 BK109.out; have hfz12 := zf5 BK109.out) | (go_at_call 50; (with_reducible refine (impl_Pol_50.calls ih k _ _ l0_4 _ _ l1_4 t110 _ ?side1 ?side2 ?side3 ?side4 A7.out).mono ?_); (case side1 => exact zC (Kd.C_below HR0_4.out HB.out)); (case side2 => exact HC0_4.out); (case side3 => exact zC (Kd.C_below HR1_4.out HB.out)); (case side4 => exact HC1_4.out); rintro e w13 ⟨rfl, hb⟩; replace BK108 := zBB BK108 hb; replace BK109 := zBB BK109 hb; replace HB := zLB (zL2 HB.out GE108.out GE109.out) hb; clear hb))
     go_ret
     exact ⟨zW, zL2 HB.out GE108.out GE109.out⟩
    ·rw [if_neg c6] at H
     obtain ⟨c6b0, c6b1⟩ := zf c6
     obtain rfl := Option.some.inj H
     go_enter Try.func21, Try.ntmps21
     go_wp2_with (first | ((with_reducible refine gD 2 rfl ?_); refine bE 2 #[.int .i64 a0_0, .int .i64 a0_1, .string a0_2, .string a0_3, .slice A0_4 l0_4.length c0_4] 29 ?_; intro gb108 hg w14 hbox hb; have BK108 := Aside0.mk hbox; have GW108 := Aside0.mk (zg (zL HB.out) hg : w.heap.size ≤ gb108); have GE108 := GW108; replace HB := zLB (zL HB.out) hb; clear hb hbox hg) | ((with_reducible refine gD 3 rfl ?_); refine bE 3 #[.int .i64 a1_0, .int .i64 a1_1, .string a1_2, .string a1_3, .slice A1_4 l1_4.length c1_4] 29 ?_; intro gb109 hg w15 hbox hb; have BK109 := Aside0.mk hbox; have GW109 := Aside0.mk (zg (zL1 HB.out GE108.out) hg : w.heap.size ≤ gb109); have GE109 := GW109; replace HB := zLB (zL1 HB.out GE108.out) hb; have NB108_109 := Aside0.mk (zN BK108.out hg : gb108 ≠ gb109); have NB109_108 := Aside0.mk (zM BK108.out hg : gb109 ≠ gb108); replace BK108 := zBB BK108 hb; clear hb hbox hg; have hnb16 := NB108_109.out; have hnc16 := NB109_108.out; have hcz17 := zc5 BK108.out; have hfz17 := zf5 BK108.out; have hcz18 := zc5 BK109.out; have hfz18 := zf5 BK109.out))
     go_ret
     exact ⟨zW, zL2 HB.out GE108.out GE109.out⟩
   ·rw [if_neg c5] at H
    obtain ⟨c5b0, c5b1⟩ := zf c5
    obtain rfl := Option.some.inj H
    go_enter Try.func21, Try.ntmps21
    go_wp2_with (first | ((with_reducible refine gD 2 rfl ?_); refine bE 2 #[.int .i64 a0_0, .int .i64 a0_1, .string a0_2, .string a0_3, .slice A0_4 l0_4.length c0_4] 29 ?_; intro gb108 hg w19 hbox hb; have BK108 := Aside0.mk hbox; have GW108 := Aside0.mk (zg (zL HB.out) hg : w.heap.size ≤ gb108); have GE108 := GW108; replace HB := zLB (zL HB.out) hb; clear hb hbox hg) | ((with_reducible refine gD 3 rfl ?_); refine bE 3 #[.int .i64 a1_0, .int .i64 a1_1, .string a1_2, .string a1_3, .slice A1_4 l1_4.length c1_4] 29 ?_; intro gb109 hg w20 hbox hb; have BK109 := Aside0.mk hbox; have GW109 := Aside0.mk (zg (zL1 HB.out GE108.out) hg : w.heap.size ≤ gb109); have GE109 := GW109; replace HB := zLB (zL1 HB.out GE108.out) hb; have NB108_109 := Aside0.mk (zN BK108.out hg : gb108 ≠ gb109); have NB109_108 := Aside0.mk (zM BK108.out hg : gb109 ≠ gb108); replace BK108 := zBB BK108 hb; clear hb hbox hg; have hnb21 := NB108_109.out; have hnc21 := NB109_108.out; have hcz22 := zc5 BK108.out; have hfz22 := zf5 BK108.out; have hcz23 := zc5 BK109.out; have hfz23 := zf5 BK109.out))
    go_ret
    exact ⟨zW, zL2 HB.out GE108.out GE109.out⟩
  ·rw [if_neg c4] at H
   obtain ⟨c4b0, c4b1⟩ := zf c4
   obtain rfl := Option.some.inj H
   go_enter Try.func21, Try.ntmps21
   go_wp2_with (first | ((with_reducible refine gD 2 rfl ?_); refine bE 2 #[.int .i64 a0_0, .int .i64 a0_1, .string a0_2, .string a0_3, .slice A0_4 l0_4.length c0_4] 29 ?_; intro gb108 hg w24 hbox hb; have BK108 := Aside0.mk hbox; have GW108 := Aside0.mk (zg (zL HB.out) hg : w.heap.size ≤ gb108); have GE108 := GW108; replace HB := zLB (zL HB.out) hb; clear hb hbox hg) | ((with_reducible refine gD 3 rfl ?_); refine bE 3 #[.int .i64 a1_0, .int .i64 a1_1, .string a1_2, .string a1_3, .slice A1_4 l1_4.length c1_4] 29 ?_; intro gb109 hg w25 hbox hb; have BK109 := Aside0.mk hbox; have GW109 := Aside0.mk (zg (zL1 HB.out GE108.out) hg : w.heap.size ≤ gb109); have GE109 := GW109; replace HB := zLB (zL1 HB.out GE108.out) hb; have NB108_109 := Aside0.mk (zN BK108.out hg : gb108 ≠ gb109); have NB109_108 := Aside0.mk (zM BK108.out hg : gb109 ≠ gb108); replace BK108 := zBB BK108 hb; clear hb hbox hg; have hnb26 := NB108_109.out; have hnc26 := NB109_108.out; have hcz27 := zc5 BK108.out; have hfz27 := zf5 BK108.out; have hcz28 := zc5 BK109.out; have hfz28 := zf5 BK109.out))
   go_ret
   exact ⟨zW, zL2 HB.out GE108.out GE109.out⟩
 ·rw [if_neg c3] at H
  obtain ⟨c3b0, c3b1⟩ := zf c3
  obtain rfl := Option.some.inj H
  go_enter Try.func21, Try.ntmps21
  go_wp2_with (first | ((with_reducible refine gD 2 rfl ?_); refine bE 2 #[.int .i64 a0_0, .int .i64 a0_1, .string a0_2, .string a0_3, .slice A0_4 l0_4.length c0_4] 29 ?_; intro gb108 hg w29 hbox hb; have BK108 := Aside0.mk hbox; have GW108 := Aside0.mk (zg (zL HB.out) hg : w.heap.size ≤ gb108); have GE108 := GW108; replace HB := zLB (zL HB.out) hb; clear hb hbox hg) | ((with_reducible refine gD 3 rfl ?_); refine bE 3 #[.int .i64 a1_0, .int .i64 a1_1, .string a1_2, .string a1_3, .slice A1_4 l1_4.length c1_4] 29 ?_; intro gb109 hg w30 hbox hb; have BK109 := Aside0.mk hbox; have GW109 := Aside0.mk (zg (zL1 HB.out GE108.out) hg : w.heap.size ≤ gb109); have GE109 := GW109; replace HB := zLB (zL1 HB.out GE108.out) hb; have NB108_109 := Aside0.mk (zN BK108.out hg : gb108 ≠ gb109); have NB109_108 := Aside0.mk (zM BK108.out hg : gb109 ≠ gb108); replace BK108 := zBB BK108 hb; clear hb hbox hg; have hnb31 := NB108_109.out; have hnc31 := NB109_108.out; have hcz32 := zc5 BK108.out; have hfz32 := zf5 BK108.out; have hcz33 := zc5 BK109.out; have hfz33 := zf5 BK109.out))
  go_ret
  exact ⟨zW, zL2 HB.out GE108.out GE109.out⟩

open Go.Proofs.YtfhblnbicnmndaaW.PrintWords renaming blk_drewN → bN, blk_drew → bD, blk_alloc → bA, blk_cell → bC, blk_below → bB, below_set → bS
/-! ### spec_l5Copy: function 54 -/
mutual
def spec_l5Copy.l0 : Nat → Int → Int → Int → ByteArray → ByteArray → List (S29) → Int → Int → ByteArray → ByteArray → List (S29) → Option (Int × Int × ByteArray × ByteArray × (List (S29)))
 | 0, _, _, _, _, _, _, _, _, _, _, _ => none
 | k + 1, x4, x112000, x112001, x112002, x112003, x112004, x114000, x114001, x114002, x114003, x114004 => if x4 < (x112004.length : Int) then (if 0 ≤ x4 then ((spec_l5Copy.f k ((rd_T29 x112004 x4).f0) ((rd_T29 x112004 x4).f1) ((rd_T29 x112004 x4).f2) ((rd_T29 x112004 x4).f3) ((rd_T29 x112004 x4).f4)).bind fun bt118 => (if x114004.length < 1954687338268 then (spec_l5Copy.l0 k (wrap64 (x4 + 1)) x112000 x112001 x112002 x112003 x112004 x114000 x114001 x114002 x114003 (x114004 ++ [(⟨bt118.1, bt118.2.1, bt118.2.2.1, bt118.2.2.2.1, bt118.2.2.2.2⟩ : S29)])) else (none))) else (none)) else (some (x114000, x114001, x114002, x114003, x114004))
def spec_l5Copy.f : Nat → Int → Int → ByteArray → ByteArray → List (S29) → Option (Int × Int × ByteArray × ByteArray × (List (S29)))
 | 0, _, _, _, _, _ => none
 | k + 1, a0_0, a0_1, a0_2, a0_3, l0_4 => spec_l5Copy.l0 k 0 a0_0 a0_1 a0_2 a0_3 l0_4 a0_0 a0_1 a0_2 a0_3 (([] : List (S29)))
end
theorem spec_l5Copy.mono_l : ∀ k, (∀ y0 y1 y2 y3 y4, LeO (spec_l5Copy.f k y0 y1 y2 y3 y4) (spec_l5Copy.f (k + 1) y0 y1 y2 y3 y4)) ∧ (∀ y0 y1 y2 y3 y4 y5 y6 y7 y8 y9 y10, LeO (spec_l5Copy.l0 k y0 y1 y2 y3 y4 y5 y6 y7 y8 y9 y10) (spec_l5Copy.l0 (k + 1) y0 y1 y2 y3 y4 y5 y6 y7 y8 y9 y10))
 | 0 => ⟨fun _ _ _ _ _ r h => by simp [spec_l5Copy.f] at h, fun _ _ _ _ _ _ _ _ _ _ _ r h => by simp [spec_l5Copy.l0] at h⟩
 | k + 1 => by
  obtain ⟨ih0, ih1⟩ := spec_l5Copy.mono_l k
  refine ⟨?_, ?_⟩
  ·intro y0 y1 y2 y3 y4
   unfold spec_l5Copy.f
   repeat' first
   | (with_reducible exact ih0 _ _ _ _ _)
   | (with_reducible exact ih1 _ _ _ _ _ _ _ _ _ _ _)
   | (with_reducible exact LeO.refl _)
   | (with_reducible exact LeO.none _)
   | (with_reducible refine LeO.ite ?_ ?_)
   | (with_reducible refine LeO.bind ?_ (fun _ => ?_))
   | exact ih0 _ _ _ _ _
   | exact ih1 _ _ _ _ _ _ _ _ _ _ _
   | exact LeO.none _
   | refine LeO.ite ?_ ?_
   | refine LeO.bind ?_ (fun _ => ?_)
  ·intro y0 y1 y2 y3 y4 y5 y6 y7 y8 y9 y10
   unfold spec_l5Copy.l0
   repeat' first
   | (with_reducible exact ih0 _ _ _ _ _)
   | (with_reducible exact ih1 _ _ _ _ _ _ _ _ _ _ _)
   | (with_reducible exact LeO.refl _)
   | (with_reducible exact LeO.none _)
   | (with_reducible refine LeO.ite ?_ ?_)
   | (with_reducible refine LeO.bind ?_ (fun _ => ?_))
   | exact ih0 _ _ _ _ _
   | exact ih1 _ _ _ _ _ _ _ _ _ _ _
   | exact LeO.none _
   | refine LeO.ite ?_ ?_
   | refine LeO.bind ?_ (fun _ => ?_)
theorem spec_l5Copy.mono : ∀ a0 a1 a2 a3 a4 k, LeO (spec_l5Copy.f k a0 a1 a2 a3 a4) (spec_l5Copy.f (k + 1) a0 a1 a2 a3 a4) := by
 intro a0 a1 a2 a3 a4 k
 obtain ⟨ih0, ih1⟩ := spec_l5Copy.mono_l k
 exact ih0 a0 a1 a2 a3 a4
set_option maxHeartbeats 8000000 in
set_option maxRecDepth 100000 in
theorem spec_l5Copy.calls (k : Nat) : ∀ (a0_0 : Int) (a0_1 : Int) (a0_2 : ByteArray) (a0_3 : ByteArray) (A0_4 : Option Addr) (c0_4 : Nat) (l0_4 : List (S29)) (r1 : Int) (r2 : Int) (r3 : ByteArray) (r4 : ByteArray) (r5 : List (S29)) (w : World) (hr0_4 : Kd.C k29 w A0_4 l0_4.length l0_4) (hc0_4 : l0_4.length ≤ c0_4) (h : spec_l5Copy.f k a0_0 a0_1 a0_2 a0_3 l0_4 = some (r1, r2, r3, r4, r5)),
  Calls Try.prog 54 #[.agg #[.int .i64 a0_0, .int .i64 a0_1, .string a0_2, .string a0_3, .slice A0_4 l0_4.length c0_4]] w fun e w' => ∃ v4_ : Value, e = .returned (.agg #[.int .i64 r1, .int .i64 r2, .string r3, .string r4, v4_]) ∧ Kd.R k29 29 w' w.heap.size (fun _ => True) v4_ r5 ∧ Below w.heap.size w w' := by
 induction k using Nat.strongRecOn with
 | _ k ih =>
 intro a0_0 a0_1 a0_2 a0_3 A0_4 c0_4 l0_4 r1 r2 r3 r4 r5 w hr0_4 hc0_4 h
 cases k with
 | zero => exact absurd h (by simp [spec_l5Copy.f])
 | succ k =>
 simp only [spec_l5Copy.f] at h
 have hu29 := Try.underlying29
 have HR0_4 := Aside0.mk hr0_4
 have HC0_4 := Aside0.mk hc0_4
 clear hr0_4 hc0_4
 have HB := Aside0.mk (Below.refl w.heap.size w)
 have H : (spec_l5Copy.l0 k 0 a0_0 a0_1 a0_2 a0_3 l0_4 a0_0 a0_1 a0_2 a0_3 (([] : List (S29)))) = some (r1, r2, r3, r4, r5) := h
 clear h
 generalize hy114 : (([] : List (S29))) = y114 at H; (try rw [Option.bind_some] at H); have Ny114 := Aside0.mk hy114.symm; clear hy114
 have H' := Aside0.mk H
 clear H
 go_enter Try.func54, Try.ntmps54
 go_wp2_with (first | ((with_reducible refine gD 1 rfl ?_); refine bE 1 #[.int .i64 a0_0, .int .i64 a0_1, .string a0_2, .string a0_3, .slice A0_4 l0_4.length c0_4] 29 ?_; intro gb111 hg w2 hbox hb; have BK111 := Aside0.mk hbox; have GW111 := Aside0.mk (zg (zL HB.out) hg : w.heap.size ≤ gb111); have GE111 := GW111; replace HB := zLB (zL HB.out) hb; clear hb hbox hg) | ((with_reducible refine gD 2 rfl ?_); refine bE 2 #[.int .i64 0, .int .i64 0, .string (⟨#[]⟩ : ByteArray), .string (⟨#[]⟩ : ByteArray), .slice none 0 0] 29 ?_; intro gb112 hg w3 hbox hb; have BK112 := Aside0.mk hbox; have GW112 := Aside0.mk (zg (zL1 HB.out GE111.out) hg : w.heap.size ≤ gb112); have GE112 := GW112; replace HB := zLB (zL1 HB.out GE111.out) hb; have NB111_112 := Aside0.mk (zN BK111.out hg : gb111 ≠ gb112); have NB112_111 := Aside0.mk (zM BK111.out hg : gb112 ≠ gb111); replace BK111 := zBB BK111 hb; clear hb hbox hg; have hnb4 := NB111_112.out; have hnc4 := NB112_111.out; have hcz5 := zc5 BK111.out; have hfz5 := zf5 BK111.out) | ((with_reducible refine gD 3 rfl ?_); refine bE 3 #[.int .i64 0, .int .i64 0, .string (⟨#[]⟩ : ByteArray), .string (⟨#[]⟩ : ByteArray), .slice none 0 0] 29 ?_; intro gb113 hg w6 hbox hb; have BK113 := Aside0.mk hbox; have GW113 := Aside0.mk (zg (zL2 HB.out GE111.out GE112.out) hg : w.heap.size ≤ gb113); have GE113 := GW113; replace HB := zLB (zL2 HB.out GE111.out GE112.out) hb; have NB111_113 := Aside0.mk (zN BK111.out hg : gb111 ≠ gb113); have NB113_111 := Aside0.mk (zM BK111.out hg : gb113 ≠ gb111); replace BK111 := zBB BK111 hb; have NB112_113 := Aside0.mk (zN BK112.out hg : gb112 ≠ gb113); have NB113_112 := Aside0.mk (zM BK112.out hg : gb113 ≠ gb112); replace BK112 := zBB BK112 hb; clear hb hbox hg; have hnb7 := NB113_111.out; have hnc7 := NB111_113.out; have hnb8 := NB113_112.out; have hnc8 := NB112_113.out; have hcz9 := zc5 BK113.out; have hfz9 := zf5 BK113.out) | ((with_reducible refine gD 7 rfl ?_); refine Kd.R_lit k29 _ 29 ?hg (N := 7) ?hd (xs := ([] : List (S29))) (inner := []) (ok := fun _ => True) (okp := fun _ => True) ?hr ?hp (fun _ hk => hk) trivial (Below.refl _ _) (Nat.le_refl _) (by simp) ?_; (case hd => rfl); (case hg => rfl); (case hr => first | (go_simp; done) | (go_simp; rfl)); (case hp => exact (Reps.none _ _)); intro v115 w10 ho11 hb hg_ hnew_; clear hg_ hnew_; (first | rw [← Ny114.out] at ho11 | (simp only [Int.reduceToNat] at ho11; rw [← Ny114.out] at ho11)); have HO116 := Aside0.mk (Kd.R_lower (Kd.R_newB (Kd.R_newB (Kd.R_newB ho11 (g := gb111) (o := .cells #[.int .i64 a0_0, .int .i64 a0_1, .string a0_2, .string a0_3, .slice A0_4 l0_4.length c0_4] 29 (0, 0)) (by refine zB ?_; refine zr5 ?_ NB111_113.out; exact zB BK111.out)) (g := gb112) (o := .cells #[.int .i64 0, .int .i64 0, .string (⟨#[]⟩ : ByteArray), .string (⟨#[]⟩ : ByteArray), .slice none 0 0] 29 (0, 0)) (by refine zB ?_; refine zr5 ?_ NB112_113.out; exact zB BK112.out)) (g := gb113) (o := .cells #[.int .i64 a0_0, .int .i64 a0_1, .string a0_2, .string a0_3, .slice A0_4 l0_4.length c0_4] 29 (0, 0)) (by refine zB ?_; refine zp5 (cs := #[.int .i64 0, .int .i64 0, .string (⟨#[]⟩ : ByteArray), .string (⟨#[]⟩ : ByteArray), .slice none 0 0]) ?_; exact zB BK113.out)) (below_size (zL3 HB.out GE111.out GE112.out GE113.out))); replace BK111 := Aside0.mk (bB (g := gb111) (o := .cells #[.int .i64 a0_0, .int .i64 a0_1, .string a0_2, .string a0_3, .slice A0_4 l0_4.length c0_4] 29 (0, 0)) (by refine zB ?_; refine zr5 ?_ NB111_113.out; exact zB BK111.out) hb); replace BK112 := Aside0.mk (bB (g := gb112) (o := .cells #[.int .i64 0, .int .i64 0, .string (⟨#[]⟩ : ByteArray), .string (⟨#[]⟩ : ByteArray), .slice none 0 0] 29 (0, 0)) (by refine zB ?_; refine zr5 ?_ NB112_113.out; exact zB BK112.out) hb); replace BK113 := Aside0.mk (bB (g := gb113) (o := .cells #[.int .i64 a0_0, .int .i64 a0_1, .string a0_2, .string a0_3, .slice A0_4 l0_4.length c0_4] 29 (0, 0)) (by refine zB ?_; refine zp5 (cs := #[.int .i64 0, .int .i64 0, .string (⟨#[]⟩ : ByteArray), .string (⟨#[]⟩ : ByteArray), .slice none 0 0]) ?_; exact zB BK113.out) hb); replace HB := zLB (zL3 HB.out GE111.out GE112.out GE113.out) hb; clear hb ho11; obtain ⟨Ao12, co12, eo12⟩ := Kd.R_slice HO116.out; subst eo12; have hcz13 := zc5 BK113.out; have hfz13 := zf5 BK113.out))
 go_loopg [4] k (fun kq v4 w' => ∃ (x4_1 : Int) (x114004_1 : List (S29)) (u114004 : Value), v4 = .int .i64 x4_1 ∧ Aside0 (spec_l5Copy.l0 kq x4_1 a0_0 a0_1 a0_2 a0_3 l0_4 a0_0 a0_1 a0_2 a0_3 x114004_1 = some (r1, r2, r3, r4, r5)) ∧ Aside0 (kq ≤ k) ∧ Aside0 (Kd.R k29 29 w' w.heap.size (fun k_ => k_ ≠ gb111 ∧ k_ ≠ gb112 ∧ k_ ≠ gb113) u114004 x114004_1) ∧ Aside0 (w'.heap[gb111]? = some (.cells #[.int .i64 a0_0, .int .i64 a0_1, .string a0_2, .string a0_3, (.slice A0_4 l0_4.length c0_4)] 29 (0, 0))) ∧ Aside0 (w'.heap[gb112]? = some (.cells #[.int .i64 0, .int .i64 0, .string (⟨#[]⟩ : ByteArray), .string (⟨#[]⟩ : ByteArray), (.slice none 0 0)] 29 (0, 0))) ∧ Aside0 (w'.heap[gb113]? = some (.cells #[.int .i64 a0_0, .int .i64 a0_1, .string a0_2, .string a0_3, u114004] 29 (0, 0))) ∧ Aside0 (Below w.heap.size w w'))
 case atStart => exact ⟨(0), (y114), (.slice Ao12 y114.length co12), zV, H', ⟨Nat.le_refl _⟩, ⟨by (with_reducible repeat (first | apply Kd.R_alloc | apply Kd.R_drewN | apply Kd.R_drew)); exact Kd.R_mono (Kd.R_far (p := ⟨gb113, 4, none⟩) (Kd.R_mono HO116.out (fun k_ hk => (⟨hk, hk.2⟩ : _ ∧ k_ ≠ gb113))) (fun _ hk => hk.2) (.slice Ao12 y114.length co12)) (fun _ hk => ⟨hk.1.1.1.2, ⟨hk.1.1.2, hk.1.2⟩⟩)⟩, ⟨by (with_reducible repeat (first | refine bN ?_ _ | refine bD ?_ | refine bA ?_ _)); refine blk_far ?_ NB111_113.out _; exact zB BK111.out⟩, ⟨by (with_reducible repeat (first | refine bN ?_ _ | refine bD ?_ | refine bA ?_ _)); refine blk_far ?_ NB112_113.out _; exact zB BK112.out⟩, ⟨by (with_reducible repeat (first | refine bN ?_ _ | refine bD ?_ | refine bA ?_ _)); refine blk_put (cs := #[.int .i64 a0_0, .int .i64 a0_1, .string a0_2, .string a0_3, .slice A0_4 l0_4.length c0_4]) ?_ 4 _ rfl; exact zB BK113.out⟩, ⟨zL3 HB.out GE111.out GE112.out GE113.out⟩⟩
 case round =>
  clear H'
  try clear p2
  try clear c4
  try clear c5
  try clear c7
  try clear c8
  try clear hcz13; try clear hcz5; try clear hcz9; try clear hfz13; try clear hfz5; try clear hfz9
  try clear BK111; try clear BK112; try clear BK113
  obtain ⟨x4_1, x114004_1, u114004, rfl, HA, HK1, HO_114004, BK111, BK112, BK113, HB⟩ := hrel
  cases gk with
  | zero => exact absurd HA.out (by simp [spec_l5Copy.l0])
  | succ k1 =>
   have H := HA.out
   clear HA
   simp only [spec_l5Copy.l0] at H
   by_cases c14 : x4_1 < (l0_4.length : Int)
   ·rw [if_pos c14] at H
    have c14b0 := decide_eq_true c14
    clear c14
    by_cases c15 : 0 ≤ x4_1
    ·rw [if_pos c15] at H
     have c15b0 := decide_eq_true c15
     clear c15
     obtain ⟨⟨t118, t119, t120, t121, t122⟩, A16, H⟩ := zO H; try dsimp only at H
     by_cases c17 : x114004_1.length < 1954687338268
     ·rw [if_pos c17] at H
      have LMc17 := Aside0.mk c17
      clear c17
      generalize hy126 : (x114004_1 ++ [(⟨t118, t119, t120, t121, t122⟩ : S29)]) = y126 at H; (try rw [Option.bind_some] at H); have Ny126 := Aside0.mk hy126.symm; clear hy126
      have H' := Aside0.mk H
      clear H
      have hnb18 := NB111_112.out
      have hnc18 := NB112_111.out
      have hnb19 := NB111_113.out
      have hnc19 := NB113_111.out
      have hcz20 := zc5 BK111.out
      have hfz20 := zf5 BK111.out
      have p117 : 0 ≤ (x4_1 : Int) := zD
      have q117 : x4_1 < (l0_4.length : Int) := zD
      obtain ⟨ad117, A117_4, c117_4, e117, hx117_0, hx117_1, hx117_2, hx117_3, hx117_4, hl117_4, hi117_4⟩ := at_T29 HR0_4.out x4_1 p117 q117
      cases e117
      replace hx117_0 := zh HB.out hx117_0
      replace hx117_1 := zh HB.out hx117_1
      replace hx117_2 := zh HB.out hx117_2
      replace hx117_3 := zh HB.out hx117_3
      replace hx117_4 := zh HB.out hx117_4
      have HR117_4 := Aside0.mk hi117_4
      have HC117_4 := Aside0.mk hl117_4
      clear hi117_4 hl117_4
      replace p117 := eq_true p117
      replace q117 := eq_true q117
      go_wp2_with (first | ((with_reducible refine gC 54 rfl ?_); refine gL 21 Try.func54 #[.agg #[.int .i64 ((rd_T29 l0_4 x4_1).f0), .int .i64 ((rd_T29 l0_4 x4_1).f1), .string ((rd_T29 l0_4 x4_1).f2), .string ((rd_T29 l0_4 x4_1).f3), .slice A117_4 ((rd_T29 l0_4 x4_1).f4).length c117_4]] ?_; (with_reducible refine (ih k1 (by have := HK1.out; omega) ((rd_T29 l0_4 x4_1).f0) ((rd_T29 l0_4 x4_1).f1) ((rd_T29 l0_4 x4_1).f2) ((rd_T29 l0_4 x4_1).f3) _ _ ((rd_T29 l0_4 x4_1).f4) t118 t119 t120 t121 t122 _ ?side1 ?side2 A16.out).mono ?_); (case side1 => exact zC (Kd.C_below HR117_4.out HB.out)); (case side2 => exact HC117_4.out); rintro e w21 ⟨v123, rfl, ho0, hb⟩; refine ⟨_, rfl, ?_⟩; have HO124 := Aside0.mk (Kd.R_lower (Kd.R_newB (Kd.R_newB (Kd.R_newB (Kd.R_new' ho0 (Kd.R_lt (zR HO_114004.out))) (g := gb111) (o := .cells #[.int .i64 a0_0, .int .i64 a0_1, .string a0_2, .string a0_3, .slice (some ad117) l0_4.length c0_4] 29 (0, 0)) (zB BK111.out)) (g := gb112) (o := .cells #[.int .i64 0, .int .i64 0, .string (⟨#[]⟩ : ByteArray), .string (⟨#[]⟩ : ByteArray), .slice none 0 0] 29 (0, 0)) (zB BK112.out)) (g := gb113) (o := .cells #[.int .i64 a0_0, .int .i64 a0_1, .string a0_2, .string a0_3, u114004] 29 (0, 0)) (zB BK113.out)) (below_size (zL3 HB.out GE111.out GE112.out GE113.out))); replace HO_114004 := Aside0.mk (Kd.R_elder' (zR HO_114004.out) (Kd.R_base ho0) hb); replace BK111 := zBB BK111 hb; replace BK112 := zBB BK112 hb; replace BK113 := zBB BK113 hb; replace HB := zLB (zL3 HB.out GE111.out GE112.out GE113.out) hb; clear ho0 hb) | ((with_reducible refine gD 5 rfl ?_); refine bE 5 #[.int .i64 0, .int .i64 0, .string (⟨#[]⟩ : ByteArray), .string (⟨#[]⟩ : ByteArray), .slice none 0 0] 29 ?_; intro gb125 hg w22 hbox hb; replace HO_114004 := Aside0.mk (Kd.R_below (Kd.R_elderB (zR HO_114004.out) gb125 (Nat.le_of_eq hg.symm)) hb); replace HO124 := Aside0.mk (Kd.R_below (Kd.R_elderB (zR HO124.out) gb125 (Nat.le_of_eq hg.symm)) hb); have BK125 := Aside0.mk hbox; have GW125 := Aside0.mk (zg (zL3 HB.out GE111.out GE112.out GE113.out) hg : w.heap.size ≤ gb125); have GE125 := GW125; replace HB := zLB (zL3 HB.out GE111.out GE112.out GE113.out) hb; have NB111_125 := Aside0.mk (zN BK111.out hg : gb111 ≠ gb125); have NB125_111 := Aside0.mk (zM BK111.out hg : gb125 ≠ gb111); replace BK111 := zBB BK111 hb; have NB112_125 := Aside0.mk (zN BK112.out hg : gb112 ≠ gb125); have NB125_112 := Aside0.mk (zM BK112.out hg : gb125 ≠ gb112); replace BK112 := zBB BK112 hb; have NB113_125 := Aside0.mk (zN BK113.out hg : gb113 ≠ gb125); have NB125_113 := Aside0.mk (zM BK113.out hg : gb125 ≠ gb113); replace BK113 := zBB BK113 hb; clear hb hbox hg; have hnb23 := NB125_111.out; have hnc23 := NB111_125.out; have hnb24 := NB125_112.out; have hnc24 := NB112_125.out; have hnb25 := NB125_113.out; have hnc25 := NB113_125.out; have hcz26 := zc5 BK125.out; have hfz26 := zf5 BK125.out; obtain ⟨Ao27, co27, eo27⟩ := Kd.R_slice HO124.out; subst eo27) | ((with_reducible refine gate_store (t := 29) (p := 5) rfl ?_); refine store_event (t := 29) (p := 5) (v := ?vo_w28) (w1 := (((((w22.setCell ⟨gb125, 0, none⟩ (.int .i64 t118)).setCell ⟨gb125, 1, none⟩ (.int .i64 t119)).setCell ⟨gb125, 2, none⟩ (.string t120)).setCell ⟨gb125, 3, none⟩ (.string t121)).setCell ⟨gb125, 4, none⟩ (.slice Ao27 t122.length co27))) ?hg ?ho ?hn ?hr ?_; (case ho => rfl); (case hg => rfl); (case hn => rfl); (case hr => first | (go_simp; done) | (go_simp; rfl)); intro w28 hw; have n0_ : Aside0 (Kd.R k29 29 w28 w.heap.size (fun k_ => some k_ ≠ (.slice Ao27 t122.length co27 : Value).ownBlock ∧ k_ ≠ gb111 ∧ k_ ≠ gb112 ∧ k_ ≠ gb113 ∧ k_ ≠ gb125) u114004 x114004_1) := ⟨(by rw [hw]; exact (by (with_reducible repeat (first | apply Kd.R_alloc | apply Kd.R_drewN | apply Kd.R_drew)); exact Kd.R_mono (zRF5 (Kd.R_mono HO_114004.out (fun k_ hk => (⟨hk, hk.2⟩ : _ ∧ k_ ≠ gb125))) gb125 (fun _ hk => hk.2) (.int .i64 t118) (.int .i64 t119) (.string t120) (.string t121) (.slice Ao27 t122.length co27)) (fun _ hk => ⟨hk.1.1.2, ⟨hk.1.1.1.1, ⟨hk.1.1.1.2.1, ⟨hk.1.1.1.2.2, hk.1.2⟩⟩⟩⟩)))⟩; have n1_ : Aside0 (Kd.R k29 29 w28 w.heap.size (fun k_ => some k_ ≠ (u114004 : Value).ownBlock ∧ k_ ≠ gb111 ∧ k_ ≠ gb112 ∧ k_ ≠ gb113 ∧ k_ ≠ gb125) (.slice Ao27 t122.length co27) t122) := ⟨(by rw [hw]; exact (by (with_reducible repeat (first | apply Kd.R_alloc | apply Kd.R_drewN | apply Kd.R_drew)); exact Kd.R_mono (zRF5 (Kd.R_mono HO124.out (fun k_ hk => (⟨hk, hk.2⟩ : _ ∧ k_ ≠ gb125))) gb125 (fun _ hk => hk.2) (.int .i64 t118) (.int .i64 t119) (.string t120) (.string t121) (.slice Ao27 t122.length co27)) (fun _ hk => ⟨hk.1.1.1.1.1.2, ⟨hk.1.1.1.1.2, ⟨hk.1.1.1.2, ⟨hk.1.1.2, hk.1.2⟩⟩⟩⟩)))⟩; have n2_ : Aside0 (w28.heap[gb111]? = some (.cells #[.int .i64 a0_0, .int .i64 a0_1, .string a0_2, .string a0_3, .slice (some ad117) l0_4.length c0_4] 29 (0, 0))) := ⟨(by rw [hw]; exact (by refine zB ?_; refine zr5 ?_ NB111_125.out; exact zB BK111.out))⟩; have n3_ : Aside0 (w28.heap[gb112]? = some (.cells #[.int .i64 0, .int .i64 0, .string (⟨#[]⟩ : ByteArray), .string (⟨#[]⟩ : ByteArray), .slice none 0 0] 29 (0, 0))) := ⟨(by rw [hw]; exact (by refine zB ?_; refine zr5 ?_ NB112_125.out; exact zB BK112.out))⟩; have n4_ : Aside0 (w28.heap[gb113]? = some (.cells #[.int .i64 a0_0, .int .i64 a0_1, .string a0_2, .string a0_3, u114004] 29 (0, 0))) := ⟨(by rw [hw]; exact (by refine zB ?_; refine zr5 ?_ NB113_125.out; exact zB BK113.out))⟩; have n5_ : Aside0 (w28.heap[gb125]? = some (.cells #[.int .i64 t118, .int .i64 t119, .string t120, .string t121, .slice Ao27 t122.length co27] 29 (0, 0))) := ⟨(by rw [hw]; exact (by refine zB ?_; refine zp5 (cs := #[.int .i64 0, .int .i64 0, .string (⟨#[]⟩ : ByteArray), .string (⟨#[]⟩ : ByteArray), .slice none 0 0]) ?_; exact zB BK125.out))⟩; have n6_ : Aside0 (Below w.heap.size w w28) := ⟨(by rw [hw]; exact (zL4 HB.out GE111.out GE112.out GE113.out GE125.out))⟩; clear hw; clear HO_114004; clear HO124; clear BK111; clear BK112; clear BK113; clear BK125; clear HB; have HO_114004 := n0_; have HO124 := n1_; have BK111 := n2_; have BK112 := n3_; have BK113 := n4_; have BK125 := n5_; have HB := n6_; clear n0_ n1_ n2_ n3_ n4_ n5_ n6_; have hnb29 := NB113_112.out; have hnc29 := NB112_113.out; have hcz30 := zc5 BK113.out; have hfz30 := zf5 BK113.out; have hcz31 := zc5 BK125.out; have hfz31 := zf5 BK125.out) | ((with_reducible refine gate_builtin (b := .append) (xs := #[.tmp 23, .tmp 25]) rfl ?_); at_builtin; refine Kd.R_append k29 (w0 := w) w.heap.size rfl (.tmp 23) (.tmp 25) 27 29 (.agg #[(.int .i64 0), (.int .i64 0), (.string ⟨#[]⟩), (.string ⟨#[]⟩), (.slice none 0 0)]) 72 rfl Try.underlying27 info29 rfl (by decide) (by omega) u114004 x114004_1 (⟨t118, t119, t120, t121, t122⟩ : S29) [.int .i64 t118, .int .i64 t119, .string t120, .string t121, .slice Ao27 t122.length co27] (fun k_ => k_ ≠ gb111 ∧ k_ ≠ gb112 ∧ k_ ≠ gb113 ∧ k_ ≠ gb125) (fun k_ => ((fun k_ => k_ ≠ gb111 ∧ k_ ≠ gb112 ∧ k_ ≠ gb113 ∧ k_ ≠ gb125)) k_ ∧ some k_ ≠ (u114004 : Value).ownBlock) rfl rfl ?aP (fun _ hk => hk) ?aF ?aO ?aB ?aS ?aL ?_; (case aP => exact k29_mkM _ _ _ (⟨t118, t119, t120, t121, t122⟩ : S29) (Kd.R_mono (HO124.out) (fun k_ hk => ⟨⟨hk.2.1, ⟨hk.2.2.1, ⟨hk.2.2.2.1, hk.2.2.2.2⟩⟩⟩, hk.1⟩))); (case aB => exact (zL4 HB.out GE111.out GE112.out GE113.out GE125.out)); (case aF => exact (fun k_ hk => ⟨Kd.freshB (g := gb111) (o := .cells #[.int .i64 a0_0, .int .i64 a0_1, .string a0_2, .string a0_3, .slice (some ad117) l0_4.length c0_4] 29 (0, 0)) (zB BK111.out) k_ hk, Kd.freshB (g := gb112) (o := .cells #[.int .i64 0, .int .i64 0, .string (⟨#[]⟩ : ByteArray), .string (⟨#[]⟩ : ByteArray), .slice none 0 0] 29 (0, 0)) (zB BK112.out) k_ hk, Kd.freshB (g := gb113) (o := .cells #[.int .i64 a0_0, .int .i64 a0_1, .string a0_2, .string a0_3, u114004] 29 (0, 0)) (zB BK113.out) k_ hk, Kd.freshB (g := gb125) (o := .cells #[.int .i64 t118, .int .i64 t119, .string t120, .string t121, .slice Ao27 t122.length co27] 29 (0, 0)) (zB BK125.out) k_ hk⟩)); (case aO => exact (zRm HO_114004.out (fun _ hk => ⟨hk.2.1, ⟨hk.2.2.1, ⟨hk.2.2.2.1, hk.2.2.2.2⟩⟩⟩))); (case aS => exact (below_size (zL4 HB.out GE111.out GE112.out GE113.out GE125.out))); (case aL => have := LMc17.out; omega); intro v127 w32 ho hb hg hat; rw [← Ny126.out] at ho; replace BK111 := Aside0.mk (blk_grown (g := gb111) (o := .cells #[.int .i64 a0_0, .int .i64 a0_1, .string a0_2, .string a0_3, .slice (some ad117) l0_4.length c0_4] 29 (0, 0)) (zB BK111.out) hg (Kd.R_away HO_114004.out (fun _ hk => hk.2.1))); replace BK112 := Aside0.mk (blk_grown (g := gb112) (o := .cells #[.int .i64 0, .int .i64 0, .string (⟨#[]⟩ : ByteArray), .string (⟨#[]⟩ : ByteArray), .slice none 0 0] 29 (0, 0)) (zB BK112.out) hg (Kd.R_away HO_114004.out (fun _ hk => hk.2.2.1))); replace BK113 := Aside0.mk (blk_grown (g := gb113) (o := .cells #[.int .i64 a0_0, .int .i64 a0_1, .string a0_2, .string a0_3, u114004] 29 (0, 0)) (zB BK113.out) hg (Kd.R_away HO_114004.out (fun _ hk => hk.2.2.2.1))); replace BK125 := Aside0.mk (blk_grown (g := gb125) (o := .cells #[.int .i64 t118, .int .i64 t119, .string t120, .string t121, .slice Ao27 t122.length co27] 29 (0, 0)) (zB BK125.out) hg (Kd.R_away HO_114004.out (fun _ hk => hk.2.2.2.2))); replace HB := Aside0.mk hb; have HO128 := Aside0.mk (ho); clear HO_114004 HO124; clear ho hb hg hat; obtain ⟨Ao33, co33, eo33⟩ := Kd.R_slice HO128.out; subst eo33; have hcz34 := zc5 BK113.out; have hfz34 := zf5 BK113.out))
      go_roundg k1
      case measure => have := HK1.out; omega
      case rel => exact ⟨(wrap64 (x4_1 + 1)), (y126), (.slice Ao33 y126.length co33), zV, H', ⟨by have := HK1.out; omega⟩, ⟨by (with_reducible repeat (first | apply Kd.R_alloc | apply Kd.R_drewN | apply Kd.R_drew)); exact Kd.R_mono (Kd.R_far (p := ⟨gb113, 4, none⟩) (Kd.R_mono HO128.out (fun k_ hk => (⟨hk, hk.2.2.1⟩ : _ ∧ k_ ≠ gb113))) (fun _ hk => hk.2) (.slice Ao33 y126.length co33)) (fun _ hk => ⟨hk.1.1, ⟨hk.1.2.1, hk.1.2.2.1⟩⟩)⟩, ⟨by (with_reducible repeat (first | refine bN ?_ _ | refine bD ?_ | refine bA ?_ _)); refine blk_far ?_ NB111_113.out _; exact zB BK111.out⟩, ⟨by (with_reducible repeat (first | refine bN ?_ _ | refine bD ?_ | refine bA ?_ _)); refine blk_far ?_ NB112_113.out _; exact zB BK112.out⟩, ⟨by (with_reducible repeat (first | refine bN ?_ _ | refine bD ?_ | refine bA ?_ _)); refine blk_put (cs := #[.int .i64 a0_0, .int .i64 a0_1, .string a0_2, .string a0_3, u114004]) ?_ 4 _ rfl; exact zB BK113.out⟩, ⟨zL4 HB.out GE111.out GE112.out GE113.out GE125.out⟩⟩
     ·rw [if_neg c17] at H
      exact absurd H (by simp)
    ·rw [if_neg c15] at H
     exact absurd H (by simp)
   ·rw [if_neg c14] at H
    have c14b0 := decide_eq_false c14
    clear c14
    simp only [Option.some.injEq, Prod.mk.injEq] at H
    obtain ⟨rfl, rfl, rfl, rfl, rfl⟩ := H
    have hnb35 := NB111_112.out
    have hnc35 := NB112_111.out
    have hnb36 := NB111_113.out
    have hnc36 := NB113_111.out
    have hcz37 := zc5 BK111.out
    have hfz37 := zf5 BK111.out
    have hnb38 := NB113_112.out
    have hnc38 := NB112_113.out
    have hcz39 := zc5 BK113.out
    have hfz39 := zf5 BK113.out
    have hcz40 := zc5 BK112.out
    have hfz40 := zf5 BK112.out
    obtain ⟨Ao41, co41, eo41⟩ := Kd.R_slice HO_114004.out
    subst eo41
    go_wp2
    refine bodyPost_ret (results_cell_row rfl _ _ gb112 29 #[.int .i64 a0_0, .int .i64 a0_1, .string a0_2, .string a0_3, .slice Ao41 x114004_1.length co41] (0, 0) _ rfl (by refine zB ?_; refine zp5 (cs := #[.int .i64 0, .int .i64 0, .string (⟨#[]⟩ : ByteArray), .string (⟨#[]⟩ : ByteArray), .slice none 0 0]) ?_; exact zB BK112.out) Try.underlying29 rfl (by kernel_rfl)) rfl ?_
    exact ⟨_, zW, by (with_reducible repeat (first | apply Kd.R_alloc | apply Kd.R_drewN | apply Kd.R_drew)); exact Kd.R_mono (zRF5 (Kd.R_mono HO_114004.out (fun k_ hk => (⟨hk, hk.2.1⟩ : _ ∧ k_ ≠ gb112))) gb112 (fun _ hk => hk.2) (.int .i64 a0_0) (.int .i64 a0_1) (.string a0_2) (.string a0_3) (.slice Ao41 x114004_1.length co41)) (fun _ hk => trivial), zL3 HB.out GE111.out GE112.out GE113.out⟩

open Go.Proofs.YtfhblnbicnmndaaW.PrintWords renaming blk_drewN → bN, blk_drew → bD, blk_alloc → bA, blk_cell → bC, blk_below → bB, below_set → bS
/-! ### spec_Opposite: function 27 -/
def spec_Opposite.j0 : Nat → Bool → Int → Int → ByteArray → ByteArray → List (S29) → Option (Int × Int × ByteArray × ByteArray × (List (S29)))
 | 0, _, _, _, _, _, _ => none
 | k + 1, x11, x130000, x130001, x130002, x130003, x130004 => if x11 = true then (if 0 < (x130004.length : Int) then ((spec_l5Copy.f k ((rd_T29 x130004 0).f0) ((rd_T29 x130004 0).f1) ((rd_T29 x130004 0).f2) ((rd_T29 x130004 0).f3) ((rd_T29 x130004 0).f4)).bind fun bt132 => (some (bt132.1, bt132.2.1, bt132.2.2.1, bt132.2.2.2.1, bt132.2.2.2.2))) else (none)) else ((spec_l5Copy.f k x130000 x130001 x130002 x130003 x130004).bind fun bt139 => (some (9, 0, (⟨#[]⟩ : ByteArray), (⟨#[]⟩ : ByteArray), (([(⟨bt139.1, bt139.2.1, bt139.2.2.1, bt139.2.2.2.1, bt139.2.2.2.2⟩ : S29)] : List (S29))))))
def spec_Opposite.f (k : Nat) (a0_0 : Int) (a0_1 : Int) (a0_2 : ByteArray) (a0_3 : ByteArray) (l0_4 : List (S29)) : Option (Int × Int × ByteArray × ByteArray × (List (S29))) := if a0_0 = 9 then (spec_Opposite.j0 k ((l0_4.length : Int) == 1) a0_0 a0_1 a0_2 a0_3 l0_4) else (spec_Opposite.j0 k false a0_0 a0_1 a0_2 a0_3 l0_4)
theorem spec_Opposite.mono_l : ∀ k, (∀ y0 y1 y2 y3 y4 y5, LeO (spec_Opposite.j0 k y0 y1 y2 y3 y4 y5) (spec_Opposite.j0 (k + 1) y0 y1 y2 y3 y4 y5))
 | 0 => fun _ _ _ _ _ _ r h => by simp [spec_Opposite.j0] at h
 | k + 1 => by
  have ih0 := spec_Opposite.mono_l k
  ·intro y0 y1 y2 y3 y4 y5
   unfold spec_Opposite.j0
   repeat' first
   | (with_reducible exact ih0 _ _ _ _ _ _)
   | (with_reducible apply spec_l5Copy.mono)
   | (with_reducible exact LeO.refl _)
   | (with_reducible exact LeO.none _)
   | (with_reducible refine LeO.ite ?_ ?_)
   | (with_reducible refine LeO.bind ?_ (fun _ => ?_))
   | exact ih0 _ _ _ _ _ _
   | apply spec_l5Copy.mono
   | exact LeO.none _
   | refine LeO.ite ?_ ?_
   | refine LeO.bind ?_ (fun _ => ?_)
theorem spec_Opposite.mono : ∀ a0 a1 a2 a3 a4 k, LeO (spec_Opposite.f k a0 a1 a2 a3 a4) (spec_Opposite.f (k + 1) a0 a1 a2 a3 a4) := by
 intro a0 a1 a2 a3 a4 k
 have ih0 := spec_Opposite.mono_l k
 unfold spec_Opposite.f
 repeat' first
   | (with_reducible exact ih0 _ _ _ _ _ _)
   | (with_reducible apply spec_l5Copy.mono)
   | (with_reducible exact LeO.refl _)
   | (with_reducible exact LeO.none _)
   | (with_reducible refine LeO.ite ?_ ?_)
   | (with_reducible refine LeO.bind ?_ (fun _ => ?_))
   | exact ih0 _ _ _ _ _ _
   | apply spec_l5Copy.mono
   | exact LeO.none _
   | refine LeO.ite ?_ ?_
   | refine LeO.bind ?_ (fun _ => ?_)
set_option maxHeartbeats 8000000 in
set_option maxRecDepth 100000 in
theorem spec_Opposite.calls (k : Nat) (a0_0 : Int) (a0_1 : Int) (a0_2 : ByteArray) (a0_3 : ByteArray) (A0_4 : Option Addr) (c0_4 : Nat) (l0_4 : List (S29)) (r1 : Int) (r2 : Int) (r3 : ByteArray) (r4 : ByteArray) (r5 : List (S29)) (w : World) (hr0_4 : Kd.C k29 w A0_4 l0_4.length l0_4) (hc0_4 : l0_4.length ≤ c0_4) (h : spec_Opposite.f k a0_0 a0_1 a0_2 a0_3 l0_4 = some (r1, r2, r3, r4, r5)) :
  Calls Try.prog 27 #[.agg #[.int .i64 a0_0, .int .i64 a0_1, .string a0_2, .string a0_3, .slice A0_4 l0_4.length c0_4]] w fun e w' => ∃ v4_ : Value, e = .returned (.agg #[.int .i64 r1, .int .i64 r2, .string r3, .string r4, v4_]) ∧ Kd.N k29 29 w' w.heap.size (fun k_ => (w.heap.size ≤ k_)) v4_ r5 ∧ Below w.heap.size w w' := by
 have hu29 := Try.underlying29
 have HR0_4 := Aside0.mk hr0_4
 have HC0_4 := Aside0.mk hc0_4
 clear hr0_4 hc0_4
 have HB := Aside0.mk (Below.refl w.heap.size w)
 unfold spec_Opposite.f at h; have H := h
 clear h
 have HC2 := Aside0.mk H
 clear H
 go_enter Try.func27, Try.ntmps27
 go_upto_region 1 with (first | ((with_reducible refine gD 1 rfl ?_); (try (refine gate_guard (by rfl) ?_; dsimp only)); refine box_event ?hg (N := 1) ?hd (cs := #[.int .i64 a0_0, .int .i64 a0_1, .string a0_2, .string a0_3, .slice A0_4 l0_4.length c0_4]) (t := 29) ?hr ?_; (case hd => rfl); (case hg => rfl); (case hr => first | (go_simp; done) | (go_simp; rfl)); intro gb129 hg w3 hbox hb; have BK129 := Aside0.mk hbox; have GW129 := Aside0.mk (zg (zL HB.out) hg : w.heap.size ≤ gb129); have GE129 := GW129; replace HB := zLB (zL HB.out) hb; clear hb hbox hg) | ((with_reducible refine gD 2 rfl ?_); (try (refine gate_guard (by rfl) ?_; dsimp only)); refine box_event ?hg (N := 2) ?hd (cs := #[.int .i64 0, .int .i64 0, .string (⟨#[]⟩ : ByteArray), .string (⟨#[]⟩ : ByteArray), .slice none 0 0]) (t := 29) ?hr ?_; (case hd => rfl); (case hg => rfl); (case hr => first | (go_simp; done) | (go_simp; rfl)); intro gb130 hg w4 hbox hb; have BK130 := Aside0.mk hbox; have GW130 := Aside0.mk (zg (zL1 HB.out GE129.out) hg : w.heap.size ≤ gb130); have GE130 := GW130; replace HB := zLB (zL1 HB.out GE129.out) hb; have NB129_130 := Aside0.mk (zN BK129.out hg : gb129 ≠ gb130); have NB130_129 := Aside0.mk (zM BK129.out hg : gb130 ≠ gb129); replace BK129 := zBB BK129 hb; clear hb hbox hg))
 (try simp only [Act.put, List.setIfInBounds_toArray, List.set_cons_zero, List.set_cons_succ])
 go_cut [11] (fun v11 wc => ∃ (kq : Nat) (x11_1 : Bool), v11 = .bool x11_1 ∧ Aside0 (spec_Opposite.j0 kq x11_1 a0_0 a0_1 a0_2 a0_3 l0_4 = some (r1, r2, r3, r4, r5)) ∧ Aside0 (kq ≤ k) ∧ Aside0 (wc.heap[gb129]? = some (.cells #[.int .i64 a0_0, .int .i64 a0_1, .string a0_2, .string a0_3, (.slice A0_4 l0_4.length c0_4)] 29 (0, 0))) ∧ Aside0 (wc.heap[gb130]? = some (.cells #[.int .i64 0, .int .i64 0, .string (⟨#[]⟩ : ByteArray), .string (⟨#[]⟩ : ByteArray), (.slice none 0 0)] 29 (0, 0))) ∧ Aside0 (Below w.heap.size w wc))
 case first =>
  have H := HC2.out
  clear HC2
  by_cases c5 : a0_0 = 9
  ·rw [if_pos c5] at H
   obtain ⟨c5b0, c5b1⟩ := zt c5
   clear c5
   (first | rw [c5b0] | (simp only [i64_w, i32_w]; rw [c5b0]) | skip)
   have H' := Aside0.mk H
   clear H
   have hnb6 := NB129_130.out
   have hnc6 := NB130_129.out
   have hcz7 := zc5 BK129.out
   have hfz7 := zf5 BK129.out
   go_wp2
   go_meet
   case rel => exact ⟨_, (((l0_4.length : Int) == 1)), zV, H', ⟨by first | omega | exact Nat.le_refl _⟩, ⟨zB BK129.out⟩, ⟨zB BK130.out⟩, ⟨zL2 HB.out GE129.out GE130.out⟩⟩
  ·rw [if_neg c5] at H
   obtain ⟨c5b0, c5b1⟩ := zf c5
   (first | rw [c5b0] | (simp only [i64_w, i32_w]; rw [c5b0]) | skip)
   have H' := Aside0.mk H
   clear H
   have hnb8 := NB129_130.out
   have hnc8 := NB130_129.out
   have hcz9 := zc5 BK129.out
   have hfz9 := zf5 BK129.out
   go_wp2
   go_meet
   case rel => exact ⟨_, (false), zV, H', ⟨by first | omega | exact Nat.le_refl _⟩, ⟨zB BK129.out⟩, ⟨zB BK130.out⟩, ⟨zL2 HB.out GE129.out GE130.out⟩⟩
 case rest =>
  clear HC2
  try clear c2
  try clear p2
  try clear c5
  try clear c5b0
  try clear c5b1
  try clear c6
  try clear c8
  try clear hcz7; try clear hcz9; try clear hfz7; try clear hfz9
  obtain ⟨kq, x11_1, rfl, HA, HJ1, BK129, BK130, HB⟩ := hcut
  cases kq with
  | zero => exact absurd HA.out (by simp [spec_Opposite.j0])
  | succ kj1 =>
   have H := HA.out
   clear HA
   simp only [spec_Opposite.j0] at H
   by_cases c10 : x11_1 = true
   ·subst c10
    rw [if_pos rfl] at H
    by_cases c11 : 0 < (l0_4.length : Int)
    ·rw [if_pos c11] at H
     have c11b0 := decide_eq_true c11
     have c11b1 : decide (0 < l0_4.length) = true := decide_eq_true (by omega)
     clear c11
     obtain ⟨⟨t132, t133, t134, t135, t136⟩, A12, H⟩ := zO H; try dsimp only at H
     simp only [Option.some.injEq, Prod.mk.injEq] at H
     obtain ⟨rfl, rfl, rfl, rfl, rfl⟩ := H
     have hnb13 := NB129_130.out
     have hnc13 := NB130_129.out
     have hcz14 := zc5 BK129.out
     have hfz14 := zf5 BK129.out
     have p131 : 0 ≤ (0 : Int) := (by omega)
     have q131 : 0 < (l0_4.length : Int) := zD
     obtain ⟨ad131, A131_4, c131_4, e131, hx131_0, hx131_1, hx131_2, hx131_3, hx131_4, hl131_4, hi131_4⟩ := at_T29 HR0_4.out 0 p131 q131
     cases e131
     have qi131 : (0 < l0_4.length) = True := eq_true (by omega)
     (try rw [show ((0 : Int)).toNat = 0 from rfl] at hx131_0)
     (try rw [show 0 * 5 = 0 from rfl] at hx131_0)
     (try rw [Addr.add_zero'] at hx131_0)
     (try rw [show ((0 : Int)).toNat = 0 from rfl] at hx131_1)
     (try rw [show 0 * 5 = 0 from rfl] at hx131_1)
     (try rw [Addr.add_zero'] at hx131_1)
     (try rw [show ((0 : Int)).toNat = 0 from rfl] at hx131_2)
     (try rw [show 0 * 5 = 0 from rfl] at hx131_2)
     (try rw [Addr.add_zero'] at hx131_2)
     (try rw [show ((0 : Int)).toNat = 0 from rfl] at hx131_3)
     (try rw [show 0 * 5 = 0 from rfl] at hx131_3)
     (try rw [Addr.add_zero'] at hx131_3)
     (try rw [show ((0 : Int)).toNat = 0 from rfl] at hx131_4)
     (try rw [show 0 * 5 = 0 from rfl] at hx131_4)
     (try rw [Addr.add_zero'] at hx131_4)
     replace hx131_0 := zh HB.out hx131_0
     replace hx131_1 := zh HB.out hx131_1
     replace hx131_2 := zh HB.out hx131_2
     replace hx131_3 := zh HB.out hx131_3
     replace hx131_4 := zh HB.out hx131_4
     have HR131_4 := Aside0.mk hi131_4
     have HC131_4 := Aside0.mk hl131_4
     clear hi131_4 hl131_4
     replace p131 := eq_true p131
     replace q131 := eq_true q131
     go_wp2_with (first | ((with_reducible refine gC 54 rfl ?_); refine gL 16 Try.func54 #[.agg #[.int .i64 ((rd_T29 l0_4 0).f0), .int .i64 ((rd_T29 l0_4 0).f1), .string ((rd_T29 l0_4 0).f2), .string ((rd_T29 l0_4 0).f3), .slice A131_4 ((rd_T29 l0_4 0).f4).length c131_4]] ?_; (with_reducible refine (spec_l5Copy.calls kj1 ((rd_T29 l0_4 0).f0) ((rd_T29 l0_4 0).f1) ((rd_T29 l0_4 0).f2) ((rd_T29 l0_4 0).f3) _ _ ((rd_T29 l0_4 0).f4) t132 t133 t134 t135 t136 _ ?side1 ?side2 A12.out).mono ?_); (case side1 => exact zC (Kd.C_below HR131_4.out HB.out)); (case side2 => exact HC131_4.out); rintro e w15 ⟨v137, rfl, ho0, hb⟩; refine ⟨_, rfl, ?_⟩; have HO138 := Aside0.mk (Kd.N_lower (Kd.N_mono (ok' := fun k_ => (w.heap.size ≤ k_) ∧ k_ ≠ gb129 ∧ k_ ≠ gb130) (Kd.R_N (Kd.R_bound ho0)) (fun k_ hk_ => ⟨(Nat.le_trans (below_size (zL2 HB.out GE129.out GE130.out)) hk_.2.1), (Kd.freshB (g := gb129) (o := .cells #[.int .i64 a0_0, .int .i64 a0_1, .string a0_2, .string a0_3, .slice (some ad131) l0_4.length c0_4] 29 (0, 0)) (zB BK129.out) k_ hk_.2.1), (Kd.freshB (g := gb130) (o := .cells #[.int .i64 0, .int .i64 0, .string (⟨#[]⟩ : ByteArray), .string (⟨#[]⟩ : ByteArray), .slice none 0 0] 29 (0, 0)) (zB BK130.out) k_ hk_.2.1)⟩)) (below_size (zL2 HB.out GE129.out GE130.out))); replace BK129 := zBB BK129 hb; replace BK130 := zBB BK130 hb; replace HB := zLB (zL2 HB.out GE129.out GE130.out) hb; clear ho0 hb; have hcz16 := zc5 BK130.out; have hfz16 := zf5 BK130.out; obtain ⟨Ao17, co17, eo17⟩ := Kd.N_slice HO138.out; subst eo17))
     refine bodyPost_ret (results_cell_row rfl _ _ gb130 29 #[.int .i64 t132, .int .i64 t133, .string t134, .string t135, .slice Ao17 t136.length co17] (0, 0) _ rfl (by refine zB ?_; refine zp5 (cs := #[.int .i64 0, .int .i64 0, .string (⟨#[]⟩ : ByteArray), .string (⟨#[]⟩ : ByteArray), .slice none 0 0]) ?_; exact zB BK130.out) Try.underlying29 rfl (by kernel_rfl)) rfl ?_
     exact ⟨_, zW, by (with_reducible repeat (first | apply Kd.N_alloc | apply Kd.N_drewN | apply Kd.N_drew)); exact Kd.N_mono (zNF5 (Kd.N_mono HO138.out (fun k_ hk => (⟨hk, hk.2.2⟩ : _ ∧ k_ ≠ gb130))) gb130 (fun _ hk => hk.2) (.int .i64 t132) (.int .i64 t133) (.string t134) (.string t135) (.slice Ao17 t136.length co17)) (fun _ hk => hk.1.1), zL2 HB.out GE129.out GE130.out⟩
    ·rw [if_neg c11] at H
     exact absurd H (by simp)
   ·obtain rfl := Bool.eq_false_iff.mpr c10
    rw [if_neg zn] at H
    obtain ⟨⟨t139, t140, t141, t142, t143⟩, A18, H⟩ := zO H; try dsimp only at H
    generalize hy146 : (([(⟨t139, t140, t141, t142, t143⟩ : S29)] : List (S29))) = y146 at H; (try rw [Option.bind_some] at H); have Ny146 := Aside0.mk hy146.symm; clear hy146
    simp only [Option.some.injEq, Prod.mk.injEq] at H
    obtain ⟨rfl, rfl, rfl, rfl, rfl⟩ := H
    have hnb19 := NB129_130.out
    have hnc19 := NB130_129.out
    have hcz20 := zc5 BK129.out
    have hfz20 := zf5 BK129.out
    go_wp2_with (first | ((with_reducible refine gC 54 rfl ?_); refine gL 18 Try.func54 #[.agg #[.int .i64 a0_0, .int .i64 a0_1, .string a0_2, .string a0_3, .slice A0_4 l0_4.length c0_4]] ?_; (with_reducible refine (spec_l5Copy.calls kj1 a0_0 a0_1 a0_2 a0_3 _ _ l0_4 t139 t140 t141 t142 t143 _ ?side1 ?side2 A18.out).mono ?_); (case side1 => exact zC (Kd.C_below HR0_4.out HB.out)); (case side2 => exact HC0_4.out); rintro e w21 ⟨v144, rfl, ho0, hb⟩; refine ⟨_, rfl, ?_⟩; have HO145 := Aside0.mk (Kd.N_lower (Kd.N_mono (ok' := fun k_ => (w.heap.size ≤ k_) ∧ k_ ≠ gb129 ∧ k_ ≠ gb130) (Kd.R_N (Kd.R_bound ho0)) (fun k_ hk_ => ⟨(Nat.le_trans (below_size (zL2 HB.out GE129.out GE130.out)) hk_.2.1), (Kd.freshB (g := gb129) (o := .cells #[.int .i64 a0_0, .int .i64 a0_1, .string a0_2, .string a0_3, .slice A0_4 l0_4.length c0_4] 29 (0, 0)) (zB BK129.out) k_ hk_.2.1), (Kd.freshB (g := gb130) (o := .cells #[.int .i64 0, .int .i64 0, .string (⟨#[]⟩ : ByteArray), .string (⟨#[]⟩ : ByteArray), .slice none 0 0] 29 (0, 0)) (zB BK130.out) k_ hk_.2.1)⟩)) (below_size (zL2 HB.out GE129.out GE130.out))); replace BK129 := zBB BK129 hb; replace BK130 := zBB BK130 hb; replace HB := zLB (zL2 HB.out GE129.out GE130.out) hb; clear ho0 hb; obtain ⟨Ao22, co22, eo22⟩ := Kd.N_slice HO145.out; subst eo22) | ((with_reducible refine gD 19 rfl ?_); (try (refine gate_guard (by rfl) ?_; dsimp only)); refine Kd.N_lit k29 _ 29 ?hg (N' := 19) ?hd (xs := ([(⟨t139, t140, t141, t142, t143⟩ : S29)] : List (S29))) (inner := [.int .i64 t139, .int .i64 t140, .string t141, .string t142, .slice Ao22 t143.length co22]) (ok := (fun k_ => (w.heap.size ≤ k_) ∧ k_ ≠ gb129 ∧ k_ ≠ gb130)) (okp := (fun k_ => (w.heap.size ≤ k_) ∧ k_ ≠ gb129 ∧ k_ ≠ gb130)) ?hr ?hp (fun _ hk => hk) ((show ∀ k_, w21.heap.size ≤ k_ → (fun k_ => (w.heap.size ≤ k_) ∧ k_ ≠ gb129 ∧ k_ ≠ gb130) k_ from fun k_ hk => ⟨(Nat.le_trans (below_size (zL2 HB.out GE129.out GE130.out)) hk), Kd.freshB (g := gb129) (o := .cells #[.int .i64 a0_0, .int .i64 a0_1, .string a0_2, .string a0_3, .slice A0_4 l0_4.length c0_4] 29 (0, 0)) (zB BK129.out) k_ hk, Kd.freshB (g := gb130) (o := .cells #[.int .i64 0, .int .i64 0, .string (⟨#[]⟩ : ByteArray), .string (⟨#[]⟩ : ByteArray), .slice none 0 0] 29 (0, 0)) (zB BK130.out) k_ hk⟩) _ (Nat.le_refl _)) (Below.refl _ _) (Nat.le_refl _) (by simp) ?_; (case hd => rfl); (case hg => rfl); (case hr => first | (go_simp; done) | (go_simp; rfl)); (case hp => exact (Reps.c5 (show Kd.FK k29 _ _ (⟨t139, t140, t141, t142, t143⟩ : S29) [.int .i64 t139, .int .i64 t140, .string t141, .string t142, .slice Ao22 t143.length co22] from (k29_mkF _ _ (⟨t139, t140, t141, t142, t143⟩ : S29) (Kd.N_reads' (Kd.N_mono (ok' := (fun k_ => (w.heap.size ≤ k_) ∧ k_ ≠ gb129 ∧ k_ ≠ gb130)) (HO145.out) (fun k_ hk => ⟨hk.1, ⟨hk.2.1, hk.2.2⟩⟩))).2.1 (Kd.N_F (Kd.N_mono (ok' := (fun k_ => (w.heap.size ≤ k_) ∧ k_ ≠ gb129 ∧ k_ ≠ gb130)) (HO145.out) (fun k_ hk => ⟨hk.1, ⟨hk.2.1, hk.2.2⟩⟩))))) (Reps.none _ _))); intro v147 w23 ho24 hb hg_ hnew_; clear hg_ hnew_; (first | rw [← Ny146.out] at ho24 | (simp only [Int.reduceToNat] at ho24; rw [← Ny146.out] at ho24)); replace HO145 := Aside0.mk (Kd.N_elder' (zX HO145.out) (Kd.N_base ho24) hb); have HO148 := Aside0.mk (Kd.N_lower ho24 (below_size (zL2 HB.out GE129.out GE130.out))); replace BK129 := zBB BK129 hb; replace BK130 := zBB BK130 hb; replace HB := zLB (zL2 HB.out GE129.out GE130.out) hb; clear hb ho24; obtain ⟨Ao25, co25, eo25⟩ := Kd.N_slice HO148.out; subst eo25; have hcz26 := zc5 BK130.out; have hfz26 := zf5 BK130.out))
    refine bodyPost_ret (results_cell_row rfl _ _ gb130 29 #[.int .i64 9, .int .i64 0, .string (⟨#[]⟩ : ByteArray), .string (⟨#[]⟩ : ByteArray), .slice Ao25 y146.length co25] (0, 0) _ rfl (by refine zB ?_; refine zp5 (cs := #[.int .i64 0, .int .i64 0, .string (⟨#[]⟩ : ByteArray), .string (⟨#[]⟩ : ByteArray), .slice none 0 0]) ?_; exact zB BK130.out) Try.underlying29 rfl (by kernel_rfl)) rfl ?_
    exact ⟨_, zW, by (with_reducible repeat (first | apply Kd.N_alloc | apply Kd.N_drewN | apply Kd.N_drew)); exact Kd.N_mono (zNF5 (Kd.N_mono HO148.out (fun k_ hk => (⟨hk, hk.2.2⟩ : _ ∧ k_ ≠ gb130))) gb130 (fun _ hk => hk.2) (.int .i64 9) (.int .i64 0) (.string (⟨#[]⟩ : ByteArray)) (.string (⟨#[]⟩ : ByteArray)) (.slice Ao25 y146.length co25)) (fun _ hk => hk.1.1), zL2 HB.out GE129.out GE130.out⟩

end Go.Proofs.Ytfhblnbicnmndaa.QFnJudges
