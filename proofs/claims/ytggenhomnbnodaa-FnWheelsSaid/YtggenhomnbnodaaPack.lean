/- Short words for the walks: lemmas of the print's own words with their usual arguments filled in (tactic defaults). Conditions: those that each names. -/
import Derived.Test.YtggenhomnbnodaaProg
import Derived.Below
import Derived.Deep.Draws
import Derived.Deep.AppendLies
import Derived.Maps.AppendAt
import Derived.OwnWalk
import Derived.Laws.BytesArg
import Derived.Laws.MakeOwn
import Derived.Laws.OwnMore
import Derived.Deep.OwnRows
import Derived.Tactics
import Derived.Lib.ConvBytes
import Derived.Laws.Slices
import Derived.WalkKit
import Derived.KernelRfl
import Derived.RowKit3
import Derived.Deep.LoopGhost
import Derived.Deep.QuietTactic
import Derived.BigQuiet
import Derived.WideLaws
import Derived.Deep.DeepCutAuto
import Derived.Deep.CutBlock
import Derived.Deep.RegionHeld3
import Derived.Laws.Rows
import Derived.Lib.AppendStr
import Derived.ArgAppend
import Derived.Laws.IdiomCopy
import Derived.OrdersHeld
import Derived.Laws.BitsLemmas
import Derived.RowKit
import Derived.Test.YtggenhomnbnodaaWWords
import Derived.Test.YtggenhomnbnodaaWLast
import Derived.Test.YtggenhomnbnodaaWTab
import Derived.Test.YtggenhomnbnodaaWFour
import Derived.Test.YtggenhomnbnodaaWQPut
import Derived.Test.YtggenhomnbnodaaWApart
import Derived.Test.YtggenhomnbnodaaWArr
import Derived.Test.YtggenhomnbnodaaWZeros
import Derived.Test.YtggenhomnbnodaaWFoot
import Derived.Test.YtggenhomnbnodaaWKept
import Derived.Test.YtggenhomnbnodaaWShare
import Derived.Test.YtggenhomnbnodaaWN
import Derived.Test.YtggenhomnbnodaaWFootNe
import Derived.Test.YtggenhomnbnodaaWAt
import Derived.Test.YtggenhomnbnodaaWEqStruct
import Derived.Test.YtggenhomnbnodaaWRepsOne
import Derived.Test.YtggenhomnbnodaaWInv
import Derived.Test.YtggenhomnbnodaaWInvWords
import Derived.Test.YtggenhomnbnodaaWGuard
import Derived.Test.YtggenhomnbnodaaWNEv
import Derived.Test.YtggenhomnbnodaaWMore
set_option linter.unusedVariables false
namespace Go.Proofs.YtggenhomnbnodaaW.PrintLast
open Go Go.RowKit Go.Proofs.YtggenhomnbnodaaW.PrintWords Go.Proofs.YtggenhomnbnodaaW.PrintMore
def fB (n m : Nat) : Array Bool := ((List.range n).map fun i => m.testBit i).toArray
theorem sA_ {α : Type} (xs : List α) (i : Nat) (a : α) : xs.toArray.setIfInBounds i a = (xs.set i a).toArray := List.setIfInBounds_toArray xs i a
theorem sB_ {α : Type} (x : α) (xs : List α) (a : α) : (x :: xs).set 0 a = a :: xs := List.set_cons_zero
theorem sC_ {α : Type} (x : α) (xs : List α) (i : Nat) (a : α) : (x :: xs).set (i + 1) a = x :: xs.set i a := List.set_cons_succ
theorem zB {p q : Prop} (h : q) (c : q → p := by intro h_; (with_reducible repeat (first | refine blk_drewN ?_ _ | refine blk_drew ?_ | refine blk_alloc ?_ _)); exact h_) : p := c h
theorem zR {p q : Prop} (h : q) (c : q → p := by intro h_; (with_reducible repeat (first | apply Kd.R_alloc | apply Kd.R_drewN | apply Kd.R_drew)); exact h_) : p := c h
theorem zS {p q : Prop} (h : q) (c : q → p := by intro h_; (with_reducible repeat (first | apply Kd.S_alloc | apply Kd.S_drewN | apply Kd.S_drew)); exact h_) : p := c h
theorem zL {p q : Prop} (h : q) (c : q → p := by intro h_; repeat (first | (with_reducible first | exact h_ | apply below_alloc | apply pw_below_drewN | apply below_drew1) | exact h_)) : p := c h
theorem zL1 {p q g0 : Prop} (h : q) (k0 : g0) (c : q → g0 → p := by intro h_ k0_; repeat (first | (with_reducible first | exact h_ | apply below_alloc | apply pw_below_drewN | apply below_drew1 | refine below_set ?_ k0_) | exact h_)) : p := c h k0
theorem zL2 {p q g0 g1 : Prop} (h : q) (k0 : g0) (k1 : g1) (c : q → g0 → g1 → p := by intro h_ k0_ k1_; repeat (first | (with_reducible first | exact h_ | apply below_alloc | apply pw_below_drewN | apply below_drew1 | refine below_set ?_ k0_ | refine below_set ?_ k1_) | exact h_)) : p := c h k0 k1
theorem zL3 {p q g0 g1 g2 : Prop} (h : q) (k0 : g0) (k1 : g1) (k2 : g2) (c : q → g0 → g1 → g2 → p := by intro h_ k0_ k1_ k2_; repeat (first | (with_reducible first | exact h_ | apply below_alloc | apply pw_below_drewN | apply below_drew1 | refine below_set ?_ k0_ | refine below_set ?_ k1_ | refine below_set ?_ k2_) | exact h_)) : p := c h k0 k1 k2
theorem zL4 {p q g0 g1 g2 g3 : Prop} (h : q) (k0 : g0) (k1 : g1) (k2 : g2) (k3 : g3) (c : q → g0 → g1 → g2 → g3 → p := by intro h_ k0_ k1_ k2_ k3_; repeat (first | (with_reducible first | exact h_ | apply below_alloc | apply pw_below_drewN | apply below_drew1 | refine below_set ?_ k0_ | refine below_set ?_ k1_ | refine below_set ?_ k2_ | refine below_set ?_ k3_) | exact h_)) : p := c h k0 k1 k2 k3
theorem zL5 {p q g0 g1 g2 g3 g4 : Prop} (h : q) (k0 : g0) (k1 : g1) (k2 : g2) (k3 : g3) (k4 : g4) (c : q → g0 → g1 → g2 → g3 → g4 → p := by intro h_ k0_ k1_ k2_ k3_ k4_; repeat (first | (with_reducible first | exact h_ | apply below_alloc | apply pw_below_drewN | apply below_drew1 | refine below_set ?_ k0_ | refine below_set ?_ k1_ | refine below_set ?_ k2_ | refine below_set ?_ k3_ | refine below_set ?_ k4_) | exact h_)) : p := c h k0 k1 k2 k3 k4
theorem zK {p q : Prop} (h : q) (c : q → p := by intro h_; repeat (first | (with_reducible first | exact h_ | apply KeepBut.set_ | apply keep_drewN | apply keep_drew | apply keep_alloc) | exact h_)) : p := c h
theorem zK1 {p q g0 : Prop} (h : q) (k0 : g0) (c : q → g0 → p := by intro h_ k0_; repeat (first | (with_reducible first | exact h_ | apply KeepBut.set_ | apply keep_drewN | apply keep_drew | apply keep_alloc | refine keep_far ?_ k0_ _) | exact h_)) : p := c h k0
theorem zK2 {p q g0 g1 : Prop} (h : q) (k0 : g0) (k1 : g1) (c : q → g0 → g1 → p := by intro h_ k0_ k1_; repeat (first | (with_reducible first | exact h_ | apply KeepBut.set_ | apply keep_drewN | apply keep_drew | apply keep_alloc | refine keep_far ?_ k0_ _ | refine keep_far ?_ k1_ _) | exact h_)) : p := c h k0 k1
theorem zI {p q : Prop} (h : q) (c : q → p := by intro h_; repeat (first | (with_reducible first | exact h_ | apply IsS98.alloc | apply IsS98.drewN | apply IsS98.drew | apply IsS98.set_1 | apply IsS98.set_2) | exact h_)) : p := c h
theorem zI1 {p q g0 : Prop} (h : q) (k0 : g0) (c : q → g0 → p := by intro h_ k0_; repeat (first | (with_reducible first | exact h_ | apply IsS98.alloc | apply IsS98.drewN | apply IsS98.drew | apply IsS98.set_1 | apply IsS98.set_2 | refine IsS98.far ?_ k0_ _) | exact h_)) : p := c h k0
theorem zI2 {p q g0 g1 : Prop} (h : q) (k0 : g0) (k1 : g1) (c : q → g0 → g1 → p := by intro h_ k0_ k1_; repeat (first | (with_reducible first | exact h_ | apply IsS98.alloc | apply IsS98.drewN | apply IsS98.drew | apply IsS98.set_1 | apply IsS98.set_2 | refine IsS98.far ?_ k0_ _ | refine IsS98.far ?_ k1_ _) | exact h_)) : p := c h k0 k1
theorem zI3 {p q g0 g1 g2 : Prop} (h : q) (k0 : g0) (k1 : g1) (k2 : g2) (c : q → g0 → g1 → g2 → p := by intro h_ k0_ k1_ k2_; repeat (first | (with_reducible first | exact h_ | apply IsS98.alloc | apply IsS98.drewN | apply IsS98.drew | apply IsS98.set_1 | apply IsS98.set_2 | refine IsS98.far ?_ k0_ _ | refine IsS98.far ?_ k1_ _ | refine IsS98.far ?_ k2_ _) | exact h_)) : p := c h k0 k1 k2
theorem zI4 {p q g0 g1 g2 g3 : Prop} (h : q) (k0 : g0) (k1 : g1) (k2 : g2) (k3 : g3) (c : q → g0 → g1 → g2 → g3 → p := by intro h_ k0_ k1_ k2_ k3_; repeat (first | (with_reducible first | exact h_ | apply IsS98.alloc | apply IsS98.drewN | apply IsS98.drew | apply IsS98.set_1 | apply IsS98.set_2 | refine IsS98.far ?_ k0_ _ | refine IsS98.far ?_ k1_ _ | refine IsS98.far ?_ k2_ _ | refine IsS98.far ?_ k3_ _) | exact h_)) : p := c h k0 k1 k2 k3
theorem zC {p q : Prop} (h : q) (c : q → p := by intro h_; repeat (first | exact h_ | (with_reducible refine Kd.C_alloc ?_ _) | (with_reducible refine Kd.C_drewN ?_ _) | (with_reducible refine Kd.C_drew ?_))) : p := c h
theorem zE {p : Prop} (c : p := by (try simp only [List.map_toArray, List.map_cons, List.map_nil]); first | done | rfl | (simp only [List.length_drop, List.length_take]; rfl)) : p := c
theorem zD {p : Prop} [Decidable p] (h : decide p = true := by first | (with_reducible assumption) | assumption) : p := of_decide_eq_true h
theorem zP {p : Prop} (c : p := by simp only [Act.put, List.setIfInBounds_toArray, List.set_cons_zero, List.set_cons_succ, i64_w, i32_w]; rfl) : p := c
theorem zc4 {w : World} {g : Nat} {t : TypeId} {a0 a1 a2 a3 : Value} (h : w.heap[g]? = some (.cells #[a0, a1, a2, a3] t (0, 0))) : w.cell? ⟨g, 0, none⟩ = some a0 ∧ w.cell? ⟨g, 1, none⟩ = some a1 ∧ w.cell? ⟨g, 2, none⟩ = some a2 ∧ w.cell? ⟨g, 3, none⟩ = some a3 := ⟨(blk_cell h 0).trans rfl, (blk_cell h 1).trans rfl, (blk_cell h 2).trans rfl, (blk_cell h 3).trans rfl⟩
theorem zk4 {w : World} {g : Nat} {t : TypeId} {a0 a1 a2 a3 : Value} {B : Prop} (h : w.heap[g]? = some (.cells #[a0, a1, a2, a3] t (0, 0))) (r : B) : w.cell? ⟨g, 0, none⟩ = some a0 ∧ w.cell? ⟨g, 1, none⟩ = some a1 ∧ w.cell? ⟨g, 2, none⟩ = some a2 ∧ w.cell? ⟨g, 3, none⟩ = some a3 ∧ B := ⟨(blk_cell h 0).trans rfl, (blk_cell h 1).trans rfl, (blk_cell h 2).trans rfl, (blk_cell h 3).trans rfl, r⟩
theorem zf4 {w : World} {g : Nat} {t : TypeId} {cs : Array Value} (h : w.heap[g]? = some (.cells cs t (0, 0))) : w.frozen? ⟨g, 0, none⟩ = false ∧ w.frozen? ⟨g, 1, none⟩ = false ∧ w.frozen? ⟨g, 2, none⟩ = false ∧ w.frozen? ⟨g, 3, none⟩ = false := ⟨blk_frozen h 0, blk_frozen h 1, blk_frozen h 2, blk_frozen h 3⟩
section
variable {P : Program} {ops : Array Oper} {Q : Exit → Act → World → Prop} {md : Region.Mode} {S : World → Prop} {ds : List Nat} {T : Bool × List (List Nat × List Nat)} {Bw : List Nat}
theorem pY (i : Nat) (N : Tmp) {oi : Oper} {v : Value} {fuel : Nat} {l : Array Bool} {a : Act} {w : World} (l' : Array Bool) (hT : rtab md ops = T) {a' : Act} (h : wpAnyLast P md ops Q S ds fuel l' a' w)
    (hi : ops[i]? = some oi := by exact rfl) (hN : oi.dst = some N := by exact rfl) (hc : anyT T l.toList l'.toList i = true := by kernel_rfl) (hQ : ∀ c a w, Q (.panic c) (a.put oi.dst v) w → Q (.panic c) a w := by exact fun _ _ _ h => h)
    (hw : Region.wanted oi (yielded ops a.tmps) = true := by rfl) (hy : ∀ w, (execOp a.eval oi).run P w = .ok (.value v) w := by intro w'; go_simp; with_reducible rfl) (ha : a.put (some N) v = a' := by simp only [Act.put, sA_, sB_, sC_, i64_w, i32_w]; rfl) :
    wpAnyLast P md ops Q S ds (fuel + 1) l a w := pure_ (i := i) (N := some N) l' hi hN (any_of hT hc) hQ (.inl ⟨hw, hy⟩) ha h
theorem pN (i : Nat) (N : Tmp) {oi : Oper} {fuel : Nat} {l : Array Bool} {a : Act} {w : World} (l' : Array Bool) (hT : rtab md ops = T) {a' : Act} (h : wpAnyLast P md ops Q S ds fuel l' a' w)
    (hi : ops[i]? = some oi := by exact rfl) (hN : oi.dst = some N := by exact rfl) (hc : anyT T l.toList l'.toList i = true := by kernel_rfl) (hQ : ∀ c a w, Q (.panic c) (a.put oi.dst undef) w → Q (.panic c) a w := by exact fun _ _ _ h => h)
    (hw : Region.wanted oi (yielded ops a.tmps) = false := by rfl) (ha : a.put (some N) undef = a' := by simp only [Act.put, sA_, sB_, sC_, i64_w, i32_w]; rfl) :
    wpAnyLast P md ops Q S ds (fuel + 1) l a w := pure_ (i := i) (N := some N) l' hi hN (any_of hT hc) hQ (.inr ⟨hw, rfl⟩) ha h
theorem tY (i : Nat) (N : Tmp) {oi : Oper} {v : Value} {fuel : Nat} {l : Array Bool} {a : Act} {w : World} (l' : Array Bool) (hT : rtab md ops = T) (hB : waitsOk T.2 Bw = true) (hS : S w) {a' : Act} (h : wpAnyLast P md ops Q S ds fuel l' a' w)
    (hi : ops[i]? = some oi := by exact rfl) (hN : oi.dst = some N := by exact rfl) (hc : takeW T Bw ds l.toList l'.toList i = true := by kernel_rfl) (hQ : ∀ c a w, Q (.panic c) (a.put oi.dst v) w → Q (.panic c) a w := by exact fun _ _ _ h => h)
    (hw : Region.wanted oi (yielded ops a.tmps) = true := by rfl) (hy : ∀ w, S w → (execOp a.eval oi).run P w = .ok (.value v) w := by intro w' hs_; repeat (have s_ := And.left hs_; replace hs_ := And.right hs_); go_simp; with_reducible rfl)
    (ha : a.put (some N) v = a' := by simp only [Act.put, sA_, sB_, sC_, i64_w, i32_w]; rfl) :
    wpAnyLast P md ops Q S ds (fuel + 1) l a w := take_ (i := i) (N := some N) l' hi hN (take_ofW hT hB hc) hQ (.inl ⟨hw, hy⟩) hS ha h
theorem oN (i : Nat) (N : Tmp) {oi : Oper} {fuel : Nat} {l : Array Bool} {a : Act} {w : World} (l' : Array Bool) (hT : rtab md ops = T)
    (h : ∀ K : Act → World → Prop, Shut (∀ a' w', S w' → (S w' → wpAnyLast P md ops Q S ds fuel l' a' w') → K a' w') → if Region.wanted oi (yielded ops a.tmps) = true then Oper.wp P oi a w K Q else K (a.put (some N) undef) w)
    (hi : ops[i]? = some oi := by exact rfl) (hN : oi.dst = some N := by exact rfl)
    (hc : (readyT T.2 l.toList == [i] && l.toList.set i true == l'.toList) = true := by kernel_rfl) (hd : i ∉ ds := by decide) : wpAnyLast P md ops Q S ds (fuel + 1) l a w := one_ (i := i) (N := some N) l' hi hN (one_of hT hc) hd h
theorem nZ (N : Tmp) {fuel : Nat} {l : Array Bool} {a a' a0 : Act} {v : Value} {w : World} (h : wpAnyLast P md ops Q S ds fuel l a' w) (e : a = Act.put a0 (some N) v := by exact rfl) (ha : Act.put a0 (some N) v = a' := by simp only [Act.put, sA_, sB_, sC_, i64_w, i32_w]; rfl) : wpAnyLast P md ops Q S ds fuel l a w := norm_ (e.trans ha) h
theorem gS {oi : Oper} {N : Option Tmp} {a : Act} {w : World} {K : Act → World → Prop} {f : FuncId} {fn : Func} {us : Array Operand} {ts : Array TypeId} (hf : P.funcs[f]? = some fn) (args : Array Value)
    (h : Calls P f args w fun e w' => ∃ v, e = .returned v ∧ K (a.put N v) w') (hname : (fn.name == "runtime.NumGoroutine") = false := by kernel_rfl) (hb : fn.body.isSome = true := by exact rfl)
    (hw : Region.wanted oi (yielded ops a.tmps) = true := by rfl) (hN : oi.dst = N := by exact rfl) (hop : oi.op = .call { callee := .value (.func f), args := us, argTypes := ts } := by exact rfl)
    (hargs : us.map a.eval = args := by (try simp only [List.map_toArray, List.map_cons, List.map_nil]); first | done | rfl | (simp only [List.length_drop, List.length_take]; rfl)) :
    if Region.wanted oi (yielded ops a.tmps) = true then Oper.wp P oi a w K Q else K (a.put N undef) w := goes_ hf hname hb args hw hN hop hargs h
theorem gL (N : Tmp) {rest : List Oper} {oi : Oper} {a : Act} {w : World} {f : FuncId} {fn : Func} {us : Array Operand} {ts : Array TypeId} (hf : P.funcs[f]? = some fn) (args : Array Value)
    (h : Calls P f args w fun e w' => ∃ v, e = .returned v ∧ wpList P ops Q rest (a.put (some N) v) w') (hd : oi.dst = some N := by exact rfl) (hg : oi.guard = none := by exact rfl) (hname : (fn.name == "runtime.NumGoroutine") = false := by kernel_rfl) (hb : fn.body.isSome = true := by exact rfl)
    (hop : oi.op = .call { callee := .value (.func f), args := us, argTypes := ts } := by exact rfl)
    (hargs : us.map a.eval = args := by (try simp only [List.map_toArray, List.map_cons, List.map_nil]); first | done | rfl | (simp only [List.length_drop, List.length_take]; rfl)) :
    wpList P ops Q (oi :: rest) a w := goesL_ (some N) hd hg hf hname hb args hop hargs h
theorem gD (N : Tmp) {rest : List Oper} {o : Oper} {a : Act} {W : World} (hN : o.dst = some N) (h : wpList P ops Q (o :: rest) a W) : wpList P ops Q (o :: rest) a W := h
theorem gC (f : FuncId) {rest : List Oper} {o : Oper} {a : Act} {W : World} {us : Array Operand} {ts : Array TypeId} (ho : o.op = .call { callee := .value (.func f), args := us, argTypes := ts }) (h : wpList P ops Q (o :: rest) a W) : wpList P ops Q (o :: rest) a W := h
theorem bE (N : Tmp) (cs : Array Value) (t : TypeId) {rest : List Oper} {o : Oper} {a : Act} {W : World}
    (h : ∀ g, g = W.heap.size → ∀ w1, w1.heap[g]? = some (.cells cs t (0, 0)) → Below W.heap.size W w1 → wpList P ops Q rest (a.put o.dst (.pointer (some ⟨g, 0, none⟩))) w1) (hgd : o.guard = none := by exact rfl) (hd : o.dst = some N := by exact rfl)
    (hrun : (execOp a.eval o).run P W = .ok (.value (.pointer (some ⟨W.heap.size, 0, none⟩))) (W.alloc (.cells cs t (0, 0))) := by first | (go_simp; done) | (go_simp; rfl)) : wpList P ops Q (o :: rest) a W := box_event hgd (N := N) hd hrun h
end
theorem zO {α β : Type} {o : Option α} {f : α → Option β} {b : β} (h : o.bind f = some b) : ∃ a, Aside0 (o = some a) ∧ f a = some b := by
  obtain ⟨a, h1, h2⟩ := Option.bind_eq_some_iff.mp h
  exact ⟨a, ⟨h1⟩, h2⟩
theorem zn : ¬ (false = true) := by decide
theorem zt {α : Type} [BEq α] [LawfulBEq α] {a b : α} (h : a = b) : (a == b) = true ∧ (a != b) = false := ⟨beq_iff_eq.mpr h, bne_eq_false_iff_eq.mpr h⟩
theorem zf {α : Type} [BEq α] [LawfulBEq α] {a b : α} (h : ¬ a = b) : (a == b) = false ∧ (a != b) = true := ⟨beq_eq_false_iff_ne.mpr h, bne_iff_ne.mpr h⟩
theorem zW {p : Prop} (c : p := by first | rfl | (simp [errW_none, errW_some] <;> rfl) | (simp [*, errW_none, errW_some] <;> rfl)) : p := c
theorem zV {p : Prop} (c : p := by first | rfl | (simp; done) | (simp [*]; done)) : p := c
theorem zU {p : Prop} (c : p := by repeat (first | exact Drawn0.refl _ | apply Drawn0.step)) : p := c
section
variable {g g2 : Nat} {o : Obj} {w0 w1 w w2 W : World}
theorem zN (h : w1.heap[g]? = some o) (hg : g2 = W.heap.size) (c : w1.heap[g]? = some o → W.heap[g]? = some o := by intro h_; (with_reducible repeat (first | refine blk_drewN ?_ _ | refine blk_drew ?_ | refine blk_alloc ?_ _)); exact h_) : g ≠ g2 := by
  rw [hg]
  exact Nat.ne_of_lt (blk_lt (c h))
theorem zM (h : w1.heap[g]? = some o) (hg : g2 = W.heap.size) (c : w1.heap[g]? = some o → W.heap[g]? = some o := by intro h_; (with_reducible repeat (first | refine blk_drewN ?_ _ | refine blk_drew ?_ | refine blk_alloc ?_ _)); exact h_) : g2 ≠ g := (zN h hg c).symm
theorem zNI (h : g < W.heap.size) (hg : g2 = W.heap.size) : g ≠ g2 := by
  rw [hg]
  exact Nat.ne_of_lt h
theorem zMI (h : g < W.heap.size) (hg : g2 = W.heap.size) : g2 ≠ g := (zNI h hg).symm
theorem zg (h : Below w.heap.size w W) (hg : g = W.heap.size) : w.heap.size ≤ g := by
  rw [hg]
  exact below_size h
theorem zgK (h : KeepBut w W g none) (hg : g2 = W.heap.size) : w.heap.size ≤ g2 := by
  rw [hg]
  exact keep_size h
theorem zBD (h : Aside0 (w.heap[g]? = some o)) : Aside0 (w.drew.heap[g]? = some o) := ⟨blk_drew h.o⟩
theorem zLD {b : Nat} (h : Aside0 (Below b w W)) : Aside0 (Below b w W.drew) := ⟨below_drew1 h.o⟩
theorem zBB (h : Aside0 (w1.heap[g]? = some o)) (hb : Below w.heap.size w w2) (c : w1.heap[g]? = some o → w.heap[g]? = some o := by intro h_; (with_reducible repeat (first | refine blk_drewN ?_ _ | refine blk_drew ?_ | refine blk_alloc ?_ _)); exact h_) : Aside0 (w2.heap[g]? = some o) := ⟨blk_below (c h.o) hb⟩
theorem zBK {row : Option Nat} (hk : KeepBut W w2 g row) (h : Aside0 (w1.heap[g2]? = some o)) (hne : Aside0 (g2 ≠ g)) (c : w1.heap[g2]? = some o → W.heap[g2]? = some o := by intro h_; (with_reducible repeat (first | refine blk_drewN ?_ _ | refine blk_drew ?_ | refine blk_alloc ?_ _)); exact h_)
    (hr : some g2 ≠ row := by simp) : Aside0 (w2.heap[g2]? = some o) := ⟨KeepBut.blk hk (c h.o) hne.o hr⟩
theorem zKK {row : Option Nat} (h : KeepBut w w1 g row) (k : KeepBut w1 w2 g row) : Aside0 (KeepBut w w2 g row) := ⟨KeepBut.trans h k (.inl rfl)⟩
theorem zKB (g : Nat) (h : KeepBut w w1 g none) (hb : Below w1.heap.size w1 w2) : Aside0 (KeepBut w w2 g none) := ⟨KeepBut.trans h (KeepBut.of_below hb g none) (.inl rfl)⟩
theorem zLB (h : Below w.heap.size w W) (hb : Below W.heap.size W w2) : Aside0 (Below w.heap.size w w2) := ⟨below_step h hb⟩
end
section
variable {α : Type} {d : Kd α} {e base g : Nat} {ok ok' : Nat → Prop} {w W w2 : World} {v : Value} {xs : List α}
theorem zRD (h : Aside0 (d.R e w base ok v xs)) : Aside0 (d.R e w.drew base ok v xs) := ⟨Kd.R_drew h.o⟩
theorem zSD (h : Aside0 (d.S e w base ok v xs)) : Aside0 (d.S e w.drew base ok v xs) := ⟨Kd.S_drew h.o⟩
theorem zRB (h : Aside0 (d.R e w base ok v xs)) (hb : Below W.heap.size W w2) (c : d.R e w base ok v xs → d.R e W base ok v xs := by intro h_; (with_reducible repeat (first | apply Kd.R_alloc | apply Kd.R_drewN | apply Kd.R_drew)); exact h_) : Aside0 (d.R e w2 base ok v xs) := ⟨Kd.R_below (c h.o) hb⟩
theorem zSB (h : Aside0 (d.S e w base ok v xs)) (hb : Below W.heap.size W w2) (c : d.S e w base ok v xs → d.S e W base ok v xs := by intro h_; (with_reducible repeat (first | apply Kd.S_alloc | apply Kd.S_drewN | apply Kd.S_drew)); exact h_) : Aside0 (d.S e w2 base ok v xs) := ⟨Kd.S_below (c h.o) hb⟩
theorem zX {p q : Prop} (h : q) (c : q → p := by intro h_; (with_reducible repeat (first | apply Kd.N_alloc | apply Kd.N_drewN | apply Kd.N_drew)); exact h_) : p := c h
theorem zXD (h : Aside0 (d.N e w base ok v xs)) : Aside0 (d.N e w.drew base ok v xs) := ⟨Kd.N_drew h.o⟩
theorem zXm (h : d.N e w base ok v xs) (hok : ∀ k, ok k → ok' k) (c : d.N e w base ok v xs → d.N e W base ok v xs := by intro h_; (with_reducible repeat (first | apply Kd.N_alloc | apply Kd.N_drewN | apply Kd.N_drew)); exact h_) : d.N e W base ok' v xs := Kd.N_mono (c h) hok
theorem zRm (h : d.R e w base ok v xs) (hok : ∀ k, ok k → ok' k) (c : d.R e w base ok v xs → d.R e W base ok v xs := by intro h_; (with_reducible repeat (first | apply Kd.R_alloc | apply Kd.R_drewN | apply Kd.R_drew)); exact h_) : d.R e W base ok' v xs := Kd.R_mono (c h) hok
theorem zSm (h : d.S e w base ok v xs) (hok : ∀ k, ok k → ok' k) (c : d.S e w base ok v xs → d.S e W base ok v xs := by intro h_; (with_reducible repeat (first | apply Kd.S_alloc | apply Kd.S_drewN | apply Kd.S_drew)); exact h_) : d.S e W base ok' v xs := Kd.S_mono (c h) hok
end

theorem zp4_ {w : World} {g : Nat} {t : TypeId} {v0 v1 v2 v3 u0 u1 u2 u3 : Value} (h : w.heap[g]? = some (.cells #[v0, v1, v2, v3] t (0, 0))) : ((((w.setCell ⟨g, 0, none⟩ u0).setCell ⟨g, 1, none⟩ u1).setCell ⟨g, 2, none⟩ u2).setCell ⟨g, 3, none⟩ u3).heap[g]? = some (.cells #[u0, u1, u2, u3] t (0, 0)) := by
  refine blk_put (cs := #[u0, u1, u2, v3]) ?_ 3 _ rfl
  refine blk_put (cs := #[u0, u1, v2, v3]) ?_ 2 _ rfl
  refine blk_put (cs := #[u0, v1, v2, v3]) ?_ 1 _ rfl
  refine blk_put (cs := #[v0, v1, v2, v3]) ?_ 0 _ rfl
  exact h
theorem zp4 {w : World} {g : Nat} {t : TypeId} {u0 u1 u2 u3 : Value} {cs : Array Value} (h : w.heap[g]? = some (.cells cs t (0, 0))) (hs : cs.size = 4 := by rfl) : ((((w.setCell ⟨g, 0, none⟩ u0).setCell ⟨g, 1, none⟩ u1).setCell ⟨g, 2, none⟩ u2).setCell ⟨g, 3, none⟩ u3).heap[g]? = some (.cells #[u0, u1, u2, u3] t (0, 0)) := by
  obtain ⟨l⟩ := cs
  match l, hs with
  | [v0, v1, v2, v3], _ => exact zp4_ h
theorem zr4 {w : World} {g g' : Nat} {t : TypeId} {u0 u1 u2 u3 : Value} {cs : Array Value} (h : w.heap[g]? = some (.cells cs t (0, 0))) (hp : g ≠ g') : ((((w.setCell ⟨g', 0, none⟩ u0).setCell ⟨g', 1, none⟩ u1).setCell ⟨g', 2, none⟩ u2).setCell ⟨g', 3, none⟩ u3).heap[g]? = some (.cells cs t (0, 0)) := by
  refine blk_far ?_ hp _
  refine blk_far ?_ hp _
  refine blk_far ?_ hp _
  refine blk_far ?_ hp _
  exact h
theorem zcf4 {w : World} {g g' i : Nat} {u0 u1 u2 u3 v : Value} (hp : g ≠ g') (h : w.cell? ⟨g, i, none⟩ = some v) : ((((w.setCell ⟨g', 0, none⟩ u0).setCell ⟨g', 1, none⟩ u1).setCell ⟨g', 2, none⟩ u2).setCell ⟨g', 3, none⟩ u3).cell? ⟨g, i, none⟩ = some v := by
  refine (cell_far (a := ⟨g, i, none⟩) hp _).trans ?_
  refine (cell_far (a := ⟨g, i, none⟩) hp _).trans ?_
  refine (cell_far (a := ⟨g, i, none⟩) hp _).trans ?_
  refine (cell_far (a := ⟨g, i, none⟩) hp _).trans ?_
  exact h
theorem zRF4 {α : Type} {d : Kd α} {e base : Nat} {ok : Nat → Prop} {w : World} {v : Value} {xs : List α} (h : d.R e w base ok v xs) (g : Nat) (hok : ∀ k, ok k → k ≠ g) (u0 u1 u2 u3 : Value) : d.R e ((((w.setCell ⟨g, 0, none⟩ u0).setCell ⟨g, 1, none⟩ u1).setCell ⟨g, 2, none⟩ u2).setCell ⟨g, 3, none⟩ u3) base ok v xs :=
  Kd.R_far (p := ⟨g, 3, none⟩) (Kd.R_far (p := ⟨g, 2, none⟩) (Kd.R_far (p := ⟨g, 1, none⟩) (Kd.R_far (p := ⟨g, 0, none⟩) (h) hok u0) hok u1) hok u2) hok u3
theorem zSF4 {α : Type} {d : Kd α} {e base : Nat} {ok : Nat → Prop} {w : World} {v : Value} {xs : List α} (h : d.S e w base ok v xs) (g : Nat) (hok : ∀ k, ok k → k ≠ g) (u0 u1 u2 u3 : Value) : d.S e ((((w.setCell ⟨g, 0, none⟩ u0).setCell ⟨g, 1, none⟩ u1).setCell ⟨g, 2, none⟩ u2).setCell ⟨g, 3, none⟩ u3) base ok v xs :=
  Kd.S_far (p := ⟨g, 3, none⟩) (Kd.S_far (p := ⟨g, 2, none⟩) (Kd.S_far (p := ⟨g, 1, none⟩) (Kd.S_far (p := ⟨g, 0, none⟩) (h) hok u0) hok u1) hok u2) hok u3
theorem zNF4 {α : Type} {d : Kd α} {e base : Nat} {ok : Nat → Prop} {w : World} {v : Value} {xs : List α} (h : d.N e w base ok v xs) (g : Nat) (hok : ∀ k, ok k → k ≠ g) (u0 u1 u2 u3 : Value) : d.N e ((((w.setCell ⟨g, 0, none⟩ u0).setCell ⟨g, 1, none⟩ u1).setCell ⟨g, 2, none⟩ u2).setCell ⟨g, 3, none⟩ u3) base ok v xs :=
  Kd.N_far (p := ⟨g, 3, none⟩) (Kd.N_far (p := ⟨g, 2, none⟩) (Kd.N_far (p := ⟨g, 1, none⟩) (Kd.N_far (p := ⟨g, 0, none⟩) (h) hok u0) hok u1) hok u2) hok u3
@[reducible] def zs4 (w : World) (g : Nat) (a0 a1 a2 a3 : Value) : Prop := w.cell? ⟨g, 0, none⟩ = some a0 ∧ w.cell? ⟨g, 1, none⟩ = some a1 ∧ w.cell? ⟨g, 2, none⟩ = some a2 ∧ w.cell? ⟨g, 3, none⟩ = some a3
@[reducible] def zt4 (w : World) (g : Nat) (a0 a1 a2 a3 : Value) (B : Prop) : Prop := w.cell? ⟨g, 0, none⟩ = some a0 ∧ w.cell? ⟨g, 1, none⟩ = some a1 ∧ w.cell? ⟨g, 2, none⟩ = some a2 ∧ w.cell? ⟨g, 3, none⟩ = some a3 ∧ B
theorem zQ2 {W w2 : World} {g g2 : Nat} (o : Obj) {row : Option Nat} (hk : KeepBut W w2 g row) (h : W.heap[g2]? = some o) (hne : g2 ≠ g) (hr : some g2 ≠ row := by simp) : w2.heap[g2]? = some o := KeepBut.blk hk h hne hr
theorem zh {w W : World} {p : Addr} {v : Value} (hB : Below w.heap.size w W) (h : w.cell? p = some v) : W.cell? p = some v := (hB.cell (World.block_lt_of_cell? w _ h)).trans h
theorem zhp {p : Prop} (c : p := by repeat (first | exact Reps.none _ _ | refine Reps.one (by exact rfl) ?_)) : p := c
section
variable {α : Type} {d : Kd α} {e base g : Nat} {ok : Nat → Prop} {o : Obj} {w W : World} {v : Value} {xs : List α}
end
end Go.Proofs.YtggenhomnbnodaaW.PrintLast
