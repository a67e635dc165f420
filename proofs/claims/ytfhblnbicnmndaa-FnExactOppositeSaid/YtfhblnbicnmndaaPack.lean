/- Short words for the walks: lemmas of the print's own words with their usual arguments filled in (tactic defaults). Conditions: those that each names. -/
import Derived.Test.YtfhblnbicnmndaaProg
import Derived.Below
import Derived.Deep.Draws
import Derived.Deep.AppendLies
import Derived.Maps.AppendAt
import Derived.OwnWalk
import Derived.Laws.BytesArg
import Derived.Laws.MakeOwn
import Derived.Laws.OwnMore
import Derived.Deep.OwnRows
import Derived.Tactics
import Derived.Lib.ConvBytes
import Derived.Laws.Slices
import Derived.WalkKit
import Derived.KernelRfl
import Derived.RowKit3
import Derived.Deep.LoopGhost
import Derived.Deep.QuietTactic
import Derived.BigQuiet
import Derived.WideLaws
import Derived.Deep.DeepCutAuto
import Derived.Deep.CutBlock
import Derived.Deep.RegionHeld3
import Derived.Laws.Rows
import Derived.Lib.AppendStr
import Derived.ArgAppend
import Derived.Laws.IdiomCopy
import Derived.OrdersHeld
import Derived.Laws.BitsLemmas
import Derived.RowKit
import Derived.Test.YtfhblnbicnmndaaWWords
import Derived.Test.YtfhblnbicnmndaaWLast
import Derived.Test.YtfhblnbicnmndaaWTab
import Derived.Test.YtfhblnbicnmndaaWFour
import Derived.Test.YtfhblnbicnmndaaWQPut
import Derived.Test.YtfhblnbicnmndaaWApart
import Derived.Test.YtfhblnbicnmndaaWArr
import Derived.Test.YtfhblnbicnmndaaWZeros
import Derived.Test.YtfhblnbicnmndaaWFoot
import Derived.Test.YtfhblnbicnmndaaWKept
import Derived.Test.YtfhblnbicnmndaaWShare
import Derived.Test.YtfhblnbicnmndaaWN
import Derived.Test.YtfhblnbicnmndaaWFootNe
import Derived.Test.YtfhblnbicnmndaaWAt
import Derived.Test.YtfhblnbicnmndaaWEqStruct
import Derived.Test.YtfhblnbicnmndaaWRepsOne
import Derived.Test.YtfhblnbicnmndaaWInv
import Derived.Test.YtfhblnbicnmndaaWInvWords
import Derived.Test.YtfhblnbicnmndaaWGuard
import Derived.Test.YtfhblnbicnmndaaWNEv
import Derived.Test.YtfhblnbicnmndaaWMore
set_option linter.unusedVariables false
namespace Go.Proofs.YtfhblnbicnmndaaW.PrintWords
open Go.RowKit
namespace Kd
/-- A slice whose elements lead to blocks apart. -/
def sliceS {α : Type} (e : Nat) (d : Kd α) : Kd (List α) where
  sz := 1
  E := e :: d.E
  K := fun w xs cs => ∃ A c, cs = [.slice A xs.length c] ∧ xs.length ≤ c ∧ d.C w A xs.length xs
  M := fun w base ok xs cs => ∃ v, cs = [v] ∧ d.S e w base ok v xs
  K_len := by
    rintro w x cs ⟨A, c, rfl, _⟩
    rfl
  K_one := by
    rintro w x cs ⟨A, c, rfl, _⟩ u hu
    rw [List.mem_singleton.1 hu]
    rfl
  K_below := by
    rintro w w1 x cs hb ⟨A, c, rfl, hl, hr⟩
    exact ⟨A, c, rfl, hl, C_below hr hb⟩
  K_of_M := by
    rintro w base ok x cs ⟨v, rfl, h⟩
    obtain ⟨A, c, rfl, hl, hr⟩ := S_reads h
    exact ⟨A, c, rfl, hl, hr⟩
  M_mono := by
    rintro w base ok ok' x cs hok ⟨v, rfl, h⟩
    exact ⟨v, rfl, S_mono h hok⟩
  M_bound := by
    rintro w base ok x cs ⟨v, rfl, h⟩
    exact ⟨v, rfl, S_bound h⟩
  M_move := by
    rintro w w1 base ok x cs hm ⟨v, rfl, h⟩
    exact ⟨v, rfl, S_move h hm⟩
  M_lower := by
    rintro w base base' ok x cs hb ⟨v, rfl, h⟩
    exact ⟨v, rfl, S_lower h hb⟩
theorem S_imp {α : Type} {d d' : Kd α} (hs : d.sz = d'.sz) (h : ∀ w base ok x cs, d.M w base ok x cs → d'.M w base ok x cs) {e : Nat} {w : World} {base : Nat} {ok : Nat → Prop} {v : Value} {xs : List α} (hr : d.S e w base ok v xs) : d'.S e w base ok v xs := by
  obtain ⟨f, hr⟩ := hr
  exact ⟨f, R_imp (d := tag f d) (d' := tag f d') hs (fun w base ok x cs hp => h w base _ x.1 cs hp) hr⟩
theorem mono_sliceS {α β : Type} (e : Nat) {G : Kd α → Kd β} (hG : Mono G) : Mono (fun d => sliceS e (G d)) := by
  refine ⟨fun _ _ _ => rfl, ?_, ?_⟩
  · rintro d d' hs h w x cs ⟨A, c, rfl, hl, hr⟩
    exact ⟨A, c, rfl, hl, C_imp (hG.sz d d' hs) (hG.K d d' hs h) hr⟩
  · rintro d d' hs h w base ok x cs ⟨v, rfl, hr⟩
    exact ⟨v, rfl, S_imp (hG.sz d d' hs) (hG.M d d' hs h) hr⟩
theorem sub_sliceS {α β : Type} {E : List Nat} (e : Nat) {G : Kd α → Kd β} (he : e ∈ E) (hG : Sub G E) : Sub (fun d => sliceS e (G d)) E := fun d h q hq => by
  rcases List.mem_cons.1 hq with rfl | hq
  · exact he
  · exact hG d h q hq
section
variable {α : Type} {F : Kd α → Kd α} {sz : Nat} {E : List Nat} {hs : ∀ n, (upto F sz E n).sz = sz} {hE : ∀ n q, q ∈ (upto F sz E n).E → q ∈ E}
theorem fix_S {n : Nat} {e : Nat} {w : World} {base : Nat} {ok : Nat → Prop} {v : Value} {xs : List α} (h : (upto F sz E n).S e w base ok v xs) : (fix F sz E hs hE).S e w base ok v xs := S_imp (d' := fix F sz E hs hE) (hs n) (fun w base ok x cs hp => (⟨n, hp⟩ : ∃ n, (upto F sz E n).M w base ok x cs)) h
theorem fix_S_back (hm : Mono F) {e : Nat} {w : World} {base : Nat} {ok : Nat → Prop} {v : Value} {xs : List α} (h : (fix F sz E hs hE).S e w base ok v xs) : ∃ n, (upto F sz E n).S e w base ok v xs := by
  obtain ⟨f, h0, inner, ho, hr⟩ := h
  obtain ⟨N, hN⟩ := reps_bounded (R := fun n p c => (tag f (upto F sz E n)).M w base (fun k => ok k ∧ some k ≠ v.ownBlock) p c) (fun n m p c hnm hp => upto_M_le hm hs hnm hp) hr
  refine ⟨N, f, h0, inner, ?_, ?_⟩
  · show w.ownsRow base e (upto F sz E N).sz v _ inner
    rw [hs N]; exact ho
  · show Reps _ (upto F sz E N).sz _ inner
    rw [hs N]; exact hN
theorem upto_S_le (hm : Mono F) (hs : ∀ n, (upto F sz E n).sz = sz) {n m : Nat} (hnm : n ≤ m) {e : Nat} {w : World} {base : Nat} {ok : Nat → Prop} {v : Value} {xs : List α} (h : (upto F sz E n).S e w base ok v xs) : (upto F sz E m).S e w base ok v xs :=
  S_imp (by rw [hs n, hs m]) (fun w base ok x cs hp => upto_M_le hm hs hnm hp) h
end
end Kd
theorem S_lit1 {P : Program} {ops : Array Oper} {rest : List Oper} {o : Oper} {a : Act} {Q : Exit → Act → World → Prop} {α : Type} (d : Kd α) {w0 W : World} (base e : Nat) (hgd : o.guard = none) {N' : Tmp} (_hd : o.dst = some N') {xs : List α} {p : α} {inner : List Value} {ok okp : Nat → Prop}
    (hrun : (execOp a.eval o).run P W = .ok (.value (.slice (some ⟨W.heap.size, 0, none⟩) xs.length xs.length)) (W.alloc (.cells inner.toArray e)))
    (hp : d.M W base okp p inner) (hok : ∀ k, okp k → ok k) (hfresh : ok W.heap.size) (HB : Below base w0 W) (hbase : base ≤ W.heap.size) (hm : xs.length ≤ 9223372036854775807)
    (h : ∀ v1 w1, d.S e w1 base ok v1 xs → Below W.heap.size W w1 → W.grownBy w1 none → (∃ b, v1.ownBlock = some b ∧ W.heap.size ≤ b) → wpList P ops Q rest (a.put o.dst v1) w1) (hxs : xs = [p] := by rfl) : wpList P ops Q (o :: rest) a W := by
  subst hxs
  refine Kd.S_lits d base e hgd _hd (fun j k => okp k ∧ j = 0) hrun (by rw [d.K_len (d.K_of_M hp)]; simp) (fun j x hj => ?_) (fun i j k h1 h2 => h1.2.trans h2.2.symm) (fun j k hk => hok k hk.1) hfresh HB hbase hm (fun v1 w1 a1 _ a3 a4 => h v1 w1 a1 (pw_below_grown (Below.refl W.heap.size W) none (Nat.le_refl _) a3 (fun _ e_ => by cases e_)) a3 a4)
  cases j with
  | zero =>
    obtain rfl := Option.some.inj hj
    have hl := d.K_len (d.K_of_M hp)
    rw [Nat.zero_mul, List.drop_zero, ← hl, List.take_length]
    exact d.M_mono (fun k hk => ⟨hk, rfl⟩) hp
  | succ j => exact absurd hj (by simp)
/-- Two rows apart: what leads on from the one is elder than what leads on from the other. -/
def Two {α : Type} (d : Kd α) (e : Nat) (w : World) (base : Nat) (G : Nat → Prop) (u : Value) (xs : List α) (v : Value) (ys : List α) : Prop := ∃ N, d.S e w base (fun k => G k ∧ k < N) u xs ∧ d.S e w base (fun k => G k ∧ N ≤ k) v ys
section
variable {α : Type} {d : Kd α} {e : Nat} {w w1 : World} {base g : Nat} {G P : Nat → Prop} {u v u0 u1 u2 u3 u4 : Value} {xs ys : List α}
theorem Two.mk (hO : d.S e w base G u xs) (ho : d.S e w1 w.heap.size P v ys) (hb : Below w.heap.size w w1) (hG : ∀ k, w.heap.size ≤ k → G k) (hbase : base ≤ w.heap.size) : Two d e w1 base G u xs v ys :=
  ⟨w.heap.size, Kd.S_mono (Kd.S_below (Kd.S_bound hO) hb) (fun _ h => ⟨h.1, h.2.2.1⟩), Kd.S_lower (Kd.S_mono (Kd.S_bound ho) (fun k h => ⟨hG k h.2.1, h.2.1⟩)) hbase⟩
theorem Two.box (h : Two d e w base G u xs v ys) (hg : g = w.heap.size) (hb : Below w.heap.size w w1) : Two d e w1 base (fun k => G k ∧ k ≠ g) u xs v ys := by
  obtain ⟨N, h1, h2⟩ := h
  exact ⟨N, Kd.S_mono (Kd.S_below (Kd.S_bound h1) hb) (fun k h => ⟨⟨h.1.1, by have := h.2.2.1; omega⟩, h.1.2⟩), Kd.S_mono (Kd.S_below (Kd.S_bound h2) hb) (fun k h => ⟨⟨h.1.1, by have := h.2.2.1; omega⟩, h.1.2⟩)⟩
theorem Two.set5 (h : Two d e w base G u xs v ys) (hG : ∀ k, G k → k ≠ g) (hw : w1 = ((((w.setCell ⟨g, 0, none⟩ u0).setCell ⟨g, 1, none⟩ u1).setCell ⟨g, 2, none⟩ u2).setCell ⟨g, 3, none⟩ u3).setCell ⟨g, 4, none⟩ u4) : Two d e w1 base G u xs v ys := by
  obtain ⟨N, h1, h2⟩ := h
  have q : ∀ k, k ≠ g → w1.heap[k]? = w.heap[k]? := by
    intro k hk
    subst hw
    iterate 4 refine (Below.heap_setCell _ _ _ k hk).trans ?_
    exact Below.heap_setCell _ _ _ k hk
  exact ⟨N, Kd.S_step h1 (fun k h _ => q k (hG k h.1)), Kd.S_step h2 (fun k h _ => q k (hG k h.1))⟩
end
end Go.Proofs.YtfhblnbicnmndaaW.PrintWords
namespace Go.Proofs.YtfhblnbicnmndaaW.PrintLast
open Go Go.RowKit Go.Proofs.YtfhblnbicnmndaaW.PrintWords Go.Proofs.YtfhblnbicnmndaaW.PrintMore
def fB (n m : Nat) : Array Bool := ((List.range n).map fun i => m.testBit i).toArray
theorem sA_ {α : Type} (xs : List α) (i : Nat) (a : α) : xs.toArray.setIfInBounds i a = (xs.set i a).toArray := List.setIfInBounds_toArray xs i a
theorem sB_ {α : Type} (x : α) (xs : List α) (a : α) : (x :: xs).set 0 a = a :: xs := List.set_cons_zero
theorem sC_ {α : Type} (x : α) (xs : List α) (i : Nat) (a : α) : (x :: xs).set (i + 1) a = x :: xs.set i a := List.set_cons_succ
theorem zB {p q : Prop} (h : q) (c : q → p := by intro h_; (with_reducible repeat (first | refine blk_drewN ?_ _ | refine blk_drew ?_ | refine blk_alloc ?_ _)); exact h_) : p := c h
theorem zR {p q : Prop} (h : q) (c : q → p := by intro h_; (with_reducible repeat (first | apply Kd.R_alloc | apply Kd.R_drewN | apply Kd.R_drew)); exact h_) : p := c h
theorem zS {p q : Prop} (h : q) (c : q → p := by intro h_; (with_reducible repeat (first | apply Kd.S_alloc | apply Kd.S_drewN | apply Kd.S_drew)); exact h_) : p := c h
theorem zL {p q : Prop} (h : q) (c : q → p := by intro h_; repeat (first | (with_reducible first | exact h_ | apply below_alloc | apply pw_below_drewN | apply below_drew1) | exact h_)) : p := c h
theorem zL1 {p q g0 : Prop} (h : q) (k0 : g0) (c : q → g0 → p := by intro h_ k0_; repeat (first | (with_reducible first | exact h_ | apply below_alloc | apply pw_below_drewN | apply below_drew1 | refine below_set ?_ k0_) | exact h_)) : p := c h k0
theorem zL2 {p q g0 g1 : Prop} (h : q) (k0 : g0) (k1 : g1) (c : q → g0 → g1 → p := by intro h_ k0_ k1_; repeat (first | (with_reducible first | exact h_ | apply below_alloc | apply pw_below_drewN | apply below_drew1 | refine below_set ?_ k0_ | refine below_set ?_ k1_) | exact h_)) : p := c h k0 k1
theorem zL3 {p q g0 g1 g2 : Prop} (h : q) (k0 : g0) (k1 : g1) (k2 : g2) (c : q → g0 → g1 → g2 → p := by intro h_ k0_ k1_ k2_; repeat (first | (with_reducible first | exact h_ | apply below_alloc | apply pw_below_drewN | apply below_drew1 | refine below_set ?_ k0_ | refine below_set ?_ k1_ | refine below_set ?_ k2_) | exact h_)) : p := c h k0 k1 k2
theorem zL4 {p q g0 g1 g2 g3 : Prop} (h : q) (k0 : g0) (k1 : g1) (k2 : g2) (k3 : g3) (c : q → g0 → g1 → g2 → g3 → p := by intro h_ k0_ k1_ k2_ k3_; repeat (first | (with_reducible first | exact h_ | apply below_alloc | apply pw_below_drewN | apply below_drew1 | refine below_set ?_ k0_ | refine below_set ?_ k1_ | refine below_set ?_ k2_ | refine below_set ?_ k3_) | exact h_)) : p := c h k0 k1 k2 k3
theorem zL5 {p q g0 g1 g2 g3 g4 : Prop} (h : q) (k0 : g0) (k1 : g1) (k2 : g2) (k3 : g3) (k4 : g4) (c : q → g0 → g1 → g2 → g3 → g4 → p := by intro h_ k0_ k1_ k2_ k3_ k4_; repeat (first | (with_reducible first | exact h_ | apply below_alloc | apply pw_below_drewN | apply below_drew1 | refine below_set ?_ k0_ | refine below_set ?_ k1_ | refine below_set ?_ k2_ | refine below_set ?_ k3_ | refine below_set ?_ k4_) | exact h_)) : p := c h k0 k1 k2 k3 k4
theorem zK {p q : Prop} (h : q) (c : q → p := by intro h_; repeat (first | (with_reducible first | exact h_ | apply KeepBut.set_ | apply keep_drewN | apply keep_drew | apply keep_alloc) | exact h_)) : p := c h
theorem zK1 {p q g0 : Prop} (h : q) (k0 : g0) (c : q → g0 → p := by intro h_ k0_; repeat (first | (with_reducible first | exact h_ | apply KeepBut.set_ | apply keep_drewN | apply keep_drew | apply keep_alloc | refine keep_far ?_ k0_ _) | exact h_)) : p := c h k0
theorem zK2 {p q g0 g1 : Prop} (h : q) (k0 : g0) (k1 : g1) (c : q → g0 → g1 → p := by intro h_ k0_ k1_; repeat (first | (with_reducible first | exact h_ | apply KeepBut.set_ | apply keep_drewN | apply keep_drew | apply keep_alloc | refine keep_far ?_ k0_ _ | refine keep_far ?_ k1_ _) | exact h_)) : p := c h k0 k1
theorem zK3 {p q g0 g1 g2 : Prop} (h : q) (k0 : g0) (k1 : g1) (k2 : g2) (c : q → g0 → g1 → g2 → p := by intro h_ k0_ k1_ k2_; repeat (first | (with_reducible first | exact h_ | apply KeepBut.set_ | apply keep_drewN | apply keep_drew | apply keep_alloc | refine keep_far ?_ k0_ _ | refine keep_far ?_ k1_ _ | refine keep_far ?_ k2_ _) | exact h_)) : p := c h k0 k1 k2
theorem zK4 {p q g0 g1 g2 g3 : Prop} (h : q) (k0 : g0) (k1 : g1) (k2 : g2) (k3 : g3) (c : q → g0 → g1 → g2 → g3 → p := by intro h_ k0_ k1_ k2_ k3_; repeat (first | (with_reducible first | exact h_ | apply KeepBut.set_ | apply keep_drewN | apply keep_drew | apply keep_alloc | refine keep_far ?_ k0_ _ | refine keep_far ?_ k1_ _ | refine keep_far ?_ k2_ _ | refine keep_far ?_ k3_ _) | exact h_)) : p := c h k0 k1 k2 k3
theorem zI {p q : Prop} (h : q) (c : q → p := by intro h_; repeat (first | (with_reducible first | exact h_ | apply IsS91.alloc | apply IsS91.drewN | apply IsS91.drew | apply IsS91.set_1 | apply IsS91.set_2) | exact h_)) : p := c h
theorem zI1 {p q g0 : Prop} (h : q) (k0 : g0) (c : q → g0 → p := by intro h_ k0_; repeat (first | (with_reducible first | exact h_ | apply IsS91.alloc | apply IsS91.drewN | apply IsS91.drew | apply IsS91.set_1 | apply IsS91.set_2 | refine IsS91.far ?_ k0_ _) | exact h_)) : p := c h k0
theorem zI2 {p q g0 g1 : Prop} (h : q) (k0 : g0) (k1 : g1) (c : q → g0 → g1 → p := by intro h_ k0_ k1_; repeat (first | (with_reducible first | exact h_ | apply IsS91.alloc | apply IsS91.drewN | apply IsS91.drew | apply IsS91.set_1 | apply IsS91.set_2 | refine IsS91.far ?_ k0_ _ | refine IsS91.far ?_ k1_ _) | exact h_)) : p := c h k0 k1
theorem zI3 {p q g0 g1 g2 : Prop} (h : q) (k0 : g0) (k1 : g1) (k2 : g2) (c : q → g0 → g1 → g2 → p := by intro h_ k0_ k1_ k2_; repeat (first | (with_reducible first | exact h_ | apply IsS91.alloc | apply IsS91.drewN | apply IsS91.drew | apply IsS91.set_1 | apply IsS91.set_2 | refine IsS91.far ?_ k0_ _ | refine IsS91.far ?_ k1_ _ | refine IsS91.far ?_ k2_ _) | exact h_)) : p := c h k0 k1 k2
theorem zI4 {p q g0 g1 g2 g3 : Prop} (h : q) (k0 : g0) (k1 : g1) (k2 : g2) (k3 : g3) (c : q → g0 → g1 → g2 → g3 → p := by intro h_ k0_ k1_ k2_ k3_; repeat (first | (with_reducible first | exact h_ | apply IsS91.alloc | apply IsS91.drewN | apply IsS91.drew | apply IsS91.set_1 | apply IsS91.set_2 | refine IsS91.far ?_ k0_ _ | refine IsS91.far ?_ k1_ _ | refine IsS91.far ?_ k2_ _ | refine IsS91.far ?_ k3_ _) | exact h_)) : p := c h k0 k1 k2 k3
theorem zC {p q : Prop} (h : q) (c : q → p := by intro h_; repeat (first | exact h_ | (with_reducible refine Kd.C_alloc ?_ _) | (with_reducible refine Kd.C_drewN ?_ _) | (with_reducible refine Kd.C_drew ?_))) : p := c h
theorem zE {p : Prop} (c : p := by (try simp only [List.map_toArray, List.map_cons, List.map_nil]); first | done | rfl | (simp only [List.length_drop, List.length_take]; rfl)) : p := c
theorem zD {p : Prop} [Decidable p] (h : decide p = true := by first | (with_reducible assumption) | assumption) : p := of_decide_eq_true h
theorem zP {p : Prop} (c : p := by simp only [Act.put, List.setIfInBounds_toArray, List.set_cons_zero, List.set_cons_succ, i64_w, i32_w]; rfl) : p := c
/-- A block goes on as it is, over an event. -/
theorem zA {w1 w w2 : World} {g : Nat} {o : Obj} (h : w1.heap[g]? = some o) (hb : Below w.heap.size w w2) (c : w1.heap[g]? = some o → w.heap[g]? = some o := by intro h_; (with_reducible repeat (first | refine blk_drewN ?_ _ | refine blk_drew ?_ | refine blk_alloc ?_ _)); exact h_) : w2.heap[g]? = some o := blk_below (c h) hb
theorem zc4 {w : World} {g : Nat} {t : TypeId} {a0 a1 a2 a3 : Value} (h : w.heap[g]? = some (.cells #[a0, a1, a2, a3] t (0, 0))) : w.cell? ⟨g, 0, none⟩ = some a0 ∧ w.cell? ⟨g, 1, none⟩ = some a1 ∧ w.cell? ⟨g, 2, none⟩ = some a2 ∧ w.cell? ⟨g, 3, none⟩ = some a3 := ⟨(blk_cell h 0).trans rfl, (blk_cell h 1).trans rfl, (blk_cell h 2).trans rfl, (blk_cell h 3).trans rfl⟩
theorem zk4 {w : World} {g : Nat} {t : TypeId} {a0 a1 a2 a3 : Value} {B : Prop} (h : w.heap[g]? = some (.cells #[a0, a1, a2, a3] t (0, 0))) (r : B) : w.cell? ⟨g, 0, none⟩ = some a0 ∧ w.cell? ⟨g, 1, none⟩ = some a1 ∧ w.cell? ⟨g, 2, none⟩ = some a2 ∧ w.cell? ⟨g, 3, none⟩ = some a3 ∧ B := ⟨(blk_cell h 0).trans rfl, (blk_cell h 1).trans rfl, (blk_cell h 2).trans rfl, (blk_cell h 3).trans rfl, r⟩
theorem zq40 {w : World} {g : Nat} {t : TypeId} {a0 a1 a2 a3 : Value} (h : w.heap[g]? = some (.cells #[a0, a1, a2, a3] t (0, 0))) : w.cell? ⟨g, 0, none⟩ = some a0 := (blk_cell h 0).trans rfl
theorem zq41 {w : World} {g : Nat} {t : TypeId} {a0 a1 a2 a3 : Value} (h : w.heap[g]? = some (.cells #[a0, a1, a2, a3] t (0, 0))) : w.cell? ⟨g, 1, none⟩ = some a1 := (blk_cell h 1).trans rfl
theorem zq42 {w : World} {g : Nat} {t : TypeId} {a0 a1 a2 a3 : Value} (h : w.heap[g]? = some (.cells #[a0, a1, a2, a3] t (0, 0))) : w.cell? ⟨g, 2, none⟩ = some a2 := (blk_cell h 2).trans rfl
theorem zq43 {w : World} {g : Nat} {t : TypeId} {a0 a1 a2 a3 : Value} (h : w.heap[g]? = some (.cells #[a0, a1, a2, a3] t (0, 0))) : w.cell? ⟨g, 3, none⟩ = some a3 := (blk_cell h 3).trans rfl
theorem zf4 {w : World} {g : Nat} {t : TypeId} {cs : Array Value} (h : w.heap[g]? = some (.cells cs t (0, 0))) : w.frozen? ⟨g, 0, none⟩ = false ∧ w.frozen? ⟨g, 1, none⟩ = false ∧ w.frozen? ⟨g, 2, none⟩ = false ∧ w.frozen? ⟨g, 3, none⟩ = false := ⟨blk_frozen h 0, blk_frozen h 1, blk_frozen h 2, blk_frozen h 3⟩
theorem zc5 {w : World} {g : Nat} {t : TypeId} {a0 a1 a2 a3 a4 : Value} (h : w.heap[g]? = some (.cells #[a0, a1, a2, a3, a4] t (0, 0))) : w.cell? ⟨g, 0, none⟩ = some a0 ∧ w.cell? ⟨g, 1, none⟩ = some a1 ∧ w.cell? ⟨g, 2, none⟩ = some a2 ∧ w.cell? ⟨g, 3, none⟩ = some a3 ∧ w.cell? ⟨g, 4, none⟩ = some a4 := ⟨(blk_cell h 0).trans rfl, (blk_cell h 1).trans rfl, (blk_cell h 2).trans rfl, (blk_cell h 3).trans rfl, (blk_cell h 4).trans rfl⟩
theorem zk5 {w : World} {g : Nat} {t : TypeId} {a0 a1 a2 a3 a4 : Value} {B : Prop} (h : w.heap[g]? = some (.cells #[a0, a1, a2, a3, a4] t (0, 0))) (r : B) : w.cell? ⟨g, 0, none⟩ = some a0 ∧ w.cell? ⟨g, 1, none⟩ = some a1 ∧ w.cell? ⟨g, 2, none⟩ = some a2 ∧ w.cell? ⟨g, 3, none⟩ = some a3 ∧ w.cell? ⟨g, 4, none⟩ = some a4 ∧ B := ⟨(blk_cell h 0).trans rfl, (blk_cell h 1).trans rfl, (blk_cell h 2).trans rfl, (blk_cell h 3).trans rfl, (blk_cell h 4).trans rfl, r⟩
theorem zq50 {w : World} {g : Nat} {t : TypeId} {a0 a1 a2 a3 a4 : Value} (h : w.heap[g]? = some (.cells #[a0, a1, a2, a3, a4] t (0, 0))) : w.cell? ⟨g, 0, none⟩ = some a0 := (blk_cell h 0).trans rfl
theorem zq51 {w : World} {g : Nat} {t : TypeId} {a0 a1 a2 a3 a4 : Value} (h : w.heap[g]? = some (.cells #[a0, a1, a2, a3, a4] t (0, 0))) : w.cell? ⟨g, 1, none⟩ = some a1 := (blk_cell h 1).trans rfl
theorem zq52 {w : World} {g : Nat} {t : TypeId} {a0 a1 a2 a3 a4 : Value} (h : w.heap[g]? = some (.cells #[a0, a1, a2, a3, a4] t (0, 0))) : w.cell? ⟨g, 2, none⟩ = some a2 := (blk_cell h 2).trans rfl
theorem zq53 {w : World} {g : Nat} {t : TypeId} {a0 a1 a2 a3 a4 : Value} (h : w.heap[g]? = some (.cells #[a0, a1, a2, a3, a4] t (0, 0))) : w.cell? ⟨g, 3, none⟩ = some a3 := (blk_cell h 3).trans rfl
theorem zq54 {w : World} {g : Nat} {t : TypeId} {a0 a1 a2 a3 a4 : Value} (h : w.heap[g]? = some (.cells #[a0, a1, a2, a3, a4] t (0, 0))) : w.cell? ⟨g, 4, none⟩ = some a4 := (blk_cell h 4).trans rfl
theorem zf5 {w : World} {g : Nat} {t : TypeId} {cs : Array Value} (h : w.heap[g]? = some (.cells cs t (0, 0))) : w.frozen? ⟨g, 0, none⟩ = false ∧ w.frozen? ⟨g, 1, none⟩ = false ∧ w.frozen? ⟨g, 2, none⟩ = false ∧ w.frozen? ⟨g, 3, none⟩ = false ∧ w.frozen? ⟨g, 4, none⟩ = false := ⟨blk_frozen h 0, blk_frozen h 1, blk_frozen h 2, blk_frozen h 3, blk_frozen h 4⟩
theorem zc6 {w : World} {g : Nat} {t : TypeId} {a0 a1 a2 a3 a4 a5 : Value} (h : w.heap[g]? = some (.cells #[a0, a1, a2, a3, a4, a5] t (0, 0))) : w.cell? ⟨g, 0, none⟩ = some a0 ∧ w.cell? ⟨g, 1, none⟩ = some a1 ∧ w.cell? ⟨g, 2, none⟩ = some a2 ∧ w.cell? ⟨g, 3, none⟩ = some a3 ∧ w.cell? ⟨g, 4, none⟩ = some a4 ∧ w.cell? ⟨g, 5, none⟩ = some a5 := ⟨(blk_cell h 0).trans rfl, (blk_cell h 1).trans rfl, (blk_cell h 2).trans rfl, (blk_cell h 3).trans rfl, (blk_cell h 4).trans rfl, (blk_cell h 5).trans rfl⟩
theorem zk6 {w : World} {g : Nat} {t : TypeId} {a0 a1 a2 a3 a4 a5 : Value} {B : Prop} (h : w.heap[g]? = some (.cells #[a0, a1, a2, a3, a4, a5] t (0, 0))) (r : B) : w.cell? ⟨g, 0, none⟩ = some a0 ∧ w.cell? ⟨g, 1, none⟩ = some a1 ∧ w.cell? ⟨g, 2, none⟩ = some a2 ∧ w.cell? ⟨g, 3, none⟩ = some a3 ∧ w.cell? ⟨g, 4, none⟩ = some a4 ∧ w.cell? ⟨g, 5, none⟩ = some a5 ∧ B := ⟨(blk_cell h 0).trans rfl, (blk_cell h 1).trans rfl, (blk_cell h 2).trans rfl, (blk_cell h 3).trans rfl, (blk_cell h 4).trans rfl, (blk_cell h 5).trans rfl, r⟩
theorem zq60 {w : World} {g : Nat} {t : TypeId} {a0 a1 a2 a3 a4 a5 : Value} (h : w.heap[g]? = some (.cells #[a0, a1, a2, a3, a4, a5] t (0, 0))) : w.cell? ⟨g, 0, none⟩ = some a0 := (blk_cell h 0).trans rfl
theorem zq61 {w : World} {g : Nat} {t : TypeId} {a0 a1 a2 a3 a4 a5 : Value} (h : w.heap[g]? = some (.cells #[a0, a1, a2, a3, a4, a5] t (0, 0))) : w.cell? ⟨g, 1, none⟩ = some a1 := (blk_cell h 1).trans rfl
theorem zq62 {w : World} {g : Nat} {t : TypeId} {a0 a1 a2 a3 a4 a5 : Value} (h : w.heap[g]? = some (.cells #[a0, a1, a2, a3, a4, a5] t (0, 0))) : w.cell? ⟨g, 2, none⟩ = some a2 := (blk_cell h 2).trans rfl
theorem zq63 {w : World} {g : Nat} {t : TypeId} {a0 a1 a2 a3 a4 a5 : Value} (h : w.heap[g]? = some (.cells #[a0, a1, a2, a3, a4, a5] t (0, 0))) : w.cell? ⟨g, 3, none⟩ = some a3 := (blk_cell h 3).trans rfl
theorem zq64 {w : World} {g : Nat} {t : TypeId} {a0 a1 a2 a3 a4 a5 : Value} (h : w.heap[g]? = some (.cells #[a0, a1, a2, a3, a4, a5] t (0, 0))) : w.cell? ⟨g, 4, none⟩ = some a4 := (blk_cell h 4).trans rfl
theorem zq65 {w : World} {g : Nat} {t : TypeId} {a0 a1 a2 a3 a4 a5 : Value} (h : w.heap[g]? = some (.cells #[a0, a1, a2, a3, a4, a5] t (0, 0))) : w.cell? ⟨g, 5, none⟩ = some a5 := (blk_cell h 5).trans rfl
theorem zf6 {w : World} {g : Nat} {t : TypeId} {cs : Array Value} (h : w.heap[g]? = some (.cells cs t (0, 0))) : w.frozen? ⟨g, 0, none⟩ = false ∧ w.frozen? ⟨g, 1, none⟩ = false ∧ w.frozen? ⟨g, 2, none⟩ = false ∧ w.frozen? ⟨g, 3, none⟩ = false ∧ w.frozen? ⟨g, 4, none⟩ = false ∧ w.frozen? ⟨g, 5, none⟩ = false := ⟨blk_frozen h 0, blk_frozen h 1, blk_frozen h 2, blk_frozen h 3, blk_frozen h 4, blk_frozen h 5⟩
section
variable {P : Program} {ops : Array Oper} {Q : Exit → Act → World → Prop} {md : Region.Mode} {S : World → Prop} {ds : List Nat} {T : Bool × List (List Nat × List Nat)} {Bw : List Nat}
theorem pY (i : Nat) (N : Tmp) {oi : Oper} {v : Value} {fuel : Nat} {l : Array Bool} {a : Act} {w : World} (l' : Array Bool) (hT : rtab md ops = T) {a' : Act} (h : wpAnyLast P md ops Q S ds fuel l' a' w)
    (hi : ops[i]? = some oi := by exact rfl) (hN : oi.dst = some N := by exact rfl) (hc : anyT T l.toList l'.toList i = true := by kernel_rfl) (hQ : ∀ c a w, Q (.panic c) (a.put oi.dst v) w → Q (.panic c) a w := by exact fun _ _ _ h => h)
    (hw : Region.wanted oi (yielded ops a.tmps) = true := by rfl) (hy : ∀ w, (execOp a.eval oi).run P w = .ok (.value v) w := by intro w'; go_simp; with_reducible rfl) (ha : a.put (some N) v = a' := by simp only [Act.put, sA_, sB_, sC_, i64_w, i32_w]; rfl) :
    wpAnyLast P md ops Q S ds (fuel + 1) l a w := pure_ (i := i) (N := some N) l' hi hN (any_of hT hc) hQ (.inl ⟨hw, hy⟩) ha h
theorem pN (i : Nat) (N : Tmp) {oi : Oper} {fuel : Nat} {l : Array Bool} {a : Act} {w : World} (l' : Array Bool) (hT : rtab md ops = T) {a' : Act} (h : wpAnyLast P md ops Q S ds fuel l' a' w)
    (hi : ops[i]? = some oi := by exact rfl) (hN : oi.dst = some N := by exact rfl) (hc : anyT T l.toList l'.toList i = true := by kernel_rfl) (hQ : ∀ c a w, Q (.panic c) (a.put oi.dst undef) w → Q (.panic c) a w := by exact fun _ _ _ h => h)
    (hw : Region.wanted oi (yielded ops a.tmps) = false := by rfl) (ha : a.put (some N) undef = a' := by simp only [Act.put, sA_, sB_, sC_, i64_w, i32_w]; rfl) :
    wpAnyLast P md ops Q S ds (fuel + 1) l a w := pure_ (i := i) (N := some N) l' hi hN (any_of hT hc) hQ (.inr ⟨hw, rfl⟩) ha h
theorem tY (i : Nat) (N : Tmp) {oi : Oper} {v : Value} {fuel : Nat} {l : Array Bool} {a : Act} {w : World} (l' : Array Bool) (hT : rtab md ops = T) (hB : waitsOk T.2 Bw = true) (hS : S w) {a' : Act} (h : wpAnyLast P md ops Q S ds fuel l' a' w)
    (hi : ops[i]? = some oi := by exact rfl) (hN : oi.dst = some N := by exact rfl) (hc : takeW T Bw ds l.toList l'.toList i = true := by kernel_rfl) (hQ : ∀ c a w, Q (.panic c) (a.put oi.dst v) w → Q (.panic c) a w := by exact fun _ _ _ h => h)
    (hw : Region.wanted oi (yielded ops a.tmps) = true := by rfl) (hy : ∀ w, S w → (execOp a.eval oi).run P w = .ok (.value v) w := by intro w' hs_; repeat (have s_ := And.left hs_; replace hs_ := And.right hs_); go_simp; with_reducible rfl)
    (ha : a.put (some N) v = a' := by simp only [Act.put, sA_, sB_, sC_, i64_w, i32_w]; rfl) :
    wpAnyLast P md ops Q S ds (fuel + 1) l a w := take_ (i := i) (N := some N) l' hi hN (take_ofW hT hB hc) hQ (.inl ⟨hw, hy⟩) hS ha h
theorem oN (i : Nat) (N : Tmp) {oi : Oper} {fuel : Nat} {l : Array Bool} {a : Act} {w : World} (l' : Array Bool) (hT : rtab md ops = T)
    (h : ∀ K : Act → World → Prop, Shut (∀ a' w', S w' → (S w' → wpAnyLast P md ops Q S ds fuel l' a' w') → K a' w') → if Region.wanted oi (yielded ops a.tmps) = true then Oper.wp P oi a w K Q else K (a.put (some N) undef) w)
    (hi : ops[i]? = some oi := by exact rfl) (hN : oi.dst = some N := by exact rfl)
    (hc : (readyT T.2 l.toList == [i] && l.toList.set i true == l'.toList) = true := by kernel_rfl) (hd : i ∉ ds := by decide) : wpAnyLast P md ops Q S ds (fuel + 1) l a w := one_ (i := i) (N := some N) l' hi hN (one_of hT hc) hd h
/-- The act written out. -/
theorem nZ (N : Tmp) {fuel : Nat} {l : Array Bool} {a a' a0 : Act} {v : Value} {w : World} (h : wpAnyLast P md ops Q S ds fuel l a' w) (e : a = Act.put a0 (some N) v := by exact rfl) (ha : Act.put a0 (some N) v = a' := by simp only [Act.put, sA_, sB_, sC_, i64_w, i32_w]; rfl) : wpAnyLast P md ops Q S ds fuel l a w := norm_ (e.trans ha) h
theorem gS {oi : Oper} {N : Option Tmp} {a : Act} {w : World} {K : Act → World → Prop} {f : FuncId} {fn : Func} {us : Array Operand} {ts : Array TypeId} (hf : P.funcs[f]? = some fn) (args : Array Value)
    (h : Calls P f args w fun e w' => ∃ v, e = .returned v ∧ K (a.put N v) w') (hname : (fn.name == "runtime.NumGoroutine") = false := by kernel_rfl) (hb : fn.body.isSome = true := by exact rfl)
    (hw : Region.wanted oi (yielded ops a.tmps) = true := by rfl) (hN : oi.dst = N := by exact rfl) (hop : oi.op = .call { callee := .value (.func f), args := us, argTypes := ts } := by exact rfl)
    (hargs : us.map a.eval = args := by (try simp only [List.map_toArray, List.map_cons, List.map_nil]); first | done | rfl | (simp only [List.length_drop, List.length_take]; rfl)) :
    if Region.wanted oi (yielded ops a.tmps) = true then Oper.wp P oi a w K Q else K (a.put N undef) w := goes_ hf hname hb args hw hN hop hargs h
theorem gL (N : Tmp) {rest : List Oper} {oi : Oper} {a : Act} {w : World} {f : FuncId} {fn : Func} {us : Array Operand} {ts : Array TypeId} (hf : P.funcs[f]? = some fn) (args : Array Value)
    (h : Calls P f args w fun e w' => ∃ v, e = .returned v ∧ wpList P ops Q rest (a.put (some N) v) w') (hd : oi.dst = some N := by exact rfl) (hg : oi.guard = none := by exact rfl) (hname : (fn.name == "runtime.NumGoroutine") = false := by kernel_rfl) (hb : fn.body.isSome = true := by exact rfl)
    (hop : oi.op = .call { callee := .value (.func f), args := us, argTypes := ts } := by exact rfl)
    (hargs : us.map a.eval = args := by (try simp only [List.map_toArray, List.map_cons, List.map_nil]); first | done | rfl | (simp only [List.length_drop, List.length_take]; rfl)) :
    wpList P ops Q (oi :: rest) a w := goesL_ (some N) hd hg hf hname hb args hop hargs h
theorem gD (N : Tmp) {rest : List Oper} {o : Oper} {a : Act} {W : World} (hN : o.dst = some N) (h : wpList P ops Q (o :: rest) a W) : wpList P ops Q (o :: rest) a W := h
theorem gC (f : FuncId) {rest : List Oper} {o : Oper} {a : Act} {W : World} {us : Array Operand} {ts : Array TypeId} (ho : o.op = .call { callee := .value (.func f), args := us, argTypes := ts }) (h : wpList P ops Q (o :: rest) a W) : wpList P ops Q (o :: rest) a W := h
theorem bE (N : Tmp) (cs : Array Value) (t : TypeId) {rest : List Oper} {o : Oper} {a : Act} {W : World}
    (h : ∀ g, g = W.heap.size → ∀ w1, w1.heap[g]? = some (.cells cs t (0, 0)) → Below W.heap.size W w1 → wpList P ops Q rest (a.put o.dst (.pointer (some ⟨g, 0, none⟩))) w1) (hgd : o.guard = none := by exact rfl) (hd : o.dst = some N := by exact rfl)
    (hrun : (execOp a.eval o).run P W = .ok (.value (.pointer (some ⟨W.heap.size, 0, none⟩))) (W.alloc (.cells cs t (0, 0))) := by first | (go_simp; done) | (go_simp; rfl)) : wpList P ops Q (o :: rest) a W := box_event hgd (N := N) hd hrun h
end
theorem zO {α β : Type} {o : Option α} {f : α → Option β} {b : β} (h : o.bind f = some b) : ∃ a, Aside0 (o = some a) ∧ f a = some b := by
  obtain ⟨a, h1, h2⟩ := Option.bind_eq_some_iff.mp h
  exact ⟨a, ⟨h1⟩, h2⟩
theorem zn : ¬ (false = true) := by decide
theorem zt {α : Type} [BEq α] [LawfulBEq α] {a b : α} (h : a = b) : (a == b) = true ∧ (a != b) = false := ⟨beq_iff_eq.mpr h, bne_eq_false_iff_eq.mpr h⟩
theorem zf {α : Type} [BEq α] [LawfulBEq α] {a b : α} (h : ¬ a = b) : (a == b) = false ∧ (a != b) = true := ⟨beq_eq_false_iff_ne.mpr h, bne_iff_ne.mpr h⟩
theorem zW {p : Prop} (c : p := by first | rfl | (simp [errW_none, errW_some] <;> rfl) | (simp [*, errW_none, errW_some] <;> rfl)) : p := c
theorem zV {p : Prop} (c : p := by first | rfl | (simp; done) | (simp [*]; done)) : p := c
theorem zU {p : Prop} (c : p := by repeat (first | exact Drawn0.refl _ | apply Drawn0.step)) : p := c
section
variable {g g2 : Nat} {o : Obj} {w0 w1 w w2 W : World}
theorem zN (h : w1.heap[g]? = some o) (hg : g2 = W.heap.size) (c : w1.heap[g]? = some o → W.heap[g]? = some o := by intro h_; (with_reducible repeat (first | refine blk_drewN ?_ _ | refine blk_drew ?_ | refine blk_alloc ?_ _)); exact h_) : g ≠ g2 := by
  rw [hg]
  exact Nat.ne_of_lt (blk_lt (c h))
theorem zM (h : w1.heap[g]? = some o) (hg : g2 = W.heap.size) (c : w1.heap[g]? = some o → W.heap[g]? = some o := by intro h_; (with_reducible repeat (first | refine blk_drewN ?_ _ | refine blk_drew ?_ | refine blk_alloc ?_ _)); exact h_) : g2 ≠ g := (zN h hg c).symm
theorem zNI (h : g < W.heap.size) (hg : g2 = W.heap.size) : g ≠ g2 := by
  rw [hg]
  exact Nat.ne_of_lt h
theorem zMI (h : g < W.heap.size) (hg : g2 = W.heap.size) : g2 ≠ g := (zNI h hg).symm
theorem zg (h : Below w.heap.size w W) (hg : g = W.heap.size) : w.heap.size ≤ g := by
  rw [hg]
  exact below_size h
theorem zgK (h : KeepBut w W g none) (hg : g2 = W.heap.size) : w.heap.size ≤ g2 := by
  rw [hg]
  exact keep_size h
theorem zQ {row : Option Nat} (hk : KeepBut W w2 g row) (h : w1.heap[g2]? = some o) (hne : g2 ≠ g) (c : w1.heap[g2]? = some o → W.heap[g2]? = some o := by intro h_; (with_reducible repeat (first | refine blk_drewN ?_ _ | refine blk_drew ?_ | refine blk_alloc ?_ _)); exact h_)
    (hr : some g2 ≠ row := by simp) : w2.heap[g2]? = some o := KeepBut.blk hk (c h) hne hr
theorem zBD (h : Aside0 (w.heap[g]? = some o)) : Aside0 (w.drew.heap[g]? = some o) := ⟨blk_drew h.out⟩
theorem zLD {b : Nat} (h : Aside0 (Below b w W)) : Aside0 (Below b w W.drew) := ⟨below_drew1 h.out⟩
theorem zBB (h : Aside0 (w1.heap[g]? = some o)) (hb : Below w.heap.size w w2) (c : w1.heap[g]? = some o → w.heap[g]? = some o := by intro h_; (with_reducible repeat (first | refine blk_drewN ?_ _ | refine blk_drew ?_ | refine blk_alloc ?_ _)); exact h_) : Aside0 (w2.heap[g]? = some o) := ⟨blk_below (c h.out) hb⟩
theorem zBK {row : Option Nat} (hk : KeepBut W w2 g row) (h : Aside0 (w1.heap[g2]? = some o)) (hne : Aside0 (g2 ≠ g)) (c : w1.heap[g2]? = some o → W.heap[g2]? = some o := by intro h_; (with_reducible repeat (first | refine blk_drewN ?_ _ | refine blk_drew ?_ | refine blk_alloc ?_ _)); exact h_)
    (hr : some g2 ≠ row := by simp) : Aside0 (w2.heap[g2]? = some o) := ⟨KeepBut.blk hk (c h.out) hne.out hr⟩
theorem zKK {row : Option Nat} (h : KeepBut w w1 g row) (k : KeepBut w1 w2 g row) : Aside0 (KeepBut w w2 g row) := ⟨KeepBut.trans h k (.inl rfl)⟩
theorem zKB (g : Nat) (h : KeepBut w w1 g none) (hb : Below w1.heap.size w1 w2) : Aside0 (KeepBut w w2 g none) := ⟨KeepBut.trans h (KeepBut.of_below hb g none) (.inl rfl)⟩
theorem zLB (h : Below w.heap.size w W) (hb : Below W.heap.size W w2) : Aside0 (Below w.heap.size w w2) := ⟨below_step h hb⟩
end
section
variable {α : Type} {d : Kd α} {e base g : Nat} {ok ok' : Nat → Prop} {w W w2 : World} {v : Value} {xs : List α}
theorem zRD (h : Aside0 (d.R e w base ok v xs)) : Aside0 (d.R e w.drew base ok v xs) := ⟨Kd.R_drew h.out⟩
theorem zSD (h : Aside0 (d.S e w base ok v xs)) : Aside0 (d.S e w.drew base ok v xs) := ⟨Kd.S_drew h.out⟩
theorem zRB (h : Aside0 (d.R e w base ok v xs)) (hb : Below W.heap.size W w2) (c : d.R e w base ok v xs → d.R e W base ok v xs := by intro h_; (with_reducible repeat (first | apply Kd.R_alloc | apply Kd.R_drewN | apply Kd.R_drew)); exact h_) : Aside0 (d.R e w2 base ok v xs) := ⟨Kd.R_below (c h.out) hb⟩
theorem zSB (h : Aside0 (d.S e w base ok v xs)) (hb : Below W.heap.size W w2) (c : d.S e w base ok v xs → d.S e W base ok v xs := by intro h_; (with_reducible repeat (first | apply Kd.S_alloc | apply Kd.S_drewN | apply Kd.S_drew)); exact h_) : Aside0 (d.S e w2 base ok v xs) := ⟨Kd.S_below (c h.out) hb⟩
theorem zX {p q : Prop} (h : q) (c : q → p := by intro h_; (with_reducible repeat (first | apply Kd.N_alloc | apply Kd.N_drewN | apply Kd.N_drew)); exact h_) : p := c h
theorem zXD (h : Aside0 (d.N e w base ok v xs)) : Aside0 (d.N e w.drew base ok v xs) := ⟨Kd.N_drew h.out⟩
theorem zXE (n : Nat) (h : Aside0 (d.N e w base ok v xs)) : Aside0 (d.N e (w.drewN n).drew base ok v xs) := ⟨Kd.N_drew (Kd.N_drewN h.out n)⟩
theorem zXB (h : Aside0 (d.N e w base ok v xs)) (hb : Below W.heap.size W w2) (c : d.N e w base ok v xs → d.N e W base ok v xs := by intro h_; (with_reducible repeat (first | apply Kd.N_alloc | apply Kd.N_drewN | apply Kd.N_drew)); exact h_) : Aside0 (d.N e w2 base ok v xs) := ⟨Kd.N_below (c h.out) hb⟩
theorem zXm (h : d.N e w base ok v xs) (hok : ∀ k, ok k → ok' k) (c : d.N e w base ok v xs → d.N e W base ok v xs := by intro h_; (with_reducible repeat (first | apply Kd.N_alloc | apply Kd.N_drewN | apply Kd.N_drew)); exact h_) : d.N e W base ok' v xs := Kd.N_mono (c h) hok
theorem zRm (h : d.R e w base ok v xs) (hok : ∀ k, ok k → ok' k) (c : d.R e w base ok v xs → d.R e W base ok v xs := by intro h_; (with_reducible repeat (first | apply Kd.R_alloc | apply Kd.R_drewN | apply Kd.R_drew)); exact h_) : d.R e W base ok' v xs := Kd.R_mono (c h) hok
theorem zSm (h : d.S e w base ok v xs) (hok : ∀ k, ok k → ok' k) (c : d.S e w base ok v xs → d.S e W base ok v xs := by intro h_; (with_reducible repeat (first | apply Kd.S_alloc | apply Kd.S_drewN | apply Kd.S_drew)); exact h_) : d.S e W base ok' v xs := Kd.S_mono (c h) hok
end
/-! ### All cells of a block, one after another -/
theorem zp4_ {w : World} {g : Nat} {t : TypeId} {v0 v1 v2 v3 u0 u1 u2 u3 : Value} (h : w.heap[g]? = some (.cells #[v0, v1, v2, v3] t (0, 0))) : ((((w.setCell ⟨g, 0, none⟩ u0).setCell ⟨g, 1, none⟩ u1).setCell ⟨g, 2, none⟩ u2).setCell ⟨g, 3, none⟩ u3).heap[g]? = some (.cells #[u0, u1, u2, u3] t (0, 0)) := by
  refine blk_put (cs := #[u0, u1, u2, v3]) ?_ 3 _ rfl
  refine blk_put (cs := #[u0, u1, v2, v3]) ?_ 2 _ rfl
  refine blk_put (cs := #[u0, v1, v2, v3]) ?_ 1 _ rfl
  refine blk_put (cs := #[v0, v1, v2, v3]) ?_ 0 _ rfl
  exact h
theorem zp4 {w : World} {g : Nat} {t : TypeId} {u0 u1 u2 u3 : Value} {cs : Array Value} (h : w.heap[g]? = some (.cells cs t (0, 0))) (hs : cs.size = 4 := by rfl) : ((((w.setCell ⟨g, 0, none⟩ u0).setCell ⟨g, 1, none⟩ u1).setCell ⟨g, 2, none⟩ u2).setCell ⟨g, 3, none⟩ u3).heap[g]? = some (.cells #[u0, u1, u2, u3] t (0, 0)) := by
  obtain ⟨l⟩ := cs
  match l, hs with
  | [v0, v1, v2, v3], _ => exact zp4_ h
theorem zr4 {w : World} {g g' : Nat} {t : TypeId} {u0 u1 u2 u3 : Value} {cs : Array Value} (h : w.heap[g]? = some (.cells cs t (0, 0))) (hp : g ≠ g') : ((((w.setCell ⟨g', 0, none⟩ u0).setCell ⟨g', 1, none⟩ u1).setCell ⟨g', 2, none⟩ u2).setCell ⟨g', 3, none⟩ u3).heap[g]? = some (.cells cs t (0, 0)) := by
  refine blk_far ?_ hp _
  refine blk_far ?_ hp _
  refine blk_far ?_ hp _
  refine blk_far ?_ hp _
  exact h
theorem zcf4 {w : World} {g g' i : Nat} {u0 u1 u2 u3 v : Value} (hp : g ≠ g') (h : w.cell? ⟨g, i, none⟩ = some v) : ((((w.setCell ⟨g', 0, none⟩ u0).setCell ⟨g', 1, none⟩ u1).setCell ⟨g', 2, none⟩ u2).setCell ⟨g', 3, none⟩ u3).cell? ⟨g, i, none⟩ = some v := by
  refine (cell_far (a := ⟨g, i, none⟩) hp _).trans ?_
  refine (cell_far (a := ⟨g, i, none⟩) hp _).trans ?_
  refine (cell_far (a := ⟨g, i, none⟩) hp _).trans ?_
  refine (cell_far (a := ⟨g, i, none⟩) hp _).trans ?_
  exact h
theorem zcg4 {w : World} {g' : Nat} {a : Addr} {u0 u1 u2 u3 v : Value} (hp : a.block ≠ g') (h : w.cell? a = some v) : ((((w.setCell ⟨g', 0, none⟩ u0).setCell ⟨g', 1, none⟩ u1).setCell ⟨g', 2, none⟩ u2).setCell ⟨g', 3, none⟩ u3).cell? a = some v := by
  refine (cell_far hp _).trans ?_
  refine (cell_far hp _).trans ?_
  refine (cell_far hp _).trans ?_
  refine (cell_far hp _).trans ?_
  exact h
theorem zRF4 {α : Type} {d : Kd α} {e base : Nat} {ok : Nat → Prop} {w : World} {v : Value} {xs : List α} (h : d.R e w base ok v xs) (g : Nat) (hok : ∀ k, ok k → k ≠ g) (u0 u1 u2 u3 : Value) : d.R e ((((w.setCell ⟨g, 0, none⟩ u0).setCell ⟨g, 1, none⟩ u1).setCell ⟨g, 2, none⟩ u2).setCell ⟨g, 3, none⟩ u3) base ok v xs :=
  Kd.R_far (p := ⟨g, 3, none⟩) (Kd.R_far (p := ⟨g, 2, none⟩) (Kd.R_far (p := ⟨g, 1, none⟩) (Kd.R_far (p := ⟨g, 0, none⟩) (h) hok u0) hok u1) hok u2) hok u3
theorem zSF4 {α : Type} {d : Kd α} {e base : Nat} {ok : Nat → Prop} {w : World} {v : Value} {xs : List α} (h : d.S e w base ok v xs) (g : Nat) (hok : ∀ k, ok k → k ≠ g) (u0 u1 u2 u3 : Value) : d.S e ((((w.setCell ⟨g, 0, none⟩ u0).setCell ⟨g, 1, none⟩ u1).setCell ⟨g, 2, none⟩ u2).setCell ⟨g, 3, none⟩ u3) base ok v xs :=
  Kd.S_far (p := ⟨g, 3, none⟩) (Kd.S_far (p := ⟨g, 2, none⟩) (Kd.S_far (p := ⟨g, 1, none⟩) (Kd.S_far (p := ⟨g, 0, none⟩) (h) hok u0) hok u1) hok u2) hok u3
theorem zNF4 {α : Type} {d : Kd α} {e base : Nat} {ok : Nat → Prop} {w : World} {v : Value} {xs : List α} (h : d.N e w base ok v xs) (g : Nat) (hok : ∀ k, ok k → k ≠ g) (u0 u1 u2 u3 : Value) : d.N e ((((w.setCell ⟨g, 0, none⟩ u0).setCell ⟨g, 1, none⟩ u1).setCell ⟨g, 2, none⟩ u2).setCell ⟨g, 3, none⟩ u3) base ok v xs :=
  Kd.N_far (p := ⟨g, 3, none⟩) (Kd.N_far (p := ⟨g, 2, none⟩) (Kd.N_far (p := ⟨g, 1, none⟩) (Kd.N_far (p := ⟨g, 0, none⟩) (h) hok u0) hok u1) hok u2) hok u3
@[reducible] def zs4 (w : World) (g : Nat) (a0 a1 a2 a3 : Value) : Prop := w.cell? ⟨g, 0, none⟩ = some a0 ∧ w.cell? ⟨g, 1, none⟩ = some a1 ∧ w.cell? ⟨g, 2, none⟩ = some a2 ∧ w.cell? ⟨g, 3, none⟩ = some a3
@[reducible] def zt4 (w : World) (g : Nat) (a0 a1 a2 a3 : Value) (B : Prop) : Prop := w.cell? ⟨g, 0, none⟩ = some a0 ∧ w.cell? ⟨g, 1, none⟩ = some a1 ∧ w.cell? ⟨g, 2, none⟩ = some a2 ∧ w.cell? ⟨g, 3, none⟩ = some a3 ∧ B
theorem zp5_ {w : World} {g : Nat} {t : TypeId} {v0 v1 v2 v3 v4 u0 u1 u2 u3 u4 : Value} (h : w.heap[g]? = some (.cells #[v0, v1, v2, v3, v4] t (0, 0))) : (((((w.setCell ⟨g, 0, none⟩ u0).setCell ⟨g, 1, none⟩ u1).setCell ⟨g, 2, none⟩ u2).setCell ⟨g, 3, none⟩ u3).setCell ⟨g, 4, none⟩ u4).heap[g]? = some (.cells #[u0, u1, u2, u3, u4] t (0, 0)) := by
  refine blk_put (cs := #[u0, u1, u2, u3, v4]) ?_ 4 _ rfl
  refine blk_put (cs := #[u0, u1, u2, v3, v4]) ?_ 3 _ rfl
  refine blk_put (cs := #[u0, u1, v2, v3, v4]) ?_ 2 _ rfl
  refine blk_put (cs := #[u0, v1, v2, v3, v4]) ?_ 1 _ rfl
  refine blk_put (cs := #[v0, v1, v2, v3, v4]) ?_ 0 _ rfl
  exact h
theorem zp5 {w : World} {g : Nat} {t : TypeId} {u0 u1 u2 u3 u4 : Value} {cs : Array Value} (h : w.heap[g]? = some (.cells cs t (0, 0))) (hs : cs.size = 5 := by rfl) : (((((w.setCell ⟨g, 0, none⟩ u0).setCell ⟨g, 1, none⟩ u1).setCell ⟨g, 2, none⟩ u2).setCell ⟨g, 3, none⟩ u3).setCell ⟨g, 4, none⟩ u4).heap[g]? = some (.cells #[u0, u1, u2, u3, u4] t (0, 0)) := by
  obtain ⟨l⟩ := cs
  match l, hs with
  | [v0, v1, v2, v3, v4], _ => exact zp5_ h
theorem zr5 {w : World} {g g' : Nat} {t : TypeId} {u0 u1 u2 u3 u4 : Value} {cs : Array Value} (h : w.heap[g]? = some (.cells cs t (0, 0))) (hp : g ≠ g') : (((((w.setCell ⟨g', 0, none⟩ u0).setCell ⟨g', 1, none⟩ u1).setCell ⟨g', 2, none⟩ u2).setCell ⟨g', 3, none⟩ u3).setCell ⟨g', 4, none⟩ u4).heap[g]? = some (.cells cs t (0, 0)) := by
  refine blk_far ?_ hp _
  refine blk_far ?_ hp _
  refine blk_far ?_ hp _
  refine blk_far ?_ hp _
  refine blk_far ?_ hp _
  exact h
theorem zcf5 {w : World} {g g' i : Nat} {u0 u1 u2 u3 u4 v : Value} (hp : g ≠ g') (h : w.cell? ⟨g, i, none⟩ = some v) : (((((w.setCell ⟨g', 0, none⟩ u0).setCell ⟨g', 1, none⟩ u1).setCell ⟨g', 2, none⟩ u2).setCell ⟨g', 3, none⟩ u3).setCell ⟨g', 4, none⟩ u4).cell? ⟨g, i, none⟩ = some v := by
  refine (cell_far (a := ⟨g, i, none⟩) hp _).trans ?_
  refine (cell_far (a := ⟨g, i, none⟩) hp _).trans ?_
  refine (cell_far (a := ⟨g, i, none⟩) hp _).trans ?_
  refine (cell_far (a := ⟨g, i, none⟩) hp _).trans ?_
  refine (cell_far (a := ⟨g, i, none⟩) hp _).trans ?_
  exact h
theorem zcg5 {w : World} {g' : Nat} {a : Addr} {u0 u1 u2 u3 u4 v : Value} (hp : a.block ≠ g') (h : w.cell? a = some v) : (((((w.setCell ⟨g', 0, none⟩ u0).setCell ⟨g', 1, none⟩ u1).setCell ⟨g', 2, none⟩ u2).setCell ⟨g', 3, none⟩ u3).setCell ⟨g', 4, none⟩ u4).cell? a = some v := by
  refine (cell_far hp _).trans ?_
  refine (cell_far hp _).trans ?_
  refine (cell_far hp _).trans ?_
  refine (cell_far hp _).trans ?_
  refine (cell_far hp _).trans ?_
  exact h
theorem zRF5 {α : Type} {d : Kd α} {e base : Nat} {ok : Nat → Prop} {w : World} {v : Value} {xs : List α} (h : d.R e w base ok v xs) (g : Nat) (hok : ∀ k, ok k → k ≠ g) (u0 u1 u2 u3 u4 : Value) : d.R e (((((w.setCell ⟨g, 0, none⟩ u0).setCell ⟨g, 1, none⟩ u1).setCell ⟨g, 2, none⟩ u2).setCell ⟨g, 3, none⟩ u3).setCell ⟨g, 4, none⟩ u4) base ok v xs :=
  Kd.R_far (p := ⟨g, 4, none⟩) (Kd.R_far (p := ⟨g, 3, none⟩) (Kd.R_far (p := ⟨g, 2, none⟩) (Kd.R_far (p := ⟨g, 1, none⟩) (Kd.R_far (p := ⟨g, 0, none⟩) (h) hok u0) hok u1) hok u2) hok u3) hok u4
theorem zSF5 {α : Type} {d : Kd α} {e base : Nat} {ok : Nat → Prop} {w : World} {v : Value} {xs : List α} (h : d.S e w base ok v xs) (g : Nat) (hok : ∀ k, ok k → k ≠ g) (u0 u1 u2 u3 u4 : Value) : d.S e (((((w.setCell ⟨g, 0, none⟩ u0).setCell ⟨g, 1, none⟩ u1).setCell ⟨g, 2, none⟩ u2).setCell ⟨g, 3, none⟩ u3).setCell ⟨g, 4, none⟩ u4) base ok v xs :=
  Kd.S_far (p := ⟨g, 4, none⟩) (Kd.S_far (p := ⟨g, 3, none⟩) (Kd.S_far (p := ⟨g, 2, none⟩) (Kd.S_far (p := ⟨g, 1, none⟩) (Kd.S_far (p := ⟨g, 0, none⟩) (h) hok u0) hok u1) hok u2) hok u3) hok u4
theorem zNF5 {α : Type} {d : Kd α} {e base : Nat} {ok : Nat → Prop} {w : World} {v : Value} {xs : List α} (h : d.N e w base ok v xs) (g : Nat) (hok : ∀ k, ok k → k ≠ g) (u0 u1 u2 u3 u4 : Value) : d.N e (((((w.setCell ⟨g, 0, none⟩ u0).setCell ⟨g, 1, none⟩ u1).setCell ⟨g, 2, none⟩ u2).setCell ⟨g, 3, none⟩ u3).setCell ⟨g, 4, none⟩ u4) base ok v xs :=
  Kd.N_far (p := ⟨g, 4, none⟩) (Kd.N_far (p := ⟨g, 3, none⟩) (Kd.N_far (p := ⟨g, 2, none⟩) (Kd.N_far (p := ⟨g, 1, none⟩) (Kd.N_far (p := ⟨g, 0, none⟩) (h) hok u0) hok u1) hok u2) hok u3) hok u4
@[reducible] def zs5 (w : World) (g : Nat) (a0 a1 a2 a3 a4 : Value) : Prop := w.cell? ⟨g, 0, none⟩ = some a0 ∧ w.cell? ⟨g, 1, none⟩ = some a1 ∧ w.cell? ⟨g, 2, none⟩ = some a2 ∧ w.cell? ⟨g, 3, none⟩ = some a3 ∧ w.cell? ⟨g, 4, none⟩ = some a4
@[reducible] def zt5 (w : World) (g : Nat) (a0 a1 a2 a3 a4 : Value) (B : Prop) : Prop := w.cell? ⟨g, 0, none⟩ = some a0 ∧ w.cell? ⟨g, 1, none⟩ = some a1 ∧ w.cell? ⟨g, 2, none⟩ = some a2 ∧ w.cell? ⟨g, 3, none⟩ = some a3 ∧ w.cell? ⟨g, 4, none⟩ = some a4 ∧ B
theorem zp6_ {w : World} {g : Nat} {t : TypeId} {v0 v1 v2 v3 v4 v5 u0 u1 u2 u3 u4 u5 : Value} (h : w.heap[g]? = some (.cells #[v0, v1, v2, v3, v4, v5] t (0, 0))) : ((((((w.setCell ⟨g, 0, none⟩ u0).setCell ⟨g, 1, none⟩ u1).setCell ⟨g, 2, none⟩ u2).setCell ⟨g, 3, none⟩ u3).setCell ⟨g, 4, none⟩ u4).setCell ⟨g, 5, none⟩ u5).heap[g]? = some (.cells #[u0, u1, u2, u3, u4, u5] t (0, 0)) := by
  refine blk_put (cs := #[u0, u1, u2, u3, u4, v5]) ?_ 5 _ rfl
  refine blk_put (cs := #[u0, u1, u2, u3, v4, v5]) ?_ 4 _ rfl
  refine blk_put (cs := #[u0, u1, u2, v3, v4, v5]) ?_ 3 _ rfl
  refine blk_put (cs := #[u0, u1, v2, v3, v4, v5]) ?_ 2 _ rfl
  refine blk_put (cs := #[u0, v1, v2, v3, v4, v5]) ?_ 1 _ rfl
  refine blk_put (cs := #[v0, v1, v2, v3, v4, v5]) ?_ 0 _ rfl
  exact h
theorem zp6 {w : World} {g : Nat} {t : TypeId} {u0 u1 u2 u3 u4 u5 : Value} {cs : Array Value} (h : w.heap[g]? = some (.cells cs t (0, 0))) (hs : cs.size = 6 := by rfl) : ((((((w.setCell ⟨g, 0, none⟩ u0).setCell ⟨g, 1, none⟩ u1).setCell ⟨g, 2, none⟩ u2).setCell ⟨g, 3, none⟩ u3).setCell ⟨g, 4, none⟩ u4).setCell ⟨g, 5, none⟩ u5).heap[g]? = some (.cells #[u0, u1, u2, u3, u4, u5] t (0, 0)) := by
  obtain ⟨l⟩ := cs
  match l, hs with
  | [v0, v1, v2, v3, v4, v5], _ => exact zp6_ h
theorem zr6 {w : World} {g g' : Nat} {t : TypeId} {u0 u1 u2 u3 u4 u5 : Value} {cs : Array Value} (h : w.heap[g]? = some (.cells cs t (0, 0))) (hp : g ≠ g') : ((((((w.setCell ⟨g', 0, none⟩ u0).setCell ⟨g', 1, none⟩ u1).setCell ⟨g', 2, none⟩ u2).setCell ⟨g', 3, none⟩ u3).setCell ⟨g', 4, none⟩ u4).setCell ⟨g', 5, none⟩ u5).heap[g]? = some (.cells cs t (0, 0)) := by
  refine blk_far ?_ hp _
  refine blk_far ?_ hp _
  refine blk_far ?_ hp _
  refine blk_far ?_ hp _
  refine blk_far ?_ hp _
  refine blk_far ?_ hp _
  exact h
theorem zcf6 {w : World} {g g' i : Nat} {u0 u1 u2 u3 u4 u5 v : Value} (hp : g ≠ g') (h : w.cell? ⟨g, i, none⟩ = some v) : ((((((w.setCell ⟨g', 0, none⟩ u0).setCell ⟨g', 1, none⟩ u1).setCell ⟨g', 2, none⟩ u2).setCell ⟨g', 3, none⟩ u3).setCell ⟨g', 4, none⟩ u4).setCell ⟨g', 5, none⟩ u5).cell? ⟨g, i, none⟩ = some v := by
  refine (cell_far (a := ⟨g, i, none⟩) hp _).trans ?_
  refine (cell_far (a := ⟨g, i, none⟩) hp _).trans ?_
  refine (cell_far (a := ⟨g, i, none⟩) hp _).trans ?_
  refine (cell_far (a := ⟨g, i, none⟩) hp _).trans ?_
  refine (cell_far (a := ⟨g, i, none⟩) hp _).trans ?_
  refine (cell_far (a := ⟨g, i, none⟩) hp _).trans ?_
  exact h
theorem zcg6 {w : World} {g' : Nat} {a : Addr} {u0 u1 u2 u3 u4 u5 v : Value} (hp : a.block ≠ g') (h : w.cell? a = some v) : ((((((w.setCell ⟨g', 0, none⟩ u0).setCell ⟨g', 1, none⟩ u1).setCell ⟨g', 2, none⟩ u2).setCell ⟨g', 3, none⟩ u3).setCell ⟨g', 4, none⟩ u4).setCell ⟨g', 5, none⟩ u5).cell? a = some v := by
  refine (cell_far hp _).trans ?_
  refine (cell_far hp _).trans ?_
  refine (cell_far hp _).trans ?_
  refine (cell_far hp _).trans ?_
  refine (cell_far hp _).trans ?_
  refine (cell_far hp _).trans ?_
  exact h
theorem zRF6 {α : Type} {d : Kd α} {e base : Nat} {ok : Nat → Prop} {w : World} {v : Value} {xs : List α} (h : d.R e w base ok v xs) (g : Nat) (hok : ∀ k, ok k → k ≠ g) (u0 u1 u2 u3 u4 u5 : Value) : d.R e ((((((w.setCell ⟨g, 0, none⟩ u0).setCell ⟨g, 1, none⟩ u1).setCell ⟨g, 2, none⟩ u2).setCell ⟨g, 3, none⟩ u3).setCell ⟨g, 4, none⟩ u4).setCell ⟨g, 5, none⟩ u5) base ok v xs :=
  Kd.R_far (p := ⟨g, 5, none⟩) (Kd.R_far (p := ⟨g, 4, none⟩) (Kd.R_far (p := ⟨g, 3, none⟩) (Kd.R_far (p := ⟨g, 2, none⟩) (Kd.R_far (p := ⟨g, 1, none⟩) (Kd.R_far (p := ⟨g, 0, none⟩) (h) hok u0) hok u1) hok u2) hok u3) hok u4) hok u5
theorem zSF6 {α : Type} {d : Kd α} {e base : Nat} {ok : Nat → Prop} {w : World} {v : Value} {xs : List α} (h : d.S e w base ok v xs) (g : Nat) (hok : ∀ k, ok k → k ≠ g) (u0 u1 u2 u3 u4 u5 : Value) : d.S e ((((((w.setCell ⟨g, 0, none⟩ u0).setCell ⟨g, 1, none⟩ u1).setCell ⟨g, 2, none⟩ u2).setCell ⟨g, 3, none⟩ u3).setCell ⟨g, 4, none⟩ u4).setCell ⟨g, 5, none⟩ u5) base ok v xs :=
  Kd.S_far (p := ⟨g, 5, none⟩) (Kd.S_far (p := ⟨g, 4, none⟩) (Kd.S_far (p := ⟨g, 3, none⟩) (Kd.S_far (p := ⟨g, 2, none⟩) (Kd.S_far (p := ⟨g, 1, none⟩) (Kd.S_far (p := ⟨g, 0, none⟩) (h) hok u0) hok u1) hok u2) hok u3) hok u4) hok u5
theorem zNF6 {α : Type} {d : Kd α} {e base : Nat} {ok : Nat → Prop} {w : World} {v : Value} {xs : List α} (h : d.N e w base ok v xs) (g : Nat) (hok : ∀ k, ok k → k ≠ g) (u0 u1 u2 u3 u4 u5 : Value) : d.N e ((((((w.setCell ⟨g, 0, none⟩ u0).setCell ⟨g, 1, none⟩ u1).setCell ⟨g, 2, none⟩ u2).setCell ⟨g, 3, none⟩ u3).setCell ⟨g, 4, none⟩ u4).setCell ⟨g, 5, none⟩ u5) base ok v xs :=
  Kd.N_far (p := ⟨g, 5, none⟩) (Kd.N_far (p := ⟨g, 4, none⟩) (Kd.N_far (p := ⟨g, 3, none⟩) (Kd.N_far (p := ⟨g, 2, none⟩) (Kd.N_far (p := ⟨g, 1, none⟩) (Kd.N_far (p := ⟨g, 0, none⟩) (h) hok u0) hok u1) hok u2) hok u3) hok u4) hok u5
@[reducible] def zs6 (w : World) (g : Nat) (a0 a1 a2 a3 a4 a5 : Value) : Prop := w.cell? ⟨g, 0, none⟩ = some a0 ∧ w.cell? ⟨g, 1, none⟩ = some a1 ∧ w.cell? ⟨g, 2, none⟩ = some a2 ∧ w.cell? ⟨g, 3, none⟩ = some a3 ∧ w.cell? ⟨g, 4, none⟩ = some a4 ∧ w.cell? ⟨g, 5, none⟩ = some a5
@[reducible] def zt6 (w : World) (g : Nat) (a0 a1 a2 a3 a4 a5 : Value) (B : Prop) : Prop := w.cell? ⟨g, 0, none⟩ = some a0 ∧ w.cell? ⟨g, 1, none⟩ = some a1 ∧ w.cell? ⟨g, 2, none⟩ = some a2 ∧ w.cell? ⟨g, 3, none⟩ = some a3 ∧ w.cell? ⟨g, 4, none⟩ = some a4 ∧ w.cell? ⟨g, 5, none⟩ = some a5 ∧ B
theorem zQ2 {W w2 : World} {g g2 : Nat} (o : Obj) {row : Option Nat} (hk : KeepBut W w2 g row) (h : W.heap[g2]? = some o) (hne : g2 ≠ g) (hr : some g2 ≠ row := by simp) : w2.heap[g2]? = some o := KeepBut.blk hk h hne hr
theorem zh {w W : World} {p : Addr} {v : Value} (hB : Below w.heap.size w W) (h : w.cell? p = some v) : W.cell? p = some v := (hB.cell (World.block_lt_of_cell? w _ h)).trans h
theorem zhn {w : World} {a : Addr} {v : Value} {g : Nat} (h : w.cell? a = some v) (hg : w.heap.size ≤ g) : a.block ≠ g := Nat.ne_of_lt (Nat.lt_of_lt_of_le (World.block_lt_of_cell? _ _ h) hg)
theorem zhp {p : Prop} (c : p := by repeat (first | exact Reps.none _ _ | refine Reps.one (by exact rfl) ?_)) : p := c
section
variable {α : Type} {d : Kd α} {e base g : Nat} {ok : Nat → Prop} {o : Obj} {w W : World} {v : Value} {xs : List α}
theorem zRE (n : Nat) (h : Aside0 (d.R e w base ok v xs)) : Aside0 (d.R e (w.drewN n).drew base ok v xs) := ⟨Kd.R_drew (Kd.R_drewN h.out n)⟩
theorem zSE (n : Nat) (h : Aside0 (d.S e w base ok v xs)) : Aside0 (d.S e (w.drewN n).drew base ok v xs) := ⟨Kd.S_drew (Kd.S_drewN h.out n)⟩
theorem zBE (n : Nat) (h : Aside0 (w.heap[g]? = some o)) : Aside0 ((w.drewN n).drew.heap[g]? = some o) := ⟨blk_drew (blk_drewN h.out n)⟩
theorem zLE (n : Nat) {b : Nat} (h : Aside0 (Below b w W)) : Aside0 (Below b w (W.drewN n).drew) := ⟨below_drew1 (pw_below_drewN h.out n)⟩
end
end Go.Proofs.YtfhblnbicnmndaaW.PrintLast
