/- What the Go functions that the law FnTimes reaches answer: each as a Lean function, with its walk. Written by a program of this session. Conditions: those that each theorem names. -/
import Derived.Test.YtggenhomnbnodaaQFnTimesx0
import Derived.Test.YtggenhomnbnodaaQFnTimesx3
import Derived.Test.YtggenhomnbnodaaQFnTimesx5
import Derived.Test.YtggenhomnbnodaaQFnTimesx6
import Derived.Test.YtggenhomnbnodaaQFnTimesx7
namespace Go.Proofs.Ytggenhomnbnodaa.QFnTimes
open Go.RowKit Go.Proofs.YtggenhomnbnodaaW.PrintWords Go.Proofs.YtggenhomnbnodaaW.PrintLast Go.Proofs.YtggenhomnbnodaaW.PrintMore
attribute [local go_sem] max2_int min2_int max_two min_two max_three min_three max_four min_four   -- for this text's walks alone
set_option linter.unusedVariables false
set_option linter.unusedSimpArgs false

section
variable {α : Type} {d : Kd α} {e et g n cap : Nat} {w W : World} {base : Nat} {ok : Nat → Prop} {xs : List (List α)} {i : Int}
theorem slot_swap (h : Kd.S (Kd.slice et d) e W base ok (.slice (some ⟨g, 0, none⟩) n cap) xs) (h0 : 0 ≤ i) (h1 : i < n) :
  ∃ (oki : Nat → Prop) (vs : Value), W.cell? ⟨g, i.toNat, none⟩ = some vs ∧ d.R et W base oki vs (xs.getD i.toNat []) ∧ (∀ k, oki k → ok k ∧ k ≠ g ∧ k < W.heap.size) ∧
   ∀ (S : Nat → Prop) (N : Nat) (W' : World) (vn : Value) (x' : List α), W.heap.size ≤ N → Kept W W' S → (∀ k, ok k → ¬ oki k → ¬ S k) → d.R et W' base (fun k => N ≤ k) vn x' → Kd.S (Kd.slice et d) e (W'.setCell ⟨g, i.toNat, none⟩ vn) base (fun k => (ok k ∧ ¬ oki k) ∨ N ≤ k) (.slice (some ⟨g, 0, none⟩) n cap) (xs.set i.toNat x') ∧ W'.grownBy (W'.setCell ⟨g, i.toNat, none⟩ vn) (some g) := by
 obtain ⟨oki, c, hcl, hM, hcc, hoki, HH⟩ := Kd.S_lend (Kd.S_mono (Kd.S_bound h) (ok' := fun k => ok k ∧ k < W.heap.size) (fun k hk => ⟨hk.1, hk.2.2.1⟩)) [] i h0 h1
 have hgl : g < W.heap.size := (Kd.S_lt h) g rfl
 obtain ⟨vs, hv, hR⟩ := hM
 subst hv
 refine ⟨oki, vs, ?_, hR, fun k hk => ⟨(hoki k hk).1.1, (hoki k hk).2, (hoki k hk).1.2⟩, fun S N W' vn x' hN hk hS hR' => ?_⟩
 ·have := hcc 0 vs rfl
  have e0 : i.toNat * (Kd.slice et d).sz + 0 = i.toNat := Nat.mul_one _
  rwa [e0] at this
 ·obtain ⟨f, hf⟩ := HH.2
  have H1 : Kd.H (Kd.slice et d) e W base (fun k => ((ok k ∧ ¬ oki k) ∨ N ≤ k)) (.slice (some ⟨g, 0, none⟩) n cap) xs i (fun k => N ≤ k) [vs] :=
   ⟨fun k hk => .inr hk, f, Kd.R_mono hf (fun k hk => ⟨.inl ⟨hk.1.1, hk.2⟩, fun h2 => by have := hk.1.2; omega⟩)⟩
  have H2 := Kd.H_step (w1 := W') H1 (fun k ho hn hlt => hk.2 k hlt (fun h2 => ho.elim (fun h3 => hS k h3.1 h3.2 h2) (fun h3 => by omega)))
  exact slot_put H2 h0 h1 hR' (fun k hk => hk) (fun k hk he => by omega)
end
def moveF (n : Int) : List S46 → List (List S46) → List (List S46) → List S46 → List S46 → Option (List (List S46) × List (List S46) × List S46 × List S46)
 | [], m1, m2, m3, d => some (m1, m2, m3, d)
 | t :: r, m1, m2, m3, d => if n ≤ t.f2 then (if t.f2 = n then (if d.length < 1000000 then moveF n r m1 m2 m3 (d ++ [t]) else none) else (if layOk n t m1 m2 m3 = true then moveF n r (layV n t m1 m2 m3).1 (layV n t m1 m2 m3).2.1 (layV n t m1 m2 m3).2.2 d else none)) else none
def tickOk (a : Int) (l1 l2 : List (List S46)) (l3 : List S46) : Bool :=
 decide (0 ≤ a) && decide (a < 2147483647) && decide (l1.length = 8) && decide (l2.length = 8) && l1.all (fun x => decide (x.length ≤ 1000000)) && l2.all (fun x => decide (x.length ≤ 1000000)) && decide (l3.length ≤ 1000000)
def tickF (a : Int) (l1 l2 : List (List S46)) (l3 : List S46) : Option (Int × List (List S46) × List (List S46) × List S46 × List S46) :=
 if tickOk a l1 l2 l3 = true then
  (if (a + 1) % 8 = 0 then (moveF (a + 1) (l2.getD ((a + 1) / 8 % 8).toNat [] ++ l3) (l1.set ((a + 1) % 8).toNat []) (l2.set ((a + 1) / 8 % 8).toNat []) [] (l1.getD ((a + 1) % 8).toNat [])).bind fun r => some (a + 1, r.1, r.2.1, r.2.2.1, r.2.2.2)
  else some (a + 1, l1.set ((a + 1) % 8).toNat [], l2, l3, l1.getD ((a + 1) % 8).toNat []))
 else none
theorem tickOk_spec {a : Int} {l1 l2 : List (List S46)} {l3 : List S46} (h : tickOk a l1 l2 l3 = true) :
  0 ≤ a ∧ a < 2147483647 ∧ l1.length = 8 ∧ l2.length = 8 ∧ (∀ x ∈ l1, x.length ≤ 1000000) ∧ (∀ x ∈ l2, x.length ≤ 1000000) ∧ l3.length ≤ 1000000 := by
 simp only [tickOk, Bool.and_eq_true, decide_eq_true_eq, List.all_eq_true] at h
 obtain ⟨⟨⟨⟨⟨⟨h1, h2⟩, h3⟩, h4⟩, h5⟩, h6⟩, h7⟩ := h
 exact ⟨h1, h2, h3, h4, h5, h6, h7⟩
section
variable {w : World} {base gN n c : Nat} {ok : Nat → Prop} {v1 v2 v3 : Value} {l1 l2 : List (List S46)} {l3 : List S46} {i : Int}
theorem WR.near_take (h : WR w base ok (.slice (some ⟨gN, 0, none⟩) n c) v2 v3 l1 l2 l3) (h0 : 0 ≤ i) (h1 : i < n) :
  ∃ (oki : Nat → Prop) (A : Option Addr) (q : Nat), w.cell? ⟨gN, i.toNat, none⟩ = some (.slice A (l1.getD i.toNat []).length q) ∧ k46.R 46 w base oki (.slice A (l1.getD i.toNat []).length q) (l1.getD i.toNat []) ∧ (∀ k, oki k → ok k ∧ k ≠ gN ∧ k < w.heap.size) ∧ (∀ j, w.frozen? ⟨gN, j, none⟩ = false) ∧ ok gN ∧ gN < w.heap.size ∧
   ∀ (S : Nat → Prop) (N : Nat) (W' : World) (vn : Value) (x' : List S46), w.heap.size ≤ N → Kept w W' S → (∀ k, ok k → ¬ oki k → ¬ S k) → k46.R 46 W' base (fun k => N ≤ k) vn x' → WR (W'.setCell ⟨gN, i.toNat, none⟩ vn) base (fun k => (ok k ∧ ¬ oki k) ∨ N ≤ k) (.slice (some ⟨gN, 0, none⟩) n c) v2 v3 (l1.set i.toNat x') l2 l3 := by
 obtain ⟨P1, P2, P3, ⟨o1, o2, o3⟩, ⟨d1, d2, d3⟩, s1, s2, s3⟩ := h
 have pg : P1 gN := (Kd.S_R s1).1 gN rfl
 have hlt := Kd.S_lt s1 gN rfl
 obtain ⟨oki, vs, hx, hR, hok, hsw⟩ := slot_swap s1 h0 h1
 obtain ⟨A, q, rfl⟩ := Kd.R_slice hR
 obtain ⟨cells, hc⟩ := Kd.S_typed s1 gN rfl
 refine ⟨oki, A, q, hx, hR, fun k hk => ⟨o1 k (hok k hk).1, (hok k hk).2⟩, fun j => blk_frozen hc j, o1 _ pg, hlt, fun S N W' vn x' hN hk hS hR' => ?_⟩
 obtain ⟨hs, hg⟩ := hsw S N W' vn x' hN hk (fun k h h2 => hS k (o1 k h) h2) hR'
 have hkk : Kept w (W'.setCell ⟨gN, i.toNat, none⟩ vn) (fun k => S k ∨ k = gN) := (hk.mono (S' := fun k => S k ∨ k = gN) (fun k h => .inl h)).setCell (p := ⟨gN, i.toNat, none⟩) (.inl (.inr rfl)) vn
 refine ⟨_, fun k => P2 k ∧ k < w.heap.size, fun k => P3 k ∧ k < w.heap.size, ⟨fun k h => h.elim (fun h => .inl ⟨o1 k h.1, h.2⟩) .inr, fun k h => .inl ⟨o2 k h.1, fun h2 => d1 k (hok k h2).1 h.1⟩, fun k h => .inl ⟨o3 k h.1, fun h2 => d2 k (hok k h2).1 h.1⟩⟩, ⟨fun k h h2 => h.elim (fun h => d1 k h.1 h2.1) (fun h => by have := h2.2; omega), fun k h h2 => h.elim (fun h => d2 k h.1 h2.1) (fun h => by have := h2.2; omega), fun k h h2 => d3 k h.1 h2.1⟩, hs, ?_, ?_⟩
 ·exact Kd.S_kept (Kd.S_mono (Kd.S_bound s2) (fun k h => ⟨h.1, h.2.2.1⟩)) hkk (fun k h h1 => h1.elim (hS k (o2 k h.1) (fun h2 => d1 k (hok k h2).1 h.1)) (fun e => d1 k (e ▸ pg) h.1))
 ·exact Kd.R_kept (Kd.R_mono (Kd.R_bound s3) (fun k h => ⟨h.1, h.2.2.1⟩)) hkk (fun k h h1 => h1.elim (hS k (o3 k h.1) (fun h2 => d2 k (hok k h2).1 h.1)) (fun e => d2 k (e ▸ pg) h.1))
theorem WR.far_take (h : WR w base ok v1 (.slice (some ⟨gN, 0, none⟩) n c) v3 l1 l2 l3) (h0 : 0 ≤ i) (h1 : i < n) :
  ∃ (oki : Nat → Prop) (A : Option Addr) (q : Nat), w.cell? ⟨gN, i.toNat, none⟩ = some (.slice A (l2.getD i.toNat []).length q) ∧ k46.R 46 w base oki (.slice A (l2.getD i.toNat []).length q) (l2.getD i.toNat []) ∧ (∀ k, oki k → ok k ∧ k ≠ gN ∧ k < w.heap.size) ∧ (∀ j, w.frozen? ⟨gN, j, none⟩ = false) ∧ ok gN ∧ gN < w.heap.size ∧
   ∀ (S : Nat → Prop) (N : Nat) (W' : World) (vn : Value) (x' : List S46), w.heap.size ≤ N → Kept w W' S → (∀ k, ok k → ¬ oki k → ¬ S k) → k46.R 46 W' base (fun k => N ≤ k) vn x' → WR (W'.setCell ⟨gN, i.toNat, none⟩ vn) base (fun k => (ok k ∧ ¬ oki k) ∨ N ≤ k) v1 (.slice (some ⟨gN, 0, none⟩) n c) v3 l1 (l2.set i.toNat x') l3 := by
 obtain ⟨P1, P2, P3, ⟨o1, o2, o3⟩, ⟨d1, d2, d3⟩, s1, s2, s3⟩ := h
 have pg : P2 gN := (Kd.S_R s2).1 gN rfl
 have hlt := Kd.S_lt s2 gN rfl
 obtain ⟨oki, vs, hx, hR, hok, hsw⟩ := slot_swap s2 h0 h1
 obtain ⟨A, q, rfl⟩ := Kd.R_slice hR
 obtain ⟨cells, hc⟩ := Kd.S_typed s2 gN rfl
 refine ⟨oki, A, q, hx, hR, fun k hk => ⟨o2 k (hok k hk).1, (hok k hk).2⟩, fun j => blk_frozen hc j, o2 _ pg, hlt, fun S N W' vn x' hN hk hS hR' => ?_⟩
 obtain ⟨hs, hg⟩ := hsw S N W' vn x' hN hk (fun k h h2 => hS k (o2 k h) h2) hR'
 have hkk : Kept w (W'.setCell ⟨gN, i.toNat, none⟩ vn) (fun k => S k ∨ k = gN) := (hk.mono (S' := fun k => S k ∨ k = gN) (fun k h => .inl h)).setCell (p := ⟨gN, i.toNat, none⟩) (.inl (.inr rfl)) vn
 refine ⟨fun k => P1 k ∧ k < w.heap.size, _, fun k => P3 k ∧ k < w.heap.size, ⟨fun k h => .inl ⟨o1 k h.1, fun h2 => d1 k h.1 (hok k h2).1⟩, fun k h => h.elim (fun h => .inl ⟨o2 k h.1, h.2⟩) .inr, fun k h => .inl ⟨o3 k h.1, fun h2 => d3 k (hok k h2).1 h.1⟩⟩, ⟨fun k h2 h => h.elim (fun h => d1 k h2.1 h.1) (fun h => by have := h2.2; omega), fun k h h2 => d2 k h.1 h2.1, fun k h h2 => h.elim (fun h => d3 k h.1 h2.1) (fun h => by have := h2.2; omega)⟩, ?_, hs, ?_⟩
 ·exact Kd.S_kept (Kd.S_mono (Kd.S_bound s1) (fun k h => ⟨h.1, h.2.2.1⟩)) hkk (fun k h h1 => h1.elim (hS k (o1 k h.1) (fun h2 => d1 k h.1 (hok k h2).1)) (fun e => d1 k h.1 (e ▸ pg)))
 ·exact Kd.R_kept (Kd.R_mono (Kd.R_bound s3) (fun k h => ⟨h.1, h.2.2.1⟩)) hkk (fun k h h1 => h1.elim (hS k (o3 k h.1) (fun h2 => d3 k (hok k h2).1 h.1)) (fun e => d3 k (e ▸ pg) h.1))
theorem WR.rest_new {N : Nat} (h : WR w base ok v1 v2 v3 l1 l2 l3) (hN : ∀ k, ok k → k < N) {v' : Value} {l' : List S46} (hr : k46.R 46 w base (fun k => N ≤ k) v' l') : WR w base (fun k => ok k ∨ N ≤ k) v1 v2 v' l1 l2 l' := by
 obtain ⟨P1, P2, P3, ⟨o1, o2, o3⟩, ⟨d1, d2, d3⟩, s1, s2, s3⟩ := h
 exact ⟨P1, P2, _, ⟨fun k h => .inl (o1 k h), fun k h => .inl (o2 k h), fun k h => .inr h⟩, ⟨d1, fun k h h2 => by have := hN k (o1 k h); omega, fun k h h2 => by have := hN k (o2 k h); omega⟩, s1, s2, hr⟩
theorem WR.rest_nil (h : WR w base ok v1 v2 v3 l1 l2 l3) : WR w base ok v1 v2 (.slice none 0 0) l1 l2 [] := by
 obtain ⟨P1, P2, P3, ⟨o1, o2, o3⟩, ⟨d1, d2, d3⟩, s1, s2, s3⟩ := h
 exact ⟨P1, P2, fun _ => False, ⟨o1, o2, fun _ h => h.elim⟩, ⟨d1, fun _ _ h => h, fun _ _ h => h⟩, s1, s2, Kd.R_nil _ _ _ _ _⟩
theorem WR.forms (h : WR w base ok v1 v2 v3 l1 l2 l3) (h1 : 0 < l1.length) (h2 : 0 < l2.length) : ∃ gN cN gF cF A3 c3, v1 = .slice (some ⟨gN, 0, none⟩) l1.length cN ∧ v2 = .slice (some ⟨gF, 0, none⟩) l2.length cF ∧ v3 = .slice A3 l3.length c3 := by
 obtain ⟨P1, P2, P3, _, _, s1, s2, s3⟩ := h
 obtain ⟨gN, cN, e1, _⟩ := Kd.S_form s1 h1
 obtain ⟨gF, cF, e2, _⟩ := Kd.S_form s2 h2
 obtain ⟨A3, c3, e3⟩ := Kd.R_slice s3
 exact ⟨gN, cN, gF, cF, A3, c3, e1, e2, e3⟩
end
theorem set1_kept {w w1 : World} {p : Addr} {u : Value} (e : w1 = w.setCell p u) : Kept w w1 (fun k => k = p.block) := by
 subst e
 exact (Kept.refl w (fun k => k = p.block)).setCell (p := p) (.inl rfl) u
theorem set3_kept {w w1 : World} {g : Nat} {u0 u1 u2 : Value} (e : w1 = ((w.setCell ⟨g, 0, none⟩ u0).setCell ⟨g, 1, none⟩ u1).setCell ⟨g, 2, none⟩ u2) : Kept w w1 (fun k => k = g) := by
 subst e
 exact (((Kept.refl w (fun k => k = g)).setCell (p := ⟨g, 0, none⟩) (.inl rfl) _).setCell (p := ⟨g, 1, none⟩) (.inl rfl) _).setCell (p := ⟨g, 2, none⟩) (.inl rfl) _
theorem set3_blk {w w1 : World} {g : Nat} {u0 u1 u2 a0 a1 a2 : Value} (e : w1 = ((w.setCell ⟨g, 0, none⟩ u0).setCell ⟨g, 1, none⟩ u1).setCell ⟨g, 2, none⟩ u2) (h : w.heap[g]? = some (.cells #[a0, a1, a2] 46 (0, 0))) : w1.heap[g]? = some (.cells #[u0, u1, u2] 46 (0, 0)) := by
 subst e
 refine blk_put (cs := #[u0, u1, a2]) ?_ 2 _ rfl
 refine blk_put (cs := #[u0, a1, a2]) ?_ 1 _ rfl
 exact blk_put (cs := #[a0, a1, a2]) h 0 _ rfl
theorem set3_below {w w1 w0 : World} {g b : Nat} {u0 u1 u2 : Value} (e : w1 = ((w.setCell ⟨g, 0, none⟩ u0).setCell ⟨g, 1, none⟩ u1).setCell ⟨g, 2, none⟩ u2) (h : Below b w0 w) (hg : b ≤ g) : Below b w0 w1 := by
 subst e
 exact ((h.setCell hg _).setCell hg _).setCell hg _
theorem frozen_kept {W W2 : World} {S : Nat → Prop} {g j : Nat} (h : W.frozen? ⟨g, j, none⟩ = false) (hl : g < W.heap.size) (hk : Kept W W2 S) (hn : ¬ S g) : W2.frozen? ⟨g, j, none⟩ = false := by
 have := hk.2 g hl hn
 simpa [World.frozen?, this] using h
def TI (n : Int) (g4 n0 base : Nat) (w : World) (m1 m2 : List (List S46)) (m3 d : List S46) (vd : Value) (mv : List S46) (vm : Value) : Prop :=
 ∃ PW PD PM : Nat → Prop, WS n g4 base w PW m1 m2 m3 ∧ k46.R 46 w base PD vd d ∧ k46.R 46 w base PM vm mv ∧ ((∀ k, PW k → ¬ PD k) ∧ (∀ k, PW k → ¬ PM k) ∧ (∀ k, PD k → ¬ PM k)) ∧ ∀ k, PW k ∨ PD k ∨ PM k → n0 ≤ k ∧ k < w.heap.size ∧ k ≠ g4
section
variable {n : Int} {g4 n0 base : Nat} {w w1 w2 : World} {m1 m2 p1 p2 : List (List S46)} {m3 d mv p3 : List S46} {vd vm : Value} {S : Nat → Prop}
theorem TI.away (h : TI n g4 n0 base w m1 m2 m3 d vd mv vm) (hk : Kept w w1 S) (hs : ∀ k, S k → w.heap.size ≤ k) : TI n g4 n0 base w1 m1 m2 m3 d vd mv vm := by
 obtain ⟨PW, PD, PM, hw, hd, hm, hx, hb⟩ := h
 have hg := hw.lt
 refine ⟨PW, PD, PM, hw.kept hk (fun k h h2 => by have := hb k (.inl h); have := hs k h2; omega) (fun h2 => by have := hs _ h2; omega), Kd.R_kept hd hk (fun k h h2 => by have := hb k (.inr (.inl h)); have := hs k h2; omega), Kd.R_kept hm hk (fun k h h2 => by have := hb k (.inr (.inr h)); have := hs k h2; omega), hx, fun k h => ?_⟩
 obtain ⟨a, b, c⟩ := hb k h
 exact ⟨a, Nat.lt_of_lt_of_le b hk.1, c⟩
theorem TI.below (h : TI n g4 n0 base w m1 m2 m3 d vd mv vm) (hb : Below w.heap.size w w1) : TI n g4 n0 base w1 m1 m2 m3 d vd mv vm := h.away (Kept.of_below hb (fun _ => False)) (fun _ h => h.elim)
theorem TI.cell0 (h : TI n g4 n0 base w m1 m2 m3 d vd mv vm) : w.cell? ⟨g4, 0, none⟩ = some (.int .i64 n) := by
 obtain ⟨_, _, _, ⟨v1, v2, v3, hb, _⟩, _⟩ := h
 exact (blk_cell hb 0).trans rfl
theorem TI.lt (h : TI n g4 n0 base w m1 m2 m3 d vd mv vm) : g4 < w.heap.size := by
 obtain ⟨_, _, _, hw, _⟩ := h
 exact hw.lt
theorem TI.due_slice (h : TI n g4 n0 base w m1 m2 m3 d vd mv vm) : ∃ A c, vd = .slice A d.length c := by
 obtain ⟨_, _, _, _, hd, _⟩ := h
 exact Kd.R_slice hd
theorem TI.moved (h : TI n g4 n0 base w m1 m2 m3 d vd mv vm) {A : Option Addr} {c : Nat} (e : vm = .slice A mv.length c) : k46.C w A mv.length mv := by
 obtain ⟨_, _, _, _, _, hm, _⟩ := h
 subst e
 exact (Kd.R_reads' hm).2.2
theorem TI.laid (h : ∃ PW PD PM : Nat → Prop, k46.R 46 w base PD vd d ∧ k46.R 46 w base PM vm mv ∧ ((∀ k, PW k → ¬ PD k) ∧ (∀ k, PW k → ¬ PM k) ∧ (∀ k, PD k → ¬ PM k)) ∧ (∀ k, PW k ∨ PD k ∨ PM k → n0 ≤ k ∧ k < w.heap.size ∧ k ≠ g4) ∧ WS n g4 base w1 (fun k => PW k ∨ w.heap.size ≤ k) p1 p2 p3 ∧ Kept w w1 (fun k => PW k ∨ k = g4)) (hn : n0 ≤ w.heap.size) : TI n g4 n0 base w1 p1 p2 p3 d vd mv vm := by
 obtain ⟨PW, PD, PM, hd, hm, ⟨x1, x2, x3⟩, hb, hw, hk⟩ := h
 refine ⟨fun k => ((PW k ∨ w.heap.size ≤ k) ∧ k ≠ g4) ∧ base ≤ k ∧ k < w1.heap.size, PD, PM, hw.bound, Kd.R_kept hd hk (fun k h h2 => h2.elim (fun h2 => x1 k h2 h) (fun e => (hb k (.inr (.inl h))).2.2 e)), Kd.R_kept hm hk (fun k h h2 => h2.elim (fun h2 => x2 k h2 h) (fun e => (hb k (.inr (.inr h))).2.2 e)), ⟨fun k h h2 => h.1.1.elim (fun h => x1 k h h2) (fun h => by have := hb k (.inr (.inl h2)); omega), fun k h h2 => h.1.1.elim (fun h => x2 k h h2) (fun h => by have := hb k (.inr (.inr h2)); omega), x3⟩, fun k h => ?_⟩
 rcases h with h | h | h
 ·refine ⟨h.1.1.elim (fun h => (hb k (.inl h)).1) (fun h => by omega), h.2.2, h.1.2⟩
 ·obtain ⟨a, b, c⟩ := hb k (.inr (.inl h))
  exact ⟨a, Nat.lt_of_lt_of_le b hk.1, c⟩
 ·obtain ⟨a, b, c⟩ := hb k (.inr (.inr h))
  exact ⟨a, Nat.lt_of_lt_of_le b hk.1, c⟩
theorem TI.due {vn : Value} {d' : List S46} (h : ∃ PW PD PM : Nat → Prop, WS n g4 base w PW m1 m2 m3 ∧ k46.R 46 w base PM vm mv ∧ ((∀ k, PW k → ¬ PD k) ∧ (∀ k, PW k → ¬ PM k) ∧ (∀ k, PD k → ¬ PM k)) ∧ (∀ k, PW k ∨ PD k ∨ PM k → n0 ≤ k ∧ k < w.heap.size ∧ k ≠ g4) ∧ k46.R 46 w1 base (fun k => PD k ∨ w.heap.size ≤ k) vn d' ∧ Kept w w1 PD) (hn : n0 ≤ w.heap.size) : TI n g4 n0 base w1 m1 m2 m3 d' vn mv vm := by
 obtain ⟨PW, PD, PM, hw, hm, ⟨x1, x2, x3⟩, hb, hd, hk⟩ := h
 have hg := hw.lt
 refine ⟨PW, fun k => (PD k ∨ w.heap.size ≤ k) ∧ k < w1.heap.size, PM, hw.kept hk (fun k h h2 => x1 k h h2) (fun h2 => (hb _ (.inr (.inl h2))).2.2 rfl), Kd.R_mono (Kd.R_bound hd) (fun k h => ⟨h.1, h.2.2.1⟩), Kd.R_kept hm hk (fun k h h2 => x3 k h2 h), ⟨fun k h h2 => h2.1.elim (fun h2 => x1 k h h2) (fun h2 => by have := hb k (.inl h); omega), x2, fun k h h2 => h.1.elim (fun h => x3 k h h2) (fun h => by have := hb k (.inr (.inr h2)); omega)⟩, fun k h => ?_⟩
 rcases h with h | h | h
 ·obtain ⟨a, b, c⟩ := hb k (.inl h)
  exact ⟨a, Nat.lt_of_lt_of_le b hk.1, c⟩
 ·refine ⟨h.1.elim (fun h => (hb k (.inr (.inl h))).1) (fun h => by omega), h.2, h.1.elim (fun h => (hb k (.inr (.inl h))).2.2) (fun h e => by omega)⟩
 ·obtain ⟨a, b, c⟩ := hb k (.inr (.inr h))
  exact ⟨a, Nat.lt_of_lt_of_le b hk.1, c⟩
end
theorem rd46_at (l : List S46) (j : Nat) (h : j < l.length) : l.drop j = rd_T46 l (j : Int) :: l.drop (j + 1) := by
 rw [List.drop_eq_getElem_cons h]
 simp [rd_T46, List.getD_eq_getElem?_getD, h]
theorem WR.rest_reads {w : World} {base c : Nat} {ok : Nat → Prop} {v1 v2 v3 : Value} {l1 l2 : List (List S46)} {l3 : List S46} {A : Option Addr} (h : WR w base ok v1 v2 v3 l1 l2 l3) (e : v3 = .slice A l3.length c) : k46.C w A l3.length l3 := by
 obtain ⟨_, _, _, _, _, _, _, s3⟩ := h
 subst e
 exact (Kd.R_reads' s3).2.2
theorem k46_K {w W : World} {x : S46} {cs : List Value} (h : k46.K w x cs) : k46.K W x cs := by
 rw [k46_open h]
 exact k46_mk W x
theorem Kd.C_kept_came2 {w W : World} {A : Option Addr} {l : List S46} (h : k46.C w A l.length l) (hk : Kept w W (fun _ => False)) : k46.C W A l.length l := by
 refine ⟨h.1, h.2.1, fun hn => ?_⟩
 obtain ⟨ad, e, hc⟩ := h.2.2 hn
 refine ⟨ad, e, fun j p hj => ?_⟩
 obtain ⟨c, hs, hr, hcell⟩ := hc j p hj
 exact ⟨c, hs, k46_K hr, fun i u hu => cell_kept (hcell i u hu) hk (fun h_ => h_)⟩
set_option maxHeartbeats 8000000 in
set_option maxRecDepth 100000 in
theorem spec_TickOn.wrong (k : Nat) (A1 : Option Addr) (c1 : Nat) (l1 : List (List S46)) (A2 : Option Addr) (c2 : Nat) (l2 : List (List S46)) (A3 : Option Addr) (c3 : Nat) (l3 : List S46) (y0 : Int) (y1 y2 : List (List S46)) (y3 : List S46) (w : World) (hr1 : Kd.C (Kd.slice 46 k46) w A1 l1.length l1) (hc1 : l1.length ≤ c1) (hr2 : Kd.C (Kd.slice 46 k46) w A2 l2.length l2) (hc2 : l2.length ≤ c2) (hr3 : Kd.C k46 w A3 l3.length l3) (hc3 : l3.length ≤ c3) (hac : spec_l8Copy.f k y0 l1 l2 l3 = some (y0, y1, y2, y3)) (hao : spec_WheelOk.f k y0 l1 l2 l3 = some false) :
  Calls Try.prog 36 #[.agg #[.int .i64 y0, .slice A1 l1.length c1, .slice A2 l2.length c2, .slice A3 l3.length c3]] w fun e w' => ∃ (v1_ v2_ v3_ v4_ : Value) (PW PD : Nat → Prop), e = .returned (.tuple #[.agg #[.int .i64 y0, v1_, v2_, v3_], v4_]) ∧ WR w' w.heap.size PW v1_ v2_ v3_ y1 y2 y3 ∧ Kd.R k46 46 w' w.heap.size PD v4_ [] ∧ (∀ k, PW k → ¬ PD k) ∧ Below w.heap.size w w' := by
 have hu25 := Try.underlying25
 have hu46 := Try.underlying46
 have AC := aM hac
 have AO := aM hao
 clear hac hao
 have HR1 := aM hr1
 have HR2 := aM hr2
 have HR3 := aM hr3
 have HC1 := aM hc1
 have HC2 := aM hc2
 have HC3 := aM hc3
 have HB := aM (Below.refl w.heap.size w)
 clear hr1 hr2 hr3 hc1 hc2 hc3
 obtain ⟨yd, hyd⟩ : ∃ yd : List S46, yd = [] := ⟨_, rfl⟩
 have NY0 := aM hyd
 clear hyd
 go_enter Try.func36, Try.ntmps36
 go_wp2_with (first | ((with_reducible refine gD 1 rfl ?_); refine bE 1 #[.int .i64 y0, .slice A1 l1.length c1, .slice A2 l2.length c2, .slice A3 l3.length c3] 25 ?_; intro g1 hg w1_ hbox hb; have GE1 := aM (zg HB.out hg : w.heap.size ≤ g1); have BK1 := aM hbox; clear hbox hg;   replace HB := zLB HB.out hb; clear hb; (try clear hz1_); have hz1_ := zc4 BK1.out;) | ((with_reducible refine gD 2 rfl ?_); refine bE 2 #[.int .i64 0, .slice none 0 0, .slice none 0 0, .slice none 0 0] 25 ?_; intro g2 hg w2_ hbox hb; have GE2 := aM (zg HB.out hg : w.heap.size ≤ g2); have N1_2 := aM (zN BK1.out hg : g1 ≠ g2); have BK2 := aM hbox; clear hbox hg; replace BK1 := zBB BK1 hb;  replace HB := zLB HB.out hb; clear hb; (try clear hz1_); have hz1_ := zc4 BK1.out; (try clear hz2_); have hz2_ := zc4 BK2.out;) | ((with_reducible refine gC 72 rfl ?_); refine gL 11 Try.func72 #[.agg #[.int .i64 y0, .slice A1 l1.length c1, .slice A2 l2.length c2, .slice A3 l3.length c3]] ?_; (refine (spec_l8Copy.callsW k y0 A1 c1 l1 A2 c2 l2 A3 c3 l3 y0 y1 y2 y3 _ ?s1 HC1.out ?s2 HC2.out ?s3 HC3.out AC.out).mono ?_); (case s1 => exact Kd.C_below HR1.out HB.out); (case s2 => exact Kd.C_below HR2.out HB.out); (case s3 => exact Kd.C_below HR3.out HB.out); rintro e w11_ ⟨v1, v2, v3, rfl, hw_, hb⟩; obtain ⟨B1, q1, B2, q2, B3, q3, rfl, rfl, rfl, _, _, _, _⟩ := hw_.reads; refine ⟨_, rfl, ?_⟩; have F1 := aM (blk_lt BK1.out); have F2 := aM (blk_lt BK2.out); obtain ⟨n0, hn0_⟩ : ∃ n0, n0 = _ := ⟨_, rfl⟩; have HWR := aM ((hw_.bound.mono (ok' := fun k_ => n0 ≤ k_) (fun k_ h_ => by rw [hn0_]; exact h_.2.1)).lower HB.out.size); have FN := aM (hb.size); rw [← hn0_] at F1 F2 FN; clear hw_ hn0_; replace BK1 := zBB BK1 hb; replace BK2 := zBB BK2 hb;  replace HB := zLB HB.out hb; clear hb; (try clear hz1_); have hz1_ := zc4 BK1.out; (try clear hz2_); have hz2_ := zc4 BK2.out;) | ((with_reducible refine gD 4 rfl ?_); refine bE 4 #[.int .i64 0, .slice none 0 0, .slice none 0 0, .slice none 0 0] 25 ?_; intro g4 hg w4_ hbox hb; have GE4 := aM (zg HB.out hg : w.heap.size ≤ g4); have N1_4 := aM (zN BK1.out hg : g1 ≠ g4); have N2_4 := aM (zN BK2.out hg : g2 ≠ g4); have BK4 := aM hbox; have FN4 := aM (by rw [hg]; exact FN.out : n0 ≤ g4); clear FN hbox hg; replace BK1 := zBB BK1 hb; replace BK2 := zBB BK2 hb; replace HWR := aM (HWR.out.below hb); replace HB := zLB HB.out hb; clear hb; (try clear hz1_); have hz1_ := zc4 BK1.out; (try clear hz2_); have hz2_ := zc4 BK2.out; (try clear hz4_); have hz4_ := zc4 BK4.out;) | ((with_reducible refine gate_store (t := 25) (p := 4) rfl ?_); refine store_event (t := 25) (p := 4) (v := ?vo1_) (w1 := ((((w4_.setCell ⟨g4, 0, none⟩ (.int .i64 y0)).setCell ⟨g4, 1, none⟩ (.slice B1 y1.length q1)).setCell ⟨g4, 2, none⟩ (.slice B2 y2.length q2)).setCell ⟨g4, 3, none⟩ (.slice B3 y3.length q3))) ?hg ?ho ?hn ?hr ?_; (case ho => rfl); (case hg => rfl); (case hn => rfl); (case hr => (have hs0_ := (blk_cell BK4.out 0).trans rfl; have hf0_ := blk_frozen BK4.out 0; have hs1_ := (blk_cell BK4.out 1).trans rfl; have hf1_ := blk_frozen BK4.out 1; have hs2_ := (blk_cell BK4.out 2).trans rfl; have hf2_ := blk_frozen BK4.out 2; have hs3_ := (blk_cell BK4.out 3).trans rfl; have hf3_ := blk_frozen BK4.out 3;(try clear hz1_); have hz1_ := zc4 BK1.out; (try clear hz2_); have hz2_ := zc4 BK2.out; first | (go_simp; done) | (go_simp; rfl))); intro w5_ hw_; have HK_ := set4_kept hw_; have BKn := aM (set4_blk hw_ BK4.out rfl); have HBn := aM (set4_below hw_ HB.out GE4.out); replace BK1 := aM (blk_kept BK1.out HK_ (N1_4.out)); replace BK2 := aM (blk_kept BK2.out HK_ (N2_4.out)); replace HWR := aM ((HWR.out.types BK4.out (by decide) (by decide)).kept HK_ (fun _ h_ => h_.2)); clear hw_ BK4 HB; have BK4 := BKn; have HB := HBn; clear BKn HBn HK_; (try clear hz1_); have hz1_ := zc4 BK1.out; (try clear hz2_); have hz2_ := zc4 BK2.out; (try clear hz4_); have hz4_ := zc4 BK4.out;) | ((with_reducible refine gD 12 rfl ?_); refine Kd.R_lit k46 _ 46 ?hg (N := 12) ?hd (xs := ([] : List S46)) (inner := []) (ok := fun _ => True) (okp := fun _ => True) ?hr ?hp (fun _ hk => hk) trivial (Below.refl _ _) (Nat.le_refl _) (by simp) ?_; (case hd => rfl); (case hg => rfl); (case hr => first | (go_simp; done) | (go_simp; rfl)); (case hp => exact (Reps.none _ _)); intro vd w12_ ho hb hg_ hn_; clear hg_ hn_; rw [← NY0.out] at ho; have HD := aM (Kd.R_lower (Kd.R_mono (Kd.R_bound ho) (ok' := fun k_ => w5_.heap.size ≤ k_) (fun _ h_ => h_.2.1)) HB.out.size); obtain ⟨Ad, cd, rfl⟩ := Kd.R_slice ho; replace HWR := aM ((HWR.out.bound).mono (ok' := fun k_ => (n0 ≤ k_ ∧ k_ ≠ g4) ∧ k_ < w5_.heap.size) (fun k_ h_ => ⟨h_.1, h_.2.2.1⟩)); clear ho; replace BK1 := zBB BK1 hb; replace BK2 := zBB BK2 hb; replace BK4 := zBB BK4 hb; replace HWR := aM (HWR.out.below hb); replace HB := zLB HB.out hb; clear hb; (try clear hz1_); have hz1_ := zc4 BK1.out; (try clear hz2_); have hz2_ := zc4 BK2.out; (try clear hz4_); have hz4_ := zc4 BK4.out;) | ((with_reducible refine gC 29 rfl ?_); refine gL 14 Try.func29 #[.agg #[.int .i64 y0, .slice A1 l1.length c1, .slice A2 l2.length c2, .slice A3 l3.length c3]] ?_; (refine (spec_WheelOk.calls k y0 A1 c1 l1 A2 c2 l2 A3 c3 l3 false _ ?s1 ?t1 ?s2 ?t2 ?s3 ?t3 AO.out).mono ?_); (case s1 => exact Kd.C_below HR1.out HB.out); (case s2 => exact Kd.C_below HR2.out HB.out); (case s3 => exact Kd.C_below HR3.out HB.out); (case t1 => exact HC1.out); (case t2 => exact HC2.out); (case t3 => exact HC3.out); rintro e w13_ ⟨rfl, hb⟩; refine ⟨_, rfl, ?_⟩; replace BK1 := zBB BK1 hb; replace BK2 := zBB BK2 hb; replace BK4 := zBB BK4 hb; replace HWR := aM (HWR.out.below hb); replace HD := zRB HD hb; replace HB := zLB HB.out hb; clear hb; (try clear hz1_); have hz1_ := zc4 BK1.out; (try clear hz2_); have hz2_ := zc4 BK2.out; (try clear hz4_); have hz4_ := zc4 BK4.out;) | ((with_reducible refine gate_store (t := 25) (p := 2) rfl ?_); refine store_event (t := 25) (p := 2) (v := ?vo0_) (w1 := ((((w13_.setCell ⟨g2, 0, none⟩ (.int .i64 y0)).setCell ⟨g2, 1, none⟩ (.slice B1 y1.length q1)).setCell ⟨g2, 2, none⟩ (.slice B2 y2.length q2)).setCell ⟨g2, 3, none⟩ (.slice B3 y3.length q3))) ?hg ?ho ?hn ?hr ?_; (case ho => rfl); (case hg => rfl); (case hn => rfl); (case hr => (have hs0_ := (blk_cell BK2.out 0).trans rfl; have hf0_ := blk_frozen BK2.out 0; have hs1_ := (blk_cell BK2.out 1).trans rfl; have hf1_ := blk_frozen BK2.out 1; have hs2_ := (blk_cell BK2.out 2).trans rfl; have hf2_ := blk_frozen BK2.out 2; have hs3_ := (blk_cell BK2.out 3).trans rfl; have hf3_ := blk_frozen BK2.out 3;(try clear hz1_); have hz1_ := zc4 BK1.out; (try clear hz4_); have hz4_ := zc4 BK4.out; first | (go_simp; done) | (go_simp; rfl))); intro wF hw_; have HK_ := set4_kept hw_; have BKn := aM (set4_blk hw_ BK2.out rfl); have HBn := aM (set4_below hw_ HB.out GE2.out); have HF := aM ((HWR.out.types BK2.out (by decide) (by decide)).kept HK_ (fun _ h_ => h_.2)); replace HD := aM (Kd.R_kept (Kd.R_types HD.out BK2.out (by decide)) HK_ (fun _ h_ => h_.2)); clear hw_ BK2 HB; have BK2 := BKn; have HB := HBn; clear BKn HBn HK_))
 refine bodyPost_ret (results_ct rfl _ _ g2 25 #[.int .i64 y0, .slice B1 y1.length q1, .slice B2 y2.length q2, .slice B3 y3.length q3] (0, 0) _ rfl (by exact BK2.out) Try.underlying25 rfl (by kernel_rfl)) rfl ?_
 rw [← NY0.out]
 exact ⟨_, _, _, _, _, _, rfl, HF.out, HD.out, fun k_ h_ h2_ => by have a_ := h_.1.2; have b_ := h2_.1; omega, HB.out⟩
set_option maxHeartbeats 8000000 in
set_option maxRecDepth 100000 in
theorem spec_TickOn.late (k : Nat) (A1 : Option Addr) (c1 : Nat) (l1 : List (List S46)) (A2 : Option Addr) (c2 : Nat) (l2 : List (List S46)) (A3 : Option Addr) (c3 : Nat) (l3 : List S46) (y0 : Int) (y1 y2 : List (List S46)) (y3 : List S46) (w : World) (hr1 : Kd.C (Kd.slice 46 k46) w A1 l1.length l1) (hc1 : l1.length ≤ c1) (hr2 : Kd.C (Kd.slice 46 k46) w A2 l2.length l2) (hc2 : l2.length ≤ c2) (hr3 : Kd.C k46 w A3 l3.length l3) (hc3 : l3.length ≤ c3) (hac : spec_l8Copy.f k y0 l1 l2 l3 = some (y0, y1, y2, y3)) (hao : spec_WheelOk.f k y0 l1 l2 l3 = some true) (hm : y0 = 2147483647) :
  Calls Try.prog 36 #[.agg #[.int .i64 y0, .slice A1 l1.length c1, .slice A2 l2.length c2, .slice A3 l3.length c3]] w fun e w' => ∃ (v1_ v2_ v3_ v4_ : Value) (PW PD : Nat → Prop), e = .returned (.tuple #[.agg #[.int .i64 y0, v1_, v2_, v3_], v4_]) ∧ WR w' w.heap.size PW v1_ v2_ v3_ y1 y2 y3 ∧ Kd.R k46 46 w' w.heap.size PD v4_ [] ∧ (∀ k, PW k → ¬ PD k) ∧ Below w.heap.size w w' := by
 have hu25 := Try.underlying25
 have hu46 := Try.underlying46
 have AC := aM hac
 have AO := aM hao
 clear hac hao
 have HR1 := aM hr1
 have HR2 := aM hr2
 have HR3 := aM hr3
 have HC1 := aM hc1
 have HC2 := aM hc2
 have HC3 := aM hc3
 have HB := aM (Below.refl w.heap.size w)
 clear hr1 hr2 hr3 hc1 hc2 hc3
 obtain ⟨yd, hyd⟩ : ∃ yd : List S46, yd = [] := ⟨_, rfl⟩
 have NY0 := aM hyd
 clear hyd
 obtain ⟨m1_, m2_⟩ := zt hm
 clear hm
 go_enter Try.func36, Try.ntmps36
 go_wp2_with (first | ((with_reducible refine gD 1 rfl ?_); refine bE 1 #[.int .i64 y0, .slice A1 l1.length c1, .slice A2 l2.length c2, .slice A3 l3.length c3] 25 ?_; intro g1 hg w1_ hbox hb; have GE1 := aM (zg HB.out hg : w.heap.size ≤ g1); have BK1 := aM hbox; clear hbox hg;   replace HB := zLB HB.out hb; clear hb; (try clear hz1_); have hz1_ := zc4 BK1.out;) | ((with_reducible refine gD 2 rfl ?_); refine bE 2 #[.int .i64 0, .slice none 0 0, .slice none 0 0, .slice none 0 0] 25 ?_; intro g2 hg w2_ hbox hb; have GE2 := aM (zg HB.out hg : w.heap.size ≤ g2); have N1_2 := aM (zN BK1.out hg : g1 ≠ g2); have BK2 := aM hbox; clear hbox hg; replace BK1 := zBB BK1 hb;  replace HB := zLB HB.out hb; clear hb; (try clear hz1_); have hz1_ := zc4 BK1.out; (try clear hz2_); have hz2_ := zc4 BK2.out;) | ((with_reducible refine gC 72 rfl ?_); refine gL 11 Try.func72 #[.agg #[.int .i64 y0, .slice A1 l1.length c1, .slice A2 l2.length c2, .slice A3 l3.length c3]] ?_; (refine (spec_l8Copy.callsW k y0 A1 c1 l1 A2 c2 l2 A3 c3 l3 y0 y1 y2 y3 _ ?s1 HC1.out ?s2 HC2.out ?s3 HC3.out AC.out).mono ?_); (case s1 => exact Kd.C_below HR1.out HB.out); (case s2 => exact Kd.C_below HR2.out HB.out); (case s3 => exact Kd.C_below HR3.out HB.out); rintro e w11_ ⟨v1, v2, v3, rfl, hw_, hb⟩; obtain ⟨B1, q1, B2, q2, B3, q3, rfl, rfl, rfl, _, _, _, _⟩ := hw_.reads; refine ⟨_, rfl, ?_⟩; have F1 := aM (blk_lt BK1.out); have F2 := aM (blk_lt BK2.out); obtain ⟨n0, hn0_⟩ : ∃ n0, n0 = _ := ⟨_, rfl⟩; have HWR := aM ((hw_.bound.mono (ok' := fun k_ => n0 ≤ k_) (fun k_ h_ => by rw [hn0_]; exact h_.2.1)).lower HB.out.size); have FN := aM (hb.size); rw [← hn0_] at F1 F2 FN; clear hw_ hn0_; replace BK1 := zBB BK1 hb; replace BK2 := zBB BK2 hb;  replace HB := zLB HB.out hb; clear hb; (try clear hz1_); have hz1_ := zc4 BK1.out; (try clear hz2_); have hz2_ := zc4 BK2.out;) | ((with_reducible refine gD 4 rfl ?_); refine bE 4 #[.int .i64 0, .slice none 0 0, .slice none 0 0, .slice none 0 0] 25 ?_; intro g4 hg w4_ hbox hb; have GE4 := aM (zg HB.out hg : w.heap.size ≤ g4); have N1_4 := aM (zN BK1.out hg : g1 ≠ g4); have N2_4 := aM (zN BK2.out hg : g2 ≠ g4); have BK4 := aM hbox; have FN4 := aM (by rw [hg]; exact FN.out : n0 ≤ g4); clear FN hbox hg; replace BK1 := zBB BK1 hb; replace BK2 := zBB BK2 hb; replace HWR := aM (HWR.out.below hb); replace HB := zLB HB.out hb; clear hb; (try clear hz1_); have hz1_ := zc4 BK1.out; (try clear hz2_); have hz2_ := zc4 BK2.out; (try clear hz4_); have hz4_ := zc4 BK4.out;) | ((with_reducible refine gate_store (t := 25) (p := 4) rfl ?_); refine store_event (t := 25) (p := 4) (v := ?vo3_) (w1 := ((((w4_.setCell ⟨g4, 0, none⟩ (.int .i64 y0)).setCell ⟨g4, 1, none⟩ (.slice B1 y1.length q1)).setCell ⟨g4, 2, none⟩ (.slice B2 y2.length q2)).setCell ⟨g4, 3, none⟩ (.slice B3 y3.length q3))) ?hg ?ho ?hn ?hr ?_; (case ho => rfl); (case hg => rfl); (case hn => rfl); (case hr => (have hs0_ := (blk_cell BK4.out 0).trans rfl; have hf0_ := blk_frozen BK4.out 0; have hs1_ := (blk_cell BK4.out 1).trans rfl; have hf1_ := blk_frozen BK4.out 1; have hs2_ := (blk_cell BK4.out 2).trans rfl; have hf2_ := blk_frozen BK4.out 2; have hs3_ := (blk_cell BK4.out 3).trans rfl; have hf3_ := blk_frozen BK4.out 3;(try clear hz1_); have hz1_ := zc4 BK1.out; (try clear hz2_); have hz2_ := zc4 BK2.out; first | (go_simp; done) | (go_simp; rfl))); intro w5_ hw_; have HK_ := set4_kept hw_; have BKn := aM (set4_blk hw_ BK4.out rfl); have HBn := aM (set4_below hw_ HB.out GE4.out); replace BK1 := aM (blk_kept BK1.out HK_ (N1_4.out)); replace BK2 := aM (blk_kept BK2.out HK_ (N2_4.out)); replace HWR := aM ((HWR.out.types BK4.out (by decide) (by decide)).kept HK_ (fun _ h_ => h_.2)); clear hw_ BK4 HB; have BK4 := BKn; have HB := HBn; clear BKn HBn HK_; (try clear hz1_); have hz1_ := zc4 BK1.out; (try clear hz2_); have hz2_ := zc4 BK2.out; (try clear hz4_); have hz4_ := zc4 BK4.out;) | ((with_reducible refine gD 12 rfl ?_); refine Kd.R_lit k46 _ 46 ?hg (N := 12) ?hd (xs := ([] : List S46)) (inner := []) (ok := fun _ => True) (okp := fun _ => True) ?hr ?hp (fun _ hk => hk) trivial (Below.refl _ _) (Nat.le_refl _) (by simp) ?_; (case hd => rfl); (case hg => rfl); (case hr => first | (go_simp; done) | (go_simp; rfl)); (case hp => exact (Reps.none _ _)); intro vd w12_ ho hb hg_ hn_; clear hg_ hn_; rw [← NY0.out] at ho; have HD := aM (Kd.R_lower (Kd.R_mono (Kd.R_bound ho) (ok' := fun k_ => w5_.heap.size ≤ k_) (fun _ h_ => h_.2.1)) HB.out.size); obtain ⟨Ad, cd, rfl⟩ := Kd.R_slice ho; replace HWR := aM ((HWR.out.bound).mono (ok' := fun k_ => (n0 ≤ k_ ∧ k_ ≠ g4) ∧ k_ < w5_.heap.size) (fun k_ h_ => ⟨h_.1, h_.2.2.1⟩)); clear ho; replace BK1 := zBB BK1 hb; replace BK2 := zBB BK2 hb; replace BK4 := zBB BK4 hb; replace HWR := aM (HWR.out.below hb); replace HB := zLB HB.out hb; clear hb; (try clear hz1_); have hz1_ := zc4 BK1.out; (try clear hz2_); have hz2_ := zc4 BK2.out; (try clear hz4_); have hz4_ := zc4 BK4.out;) | ((with_reducible refine gC 29 rfl ?_); refine gL 14 Try.func29 #[.agg #[.int .i64 y0, .slice A1 l1.length c1, .slice A2 l2.length c2, .slice A3 l3.length c3]] ?_; (refine (spec_WheelOk.calls k y0 A1 c1 l1 A2 c2 l2 A3 c3 l3 true _ ?s1 ?t1 ?s2 ?t2 ?s3 ?t3 AO.out).mono ?_); (case s1 => exact Kd.C_below HR1.out HB.out); (case s2 => exact Kd.C_below HR2.out HB.out); (case s3 => exact Kd.C_below HR3.out HB.out); (case t1 => exact HC1.out); (case t2 => exact HC2.out); (case t3 => exact HC3.out); rintro e w13_ ⟨rfl, hb⟩; refine ⟨_, rfl, ?_⟩; replace BK1 := zBB BK1 hb; replace BK2 := zBB BK2 hb; replace BK4 := zBB BK4 hb; replace HWR := aM (HWR.out.below hb); replace HD := zRB HD hb; replace HB := zLB HB.out hb; clear hb; (try clear hz1_); have hz1_ := zc4 BK1.out; (try clear hz2_); have hz2_ := zc4 BK2.out; (try clear hz4_); have hz4_ := zc4 BK4.out;) | ((with_reducible refine gate_store (t := 25) (p := 2) rfl ?_); refine store_event (t := 25) (p := 2) (v := ?vo2_) (w1 := ((((w13_.setCell ⟨g2, 0, none⟩ (.int .i64 y0)).setCell ⟨g2, 1, none⟩ (.slice B1 y1.length q1)).setCell ⟨g2, 2, none⟩ (.slice B2 y2.length q2)).setCell ⟨g2, 3, none⟩ (.slice B3 y3.length q3))) ?hg ?ho ?hn ?hr ?_; (case ho => rfl); (case hg => rfl); (case hn => rfl); (case hr => (have hs0_ := (blk_cell BK2.out 0).trans rfl; have hf0_ := blk_frozen BK2.out 0; have hs1_ := (blk_cell BK2.out 1).trans rfl; have hf1_ := blk_frozen BK2.out 1; have hs2_ := (blk_cell BK2.out 2).trans rfl; have hf2_ := blk_frozen BK2.out 2; have hs3_ := (blk_cell BK2.out 3).trans rfl; have hf3_ := blk_frozen BK2.out 3;(try clear hz1_); have hz1_ := zc4 BK1.out; (try clear hz4_); have hz4_ := zc4 BK4.out; first | (go_simp; done) | (go_simp; rfl))); intro wF hw_; have HK_ := set4_kept hw_; have BKn := aM (set4_blk hw_ BK2.out rfl); have HBn := aM (set4_below hw_ HB.out GE2.out); have HF := aM ((HWR.out.types BK2.out (by decide) (by decide)).kept HK_ (fun _ h_ => h_.2)); replace HD := aM (Kd.R_kept (Kd.R_types HD.out BK2.out (by decide)) HK_ (fun _ h_ => h_.2)); clear hw_ BK2 HB; have BK2 := BKn; have HB := HBn; clear BKn HBn HK_))
 refine bodyPost_ret (results_ct rfl _ _ g2 25 #[.int .i64 y0, .slice B1 y1.length q1, .slice B2 y2.length q2, .slice B3 y3.length q3] (0, 0) _ rfl (by exact BK2.out) Try.underlying25 rfl (by kernel_rfl)) rfl ?_
 rw [← NY0.out]
 exact ⟨_, _, _, _, _, _, rfl, HF.out, HD.out, fun k_ h_ h2_ => by have a_ := h_.1.2; have b_ := h2_.1; omega, HB.out⟩
set_option maxHeartbeats 8000000 in
set_option maxRecDepth 100000 in
theorem spec_TickOn.quiet (k : Nat) (A1 : Option Addr) (c1 : Nat) (l1 : List (List S46)) (A2 : Option Addr) (c2 : Nat) (l2 : List (List S46)) (A3 : Option Addr) (c3 : Nat) (l3 : List S46) (y0 : Int) (y1 y2 : List (List S46)) (y3 : List S46) (w : World) (hr1 : Kd.C (Kd.slice 46 k46) w A1 l1.length l1) (hc1 : l1.length ≤ c1) (hr2 : Kd.C (Kd.slice 46 k46) w A2 l2.length l2) (hc2 : l2.length ≤ c2) (hr3 : Kd.C k46 w A3 l3.length l3) (hc3 : l3.length ≤ c3) (hac : spec_l8Copy.f k y0 l1 l2 l3 = some (y0, y1, y2, y3)) (hao : spec_WheelOk.f k y0 l1 l2 l3 = some true) (n s : Int) (m1 : List (List S46)) (d : List S46) (h0 : 0 ≤ y0) (hM : y0 < 2147483647) (e1 : y1.length = 8) (e2 : y2.length = 8) (hn : n = y0 + 1) (hs : s = n % 8) (hld : d.length ≤ 1000000) (hm1 : m1 = y1.set s.toNat []) (hdd : d = y1.getD s.toNat []) (hne : ¬ s = 0) :
  Calls Try.prog 36 #[.agg #[.int .i64 y0, .slice A1 l1.length c1, .slice A2 l2.length c2, .slice A3 l3.length c3]] w fun e w' => ∃ (v1_ v2_ v3_ v4_ : Value) (PW PD : Nat → Prop), e = .returned (.tuple #[.agg #[.int .i64 n, v1_, v2_, v3_], v4_]) ∧ WR w' w.heap.size PW v1_ v2_ v3_ m1 y2 y3 ∧ Kd.R k46 46 w' w.heap.size PD v4_ d ∧ (∀ k, PW k → ¬ PD k) ∧ Below w.heap.size w w' := by
 have hu25 := Try.underlying25
 have hu46 := Try.underlying46
 have AC := aM hac
 have AO := aM hao
 clear hac hao
 have HR1 := aM hr1
 have HR2 := aM hr2
 have HR3 := aM hr3
 have HC1 := aM hc1
 have HC2 := aM hc2
 have HC3 := aM hc3
 have HB := aM (Below.refl w.heap.size w)
 clear hr1 hr2 hr3 hc1 hc2 hc3
 obtain ⟨yd, hyd⟩ : ∃ yd : List S46, yd = [] := ⟨_, rfl⟩
 have NY0 := aM hyd
 clear hyd
 have HDE := aM hdd
 have HLD := aM hld
 have H8 := aM (And.intro (show 0 < y1.length by omega) (show 0 < y2.length by omega))
 have hs0 : 0 ≤ s := by omega
 have hs8 : s < (y1.length : Int) := by omega
 have H0 := aM hs0
 have H8n := aM hs8
 have p1 := eq_true hs0
 have p2 := eq_true hs8
 have en : wrap64 (y0 + 1) = n := by unfold wrap64; omega
 have em : Int.tmod n 8 = s := by rw [hs]; exact Int.tmod_eq_emod_of_nonneg (by omega)
 obtain ⟨l1_, l2_⟩ := zf (show ¬ y0 = 2147483647 by omega)
 have HM1 := aM (show m1 = y1.set s.toNat yd from by rw [hm1]; rw [NY0.out])
 obtain ⟨n1_, n2_⟩ := zf hne
 clear hn hs hld hm1 hdd hne h0 hM e1 e2 hs0 hs8
 go_enter Try.func36, Try.ntmps36
 go_wp2_with (first | ((with_reducible refine gD 1 rfl ?_); refine bE 1 #[.int .i64 y0, .slice A1 l1.length c1, .slice A2 l2.length c2, .slice A3 l3.length c3] 25 ?_; intro g1 hg w1_ hbox hb; have GE1 := aM (zg HB.out hg : w.heap.size ≤ g1); have BK1 := aM hbox; clear hbox hg;   replace HB := zLB HB.out hb; clear hb; (try clear hz1_); have hz1_ := zc4 BK1.out;) | ((with_reducible refine gD 2 rfl ?_); refine bE 2 #[.int .i64 0, .slice none 0 0, .slice none 0 0, .slice none 0 0] 25 ?_; intro g2 hg w2_ hbox hb; have GE2 := aM (zg HB.out hg : w.heap.size ≤ g2); have N1_2 := aM (zN BK1.out hg : g1 ≠ g2); have BK2 := aM hbox; clear hbox hg; replace BK1 := zBB BK1 hb;  replace HB := zLB HB.out hb; clear hb; (try clear hz1_); have hz1_ := zc4 BK1.out; (try clear hz2_); have hz2_ := zc4 BK2.out;) | ((with_reducible refine gC 72 rfl ?_); refine gL 11 Try.func72 #[.agg #[.int .i64 y0, .slice A1 l1.length c1, .slice A2 l2.length c2, .slice A3 l3.length c3]] ?_; (refine (spec_l8Copy.callsW k y0 A1 c1 l1 A2 c2 l2 A3 c3 l3 y0 y1 y2 y3 _ ?s1 HC1.out ?s2 HC2.out ?s3 HC3.out AC.out).mono ?_); (case s1 => exact Kd.C_below HR1.out HB.out); (case s2 => exact Kd.C_below HR2.out HB.out); (case s3 => exact Kd.C_below HR3.out HB.out); rintro e w11_ ⟨v1, v2, v3, rfl, hw_, hb⟩; obtain ⟨gN, cN, gF, cF, A3_, c3_, rfl, rfl, rfl⟩ := hw_.forms H8.out.1 H8.out.2; refine ⟨_, rfl, ?_⟩; have F1 := aM (blk_lt BK1.out); have F2 := aM (blk_lt BK2.out); obtain ⟨n0, hn0_⟩ : ∃ n0, n0 = _ := ⟨_, rfl⟩; have HWR := aM ((hw_.bound.mono (ok' := fun k_ => n0 ≤ k_) (fun k_ h_ => by rw [hn0_]; exact h_.2.1)).lower HB.out.size); have FN := aM (hb.size); have HNB := aM (HB.out.size); rw [← hn0_] at F1 F2 FN HNB; clear hw_ hn0_; replace BK1 := zBB BK1 hb; replace BK2 := zBB BK2 hb;  replace HB := zLB HB.out hb; clear hb; (try clear hz1_); have hz1_ := zc4 BK1.out; (try clear hz2_); have hz2_ := zc4 BK2.out;) | ((with_reducible refine gD 4 rfl ?_); refine bE 4 #[.int .i64 0, .slice none 0 0, .slice none 0 0, .slice none 0 0] 25 ?_; intro g4 hg w4_ hbox hb; have GE4 := aM (zg HB.out hg : w.heap.size ≤ g4); have N1_4 := aM (zN BK1.out hg : g1 ≠ g4); have N2_4 := aM (zN BK2.out hg : g2 ≠ g4); have BK4 := aM hbox; have FN4 := aM (by rw [hg]; exact FN.out : n0 ≤ g4); clear FN hbox hg; replace BK1 := zBB BK1 hb; replace BK2 := zBB BK2 hb; replace HWR := aM (HWR.out.below hb); replace HB := zLB HB.out hb; clear hb; (try clear hz1_); have hz1_ := zc4 BK1.out; (try clear hz2_); have hz2_ := zc4 BK2.out; (try clear hz4_); have hz4_ := zc4 BK4.out;) | ((with_reducible refine gate_store (t := 25) (p := 4) rfl ?_); refine store_event (t := 25) (p := 4) (v := ?vo4_) (w1 := ((((w4_.setCell ⟨g4, 0, none⟩ (.int .i64 y0)).setCell ⟨g4, 1, none⟩ (.slice (some ⟨gN, 0, none⟩) y1.length cN)).setCell ⟨g4, 2, none⟩ (.slice (some ⟨gF, 0, none⟩) y2.length cF)).setCell ⟨g4, 3, none⟩ (.slice A3_ y3.length c3_))) ?hg ?ho ?hn ?hr ?_; (case ho => rfl); (case hg => rfl); (case hn => rfl); (case hr => (have hs0_ := (blk_cell BK4.out 0).trans rfl; have hf0_ := blk_frozen BK4.out 0; have hs1_ := (blk_cell BK4.out 1).trans rfl; have hf1_ := blk_frozen BK4.out 1; have hs2_ := (blk_cell BK4.out 2).trans rfl; have hf2_ := blk_frozen BK4.out 2; have hs3_ := (blk_cell BK4.out 3).trans rfl; have hf3_ := blk_frozen BK4.out 3;(try clear hz1_); have hz1_ := zc4 BK1.out; (try clear hz2_); have hz2_ := zc4 BK2.out; first | (go_simp; done) | (go_simp; rfl))); intro w5_ hw_; have HK_ := set4_kept hw_; have BKn := aM (set4_blk hw_ BK4.out rfl); have HBn := aM (set4_below hw_ HB.out GE4.out); replace BK1 := aM (blk_kept BK1.out HK_ (N1_4.out)); replace BK2 := aM (blk_kept BK2.out HK_ (N2_4.out)); replace HWR := aM ((HWR.out.types BK4.out (by decide) (by decide)).kept HK_ (fun _ h_ => h_.2)); clear hw_ BK4 HB; have BK4 := BKn; have HB := HBn; clear BKn HBn HK_; (try clear hz1_); have hz1_ := zc4 BK1.out; (try clear hz2_); have hz2_ := zc4 BK2.out; (try clear hz4_); have hz4_ := zc4 BK4.out;) | ((with_reducible refine gD 12 rfl ?_); refine Kd.R_lit k46 _ 46 ?hg (N := 12) ?hd (xs := ([] : List S46)) (inner := []) (ok := fun _ => True) (okp := fun _ => True) ?hr ?hp (fun _ hk => hk) trivial (Below.refl _ _) (Nat.le_refl _) (by simp) ?_; (case hd => rfl); (case hg => rfl); (case hr => first | (go_simp; done) | (go_simp; rfl)); (case hp => exact (Reps.none _ _)); intro vd w12_ ho hb hg_ hn_; clear hg_ hn_; rw [← NY0.out] at ho; have HD := aM (Kd.R_lower (Kd.R_mono (Kd.R_bound ho) (ok' := fun k_ => w5_.heap.size ≤ k_) (fun _ h_ => h_.2.1)) HB.out.size); obtain ⟨Ad, cd, rfl⟩ := Kd.R_slice ho; replace HWR := aM ((HWR.out.bound).mono (ok' := fun k_ => (n0 ≤ k_ ∧ k_ ≠ g4) ∧ k_ < w5_.heap.size) (fun k_ h_ => ⟨h_.1, h_.2.2.1⟩)); have HZ := aM hb.size; have L4 := aM (blk_lt BK4.out); clear ho; replace BK1 := zBB BK1 hb; replace BK2 := zBB BK2 hb; replace BK4 := zBB BK4 hb; replace HWR := aM (HWR.out.below hb); replace HB := zLB HB.out hb; clear hb; (try clear hz1_); have hz1_ := zc4 BK1.out; (try clear hz2_); have hz2_ := zc4 BK2.out; (try clear hz4_); have hz4_ := zc4 BK4.out;) | ((with_reducible refine gC 29 rfl ?_); refine gL 14 Try.func29 #[.agg #[.int .i64 y0, .slice A1 l1.length c1, .slice A2 l2.length c2, .slice A3 l3.length c3]] ?_; (refine (spec_WheelOk.calls k y0 A1 c1 l1 A2 c2 l2 A3 c3 l3 true _ ?s1 ?t1 ?s2 ?t2 ?s3 ?t3 AO.out).mono ?_); (case s1 => exact Kd.C_below HR1.out HB.out); (case s2 => exact Kd.C_below HR2.out HB.out); (case s3 => exact Kd.C_below HR3.out HB.out); (case t1 => exact HC1.out); (case t2 => exact HC2.out); (case t3 => exact HC3.out); rintro e w13_ ⟨rfl, hb⟩; refine ⟨_, rfl, ?_⟩; replace BK1 := zBB BK1 hb; replace BK2 := zBB BK2 hb; replace BK4 := zBB BK4 hb; replace HWR := aM (HWR.out.below hb); replace HD := zRB HD hb; replace HZ := aM (Nat.le_trans HZ.out hb.size); replace HB := zLB HB.out hb; clear hb; (try clear hz1_); have hz1_ := zc4 BK1.out; (try clear hz2_); have hz2_ := zc4 BK2.out; (try clear hz4_); have hz4_ := zc4 BK4.out;) | ((with_reducible refine gate_store (t := 3) (p := 26) rfl ?_); refine store_event (t := 3) (p := 26) (v := ?vo5_) (w1 := (w13_.setCell ⟨g4, 0, none⟩ (.int .i64 n))) ?hg ?ho ?hn ?hr ?_; (case ho => rfl); (case hg => rfl); (case hn => rfl); (case hr => (have hs0_ := (blk_cell BK4.out 0).trans rfl; have hf0_ := blk_frozen BK4.out 0; have hs1_ := (blk_cell BK4.out 1).trans rfl; have hf1_ := blk_frozen BK4.out 1; have hs2_ := (blk_cell BK4.out 2).trans rfl; have hf2_ := blk_frozen BK4.out 2; have hs3_ := (blk_cell BK4.out 3).trans rfl; have hf3_ := blk_frozen BK4.out 3;(try clear hz1_); have hz1_ := zc4 BK1.out; (try clear hz2_); have hz2_ := zc4 BK2.out; first | (go_simp; done) | (go_simp; rfl))); intro w24_ hw_; have HK_ := set1_kept hw_; have BKn := aM (by rw [hw_]; exact blk_put BK4.out 0 _ rfl : w24_.heap[g4]? = some (.cells #[.int .i64 n, .slice (some ⟨gN, 0, none⟩) y1.length cN, .slice (some ⟨gF, 0, none⟩) y2.length cF, .slice A3_ y3.length c3_] 25 (0, 0))); have HBn := aM (by rw [hw_]; exact HB.out.setCell GE4.out _ : Below w.heap.size w w24_); replace BK1 := aM (blk_kept BK1.out HK_ (N1_4.out)); replace BK2 := aM (blk_kept BK2.out HK_ (N2_4.out)); replace HWR := aM (HWR.out.kept HK_ (fun _ h_ => h_.1.2)); replace HD := aM (Kd.R_kept HD.out HK_ (fun k_ h_ e_ => by have a_ := L4.out; have b_ : k_ = g4 := e_; omega)); replace HZ := aM (Nat.le_trans HZ.out HK_.1); clear hw_ BK4 HB; have BK4 := BKn; have HB := HBn; clear BKn HBn HK_; obtain ⟨oki, As, cs, hx_, hR_, hok_, hfz_, hgo_, hgl_, hsw_⟩ := HWR.out.near_take H0.out H8n.out; rw [← HDE.out] at hx_ hR_; have HR := aM hR_; have HOK := aM hok_; have HFZ := aM hfz_; have HGO := aM hgo_; have HGL := aM hgl_; have HSW := aM hsw_; clear hR_ hok_ hfz_ hgo_ hgl_ hsw_; (try clear hz1_); have hz1_ := zc4 BK1.out; (try clear hz2_); have hz2_ := zc4 BK2.out; (try clear hz4_); have hz4_ := zc4 BK4.out;) | ((with_reducible refine gate_builtin (b := .append) (xs := #[.tmp 30, .tmp 35]) rfl ?_); at_builtin; refine Kd.R_append_rows k46 (w0 := w) w.heap.size rfl (.tmp 30) (.tmp 35) 23 46 (.agg #[(.int .i64 0), (.int .i64 0), (.int .i64 0)]) 24 rfl Try.underlying23 info46 rfl (by decide) (by omega) (.slice Ad yd.length cd) yd d _ _ _ (fun k => w5_.heap.size ≤ k) (fun _ => False) rfl rfl ?aO ?aR (fun _ _ h => h) (fun _ h => h.elim) ?aF ?aB ?aS ?aL ?_; (case aO => exact HD.out); (case aR => exact (Kd.R_reads' HR.out).2.2); (case aF => exact (fun k_ h_ => Nat.le_trans HZ.out h_)); (case aB => exact HB.out); (case aS => exact HB.out.size); (case aL => (have h1_ := HLD.out; have h2_ : yd.length = 0 := (by rw [NY0.out]; rfl); omega)); intro vd2 w36_ ho hb hg hat; clear hat; rw [NY0.out, List.nil_append] at ho; obtain ⟨Ad2, cd2, rfl⟩ := Kd.R_slice ho; have HKD := aM (Kept.of_grown hg (Kept.refl w24_ (fun k => w5_.heap.size ≤ k)) (fun k_ hk_ => .inl (HD.out.1 k_ hk_))); clear HD; have HD := aM ho; have hx2_ : w36_.cell? ⟨gN, s.toNat, none⟩ = some (.slice As d.length cs) := cell_kept hx_ HKD.out (fun h_ => by have a_ := HGO.out.2; have h2_ : w5_.heap.size ≤ gN := h_; omega); replace BK1 := aM (blk_kept BK1.out HKD.out (fun h_ => by have a_ := F1.out; have b_ := FN4.out; have c_ := L4.out; have h2_ : w5_.heap.size ≤ g1 := h_; omega)); replace BK2 := aM (blk_kept BK2.out HKD.out (fun h_ => by have a_ := F2.out; have b_ := FN4.out; have c_ := L4.out; have h2_ : w5_.heap.size ≤ g2 := h_; omega)); replace BK4 := aM (blk_kept BK4.out HKD.out (fun h_ => by have c_ := L4.out; have h2_ : w5_.heap.size ≤ g4 := h_; omega)); clear HB; have HB := aM hb; have HZ2 := aM HKD.out.1; clear ho hb hg; (try clear hz1_); have hz1_ := zc4 BK1.out; (try clear hz2_); have hz2_ := zc4 BK2.out; (try clear hz4_); have hz4_ := zc4 BK4.out;) | ((with_reducible refine gD 40 rfl ?_); refine Kd.R_lit k46 _ 46 ?hg (N := 40) ?hd (xs := ([] : List S46)) (inner := []) (ok := fun _ => True) (okp := fun _ => True) ?hr ?hp (fun _ hk => hk) trivial (Below.refl _ _) (Nat.le_refl _) (by simp) ?_; (case hd => rfl); (case hg => rfl); (case hr => first | (go_simp; done) | (go_simp; rfl)); (case hp => exact (Reps.none _ _)); intro vl w40_ ho hb hg_ hn_; clear hg_ hn_; have HL := aM (Kd.R_lower (Kd.R_mono (Kd.R_bound ho) (ok' := fun k_ => w36_.heap.size ≤ k_) (fun _ h_ => h_.2.1)) HB.out.size); rw [← NY0.out] at HL; obtain ⟨Al, cl, rfl⟩ := Kd.R_slice HL.out; replace HKD := aM (HKD.out.below hb); replace HD := aM (Kd.R_mono (Kd.R_below (Kd.R_bound HD.out) hb) (ok' := fun k_ => w5_.heap.size ≤ k_ ∧ k_ < w36_.heap.size) (fun _ h_ => ⟨h_.1, h_.2.2.1⟩)); have hx3_ : w40_.cell? ⟨gN, s.toNat, none⟩ = some (.slice As d.length cs) := pw_cell_below hb hx2_; clear hx2_ ho; replace BK1 := zBB BK1 hb; replace BK2 := zBB BK2 hb; replace BK4 := zBB BK4 hb;  replace HB := zLB HB.out hb; clear hb; (try clear hz1_); have hz1_ := zc4 BK1.out; (try clear hz2_); have hz2_ := zc4 BK2.out; (try clear hz4_); have hz4_ := zc4 BK4.out;) | ((with_reducible refine gate_store (t := 23) (p := 41) rfl ?_); refine store_event (t := 23) (p := 41) (v := ?vo6_) (w1 := (w40_.setCell ⟨gN, s.toNat, none⟩ (.slice Al yd.length cl))) ?hg ?ho ?hn ?hr ?_; (case ho => rfl); (case hg => rfl); (case hn => rfl); (case hr => (have hf_ : w40_.frozen? ⟨gN, s.toNat, none⟩ = false := frozen_kept (HFZ.out s.toNat) HGL.out HKD.out (fun h_ => by have a_ := HGO.out.2; have h2_ : w5_.heap.size ≤ gN := h_; omega); (try clear hz1_); have hz1_ := zc4 BK1.out; (try clear hz2_); have hz2_ := zc4 BK2.out; (try clear hz4_); have hz4_ := zc4 BK4.out; first | (go_simp; done) | (go_simp; rfl))); intro w37_ hw_; have HK_ := set1_kept hw_; have HWN := aM (by rw [hw_]; exact HSW.out (fun k => w5_.heap.size ≤ k) _ w40_ _ yd HZ2.out HKD.out (fun k_ h_ _ h2_ => by have a_ := h_.2; have b_ : w5_.heap.size ≤ k_ := h2_; omega) HL.out : WR w37_ w.heap.size (fun k => ((((n0 ≤ k) ∧ k ≠ g4) ∧ k < w5_.heap.size) ∧ ¬ oki k) ∨ w36_.heap.size ≤ k) (.slice (some ⟨gN, 0, none⟩) y1.length cN) (.slice (some ⟨gF, 0, none⟩) y2.length cF) (.slice A3_ y3.length c3_) (y1.set s.toNat yd) y2 y3); have HBn := aM (by rw [hw_]; exact HB.out.setCell (Nat.le_trans HNB.out HGO.out.1.1) _ : Below w.heap.size w w37_); replace BK1 := aM (blk_kept BK1.out HK_ (fun e_ => by have a_ := F1.out; have b_ := HGO.out.1.1; have c_ : g1 = gN := e_; omega)); replace BK2 := aM (blk_kept BK2.out HK_ (fun e_ => by have a_ := F2.out; have b_ := HGO.out.1.1; have c_ : g2 = gN := e_; omega)); replace BK4 := aM (blk_kept BK4.out HK_ (fun e_ => HGO.out.1.2 (Eq.symm e_))); replace HD := aM (Kd.R_kept HD.out HK_ (fun k_ h_ e_ => by have a_ := HGO.out.2; have b_ : k_ = gN := e_; omega)); clear hw_ HB HWR hx_; have HB := HBn; have HWR := HWN; clear HBn HWN HK_; rw [← HM1.out] at HWR; (try clear hz1_); have hz1_ := zc4 BK1.out; (try clear hz2_); have hz2_ := zc4 BK2.out; (try clear hz4_); have hz4_ := zc4 BK4.out;) | ((with_reducible refine gate_store (t := 25) (p := 2) rfl ?_); refine store_event (t := 25) (p := 2) (v := ?vo7_) (w1 := ((((w37_.setCell ⟨g2, 0, none⟩ (.int .i64 n)).setCell ⟨g2, 1, none⟩ (.slice (some ⟨gN, 0, none⟩) y1.length cN)).setCell ⟨g2, 2, none⟩ (.slice (some ⟨gF, 0, none⟩) y2.length cF)).setCell ⟨g2, 3, none⟩ (.slice A3_ y3.length c3_))) ?hg ?ho ?hn ?hr ?_; (case ho => rfl); (case hg => rfl); (case hn => rfl); (case hr => (have hs0_ := (blk_cell BK2.out 0).trans rfl; have hf0_ := blk_frozen BK2.out 0; have hs1_ := (blk_cell BK2.out 1).trans rfl; have hf1_ := blk_frozen BK2.out 1; have hs2_ := (blk_cell BK2.out 2).trans rfl; have hf2_ := blk_frozen BK2.out 2; have hs3_ := (blk_cell BK2.out 3).trans rfl; have hf3_ := blk_frozen BK2.out 3;(try clear hz1_); have hz1_ := zc4 BK1.out; (try clear hz4_); have hz4_ := zc4 BK4.out; first | (go_simp; done) | (go_simp; rfl))); intro wF hw_; have HK_ := set4_kept hw_; have BKn := aM (set4_blk hw_ BK2.out rfl); have HBn := aM (set4_below hw_ HB.out GE2.out); have HF := aM ((HWR.out.types BK2.out (by decide) (by decide)).kept HK_ (fun _ h_ => h_.2)); replace HD := aM (Kd.R_kept (Kd.R_types HD.out BK2.out (by decide)) HK_ (fun _ h_ => h_.2)); clear hw_ BK2 HB; have BK2 := BKn; have HB := HBn; clear BKn HBn HK_))
 refine bodyPost_ret (results_ct rfl _ _ g2 25 #[.int .i64 n, .slice (some ⟨gN, 0, none⟩) y1.length cN, .slice (some ⟨gF, 0, none⟩) y2.length cF, .slice A3_ y3.length c3_] (0, 0) _ rfl (by exact BK2.out) Try.underlying25 rfl (by kernel_rfl)) rfl ?_
 exact ⟨_, _, _, _, _, _, rfl, HF.out, HD.out, fun k_ h_ h2_ => by have a_ := h2_.1.1; have b_ := h2_.1.2; rcases h_.1 with c_ | c_; (have d_ := c_.1.2; omega); omega, HB.out⟩
def spec_TickOn.T12 : Bool × List (List Nat × List Nat) := (true, [([], []), ([], []), ([1], [1]), ([], []), ([2, 3], [2, 3]), ([4], [4]), ([0, 5], [0, 5]), ([], []), ([7], [7]), ([6, 8, 6], [6, 8]), ([9, 9, 0, 1, 2, 3, 4, 5, 6, 7, 8, 9], [9])])
def spec_TickOn.B12 : List Nat := [0, 0, 2, 0, 14, 30, 63, 0, 128, 511, 1023]
theorem spec_TickOn.tab12 : rtab .any (opsOf Try.f36 12) = spec_TickOn.T12 := by kernel_rfl
theorem spec_TickOn.bits12 : waitsOk spec_TickOn.T12.2 spec_TickOn.B12 = true := by kernel_rfl
def spec_TickOn.T18 : Bool × List (List Nat × List Nat) := (true, [([], []), ([], []), ([0, 1], [0, 1]), ([2], [2]), ([3], [3]), ([], []), ([5], [5]), ([4, 6], [4, 6])])
def spec_TickOn.B18 : List Nat := [0, 0, 3, 7, 15, 0, 32, 127]
theorem spec_TickOn.tab18 : rtab .any (opsOf Try.f36 18) = spec_TickOn.T18 := by kernel_rfl
theorem spec_TickOn.bits18 : waitsOk spec_TickOn.T18.2 spec_TickOn.B18 = true := by kernel_rfl
set_option maxHeartbeats 8000000 in
set_option maxRecDepth 100000 in
theorem spec_TickOn.turn (k : Nat) (A1 : Option Addr) (c1 : Nat) (l1 : List (List S46)) (A2 : Option Addr) (c2 : Nat) (l2 : List (List S46)) (A3 : Option Addr) (c3 : Nat) (l3 : List S46) (y0 : Int) (y1 y2 : List (List S46)) (y3 : List S46) (w : World) (hr1 : Kd.C (Kd.slice 46 k46) w A1 l1.length l1) (hc1 : l1.length ≤ c1) (hr2 : Kd.C (Kd.slice 46 k46) w A2 l2.length l2) (hc2 : l2.length ≤ c2) (hr3 : Kd.C k46 w A3 l3.length l3) (hc3 : l3.length ≤ c3) (hac : spec_l8Copy.f k y0 l1 l2 l3 = some (y0, y1, y2, y3)) (hao : spec_WheelOk.f k y0 l1 l2 l3 = some true) (n s : Int) (m1 : List (List S46)) (d : List S46) (h0 : 0 ≤ y0) (hM : y0 < 2147483647) (e1 : y1.length = 8) (e2 : y2.length = 8) (hn : n = y0 + 1) (hs : s = n % 8) (hld : d.length ≤ 1000000) (hm1 : m1 = y1.set s.toNat []) (hdd : d = y1.getD s.toNat []) (kk : Int) (m2 : List (List S46)) (xf mv : List S46) (hz : s = 0) (hk : kk = n / 8 % 8) (hm2 : m2 = y2.set kk.toNat []) (hxf : xf = y2.getD kk.toNat []) (hlf : xf.length ≤ 1000000) (hlr : y3.length ≤ 1000000) (hmv : mv = xf ++ y3) (r2 r3 : List (List S46)) (r4 r5 : List S46) (hF : moveF n mv m1 m2 [] d = some (r2, r3, r4, r5)) :
  Calls Try.prog 36 #[.agg #[.int .i64 y0, .slice A1 l1.length c1, .slice A2 l2.length c2, .slice A3 l3.length c3]] w fun e w' => ∃ (v1_ v2_ v3_ v4_ : Value) (PW PD : Nat → Prop), e = .returned (.tuple #[.agg #[.int .i64 n, v1_, v2_, v3_], v4_]) ∧ WR w' w.heap.size PW v1_ v2_ v3_ r2 r3 r4 ∧ Kd.R k46 46 w' w.heap.size PD v4_ r5 ∧ (∀ k, PW k → ¬ PD k) ∧ Below w.heap.size w w' := by
 have hu25 := Try.underlying25
 have hu46 := Try.underlying46
 have AC := aM hac
 have AO := aM hao
 clear hac hao
 have HR1 := aM hr1
 have HR2 := aM hr2
 have HR3 := aM hr3
 have HC1 := aM hc1
 have HC2 := aM hc2
 have HC3 := aM hc3
 have HB := aM (Below.refl w.heap.size w)
 clear hr1 hr2 hr3 hc1 hc2 hc3
 obtain ⟨yd, hyd⟩ : ∃ yd : List S46, yd = [] := ⟨_, rfl⟩
 have NY0 := aM hyd
 clear hyd
 have HDE := aM hdd
 have HLD := aM hld
 have H8 := aM (And.intro (show 0 < y1.length by omega) (show 0 < y2.length by omega))
 have hs0 : 0 ≤ s := by omega
 have hs8 : s < (y1.length : Int) := by omega
 have H0 := aM hs0
 have H8n := aM hs8
 have p1 := eq_true hs0
 have p2 := eq_true hs8
 have en : wrap64 (y0 + 1) = n := by unfold wrap64; omega
 have em : Int.tmod n 8 = s := by rw [hs]; exact Int.tmod_eq_emod_of_nonneg (by omega)
 obtain ⟨l1_, l2_⟩ := zf (show ¬ y0 = 2147483647 by omega)
 have HM1 := aM (show m1 = y1.set s.toNat yd from by rw [hm1]; rw [NY0.out])
 obtain ⟨n1_, n2_⟩ := zt hz
 have hk0 : 0 ≤ kk := by omega
 have hk8 : kk < (y2.length : Int) := by omega
 have HK0 := aM hk0
 have HK8 := aM hk8
 have p3 := eq_true hk0
 have p4 := eq_true hk8
 have ek : Int.tmod (wrap64 (Int.tdiv n 8)) 8 = kk := by
  rw [hk, Int.tdiv_eq_ediv_of_nonneg (by omega), show wrap64 (n / 8) = n / 8 by unfold wrap64; omega]
  exact Int.tmod_eq_emod_of_nonneg (by omega)
 have HM2 := aM hm2
 have HXF := aM hxf
 have HLF := aM hlf
 have HLR := aM hlr
 have HMV := aM hmv
 have HMF := aM hF
 have HMVL := aM (show mv.length ≤ 2000000 by rw [hmv, List.length_append]; omega)
 clear hn hs hld hm1 hdd hz hk hm2 hxf hlf hlr hmv hF h0 hM e1 e2 hs0 hs8 hk0 hk8
 go_enter Try.func36, Try.ntmps36
 try go_wp2_with (first | ((with_reducible refine gD 1 rfl ?_); refine bE 1 #[.int .i64 y0, .slice A1 l1.length c1, .slice A2 l2.length c2, .slice A3 l3.length c3] 25 ?_; intro g1 hg w1_ hbox hb; have GE1 := aM (zg HB.out hg : w.heap.size ≤ g1); have BK1 := aM hbox; clear hbox hg;   replace HB := zLB HB.out hb; clear hb; (try clear hz1_); have hz1_ := zc4 BK1.out;) | ((with_reducible refine gD 2 rfl ?_); refine bE 2 #[.int .i64 0, .slice none 0 0, .slice none 0 0, .slice none 0 0] 25 ?_; intro g2 hg w2_ hbox hb; have GE2 := aM (zg HB.out hg : w.heap.size ≤ g2); have N1_2 := aM (zN BK1.out hg : g1 ≠ g2); have BK2 := aM hbox; clear hbox hg; replace BK1 := zBB BK1 hb;  replace HB := zLB HB.out hb; clear hb; (try clear hz1_); have hz1_ := zc4 BK1.out; (try clear hz2_); have hz2_ := zc4 BK2.out;) | ((with_reducible refine gC 72 rfl ?_); refine gL 11 Try.func72 #[.agg #[.int .i64 y0, .slice A1 l1.length c1, .slice A2 l2.length c2, .slice A3 l3.length c3]] ?_; (refine (spec_l8Copy.callsW k y0 A1 c1 l1 A2 c2 l2 A3 c3 l3 y0 y1 y2 y3 _ ?s1 HC1.out ?s2 HC2.out ?s3 HC3.out AC.out).mono ?_); (case s1 => exact Kd.C_below HR1.out HB.out); (case s2 => exact Kd.C_below HR2.out HB.out); (case s3 => exact Kd.C_below HR3.out HB.out); rintro e w11_ ⟨v1, v2, v3, rfl, hw_, hb⟩; obtain ⟨gN, cN, gF, cF, A3_, c3_, rfl, rfl, rfl⟩ := hw_.forms H8.out.1 H8.out.2; refine ⟨_, rfl, ?_⟩; have F1 := aM (blk_lt BK1.out); have F2 := aM (blk_lt BK2.out); obtain ⟨n0, hn0_⟩ : ∃ n0, n0 = _ := ⟨_, rfl⟩; have HWR := aM ((hw_.bound.mono (ok' := fun k_ => n0 ≤ k_) (fun k_ h_ => by rw [hn0_]; exact h_.2.1)).lower HB.out.size); have FN := aM (hb.size); have HNB := aM (HB.out.size); rw [← hn0_] at F1 F2 FN HNB; clear hw_ hn0_; replace BK1 := zBB BK1 hb; replace BK2 := zBB BK2 hb;  replace HB := zLB HB.out hb; clear hb; (try clear hz1_); have hz1_ := zc4 BK1.out; (try clear hz2_); have hz2_ := zc4 BK2.out;) | ((with_reducible refine gD 4 rfl ?_); refine bE 4 #[.int .i64 0, .slice none 0 0, .slice none 0 0, .slice none 0 0] 25 ?_; intro g4 hg w4_ hbox hb; have GE4 := aM (zg HB.out hg : w.heap.size ≤ g4); have N1_4 := aM (zN BK1.out hg : g1 ≠ g4); have N2_4 := aM (zN BK2.out hg : g2 ≠ g4); have BK4 := aM hbox; have FN4 := aM (by rw [hg]; exact FN.out : n0 ≤ g4); clear FN hbox hg; replace BK1 := zBB BK1 hb; replace BK2 := zBB BK2 hb; replace HWR := aM (HWR.out.below hb); replace HB := zLB HB.out hb; clear hb; (try clear hz1_); have hz1_ := zc4 BK1.out; (try clear hz2_); have hz2_ := zc4 BK2.out; (try clear hz4_); have hz4_ := zc4 BK4.out;) | ((with_reducible refine gate_store (t := 25) (p := 4) rfl ?_); refine store_event (t := 25) (p := 4) (v := ?vo8_) (w1 := ((((w4_.setCell ⟨g4, 0, none⟩ (.int .i64 y0)).setCell ⟨g4, 1, none⟩ (.slice (some ⟨gN, 0, none⟩) y1.length cN)).setCell ⟨g4, 2, none⟩ (.slice (some ⟨gF, 0, none⟩) y2.length cF)).setCell ⟨g4, 3, none⟩ (.slice A3_ y3.length c3_))) ?hg ?ho ?hn ?hr ?_; (case ho => rfl); (case hg => rfl); (case hn => rfl); (case hr => (have hs0_ := (blk_cell BK4.out 0).trans rfl; have hf0_ := blk_frozen BK4.out 0; have hs1_ := (blk_cell BK4.out 1).trans rfl; have hf1_ := blk_frozen BK4.out 1; have hs2_ := (blk_cell BK4.out 2).trans rfl; have hf2_ := blk_frozen BK4.out 2; have hs3_ := (blk_cell BK4.out 3).trans rfl; have hf3_ := blk_frozen BK4.out 3;(try clear hz1_); have hz1_ := zc4 BK1.out; (try clear hz2_); have hz2_ := zc4 BK2.out; first | (go_simp; done) | (go_simp; rfl))); intro w5_ hw_; have HK_ := set4_kept hw_; have BKn := aM (set4_blk hw_ BK4.out rfl); have HBn := aM (set4_below hw_ HB.out GE4.out); replace BK1 := aM (blk_kept BK1.out HK_ (N1_4.out)); replace BK2 := aM (blk_kept BK2.out HK_ (N2_4.out)); replace HWR := aM ((HWR.out.types BK4.out (by decide) (by decide)).kept HK_ (fun _ h_ => h_.2)); clear hw_ BK4 HB; have BK4 := BKn; have HB := HBn; clear BKn HBn HK_; (try clear hz1_); have hz1_ := zc4 BK1.out; (try clear hz2_); have hz2_ := zc4 BK2.out; (try clear hz4_); have hz4_ := zc4 BK4.out;) | ((with_reducible refine gD 12 rfl ?_); refine Kd.R_lit k46 _ 46 ?hg (N := 12) ?hd (xs := ([] : List S46)) (inner := []) (ok := fun _ => True) (okp := fun _ => True) ?hr ?hp (fun _ hk => hk) trivial (Below.refl _ _) (Nat.le_refl _) (by simp) ?_; (case hd => rfl); (case hg => rfl); (case hr => first | (go_simp; done) | (go_simp; rfl)); (case hp => exact (Reps.none _ _)); intro vd w12_ ho hb hg_ hn_; clear hg_ hn_; rw [← NY0.out] at ho; have HD := aM (Kd.R_lower (Kd.R_mono (Kd.R_bound ho) (ok' := fun k_ => w5_.heap.size ≤ k_) (fun _ h_ => h_.2.1)) HB.out.size); obtain ⟨Ad, cd, rfl⟩ := Kd.R_slice ho; replace HWR := aM ((HWR.out.bound).mono (ok' := fun k_ => (n0 ≤ k_ ∧ k_ ≠ g4) ∧ k_ < w5_.heap.size) (fun k_ h_ => ⟨h_.1, h_.2.2.1⟩)); have HZ := aM hb.size; have L4 := aM (blk_lt BK4.out); clear ho; replace BK1 := zBB BK1 hb; replace BK2 := zBB BK2 hb; replace BK4 := zBB BK4 hb; replace HWR := aM (HWR.out.below hb); replace HB := zLB HB.out hb; clear hb; (try clear hz1_); have hz1_ := zc4 BK1.out; (try clear hz2_); have hz2_ := zc4 BK2.out; (try clear hz4_); have hz4_ := zc4 BK4.out;) | ((with_reducible refine gC 29 rfl ?_); refine gL 14 Try.func29 #[.agg #[.int .i64 y0, .slice A1 l1.length c1, .slice A2 l2.length c2, .slice A3 l3.length c3]] ?_; (refine (spec_WheelOk.calls k y0 A1 c1 l1 A2 c2 l2 A3 c3 l3 true _ ?s1 ?t1 ?s2 ?t2 ?s3 ?t3 AO.out).mono ?_); (case s1 => exact Kd.C_below HR1.out HB.out); (case s2 => exact Kd.C_below HR2.out HB.out); (case s3 => exact Kd.C_below HR3.out HB.out); (case t1 => exact HC1.out); (case t2 => exact HC2.out); (case t3 => exact HC3.out); rintro e w13_ ⟨rfl, hb⟩; refine ⟨_, rfl, ?_⟩; replace BK1 := zBB BK1 hb; replace BK2 := zBB BK2 hb; replace BK4 := zBB BK4 hb; replace HWR := aM (HWR.out.below hb); replace HD := zRB HD hb; replace HZ := aM (Nat.le_trans HZ.out hb.size); replace HB := zLB HB.out hb; clear hb; (try clear hz1_); have hz1_ := zc4 BK1.out; (try clear hz2_); have hz2_ := zc4 BK2.out; (try clear hz4_); have hz4_ := zc4 BK4.out;) | ((with_reducible refine gate_store (t := 3) (p := 26) rfl ?_); refine store_event (t := 3) (p := 26) (v := ?vo9_) (w1 := (w13_.setCell ⟨g4, 0, none⟩ (.int .i64 n))) ?hg ?ho ?hn ?hr ?_; (case ho => rfl); (case hg => rfl); (case hn => rfl); (case hr => (have hs0_ := (blk_cell BK4.out 0).trans rfl; have hf0_ := blk_frozen BK4.out 0; have hs1_ := (blk_cell BK4.out 1).trans rfl; have hf1_ := blk_frozen BK4.out 1; have hs2_ := (blk_cell BK4.out 2).trans rfl; have hf2_ := blk_frozen BK4.out 2; have hs3_ := (blk_cell BK4.out 3).trans rfl; have hf3_ := blk_frozen BK4.out 3;(try clear hz1_); have hz1_ := zc4 BK1.out; (try clear hz2_); have hz2_ := zc4 BK2.out; first | (go_simp; done) | (go_simp; rfl))); intro w24_ hw_; have HK_ := set1_kept hw_; have BKn := aM (by rw [hw_]; exact blk_put BK4.out 0 _ rfl : w24_.heap[g4]? = some (.cells #[.int .i64 n, .slice (some ⟨gN, 0, none⟩) y1.length cN, .slice (some ⟨gF, 0, none⟩) y2.length cF, .slice A3_ y3.length c3_] 25 (0, 0))); have HBn := aM (by rw [hw_]; exact HB.out.setCell GE4.out _ : Below w.heap.size w w24_); replace BK1 := aM (blk_kept BK1.out HK_ (N1_4.out)); replace BK2 := aM (blk_kept BK2.out HK_ (N2_4.out)); replace HWR := aM (HWR.out.kept HK_ (fun _ h_ => h_.1.2)); replace HD := aM (Kd.R_kept HD.out HK_ (fun k_ h_ e_ => by have a_ := L4.out; have b_ : k_ = g4 := e_; omega)); replace HZ := aM (Nat.le_trans HZ.out HK_.1); clear hw_ BK4 HB; have BK4 := BKn; have HB := HBn; clear BKn HBn HK_; obtain ⟨oki, As, cs, hx_, hR_, hok_, hfz_, hgo_, hgl_, hsw_⟩ := HWR.out.near_take H0.out H8n.out; rw [← HDE.out] at hx_ hR_; have HR := aM hR_; have HOK := aM hok_; have HFZ := aM hfz_; have HGO := aM hgo_; have HGL := aM hgl_; have HSW := aM hsw_; clear hR_ hok_ hfz_ hgo_ hgl_ hsw_; (try clear hz1_); have hz1_ := zc4 BK1.out; (try clear hz2_); have hz2_ := zc4 BK2.out; (try clear hz4_); have hz4_ := zc4 BK4.out;) | ((with_reducible refine gate_builtin (b := .append) (xs := #[.tmp 30, .tmp 35]) rfl ?_); at_builtin; refine Kd.R_append_rows k46 (w0 := w) w.heap.size rfl (.tmp 30) (.tmp 35) 23 46 (.agg #[(.int .i64 0), (.int .i64 0), (.int .i64 0)]) 24 rfl Try.underlying23 info46 rfl (by decide) (by omega) (.slice Ad yd.length cd) yd d _ _ _ (fun k => w5_.heap.size ≤ k) (fun _ => False) rfl rfl ?aO ?aR (fun _ _ h => h) (fun _ h => h.elim) ?aF ?aB ?aS ?aL ?_; (case aO => exact HD.out); (case aR => exact (Kd.R_reads' HR.out).2.2); (case aF => exact (fun k_ h_ => Nat.le_trans HZ.out h_)); (case aB => exact HB.out); (case aS => exact HB.out.size); (case aL => (have h1_ := HLD.out; have h2_ : yd.length = 0 := (by rw [NY0.out]; rfl); omega)); intro vd2 w36_ ho hb hg hat; clear hat; rw [NY0.out, List.nil_append] at ho; obtain ⟨Ad2, cd2, rfl⟩ := Kd.R_slice ho; have HKD := aM (Kept.of_grown hg (Kept.refl w24_ (fun k => w5_.heap.size ≤ k)) (fun k_ hk_ => .inl (HD.out.1 k_ hk_))); clear HD; have HD := aM ho; have hx2_ : w36_.cell? ⟨gN, s.toNat, none⟩ = some (.slice As d.length cs) := cell_kept hx_ HKD.out (fun h_ => by have a_ := HGO.out.2; have h2_ : w5_.heap.size ≤ gN := h_; omega); replace BK1 := aM (blk_kept BK1.out HKD.out (fun h_ => by have a_ := F1.out; have b_ := FN4.out; have c_ := L4.out; have h2_ : w5_.heap.size ≤ g1 := h_; omega)); replace BK2 := aM (blk_kept BK2.out HKD.out (fun h_ => by have a_ := F2.out; have b_ := FN4.out; have c_ := L4.out; have h2_ : w5_.heap.size ≤ g2 := h_; omega)); replace BK4 := aM (blk_kept BK4.out HKD.out (fun h_ => by have c_ := L4.out; have h2_ : w5_.heap.size ≤ g4 := h_; omega)); clear HB; have HB := aM hb; have HZ2 := aM HKD.out.1; clear ho hb hg; (try clear hz1_); have hz1_ := zc4 BK1.out; (try clear hz2_); have hz2_ := zc4 BK2.out; (try clear hz4_); have hz4_ := zc4 BK4.out;) | ((with_reducible refine gD 40 rfl ?_); refine Kd.R_lit k46 _ 46 ?hg (N := 40) ?hd (xs := ([] : List S46)) (inner := []) (ok := fun _ => True) (okp := fun _ => True) ?hr ?hp (fun _ hk => hk) trivial (Below.refl _ _) (Nat.le_refl _) (by simp) ?_; (case hd => rfl); (case hg => rfl); (case hr => first | (go_simp; done) | (go_simp; rfl)); (case hp => exact (Reps.none _ _)); intro vl w40_ ho hb hg_ hn_; clear hg_ hn_; have HL := aM (Kd.R_lower (Kd.R_mono (Kd.R_bound ho) (ok' := fun k_ => w36_.heap.size ≤ k_) (fun _ h_ => h_.2.1)) HB.out.size); rw [← NY0.out] at HL; obtain ⟨Al, cl, rfl⟩ := Kd.R_slice HL.out; replace HKD := aM (HKD.out.below hb); have HKL := aM hb.size; replace HD := aM (Kd.R_mono (Kd.R_below (Kd.R_bound HD.out) hb) (ok' := fun k_ => w5_.heap.size ≤ k_ ∧ k_ < w36_.heap.size) (fun _ h_ => ⟨h_.1, h_.2.2.1⟩)); have hx3_ : w40_.cell? ⟨gN, s.toNat, none⟩ = some (.slice As d.length cs) := pw_cell_below hb hx2_; clear hx2_ ho; replace BK1 := zBB BK1 hb; replace BK2 := zBB BK2 hb; replace BK4 := zBB BK4 hb;  replace HB := zLB HB.out hb; clear hb; (try clear hz1_); have hz1_ := zc4 BK1.out; (try clear hz2_); have hz2_ := zc4 BK2.out; (try clear hz4_); have hz4_ := zc4 BK4.out;) | ((with_reducible refine gate_store (t := 23) (p := 41) rfl ?_); refine store_event (t := 23) (p := 41) (v := ?vo10_) (w1 := (w40_.setCell ⟨gN, s.toNat, none⟩ (.slice Al yd.length cl))) ?hg ?ho ?hn ?hr ?_; (case ho => rfl); (case hg => rfl); (case hn => rfl); (case hr => (have hf_ : w40_.frozen? ⟨gN, s.toNat, none⟩ = false := frozen_kept (HFZ.out s.toNat) HGL.out HKD.out (fun h_ => by have a_ := HGO.out.2; have h2_ : w5_.heap.size ≤ gN := h_; omega); (try clear hz1_); have hz1_ := zc4 BK1.out; (try clear hz2_); have hz2_ := zc4 BK2.out; (try clear hz4_); have hz4_ := zc4 BK4.out; first | (go_simp; done) | (go_simp; rfl))); intro w37_ hw_; have HK_ := set1_kept hw_; have HWN := aM (by rw [hw_]; exact HSW.out (fun k => w5_.heap.size ≤ k) _ w40_ _ yd HZ2.out HKD.out (fun k_ h_ _ h2_ => by have a_ := h_.2; have b_ : w5_.heap.size ≤ k_ := h2_; omega) HL.out : WR w37_ w.heap.size (fun k => ((((n0 ≤ k) ∧ k ≠ g4) ∧ k < w5_.heap.size) ∧ ¬ oki k) ∨ w36_.heap.size ≤ k) (.slice (some ⟨gN, 0, none⟩) y1.length cN) (.slice (some ⟨gF, 0, none⟩) y2.length cF) (.slice A3_ y3.length c3_) (y1.set s.toNat yd) y2 y3); have HBn := aM (by rw [hw_]; exact HB.out.setCell (Nat.le_trans HNB.out HGO.out.1.1) _ : Below w.heap.size w w37_); replace BK1 := aM (blk_kept BK1.out HK_ (fun e_ => by have a_ := F1.out; have b_ := HGO.out.1.1; have c_ : g1 = gN := e_; omega)); replace BK2 := aM (blk_kept BK2.out HK_ (fun e_ => by have a_ := F2.out; have b_ := HGO.out.1.1; have c_ : g2 = gN := e_; omega)); replace BK4 := aM (blk_kept BK4.out HK_ (fun e_ => HGO.out.1.2 (Eq.symm e_))); replace HD := aM (Kd.R_kept HD.out HK_ (fun k_ h_ e_ => by have a_ := HGO.out.2; have b_ : k_ = gN := e_; omega)); replace HKL : Aside0 (w36_.heap.size ≤ w37_.heap.size) := ⟨Nat.le_trans HKL.out HK_.1⟩; have Z37 : Aside0 (w24_.heap.size ≤ w36_.heap.size) := ⟨HZ2.out⟩; clear hw_ HB HWR hx_; have HB := HBn; have HWR := HWN; clear HBn HWN HK_; rw [← HM1.out] at HWR; replace HWR := aM (HWR.out.bound.mono (ok' := (fun k => (((((n0 ≤ k) ∧ k ≠ g4) ∧ k < w5_.heap.size) ∧ ¬ oki k) ∨ w36_.heap.size ≤ k) ∧ k < w37_.heap.size)) (fun k_ h_ => ⟨h_.1, h_.2.2.1⟩)); (try clear hz1_); have hz1_ := zc4 BK1.out; (try clear hz2_); have hz2_ := zc4 BK2.out; (try clear hz4_); have hz4_ := zc4 BK4.out;))
 replace BK1 := zBD BK1
 replace BK2 := zBD BK2
 replace BK4 := zBD BK4
 replace HB := zLD HB
 replace HD := zRD HD
 replace HWR := aM HWR.out.drew
 have ZD : Aside0 (w37_.heap.size ≤ w37_.drew.heap.size) := ⟨Nat.le_refl _⟩
 obtain ⟨okf, Af, cf, hxf_, hRf_, hokf_, hfzf_, hgof_, hglf_, hswf_⟩ := HWR.out.far_take HK0.out HK8.out
 rw [← HXF.out] at hxf_ hRf_
 have HR3q := HWR.out.rest_reads rfl
 have HX := aM hxf_
 have HRF := aM hRf_
 have HOKF := aM hokf_
 have HFZF := aM hfzf_
 have HGOF := aM hgof_
 have HGLF := aM hglf_
 have HSWF := aM hswf_
 have HR3_ := aM HR3q
 clear hxf_ hRf_ hokf_ hfzf_ hgof_ hglf_ hswf_ HR3q
 refine start_ (n := 11) (S := fun w' => w'.cell? ⟨g4, 2, none⟩ = some (.slice (some ⟨gF, 0, none⟩) y2.length cF) ∧ w'.cell? ⟨g4, 3, none⟩ = some (.slice A3_ y3.length c3_) ∧ w'.cell? ⟨gF, kk.toNat, none⟩ = some (.slice Af xf.length cf)) (ds := []) (fB 11 0) (by kernel_rfl) rfl rfl ⟨(blk_cell BK4.out 2).trans rfl, (blk_cell BK4.out 3).trans rfl, HX.out⟩ (fun hHeld => ?_); refine with_tabW spec_TickOn.tab12 spec_TickOn.bits12 (fun HT_ HW_ => ?_)
 generalize w37_.drew = w38_ at BK1 BK2 BK4 HB HD HWR ZD HX HRF HOKF HFZF HGLF HSWF HR3_ hHeld ⊢
 refine pY 1 51 (fB 11 2) HT_.out ?_
 refine pY 3 53 (fB 11 10) HT_.out ?_
 refine pY 7 57 (fB 11 138) HT_.out ?_
 refine tY 2 52 (fB 11 142) HT_.out HW_.out hHeld ?_
 refine pY 4 54 (fB 11 158) HT_.out ?_
 refine tY 5 55 (fB 11 190) HT_.out HW_.out hHeld ?_
 refine tY 8 58 (fB 11 446) HT_.out HW_.out hHeld ?_
 have HXM := HX
 have HKA := aM (Kept.refl w38_ (fun _ => False))
 refine oN 0 50 (fB 11 447) HT_.out fun K hK => ?_
 refine Kd.R_lit_step k46 _ 46 ?hg (N := 50) ?hd (xs := ([] : List S46)) (inner := []) (ok := fun _ => True) (okp := fun _ => True) ?hr ?hp (fun _ hk => hk) trivial (Below.refl _ _) (Nat.le_refl _) (by simp) ?_; (case hd => rfl); (case hg => rfl); (case hr => first | (go_simp; done) | (go_simp; rfl)); (case hp => exact (Reps.none _ _)); intro v50 w50_ ho hb hg_ hn_; clear hg_ hn_; rw [← NY0.out] at ho; have HM := aM (Kd.R_lower (Kd.R_mono (Kd.R_bound ho) (ok' := fun k_ => w38_.heap.size ≤ k_) (fun _ h_ => h_.2.1)) HB.out.size); obtain ⟨Am0, cm0, rfl⟩ := Kd.R_slice ho; have HKs := Kept.of_below hb (fun _ => False); replace BK1 := aM (blk_kept BK1.out HKs (fun h_ => h_)); replace BK2 := aM (blk_kept BK2.out HKs (fun h_ => h_)); replace BK4 := aM (blk_kept BK4.out HKs (fun h_ => h_)); replace HD := aM (Kd.R_kept HD.out HKs (fun _ _ h_ => h_)); replace HXM := aM (cell_kept HXM.out HKs (fun h_ => h_)); replace HKA := aM (HKA.out.then_ HKs (fun _ h_ => .inl h_)); replace HB := zLB HB.out hb; clear ho hb HKs
 refine hK.out _ _ ⟨(blk_cell BK4.out 2).trans rfl, (blk_cell BK4.out 3).trans rfl, HXM.out⟩ fun hHeld => ?_; clear hK K
 refine nZ 50 ?_
 refine oN 6 56 (fB 11 511) HT_.out fun K hK => ?_
 refine Kd.R_append_rows_step k46 (w0 := w) w.heap.size (by rfl) (.tmp 50) (.tmp 55) 23 46 (.agg #[(.int .i64 0), (.int .i64 0), (.int .i64 0)]) 24 rfl Try.underlying23 info46 rfl (by decide) (by omega) (.slice Am0 yd.length cm0) yd xf _ _ _ (fun k => w38_.heap.size ≤ k) (fun _ => False) rfl rfl ?aO ?aR (fun _ _ h => h) (fun _ h => h.elim) ?aF ?aB ?aS ?aL ?_; (case aO => exact HM.out); (case aR => exact (Kd.R_reads' (Kd.R_kept HRF.out HKA.out (fun _ _ h_ => h_))).2.2); (case aF => exact (fun k_ h_ => Nat.le_trans HKA.out.1 h_)); (case aB => exact HB.out); (case aS => exact HB.out.size); (case aL => (have h1_ := HLF.out; have h2_ : yd.length = 0 := (by rw [NY0.out]; rfl); omega)); intro vm w56_ ho hb hg hat; clear hat; rw [NY0.out, List.nil_append] at ho; obtain ⟨Am1, cm1, rfl⟩ := Kd.R_slice ho; have HKq := Kept.of_grown hg (Kept.refl w50_ (fun k => w38_.heap.size ≤ k)) (fun k_ hk_ => .inl (HM.out.1 k_ hk_)); have HKn := aM (HKA.out.then_ HKq (fun _ h_ => .inr h_)); clear HM; have HM := aM ho; replace BK1 := aM (blk_kept BK1.out HKq (fun h_ => by have a_ := F1.out; have b_ := FN4.out; have c_ := L4.out; have d_ := HZ.out; have e_ := HZ2.out; have f_ := Z37.out; have g_ := ZD.out; have i_ := HKL.out; have j_ : w38_.heap.size ≤ g1 := h_; omega)); replace BK2 := aM (blk_kept BK2.out HKq (fun h_ => by have a_ := F2.out; have b_ := FN4.out; have c_ := L4.out; have d_ := HZ.out; have e_ := HZ2.out; have f_ := Z37.out; have g_ := ZD.out; have i_ := HKL.out; have j_ : w38_.heap.size ≤ g2 := h_; omega)); replace BK4 := aM (blk_kept BK4.out HKq (fun h_ => by have c_ := L4.out; have d_ := HZ.out; have e_ := HZ2.out; have f_ := Z37.out; have g_ := ZD.out; have i_ := HKL.out; have j_ : w38_.heap.size ≤ g4 := h_; omega)); replace HD := aM (Kd.R_kept HD.out HKq (fun k_ h_ h2_ => by have f_ := Z37.out; have g_ := ZD.out; have i_ := HKL.out; have j_ : w38_.heap.size ≤ k_ := h2_; omega)); replace HXM := aM (cell_kept HXM.out HKq (fun h_ => by have a_ := HGLF.out; have j_ : w38_.heap.size ≤ gF := h_; omega)); clear HB HKA; have HB := aM hb; have HKA := HKn; clear HKn HKq ho hb hg
 refine hK.out _ _ ⟨(blk_cell BK4.out 2).trans rfl, (blk_cell BK4.out 3).trans rfl, HXM.out⟩ fun hHeld => ?_; clear hK K
 refine nZ 56 ?_
 refine oN 9 59 (fB 11 1023) HT_.out fun K hK => ?_
 refine Kd.R_append_rows_step k46 (w0 := w) w.heap.size (by rfl) (.tmp 56) (.tmp 58) 23 46 (.agg #[(.int .i64 0), (.int .i64 0), (.int .i64 0)]) 24 rfl Try.underlying23 info46 rfl (by decide) (by omega) (.slice Am1 xf.length cm1) xf y3 _ _ _ (fun k => w38_.heap.size ≤ k) (fun _ => False) rfl rfl ?aO ?aR (fun _ _ h => h) (fun _ h => h.elim) ?aF ?aB ?aS ?aL ?_; (case aO => exact HM.out); (case aR => exact (Kd.C_kept_came2 HR3_.out HKA.out)); (case aF => exact (fun k_ h_ => Nat.le_trans HKA.out.1 h_)); (case aB => exact HB.out); (case aS => exact HB.out.size); (case aL => (have h1_ := HLF.out; have h2_ := HLR.out; omega)); intro vm w59_ ho hb hg hat; clear hat; rw [← HMV.out] at ho; obtain ⟨Am, cm, rfl⟩ := Kd.R_slice ho; have HKq := Kept.of_grown hg (Kept.refl w56_ (fun k => w38_.heap.size ≤ k)) (fun k_ hk_ => .inl (HM.out.1 k_ hk_)); have HKn := aM (HKA.out.then_ HKq (fun _ h_ => .inr h_)); clear HM; have HM := aM ho; replace BK1 := aM (blk_kept BK1.out HKq (fun h_ => by have a_ := F1.out; have b_ := FN4.out; have c_ := L4.out; have d_ := HZ.out; have e_ := HZ2.out; have f_ := Z37.out; have g_ := ZD.out; have i_ := HKL.out; have j_ : w38_.heap.size ≤ g1 := h_; omega)); replace BK2 := aM (blk_kept BK2.out HKq (fun h_ => by have a_ := F2.out; have b_ := FN4.out; have c_ := L4.out; have d_ := HZ.out; have e_ := HZ2.out; have f_ := Z37.out; have g_ := ZD.out; have i_ := HKL.out; have j_ : w38_.heap.size ≤ g2 := h_; omega)); replace BK4 := aM (blk_kept BK4.out HKq (fun h_ => by have c_ := L4.out; have d_ := HZ.out; have e_ := HZ2.out; have f_ := Z37.out; have g_ := ZD.out; have i_ := HKL.out; have j_ : w38_.heap.size ≤ g4 := h_; omega)); replace HD := aM (Kd.R_kept HD.out HKq (fun k_ h_ h2_ => by have f_ := Z37.out; have g_ := ZD.out; have i_ := HKL.out; have j_ : w38_.heap.size ≤ k_ := h2_; omega)); replace HXM := aM (cell_kept HXM.out HKq (fun h_ => by have a_ := HGLF.out; have j_ : w38_.heap.size ≤ gF := h_; omega)); clear HB HKA; have HB := aM hb; have HKA := HKn; clear HKn HKq ho hb hg
 refine hK.out _ _ ⟨(blk_cell BK4.out 2).trans rfl, (blk_cell BK4.out 3).trans rfl, HXM.out⟩ fun hHeld => ?_; clear hK K
 refine nZ 59 ?_
 refine pY 10 8 (fB 11 2047) HT_.out ?_
 refine done_ (done_of HT_.out (by kernel_rfl)) ?_
 replace HM := aM (Kd.R_mono (Kd.R_bound HM.out) (ok' := fun k_ => w38_.heap.size ≤ k_ ∧ k_ < w59_.heap.size) (fun k_ h_ => ⟨h_.1, h_.2.2.1⟩))
 have hxm_ := HXM.out
 have Z59 := aM HKA.out.1
 go_wp2_with (first | ((with_reducible refine gD 63 rfl ?_); refine Kd.R_lit k46 _ 46 ?hg (N := 63) ?hd (xs := ([] : List S46)) (inner := []) (ok := fun _ => True) (okp := fun _ => True) ?hr ?hp (fun _ hk => hk) trivial (Below.refl _ _) (Nat.le_refl _) (by simp) ?_; (case hd => rfl); (case hg => rfl); (case hr => first | (go_simp; done) | (go_simp; rfl)); (case hp => exact (Reps.none _ _)); intro vl2 w63_ ho hb hg_ hn_; clear hg_ hn_; have HL2 := aM (Kd.R_lower (Kd.R_mono (Kd.R_bound ho) (ok' := fun k_ => w59_.heap.size ≤ k_) (fun _ h_ => h_.2.1)) HB.out.size); rw [← NY0.out] at HL2; obtain ⟨Al2, cl2, rfl⟩ := Kd.R_slice HL2.out; replace HKA := aM (HKA.out.below hb); replace HD := zRB HD hb; replace HM := zRB HM hb; replace hxm_ := pw_cell_below hb hxm_; have Z63 := aM hb.size; clear ho; replace BK1 := zBB BK1 hb; replace BK2 := zBB BK2 hb; replace BK4 := zBB BK4 hb;  replace HB := zLB HB.out hb; clear hb; (try clear hz1_); have hz1_ := zc4 BK1.out; (try clear hz2_); have hz2_ := zc4 BK2.out; (try clear hz4_); have hz4_ := zc4 BK4.out;) | ((with_reducible refine gate_store (t := 23) (p := 64) rfl ?_); refine store_event (t := 23) (p := 64) (v := ?vo11_) (w1 := (w63_.setCell ⟨gF, kk.toNat, none⟩ (.slice Al2 yd.length cl2))) ?hg ?ho ?hn ?hr ?_; (case ho => rfl); (case hg => rfl); (case hn => rfl); (case hr => (have hf_ : w63_.frozen? ⟨gF, kk.toNat, none⟩ = false := frozen_kept (HFZF.out kk.toNat) HGLF.out HKA.out (fun h_ => h_); (try clear hz1_); have hz1_ := zc4 BK1.out; (try clear hz2_); have hz2_ := zc4 BK2.out; (try clear hz4_); have hz4_ := zc4 BK4.out; first | (go_simp; done) | (go_simp; rfl))); intro w64_ hw_; have HK_ := set1_kept hw_; have HWN := aM (by rw [hw_]; exact HSWF.out (fun _ => False) w59_.heap.size w63_ _ yd Z59.out HKA.out (fun _ _ _ h_ => h_) HL2.out : WR w64_ w.heap.size (fun k => (((((((n0 ≤ k) ∧ k ≠ g4) ∧ k < w5_.heap.size) ∧ ¬ oki k) ∨ w36_.heap.size ≤ k) ∧ k < w37_.heap.size) ∧ ¬ okf k) ∨ w59_.heap.size ≤ k) (.slice (some ⟨gN, 0, none⟩) y1.length cN) (.slice (some ⟨gF, 0, none⟩) y2.length cF) (.slice A3_ y3.length c3_) m1 (y2.set kk.toNat yd) y3); have HGB : Aside0 (n0 ≤ gF) := ⟨by have a1_ := FN4.out; have a2_ := L4.out; have a3_ := HZ.out; have a4_ := HZ2.out; have a5_ := HKL.out; have a6_ := Z37.out; have a7_ := ZD.out; have a8_ := HGLF.out; have a9_ := HGOF.out; rcases a9_.1 with c_ | c_; exact c_.1.1.1; omega⟩; have HG4 : Aside0 (gF ≠ g4) := ⟨by have a1_ := FN4.out; have a2_ := L4.out; have a3_ := HZ.out; have a4_ := HZ2.out; have a5_ := HKL.out; have a6_ := Z37.out; have a7_ := ZD.out; have a8_ := HGLF.out; have a9_ := HGOF.out; rcases a9_.1 with c_ | c_; exact c_.1.1.2; omega⟩; have HBn := aM (by rw [hw_]; exact HB.out.setCell (Nat.le_trans HNB.out HGB.out) _ : Below w.heap.size w w64_); replace BK1 := aM (blk_kept BK1.out HK_ (fun e_ => by have a_ := F1.out; have b_ := HGB.out; have e2_ : g1 = gF := e_; omega)); replace BK2 := aM (blk_kept BK2.out HK_ (fun e_ => by have a_ := F2.out; have b_ := HGB.out; have e2_ : g2 = gF := e_; omega)); replace BK4 := aM (blk_kept BK4.out HK_ (fun e_ => HG4.out (Eq.symm e_))); replace HD := aM (Kd.R_kept HD.out HK_ (fun k_ h_ e_ => by have e2_ : k_ = gF := e_; subst e2_; have a1_ := FN4.out; have a2_ := L4.out; have a3_ := HZ.out; have a4_ := HZ2.out; have a5_ := HKL.out; have a6_ := Z37.out; have a7_ := ZD.out; have a8_ := HGLF.out; have a9_ := HGOF.out; rcases a9_.1 with c_ | c_; (have d_ := c_.1.2; omega); omega)); replace HM := aM (Kd.R_kept HM.out HK_ (fun k_ h_ e_ => by have e2_ : k_ = gF := e_; have a8_ := HGLF.out; omega)); have Z64 := aM HK_.1; clear hw_ HB HWR; have HB := HBn; have HWR := HWN; clear HBn HWN HK_; rw [NY0.out, ← HM2.out] at HWR; replace HWR := aM (HWR.out.bound.mono (ok' := fun k => ((((((((n0 ≤ k) ∧ k ≠ g4) ∧ k < w5_.heap.size) ∧ ¬ oki k) ∨ w36_.heap.size ≤ k) ∧ k < w37_.heap.size) ∧ ¬ okf k) ∨ w59_.heap.size ≤ k) ∧ k < w64_.heap.size) (fun k_ h_ => ⟨h_.1, h_.2.2.1⟩)); (try clear hz1_); have hz1_ := zc4 BK1.out; (try clear hz2_); have hz2_ := zc4 BK2.out; (try clear hz4_); have hz4_ := zc4 BK4.out;) | ((with_reducible refine gD 65 rfl ?_); refine Kd.R_lit k46 _ 46 ?hg (N := 65) ?hd (xs := ([] : List S46)) (inner := []) (ok := fun _ => True) (okp := fun _ => True) ?hr ?hp (fun _ hk => hk) trivial (Below.refl _ _) (Nat.le_refl _) (by simp) ?_; (case hd => rfl); (case hg => rfl); (case hr => first | (go_simp; done) | (go_simp; rfl)); (case hp => exact (Reps.none _ _)); intro vl3 w65_ ho hb hg_ hn_; clear hg_ hn_; have HL3_ := aM (Kd.R_lower (Kd.R_mono (Kd.R_bound ho) (ok' := fun k_ => w64_.heap.size ≤ k_) (fun _ h_ => h_.2.1)) HB.out.size); rw [← NY0.out] at HL3_; obtain ⟨Al3, cl3, rfl⟩ := Kd.R_slice HL3_.out; replace HWR := aM ((HWR.out.below hb).rest_new (N := w64_.heap.size) (fun k_ h_ => h_.2) HL3_.out); replace HD := zRB HD hb; replace HM := zRB HM hb; have Z65 := aM hb.size; clear ho HL3_; replace BK1 := zBB BK1 hb; replace BK2 := zBB BK2 hb; replace BK4 := zBB BK4 hb;  replace HB := zLB HB.out hb; clear hb; (try clear hz1_); have hz1_ := zc4 BK1.out; (try clear hz2_); have hz2_ := zc4 BK2.out; (try clear hz4_); have hz4_ := zc4 BK4.out;) | ((with_reducible refine gate_store (t := 23) (p := 66) rfl ?_); refine store_event (t := 23) (p := 66) (v := ?vo12_) (w1 := (w65_.setCell ⟨g4, 3, none⟩ (.slice Al3 yd.length cl3))) ?hg ?ho ?hn ?hr ?_; (case ho => rfl); (case hg => rfl); (case hn => rfl); (case hr => (have hs0_ := (blk_cell BK4.out 0).trans rfl; have hf0_ := blk_frozen BK4.out 0; have hs1_ := (blk_cell BK4.out 1).trans rfl; have hf1_ := blk_frozen BK4.out 1; have hs2_ := (blk_cell BK4.out 2).trans rfl; have hf2_ := blk_frozen BK4.out 2; have hs3_ := (blk_cell BK4.out 3).trans rfl; have hf3_ := blk_frozen BK4.out 3;(try clear hz1_); have hz1_ := zc4 BK1.out; (try clear hz2_); have hz2_ := zc4 BK2.out; first | (go_simp; done) | (go_simp; rfl))); intro w66_ hw_; have HK_ := set1_kept hw_; have BKn := aM (by rw [hw_]; exact blk_put BK4.out 3 _ rfl : w66_.heap[g4]? = some (.cells #[.int .i64 n, .slice (some ⟨gN, 0, none⟩) y1.length cN, .slice (some ⟨gF, 0, none⟩) y2.length cF, .slice Al3 yd.length cl3] 25 (0, 0))); have HBn := aM (by rw [hw_]; exact HB.out.setCell GE4.out _ : Below w.heap.size w w66_); replace HD := aM (Kd.R_kept (Kd.R_types HD.out BK4.out (by decide)) HK_ (fun _ h_ => h_.2)); replace HM := aM (Kd.R_kept (Kd.R_types HM.out BK4.out (by decide)) HK_ (fun _ h_ => h_.2)); replace HWR := aM (((HWR.out.types BK4.out (by decide) (by decide)).kept HK_ (fun _ h_ => h_.2)).bound.mono (ok' := fun k => (((((((((((n0 ≤ k) ∧ k ≠ g4) ∧ k < w5_.heap.size) ∧ ¬ oki k) ∨ w36_.heap.size ≤ k) ∧ k < w37_.heap.size) ∧ ¬ okf k) ∨ w59_.heap.size ≤ k) ∧ k < w64_.heap.size) ∨ w64_.heap.size ≤ k) ∧ k ≠ g4) ∧ k < w66_.heap.size) (fun k_ h_ => ⟨h_.1, h_.2.2.1⟩)); replace BK1 := aM (blk_kept BK1.out HK_ (N1_4.out)); replace BK2 := aM (blk_kept BK2.out HK_ (N2_4.out)); have Z66 := aM HK_.1; clear hw_ BK4 HB; have BK4 := BKn; have HB := HBn; clear BKn HBn HK_; (try clear hz1_); have hz1_ := zc4 BK1.out; (try clear hz2_); have hz2_ := zc4 BK2.out; (try clear hz4_); have hz4_ := zc4 BK4.out;))
 have HTI : Aside0 (TI n g4 n0 w.heap.size w66_ m1 m2 yd d (.slice Ad2 d.length cd2) mv (.slice Am mv.length cm)) := aM (by
  have z1 := FN4.out
  have z2 := L4.out
  have z3 := HZ.out
  have z4 := HZ2.out
  have z5 := HKL.out
  have z6 := Z37.out
  have z7 := ZD.out
  have z8 := Z59.out
  have z9 := Z63.out
  have z10 := Z64.out
  have z11 := Z65.out
  have z12 := Z66.out
  refine ⟨_, _, _, ⟨_, _, _, BK4.out, HWR.out⟩, HD.out, HM.out, ⟨fun k_ h_ h2_ => ?_, fun k_ h_ h2_ => ?_, fun k_ h_ h2_ => ?_⟩, fun k_ h_ => ?_⟩
  ·have l_ := h2_.1
   rcases h_.1.1 with c_ | c_
   ·rcases c_.1 with e_ | e_
    ·rcases e_.1.1 with f_ | f_
     ·have := f_.1.2; omega
     ·omega
    ·omega
   ·omega
  ·have l_ := h2_.1
   rcases h_.1.1 with c_ | c_
   ·rcases c_.1 with e_ | e_
    ·have := e_.1.2; omega
    ·omega
   ·omega
  ·have l_ := h_.1
   have l2_ := h2_.1
   omega
  ·rcases h_ with h_ | h_ | h_
   ·refine ⟨?_, h_.2, h_.1.2⟩
    rcases h_.1.1 with c_ | c_
    ·rcases c_.1 with e_ | e_
     ·rcases e_.1.1 with f_ | f_
      ·exact f_.1.1.1
      ·omega
     ·omega
    ·omega
   ·have l_ := h_.1
    exact ⟨by omega, by omega, h_.2⟩
   ·have l_ := h_.1
    exact ⟨by omega, by omega, h_.2⟩)
 have HN0 := aM (Nat.le_of_lt (Nat.lt_of_le_of_lt FN4.out (blk_lt BK4.out)) : n0 ≤ w66_.heap.size)
 rw [NY0.out] at HTI
 clear HWR HD HM BK4 HRF HOKF HFZF HGOF HGLF HSWF HR3_ HKA HX HXM ZD HR HOK HFZ HGO HGL HSW HGB HG4 Z37 HXF HM1 HM2 HDE HLD HLF HLR HK0 HK8 H0 H8n H8 em ek p1 p2 p3 p4 l1_ l2_ n1_ n2_ en hHeld
 go_loopg [5, 9] mv.length (fun gk v5 v9 w' => ∃ (j : Nat) (q1 q2 : List (List S46)) (q3 q5 : List S46), v9 = .int .i64 (j : Int) ∧ j ≤ mv.length ∧ mv.length - j ≤ gk ∧ Aside0 (moveF n (mv.drop j) q1 q2 q3 q5 = some (r2, r3, r4, r5)) ∧ Aside0 (TI n g4 n0 w.heap.size w' q1 q2 q3 q5 v5 mv (.slice Am mv.length cm)) ∧ Aside0 (w'.heap[g1]? = some (.cells #[.int .i64 y0, .slice A1 l1.length c1, .slice A2 l2.length c2, .slice A3 l3.length c3] 25 (0, 0))) ∧ Aside0 (w'.heap[g2]? = some (.cells #[.int .i64 0, .slice none 0 0, .slice none 0 0, .slice none 0 0] 25 (0, 0))) ∧ Aside0 (Below w.heap.size w w') ∧ Aside0 (w66_.heap.size ≤ w'.heap.size))
 case atStart => exact ⟨0, m1, m2, [], d, rfl, by omega, by omega, HMF, HTI, BK1, BK2, HB, ⟨Nat.le_refl _⟩⟩
 case round =>
  clear HTI BK1 BK2 HB HMF
  obtain ⟨j, q1, q2, q3, q5, rfl, hj, hgk, HA, HT, BK1, BK2, HB, HNW⟩ := hrel
  obtain ⟨Ad, cd, rfl⟩ := HT.out.due_slice
  have HJ := aM hj
  have HGK := aM hgk
  clear hj hgk
  by_cases cj : j < mv.length
  ·have hji : (j : Int) < ((mv.length : Nat) : Int) := by omega
   have hj0 : (0 : Int) ≤ (j : Int) := by omega
   obtain ⟨ad, hAm, e0_, e1_, e2_⟩ := at_T46 (HT.out.moved rfl) (j : Int) hj0 hji
   subst hAm
   have HDR := aM (rd46_at mv j cj)
   generalize rd_T46 mv (j : Int) = t at e0_ e1_ e2_ HDR
   obtain ⟨x0, x1, x2⟩ := t
   simp only [Int.toNat_natCast] at e0_ e1_ e2_
   have HA2 := HA.out
   rw [HDR.out] at HA2
   simp only [moveF] at HA2
   have pj1 := eq_true hj0
   have pj2 := eq_true hji
   have pj3 : decide ((j : Int) < ((mv.length : Nat) : Int)) = true := dT hji
   have ej : wrap64 ((j : Int) + 1) = ((j + 1 : Nat) : Int) := by have := HMVL.out; unfold wrap64; omega
   have EJ := aM ej
   have CJ := aM cj
   clear cj hji hj0 HA HDR ej
   try go_wp2
   have HCE := aM (And.intro e0_ (And.intro e1_ e2_))
   replace HCE : Aside0 (wr.drew.cell? (ad.add (j * 3)) = some (.int .i64 x0) ∧ wr.drew.cell? ⟨(ad.add (j * 3)).block, (ad.add (j * 3)).off + 1, none⟩ = some (.int .i64 x1) ∧ wr.drew.cell? ⟨(ad.add (j * 3)).block, (ad.add (j * 3)).off + 2, none⟩ = some (.int .i64 x2)) := ⟨HCE.out⟩
   replace BK1 := zBD BK1
   replace BK2 := zBD BK2
   replace HB := zLD HB
   replace HT := aM (HT.out.below (below_drew (Below.refl _ _)))
   have HN1 : Aside0 (w66_.heap.size ≤ wr.drew.heap.size) := ⟨HNW.out⟩
   clear e0_ e1_ e2_
   refine start_ (n := 8) (S := fun w' => w'.cell? ⟨(ad.add (j * 3)).block, (ad.add (j * 3)).off + 2, none⟩ = some (.int .i64 x2) ∧ w'.cell? ⟨g4, 0, none⟩ = some (.int .i64 n)) (ds := []) (fB 8 0) (by kernel_rfl) rfl rfl ⟨HCE.out.2.2, HT.out.cell0⟩ (fun hHeld => ?_); refine with_tabW spec_TickOn.tab18 spec_TickOn.bits18 (fun HT_ HW_ => ?_)
   generalize wr.drew = wd_ at HCE BK1 BK2 HB HT HN1 hHeld ⊢
   refine pY 0 73 (fB 8 1) HT_.out ?_
   refine pY 1 74 (fB 8 3) HT_.out ?_
   refine pY 2 75 (fB 8 7) HT_.out ?_
   refine pY 3 76 (fB 8 15) HT_.out ?_
   refine pY 5 78 (fB 8 47) HT_.out ?_
   refine tY 4 77 (fB 8 63) HT_.out HW_.out hHeld ?_
   refine tY 6 79 (fB 8 127) HT_.out HW_.out hHeld ?_
   refine pY 7 80 (fB 8 255) HT_.out ?_
   refine done_ (done_of HT_.out (by kernel_rfl)) ?_
   obtain ⟨e0_, e1_, e2_⟩ := HCE.out
   clear HCE hHeld
   by_cases g1_ : n ≤ x2
   ·rw [if_pos g1_] at HA2
    by_cases g2_ : x2 = n
    ·rw [if_pos g2_] at HA2
     have b1_ : (x2 ≤ n) = True := eq_true (by omega)
     have b2_ : decide (x2 ≤ n) = true := by simp [b1_]
     by_cases g3_ : q5.length < 1000000
     ·rw [if_pos g3_] at HA2
      have HLQ := aM g3_
      have HAN := aM HA2
      clear HA2 g1_ g2_ g3_
      go_wp2_with (first | ((with_reducible refine gate_builtin (b := .append) (xs := #[.tmp 81, .tmp 86]) rfl ?_); at_builtin; obtain ⟨PW, PD, PM, hw_, hd_, hm_, hx_, hb_⟩ := HT.out; refine Kd.R_append k46 (w0 := w) w.heap.size rfl (.tmp 81) (.tmp 86) 23 46 (.agg #[(.int .i64 0), (.int .i64 0), (.int .i64 0)]) 24 rfl Try.underlying23 info46 rfl (by decide) (by omega) (.slice Ad q5.length cd) q5 ⟨x0, x1, x2⟩ [.int .i64 x0, .int .i64 x1, .int .i64 x2] (fun k => PD k ∨ wd_.heap.size ≤ k) (fun _ => False) rfl rfl ?aP (fun _ hk => hk.elim) ?aF ?aO ?aB ?aS ?aL ?_; (case aP => exact k46_mkM _ _ _ (⟨x0, x1, x2⟩ : S46)); (case aF => exact fun _ h_ => .inr h_); (case aO => exact Kd.R_mono hd_ (fun _ h_ => .inl h_)); (case aB => exact HB.out); (case aS => exact HB.out.size); (case aL => (have h1_ := HLQ.out; omega)); intro vn wA ho hb hg hat; clear hat; have HKa := Kept.of_grown hg (Kept.refl wd_ PD) (fun k_ hk_ => .inl (hd_.1 k_ hk_)); have HTn := aM (TI.due ⟨PW, PD, PM, hw_, hm_, hx_, hb_, ho, HKa⟩ (Nat.le_trans HN0.out HN1.out)); replace BK1 := aM (blk_kept BK1.out HKa (fun h_ => by have a_ := (hb_ g1 (.inr (.inl h_))).1; have b_ := F1.out; omega)); replace BK2 := aM (blk_kept BK2.out HKa (fun h_ => by have a_ := (hb_ g2 (.inr (.inl h_))).1; have b_ := F2.out; omega)); clear HB HT hw_ hd_ hm_ hx_ hb_ e0_ e1_ e2_; have HB := aM hb; have HT := HTn; have HNN := aM (Nat.le_trans HN1.out HKa.1); clear HTn HKa ho hb hg;))
      all_goals (first | (exfalso; have h_ := b1_; simp only [eq_iff_iff, iff_true, iff_false] at h_; omega) | skip)
      go_roundg (mv.length - (j + 1))
      case measure => have a_ := CJ.out; have b_ := HGK.out; omega
      case rel => exact ⟨j + 1, q1, q2, q3, q5 ++ [⟨x0, x1, x2⟩], by rw [← EJ.out], CJ.out, Nat.le_refl _, HAN, HT, BK1, BK2, HB, HNN⟩
     ·rw [if_neg g3_] at HA2
      exact absurd HA2 (by simp)
    ·rw [if_neg g2_] at HA2
     have b1_ : (x2 ≤ n) = False := eq_false (by omega)
     have b2_ : decide (x2 ≤ n) = false := by simp [b1_]
     obtain ⟨⟨s1, s2, s3⟩, hsv⟩ : ∃ q, layV n ⟨x0, x1, x2⟩ q1 q2 q3 = q := ⟨_, rfl⟩
     rw [hsv] at HA2
     simp only at HA2
     by_cases g3_ : layOk n ⟨x0, x1, x2⟩ q1 q2 q3 = true
     ·rw [if_pos g3_] at HA2
      have HLO := aM g3_
      have HSV := aM hsv
      have HAN := aM HA2
      clear HA2 g1_ g2_ g3_ hsv
      go_wp2_with (first | ((with_reducible refine gC 73 rfl ?_); refine gL 92 Try.func73 #[.pointer (some ⟨g4, 0, none⟩), .agg #[.int .i64 x0, .int .i64 x1, .int .i64 x2]] ?_; obtain ⟨PW, PD, PM, hw_, hd_, hm_, hx_, hb_⟩ := HT.out; (refine (spec_l8Put.calls n x0 x1 x2 q1 q2 q3 g4 w.heap.size PW w _ HB.out GE4.out hw_ HLO.out s1 s2 s3 HSV.out).mono ?_); rintro e wA ⟨rfl, hs_, hb, hk_⟩; refine ⟨_, rfl, ?_⟩; have HTn := aM (TI.laid ⟨PW, PD, PM, hd_, hm_, hx_, hb_, hs_, hk_⟩ (Nat.le_trans HN0.out HN1.out)); replace BK1 := aM (blk_kept BK1.out hk_ (fun h_ => h_.elim (fun h_ => by have a_ := (hb_ g1 (.inl h_)).1; have b_ := F1.out; omega) N1_4.out)); replace BK2 := aM (blk_kept BK2.out hk_ (fun h_ => h_.elim (fun h_ => by have a_ := (hb_ g2 (.inl h_)).1; have b_ := F2.out; omega) N2_4.out)); clear HB HT hw_ hd_ hm_ hx_ hb_ e0_ e1_ e2_; have HB := aM hb; have HT := HTn; have HNN := aM (Nat.le_trans HN1.out hk_.1); clear HTn hs_ hb hk_;))
      all_goals (first | (exfalso; have h_ := b1_; simp only [eq_iff_iff, iff_true, iff_false] at h_; omega) | skip)
      go_roundg (mv.length - (j + 1))
      case measure => have a_ := CJ.out; have b_ := HGK.out; omega
      case rel => exact ⟨j + 1, s1, s2, s3, q5, by rw [← EJ.out], CJ.out, Nat.le_refl _, HAN, HT, BK1, BK2, HB, HNN⟩
     ·rw [if_neg g3_] at HA2
      exact absurd HA2 (by simp)
   ·rw [if_neg g1_] at HA2
    exact absurd HA2 (by simp)
  ·have hje : j = mv.length := by have := HJ.out; omega
   subst hje
   have HA2 := HA.out
   rw [List.drop_length] at HA2
   simp only [moveF, Option.some.injEq, Prod.mk.injEq] at HA2
   obtain ⟨rfl, rfl, rfl, rfl⟩ := HA2
   have pj3 : decide (((mv.length : Nat) : Int) < ((mv.length : Nat) : Int)) = false := dF (by omega)
   clear cj
   obtain ⟨PW, PD, PM, ⟨u1, u2, u3, hu_, hw_⟩, hd_, hm_, ⟨hx_, _, _⟩, hb_⟩ := HT.out
   obtain ⟨D1, p1, D2, p2, D3, p3, rfl, rfl, rfl, _, _, _, _⟩ := hw_.reads
   have BK4 := aM hu_
   have HWR := aM hw_
   have HD := aM hd_
   have HXX := aM hx_
   clear hu_ hw_ hd_ hm_ hx_ hb_ HT HA
   have hz1_ := zc4 BK1.out
   have hz2_ := zc4 BK2.out
   have hz4_ := zc4 BK4.out
   go_wp2_with (first | ((with_reducible refine gate_store (t := 25) (p := 2) rfl ?_); refine store_event (t := 25) (p := 2) (v := ?vo13_) (w1 := ((((wr.setCell ⟨g2, 0, none⟩ (.int .i64 n)).setCell ⟨g2, 1, none⟩ (.slice D1 q1.length p1)).setCell ⟨g2, 2, none⟩ (.slice D2 q2.length p2)).setCell ⟨g2, 3, none⟩ (.slice D3 q3.length p3))) ?hg ?ho ?hn ?hr ?_; (case ho => rfl); (case hg => rfl); (case hn => rfl); (case hr => (have hs0_ := (blk_cell BK2.out 0).trans rfl; have hf0_ := blk_frozen BK2.out 0; have hs1_ := (blk_cell BK2.out 1).trans rfl; have hf1_ := blk_frozen BK2.out 1; have hs2_ := (blk_cell BK2.out 2).trans rfl; have hf2_ := blk_frozen BK2.out 2; have hs3_ := (blk_cell BK2.out 3).trans rfl; have hf3_ := blk_frozen BK2.out 3;(try clear hz1_); have hz1_ := zc4 BK1.out; (try clear hz4_); have hz4_ := zc4 BK4.out; first | (go_simp; done) | (go_simp; rfl))); intro wF hw_; have HK_ := set4_kept hw_; have BKn := aM (set4_blk hw_ BK2.out rfl); have HBn := aM (set4_below hw_ HB.out GE2.out); have HF := aM ((HWR.out.types BK2.out (by decide) (by decide)).kept HK_ (fun _ h_ => h_.2)); replace HD := aM (Kd.R_kept (Kd.R_types HD.out BK2.out (by decide)) HK_ (fun _ h_ => h_.2)); clear hw_ BK2 HB; have BK2 := BKn; have HB := HBn; clear BKn HBn HK_))
   refine bodyPost_ret (results_ct rfl _ _ g2 25 #[.int .i64 n, .slice D1 q1.length p1, .slice D2 q2.length p2, .slice D3 q3.length p3] (0, 0) _ rfl (by exact BK2.out) Try.underlying25 rfl (by kernel_rfl)) rfl ?_
   exact ⟨_, _, _, _, _, _, rfl, HF.out, HD.out, fun k_ h_ h2_ => HXX.out k_ h_.1 h2_.1, HB.out⟩
def spec_TickOn.f (k : Nat) (a : Int) (l1 l2 : List (List S46)) (l3 : List S46) : Option (Int × List (List S46) × List (List S46) × List S46 × List S46) :=
 (spec_l8Copy.f k a l1 l2 l3).bind fun c => (if c.1 = a then (spec_WheelOk.f k a l1 l2 l3).bind fun b => (if b = true then (if a = 2147483647 then some (c.1, c.2.1, c.2.2.1, c.2.2.2, []) else tickF c.1 c.2.1 c.2.2.1 c.2.2.2) else some (c.1, c.2.1, c.2.2.1, c.2.2.2, [])) else none)
theorem spec_TickOn.callsW (k : Nat) (a : Int) (A1 : Option Addr) (c1 : Nat) (l1 : List (List S46)) (A2 : Option Addr) (c2 : Nat) (l2 : List (List S46)) (A3 : Option Addr) (c3 : Nat) (l3 : List S46) (r1 : Int) (r2 r3 : List (List S46)) (r4 r5 : List S46) (w : World) (hr1 : Kd.C (Kd.slice 46 k46) w A1 l1.length l1) (hc1 : l1.length ≤ c1) (hr2 : Kd.C (Kd.slice 46 k46) w A2 l2.length l2) (hc2 : l2.length ≤ c2) (hr3 : Kd.C k46 w A3 l3.length l3) (hc3 : l3.length ≤ c3) (h : spec_TickOn.f k a l1 l2 l3 = some (r1, r2, r3, r4, r5)) :
  Calls Try.prog 36 #[.agg #[.int .i64 a, .slice A1 l1.length c1, .slice A2 l2.length c2, .slice A3 l3.length c3]] w fun e w' => ∃ (v1_ v2_ v3_ v4_ : Value) (PW PD : Nat → Prop), e = .returned (.tuple #[.agg #[.int .i64 r1, v1_, v2_, v3_], v4_]) ∧ WR w' w.heap.size PW v1_ v2_ v3_ r2 r3 r4 ∧ Kd.R k46 46 w' w.heap.size PD v4_ r5 ∧ (∀ k, PW k → ¬ PD k) ∧ Below w.heap.size w w' := by
 unfold spec_TickOn.f at h
 obtain ⟨⟨y0, y1, y2, y3⟩, ⟨hac⟩, h⟩ := zO h
 simp only at h
 by_cases ey : y0 = a
 ·rw [if_pos ey] at h
  subst ey
  obtain ⟨b, ⟨hao⟩, h⟩ := zO h
  cases b with
  | false =>
   rw [if_neg (by simp)] at h
   simp only [Option.some.injEq, Prod.mk.injEq] at h
   obtain ⟨rfl, rfl, rfl, rfl, rfl⟩ := h
   exact spec_TickOn.wrong k A1 c1 l1 A2 c2 l2 A3 c3 l3 y0 y1 y2 y3 w hr1 hc1 hr2 hc2 hr3 hc3 hac hao
  | true =>
   rw [if_pos rfl] at h
   by_cases em : y0 = 2147483647
   ·rw [if_pos em] at h
    simp only [Option.some.injEq, Prod.mk.injEq] at h
    obtain ⟨rfl, rfl, rfl, rfl, rfl⟩ := h
    exact spec_TickOn.late k A1 c1 l1 A2 c2 l2 A3 c3 l3 y0 y1 y2 y3 w hr1 hc1 hr2 hc2 hr3 hc3 hac hao em
   ·rw [if_neg em] at h
    unfold tickF at h
    by_cases ok : tickOk y0 y1 y2 y3 = true
    ·rw [if_pos ok] at h
     obtain ⟨h1, h2, h3, h4, h5, h6, h7⟩ := tickOk_spec ok
     by_cases ez : (y0 + 1) % 8 = 0
     ·rw [if_pos ez] at h
      obtain ⟨⟨s2, s3, s4, s5⟩, ⟨hF⟩, h⟩ := zO h
      simp only [Option.some.injEq, Prod.mk.injEq] at h
      obtain ⟨rfl, rfl, rfl, rfl, rfl⟩ := h
      exact spec_TickOn.turn k A1 c1 l1 A2 c2 l2 A3 c3 l3 y0 y1 y2 y3 w hr1 hc1 hr2 hc2 hr3 hc3 hac hao (y0 + 1) ((y0 + 1) % 8) _ _ h1 h2 h3 h4 rfl rfl (getD_len y1 h5 _) rfl rfl ((y0 + 1) / 8 % 8) _ _ _ ez rfl rfl rfl (getD_len y2 h6 _) h7 rfl s2 s3 s4 s5 hF
     ·rw [if_neg ez] at h
      simp only [Option.some.injEq, Prod.mk.injEq] at h
      obtain ⟨rfl, rfl, rfl, rfl, rfl⟩ := h
      exact spec_TickOn.quiet k A1 c1 l1 A2 c2 l2 A3 c3 l3 y0 y1 y2 y3 w hr1 hc1 hr2 hc2 hr3 hc3 hac hao (y0 + 1) ((y0 + 1) % 8) _ _ h1 h2 h3 h4 rfl rfl (getD_len y1 h5 _) rfl rfl ez
    ·rw [if_neg ok] at h
     exact absurd h (by simp)
 ·rw [if_neg ey] at h
  exact absurd h (by simp)
def spec_Advance.l (k : Nat) : Nat → Int → List (List S46) → List (List S46) → List S46 → List S46 → Option (Int × List (List S46) × List (List S46) × List S46 × List S46)
 | 0, a, l1, l2, l3, d => some (a, l1, l2, l3, d)
 | m + 1, a, l1, l2, l3, d => (spec_TickOn.f k a l1 l2 l3).bind fun r => (if d.length + r.2.2.2.2.length < 1000000 then spec_Advance.l k m r.1 r.2.1 r.2.2.1 r.2.2.2.1 (d ++ r.2.2.2.2) else none)
def spec_Advance.f (k : Nat) (a : Int) (l1 l2 : List (List S46)) (l3 : List S46) (t : Int) : Option (Int × List (List S46) × List (List S46) × List S46 × List S46) :=
 (spec_l8Copy.f k a l1 l2 l3).bind fun c => (if c.1 = a then (spec_l1In.f t 0 200).bind fun u => (if u = true then spec_Advance.l k t.toNat c.1 c.2.1 c.2.2.1 c.2.2.2 [] else some (c.1, c.2.1, c.2.2.1, c.2.2.2, [])) else none)
set_option maxHeartbeats 8000000 in
set_option maxRecDepth 100000 in
theorem spec_Advance.stay (k : Nat) (A1 : Option Addr) (c1 : Nat) (l1 : List (List S46)) (A2 : Option Addr) (c2 : Nat) (l2 : List (List S46)) (A3 : Option Addr) (c3 : Nat) (l3 : List S46) (y0 : Int) (y1 y2 : List (List S46)) (y3 : List S46) (t : Int) (w : World) (hr1 : Kd.C (Kd.slice 46 k46) w A1 l1.length l1) (hc1 : l1.length ≤ c1) (hr2 : Kd.C (Kd.slice 46 k46) w A2 l2.length l2) (hc2 : l2.length ≤ c2) (hr3 : Kd.C k46 w A3 l3.length l3) (hc3 : l3.length ≤ c3) (hac : spec_l8Copy.f k y0 l1 l2 l3 = some (y0, y1, y2, y3)) (haw : spec_l1In.f t 0 200 = some false) :
  Calls Try.prog 38 #[.agg #[.int .i64 y0, .slice A1 l1.length c1, .slice A2 l2.length c2, .slice A3 l3.length c3], .int .i64 t] w fun e w' => ∃ (v1_ v2_ v3_ v4_ : Value) (PW PD : Nat → Prop), e = .returned (.tuple #[.agg #[.int .i64 y0, v1_, v2_, v3_], v4_]) ∧ WR w' w.heap.size PW v1_ v2_ v3_ y1 y2 y3 ∧ Kd.R k46 46 w' w.heap.size PD v4_ [] ∧ (∀ k, PW k → ¬ PD k) ∧ Below w.heap.size w w' := by
 have hu25 := Try.underlying25
 have AC := aM hac
 have AW := aM haw
 clear hac haw
 have HR1 := aM hr1
 have HR2 := aM hr2
 have HR3 := aM hr3
 have HC1 := aM hc1
 have HC2 := aM hc2
 have HC3 := aM hc3
 have HB := aM (Below.refl w.heap.size w)
 clear hr1 hr2 hr3 hc1 hc2 hc3
 obtain ⟨yd, hyd⟩ : ∃ yd : List S46, yd = [] := ⟨_, rfl⟩
 have NY0 := aM hyd
 clear hyd
 go_enter Try.func38, Try.ntmps38
 go_wp2_with (first | ((with_reducible refine gD 2 rfl ?_); refine bE 2 #[.int .i64 y0, .slice A1 l1.length c1, .slice A2 l2.length c2, .slice A3 l3.length c3] 25 ?_; intro g2 hg w2_ hbox hb; have GE2 := aM (zg HB.out hg : w.heap.size ≤ g2); have BK2 := aM hbox; clear hbox hg;   replace HB := zLB HB.out hb; clear hb; (try clear hz2_); have hz2_ := zc4 BK2.out;) | ((with_reducible refine gD 4 rfl ?_); refine bE 4 #[.int .i64 0, .slice none 0 0, .slice none 0 0, .slice none 0 0] 25 ?_; intro g4 hg w4_ hbox hb; have GE4 := aM (zg HB.out hg : w.heap.size ≤ g4); have N2_4 := aM (zN BK2.out hg : g2 ≠ g4); have BK4 := aM hbox; clear hbox hg; replace BK2 := zBB BK2 hb;  replace HB := zLB HB.out hb; clear hb; (try clear hz2_); have hz2_ := zc4 BK2.out; (try clear hz4_); have hz4_ := zc4 BK4.out;) | ((with_reducible refine gC 72 rfl ?_); refine gL 12 Try.func72 #[.agg #[.int .i64 y0, .slice A1 l1.length c1, .slice A2 l2.length c2, .slice A3 l3.length c3]] ?_; (refine (spec_l8Copy.callsW k y0 A1 c1 l1 A2 c2 l2 A3 c3 l3 y0 y1 y2 y3 _ ?s1 HC1.out ?s2 HC2.out ?s3 HC3.out AC.out).mono ?_); (case s1 => exact Kd.C_below HR1.out HB.out); (case s2 => exact Kd.C_below HR2.out HB.out); (case s3 => exact Kd.C_below HR3.out HB.out); rintro e w12_ ⟨v1, v2, v3, rfl, hw_, hb⟩; obtain ⟨B1, q1, B2, q2, B3, q3, rfl, rfl, rfl, _, _, _, _⟩ := hw_.reads; refine ⟨_, rfl, ?_⟩; have F2 := aM (blk_lt BK2.out); have F4 := aM (blk_lt BK4.out); obtain ⟨n0, hn0_⟩ : ∃ n0, n0 = _ := ⟨_, rfl⟩; have HWR := aM ((hw_.bound.mono (ok' := fun k_ => n0 ≤ k_) (fun k_ h_ => by rw [hn0_]; exact h_.2.1)).lower HB.out.size); have FN := aM (hb.size); rw [← hn0_] at F2 F4 FN; clear hw_ hn0_; replace BK2 := zBB BK2 hb; replace BK4 := zBB BK4 hb;  replace HB := zLB HB.out hb; clear hb; (try clear hz2_); have hz2_ := zc4 BK2.out; (try clear hz4_); have hz4_ := zc4 BK4.out;) | ((with_reducible refine gD 6 rfl ?_); refine bE 6 #[.int .i64 0, .slice none 0 0, .slice none 0 0, .slice none 0 0] 25 ?_; intro g6 hg w6_ hbox hb; have GE6 := aM (zg HB.out hg : w.heap.size ≤ g6); have N2_6 := aM (zN BK2.out hg : g2 ≠ g6); have N4_6 := aM (zN BK4.out hg : g4 ≠ g6); have BK6 := aM hbox; have FN6 := aM (by rw [hg]; exact FN.out : n0 ≤ g6); clear FN hbox hg; replace BK2 := zBB BK2 hb; replace BK4 := zBB BK4 hb; replace HWR := aM (HWR.out.below hb); replace HB := zLB HB.out hb; clear hb; (try clear hz2_); have hz2_ := zc4 BK2.out; (try clear hz4_); have hz4_ := zc4 BK4.out; (try clear hz6_); have hz6_ := zc4 BK6.out;) | ((with_reducible refine gate_store (t := 25) (p := 6) rfl ?_); refine store_event (t := 25) (p := 6) (v := ?vo14_) (w1 := ((((w6_.setCell ⟨g6, 0, none⟩ (.int .i64 y0)).setCell ⟨g6, 1, none⟩ (.slice B1 y1.length q1)).setCell ⟨g6, 2, none⟩ (.slice B2 y2.length q2)).setCell ⟨g6, 3, none⟩ (.slice B3 y3.length q3))) ?hg ?ho ?hn ?hr ?_; (case ho => rfl); (case hg => rfl); (case hn => rfl); (case hr => (have hs0_ := (blk_cell BK6.out 0).trans rfl; have hf0_ := blk_frozen BK6.out 0; have hs1_ := (blk_cell BK6.out 1).trans rfl; have hf1_ := blk_frozen BK6.out 1; have hs2_ := (blk_cell BK6.out 2).trans rfl; have hf2_ := blk_frozen BK6.out 2; have hs3_ := (blk_cell BK6.out 3).trans rfl; have hf3_ := blk_frozen BK6.out 3;(try clear hz2_); have hz2_ := zc4 BK2.out; (try clear hz4_); have hz4_ := zc4 BK4.out; first | (go_simp; done) | (go_simp; rfl))); intro w7_ hw_; have HK_ := set4_kept hw_; have BKn := aM (set4_blk hw_ BK6.out rfl); have HBn := aM (set4_below hw_ HB.out GE6.out); replace BK2 := aM (blk_kept BK2.out HK_ (N2_6.out)); replace BK4 := aM (blk_kept BK4.out HK_ (N4_6.out)); replace HWR := aM ((HWR.out.types BK6.out (by decide) (by decide)).kept HK_ (fun _ h_ => h_.2)); replace HWR := aM (HWR.out.bound.mono (ok' := fun k_ => (n0 ≤ k_ ∧ k_ ≠ g6) ∧ k_ < w7_.heap.size) (fun _ h_ => ⟨h_.1, h_.2.2.1⟩)); clear hw_ BK6 HB; have BK6 := BKn; have HB := HBn; clear BKn HBn HK_; (try clear hz2_); have hz2_ := zc4 BK2.out; (try clear hz4_); have hz4_ := zc4 BK4.out; (try clear hz6_); have hz6_ := zc4 BK6.out;) | ((with_reducible refine gD 13 rfl ?_); refine Kd.R_lit k46 _ 46 ?hg (N := 13) ?hd (xs := ([] : List S46)) (inner := []) (ok := fun _ => True) (okp := fun _ => True) ?hr ?hp (fun _ hk => hk) trivial (Below.refl _ _) (Nat.le_refl _) (by simp) ?_; (case hd => rfl); (case hg => rfl); (case hr => first | (go_simp; done) | (go_simp; rfl)); (case hp => exact (Reps.none _ _)); intro vd w13_ ho hb hg_ hn_; clear hg_ hn_; rw [← NY0.out] at ho; have HD := aM (Kd.R_lower (Kd.R_mono (Kd.R_bound ho) (ok' := fun k_ => w7_.heap.size ≤ k_ ∧ k_ < w13_.heap.size) (fun _ h_ => ⟨h_.2.1, h_.2.2.1⟩)) HB.out.size); obtain ⟨Ad, cd, rfl⟩ := Kd.R_slice ho; have Z7 := aM hb.size; have L6 := aM (blk_lt BK6.out); clear ho; replace BK2 := zBB BK2 hb; replace BK4 := zBB BK4 hb; replace BK6 := zBB BK6 hb; replace HWR := aM (HWR.out.below hb); replace HB := zLB HB.out hb; clear hb; (try clear hz2_); have hz2_ := zc4 BK2.out; (try clear hz4_); have hz4_ := zc4 BK4.out; (try clear hz6_); have hz6_ := zc4 BK6.out;) | ((with_reducible refine gC 67 rfl ?_); refine gL 15 Try.func67 #[.int .i64 t, .int .i64 0, .int .i64 200] ?_; (refine (spec_l1In.calls t 0 200 false _ AW.out).mono ?_); rintro e w14_ ⟨rfl, hd_⟩; have hb := hd_.below; clear hd_; refine ⟨_, rfl, ?_⟩; replace BK2 := zBB BK2 hb; replace BK4 := zBB BK4 hb; replace BK6 := zBB BK6 hb; replace HWR := aM (HWR.out.below hb); have Z14 := aM hb.size; replace HD := zRB HD hb; replace HB := zLB HB.out hb; clear hb; (try clear hz2_); have hz2_ := zc4 BK2.out; (try clear hz4_); have hz4_ := zc4 BK4.out; (try clear hz6_); have hz6_ := zc4 BK6.out;) | ((with_reducible refine gate_store (t := 25) (p := 4) rfl ?_); refine store_event (t := 25) (p := 4) (v := ?vo15_) (w1 := ((((w14_.setCell ⟨g4, 0, none⟩ (.int .i64 y0)).setCell ⟨g4, 1, none⟩ (.slice B1 y1.length q1)).setCell ⟨g4, 2, none⟩ (.slice B2 y2.length q2)).setCell ⟨g4, 3, none⟩ (.slice B3 y3.length q3))) ?hg ?ho ?hn ?hr ?_; (case ho => rfl); (case hg => rfl); (case hn => rfl); (case hr => (have hs0_ := (blk_cell BK4.out 0).trans rfl; have hf0_ := blk_frozen BK4.out 0; have hs1_ := (blk_cell BK4.out 1).trans rfl; have hf1_ := blk_frozen BK4.out 1; have hs2_ := (blk_cell BK4.out 2).trans rfl; have hf2_ := blk_frozen BK4.out 2; have hs3_ := (blk_cell BK4.out 3).trans rfl; have hf3_ := blk_frozen BK4.out 3;(try clear hz2_); have hz2_ := zc4 BK2.out; (try clear hz6_); have hz6_ := zc4 BK6.out; first | (go_simp; done) | (go_simp; rfl))); intro wF hw_; have HK_ := set4_kept hw_; have BKn := aM (set4_blk hw_ BK4.out rfl); have HBn := aM (set4_below hw_ HB.out GE4.out); have HF := aM ((HWR.out.types BK4.out (by decide) (by decide)).kept HK_ (fun _ h_ => h_.2)); replace HD := aM (Kd.R_kept (Kd.R_types HD.out BK4.out (by decide)) HK_ (fun _ h_ => h_.2)); clear hw_ BK4 HB; have BK4 := BKn; have HB := HBn; clear BKn HBn HK_))
 refine bodyPost_ret (results_ct rfl _ _ g4 25 #[.int .i64 y0, .slice B1 y1.length q1, .slice B2 y2.length q2, .slice B3 y3.length q3] (0, 0) _ rfl (by exact BK4.out) Try.underlying25 rfl (by kernel_rfl)) rfl ?_
 rw [← NY0.out]
 exact ⟨_, _, _, _, _, _, rfl, HF.out, HD.out, fun k_ h_ h2_ => by have a_ := h_.1.2; have b_ := h2_.1.1; omega, HB.out⟩
set_option maxHeartbeats 8000000 in
set_option maxRecDepth 100000 in
theorem spec_Advance.run (k : Nat) (A1 : Option Addr) (c1 : Nat) (l1 : List (List S46)) (A2 : Option Addr) (c2 : Nat) (l2 : List (List S46)) (A3 : Option Addr) (c3 : Nat) (l3 : List S46) (y0 : Int) (y1 y2 : List (List S46)) (y3 : List S46) (t : Int) (w : World) (hr1 : Kd.C (Kd.slice 46 k46) w A1 l1.length l1) (hc1 : l1.length ≤ c1) (hr2 : Kd.C (Kd.slice 46 k46) w A2 l2.length l2) (hc2 : l2.length ≤ c2) (hr3 : Kd.C k46 w A3 l3.length l3) (hc3 : l3.length ≤ c3) (hac : spec_l8Copy.f k y0 l1 l2 l3 = some (y0, y1, y2, y3)) (haw : spec_l1In.f t 0 200 = some true) (h0 : 0 ≤ t) (h200 : t ≤ 200) (r1 : Int) (r2 r3 : List (List S46)) (r4 r5 : List S46) (hF : spec_Advance.l k t.toNat y0 y1 y2 y3 [] = some (r1, r2, r3, r4, r5)) :
  Calls Try.prog 38 #[.agg #[.int .i64 y0, .slice A1 l1.length c1, .slice A2 l2.length c2, .slice A3 l3.length c3], .int .i64 t] w fun e w' => ∃ (v1_ v2_ v3_ v4_ : Value) (PW PD : Nat → Prop), e = .returned (.tuple #[.agg #[.int .i64 r1, v1_, v2_, v3_], v4_]) ∧ WR w' w.heap.size PW v1_ v2_ v3_ r2 r3 r4 ∧ Kd.R k46 46 w' w.heap.size PD v4_ r5 ∧ (∀ k, PW k → ¬ PD k) ∧ Below w.heap.size w w' := by
 have hu25 := Try.underlying25
 have AC := aM hac
 have AW := aM haw
 clear hac haw
 have HR1 := aM hr1
 have HR2 := aM hr2
 have HR3 := aM hr3
 have HC1 := aM hc1
 have HC2 := aM hc2
 have HC3 := aM hc3
 have HB := aM (Below.refl w.heap.size w)
 clear hr1 hr2 hr3 hc1 hc2 hc3
 obtain ⟨yd, hyd⟩ : ∃ yd : List S46, yd = [] := ⟨_, rfl⟩
 have NY0 := aM hyd
 clear hyd
 have HMF := aM hF
 have H0 := aM h0
 have H2 := aM h200
 clear hF h0 h200
 go_enter Try.func38, Try.ntmps38
 try go_wp2_with (first | ((with_reducible refine gD 2 rfl ?_); refine bE 2 #[.int .i64 y0, .slice A1 l1.length c1, .slice A2 l2.length c2, .slice A3 l3.length c3] 25 ?_; intro g2 hg w2_ hbox hb; have GE2 := aM (zg HB.out hg : w.heap.size ≤ g2); have BK2 := aM hbox; clear hbox hg;   replace HB := zLB HB.out hb; clear hb; (try clear hz2_); have hz2_ := zc4 BK2.out;) | ((with_reducible refine gD 4 rfl ?_); refine bE 4 #[.int .i64 0, .slice none 0 0, .slice none 0 0, .slice none 0 0] 25 ?_; intro g4 hg w4_ hbox hb; have GE4 := aM (zg HB.out hg : w.heap.size ≤ g4); have N2_4 := aM (zN BK2.out hg : g2 ≠ g4); have BK4 := aM hbox; clear hbox hg; replace BK2 := zBB BK2 hb;  replace HB := zLB HB.out hb; clear hb; (try clear hz2_); have hz2_ := zc4 BK2.out; (try clear hz4_); have hz4_ := zc4 BK4.out;) | ((with_reducible refine gC 72 rfl ?_); refine gL 12 Try.func72 #[.agg #[.int .i64 y0, .slice A1 l1.length c1, .slice A2 l2.length c2, .slice A3 l3.length c3]] ?_; (refine (spec_l8Copy.callsW k y0 A1 c1 l1 A2 c2 l2 A3 c3 l3 y0 y1 y2 y3 _ ?s1 HC1.out ?s2 HC2.out ?s3 HC3.out AC.out).mono ?_); (case s1 => exact Kd.C_below HR1.out HB.out); (case s2 => exact Kd.C_below HR2.out HB.out); (case s3 => exact Kd.C_below HR3.out HB.out); rintro e w12_ ⟨v1, v2, v3, rfl, hw_, hb⟩; obtain ⟨B1, q1, B2, q2, B3, q3, rfl, rfl, rfl, _, _, _, _⟩ := hw_.reads; refine ⟨_, rfl, ?_⟩; have F2 := aM (blk_lt BK2.out); have F4 := aM (blk_lt BK4.out); obtain ⟨n0, hn0_⟩ : ∃ n0, n0 = _ := ⟨_, rfl⟩; have HWR := aM ((hw_.bound.mono (ok' := fun k_ => n0 ≤ k_) (fun k_ h_ => by rw [hn0_]; exact h_.2.1)).lower HB.out.size); have FN := aM (hb.size); rw [← hn0_] at F2 F4 FN; clear hw_ hn0_; replace BK2 := zBB BK2 hb; replace BK4 := zBB BK4 hb;  replace HB := zLB HB.out hb; clear hb; (try clear hz2_); have hz2_ := zc4 BK2.out; (try clear hz4_); have hz4_ := zc4 BK4.out;) | ((with_reducible refine gD 6 rfl ?_); refine bE 6 #[.int .i64 0, .slice none 0 0, .slice none 0 0, .slice none 0 0] 25 ?_; intro g6 hg w6_ hbox hb; have GE6 := aM (zg HB.out hg : w.heap.size ≤ g6); have N2_6 := aM (zN BK2.out hg : g2 ≠ g6); have N4_6 := aM (zN BK4.out hg : g4 ≠ g6); have BK6 := aM hbox; have FN6 := aM (by rw [hg]; exact FN.out : n0 ≤ g6); clear FN hbox hg; replace BK2 := zBB BK2 hb; replace BK4 := zBB BK4 hb; replace HWR := aM (HWR.out.below hb); replace HB := zLB HB.out hb; clear hb; (try clear hz2_); have hz2_ := zc4 BK2.out; (try clear hz4_); have hz4_ := zc4 BK4.out; (try clear hz6_); have hz6_ := zc4 BK6.out;) | ((with_reducible refine gate_store (t := 25) (p := 6) rfl ?_); refine store_event (t := 25) (p := 6) (v := ?vo16_) (w1 := ((((w6_.setCell ⟨g6, 0, none⟩ (.int .i64 y0)).setCell ⟨g6, 1, none⟩ (.slice B1 y1.length q1)).setCell ⟨g6, 2, none⟩ (.slice B2 y2.length q2)).setCell ⟨g6, 3, none⟩ (.slice B3 y3.length q3))) ?hg ?ho ?hn ?hr ?_; (case ho => rfl); (case hg => rfl); (case hn => rfl); (case hr => (have hs0_ := (blk_cell BK6.out 0).trans rfl; have hf0_ := blk_frozen BK6.out 0; have hs1_ := (blk_cell BK6.out 1).trans rfl; have hf1_ := blk_frozen BK6.out 1; have hs2_ := (blk_cell BK6.out 2).trans rfl; have hf2_ := blk_frozen BK6.out 2; have hs3_ := (blk_cell BK6.out 3).trans rfl; have hf3_ := blk_frozen BK6.out 3;(try clear hz2_); have hz2_ := zc4 BK2.out; (try clear hz4_); have hz4_ := zc4 BK4.out; first | (go_simp; done) | (go_simp; rfl))); intro w7_ hw_; have HK_ := set4_kept hw_; have BKn := aM (set4_blk hw_ BK6.out rfl); have HBn := aM (set4_below hw_ HB.out GE6.out); replace BK2 := aM (blk_kept BK2.out HK_ (N2_6.out)); replace BK4 := aM (blk_kept BK4.out HK_ (N4_6.out)); replace HWR := aM ((HWR.out.types BK6.out (by decide) (by decide)).kept HK_ (fun _ h_ => h_.2)); replace HWR := aM (HWR.out.bound.mono (ok' := fun k_ => (n0 ≤ k_ ∧ k_ ≠ g6) ∧ k_ < w7_.heap.size) (fun _ h_ => ⟨h_.1, h_.2.2.1⟩)); clear hw_ BK6 HB; have BK6 := BKn; have HB := HBn; clear BKn HBn HK_; (try clear hz2_); have hz2_ := zc4 BK2.out; (try clear hz4_); have hz4_ := zc4 BK4.out; (try clear hz6_); have hz6_ := zc4 BK6.out;) | ((with_reducible refine gD 13 rfl ?_); refine Kd.R_lit k46 _ 46 ?hg (N := 13) ?hd (xs := ([] : List S46)) (inner := []) (ok := fun _ => True) (okp := fun _ => True) ?hr ?hp (fun _ hk => hk) trivial (Below.refl _ _) (Nat.le_refl _) (by simp) ?_; (case hd => rfl); (case hg => rfl); (case hr => first | (go_simp; done) | (go_simp; rfl)); (case hp => exact (Reps.none _ _)); intro vd w13_ ho hb hg_ hn_; clear hg_ hn_; rw [← NY0.out] at ho; have HD := aM (Kd.R_lower (Kd.R_mono (Kd.R_bound ho) (ok' := fun k_ => w7_.heap.size ≤ k_ ∧ k_ < w13_.heap.size) (fun _ h_ => ⟨h_.2.1, h_.2.2.1⟩)) HB.out.size); obtain ⟨Ad, cd, rfl⟩ := Kd.R_slice ho; have Z7 := aM hb.size; have L6 := aM (blk_lt BK6.out); clear ho; replace BK2 := zBB BK2 hb; replace BK4 := zBB BK4 hb; replace BK6 := zBB BK6 hb; replace HWR := aM (HWR.out.below hb); replace HB := zLB HB.out hb; clear hb; (try clear hz2_); have hz2_ := zc4 BK2.out; (try clear hz4_); have hz4_ := zc4 BK4.out; (try clear hz6_); have hz6_ := zc4 BK6.out;) | ((with_reducible refine gC 67 rfl ?_); refine gL 15 Try.func67 #[.int .i64 t, .int .i64 0, .int .i64 200] ?_; (refine (spec_l1In.calls t 0 200 true _ AW.out).mono ?_); rintro e w14_ ⟨rfl, hd_⟩; have hb := hd_.below; clear hd_; refine ⟨_, rfl, ?_⟩; replace BK2 := zBB BK2 hb; replace BK4 := zBB BK4 hb; replace BK6 := zBB BK6 hb; replace HWR := aM (HWR.out.below hb); have Z14 := aM hb.size; replace HD := zRB HD hb; replace HB := zLB HB.out hb; clear hb; (try clear hz2_); have hz2_ := zc4 BK2.out; (try clear hz4_); have hz4_ := zc4 BK4.out; (try clear hz6_); have hz6_ := zc4 BK6.out;))
 have HTI : Aside0 (TI y0 g6 n0 w.heap.size w14_ y1 y2 y3 yd (.slice Ad yd.length cd) [] (.slice none 0 0)) := aM ⟨_, _, fun _ => False, ⟨_, _, _, BK6.out, HWR.out⟩, HD.out, Kd.R_nil _ _ _ _ _, ⟨fun k_ h_ h2_ => by have a_ := h_.2; have b_ := h2_.1; omega, fun _ _ h_ => h_, fun _ _ h_ => h_⟩, fun k_ h_ => by have z1_ := Z7.out; have z2_ := Z14.out; have f_ := FN6.out; have l_ := L6.out; rcases h_ with h_ | h_ | h_; exact ⟨h_.1.1, by omega, h_.1.2⟩; exact ⟨by omega, by omega, by omega⟩; exact h_.elim⟩
 obtain ⟨vd_, hvd_⟩ : ∃ v, v = Value.slice Ad yd.length cd := ⟨_, rfl⟩
 rw [← hvd_] at HTI
 rw [NY0.out] at HTI
 rw [hvd_] at HTI
 clear hvd_
 have HN0 := aM (Nat.le_of_lt (Nat.lt_of_le_of_lt FN6.out (blk_lt BK6.out)) : n0 ≤ w14_.heap.size)
 clear HWR BK6 HD
 go_loopg [7, 8] t.toNat (fun gk v7 v8 w' => ∃ (j : Nat) (q0 : Int) (q1 q2 : List (List S46)) (q3 q5 : List S46), v8 = .int .i64 (j : Int) ∧ (j : Int) ≤ t ∧ t.toNat - j ≤ gk ∧ Aside0 (spec_Advance.l k (t.toNat - j) q0 q1 q2 q3 q5 = some (r1, r2, r3, r4, r5)) ∧ Aside0 (TI q0 g6 n0 w.heap.size w' q1 q2 q3 q5 v7 [] (.slice none 0 0)) ∧ Aside0 (w'.heap[g2]? = some (.cells #[.int .i64 y0, .slice A1 l1.length c1, .slice A2 l2.length c2, .slice A3 l3.length c3] 25 (0, 0))) ∧ Aside0 (w'.heap[g4]? = some (.cells #[.int .i64 0, .slice none 0 0, .slice none 0 0, .slice none 0 0] 25 (0, 0))) ∧ Aside0 (Below w.heap.size w w') ∧ Aside0 (w14_.heap.size ≤ w'.heap.size))
 case atStart => exact ⟨0, y0, y1, y2, y3, [], rfl, H0.out, by omega, HMF, HTI, BK2, BK4, HB, ⟨Nat.le_refl _⟩⟩
 case round =>
  clear HTI BK2 BK4 HB HMF
  obtain ⟨j, q0, q1, q2, q3, q5, rfl, hj, hgk, HA, HT, BK2, BK4, HB, HNW⟩ := hrel
  obtain ⟨Ad, cd, rfl⟩ := HT.out.due_slice
  have HJ := aM hj
  have HGK := aM hgk
  clear hj hgk
  obtain ⟨PW, PD, PM, ⟨u1, u2, u3, hu_, hw_⟩, hd_, hm_, ⟨hx_, _, _⟩, hb_⟩ := HT.out
  obtain ⟨D1, p1, D2, p2, D3, p3, rfl, rfl, rfl, ⟨t1_, t2_, t3_⟩, e1_, e2_, e3_⟩ := hw_.reads
  have BK6 := aM hu_
  have HWR := aM hw_
  have HD := aM hd_
  have HXX := aM hx_
  have HBB := aM hb_
  have HQ := aM (And.intro t1_ (And.intro t2_ (And.intro t3_ (And.intro e1_ (And.intro e2_ e3_)))))
  clear hu_ hw_ hd_ hm_ hx_ hb_ HT t1_ t2_ t3_ e1_ e2_ e3_
  have hz2_ := zc4 BK2.out
  have hz4_ := zc4 BK4.out
  have hz6_ := zc4 BK6.out
  by_cases cj : (j : Int) < t
  ·have hjt : t.toNat - j = (t.toNat - (j + 1)) + 1 := by omega
   have HA2 := HA.out
   rw [hjt] at HA2
   simp only [spec_Advance.l] at HA2
   obtain ⟨⟨s0, s1, s2, s3, s5⟩, AT, HA2⟩ := zO HA2
   simp only at HA2
   have pj1 := eq_true cj
   have pj2 : decide ((j : Int) < t) = true := dT cj
   have ej : wrap64 ((j : Int) + 1) = ((j + 1 : Nat) : Int) := by have := H2.out; unfold wrap64; omega
   have EJ := aM ej
   have CJ := aM cj
   clear cj HA hjt ej
   by_cases g3_ : q5.length + s5.length < 1000000
   ·rw [if_pos g3_] at HA2
    have HLQ := aM g3_
    have HAN := aM HA2
    clear HA2 g3_
    go_wp2_with (first | ((with_reducible refine gC 36 rfl ?_); refine gL 26 Try.func36 #[.agg #[.int .i64 q0, .slice D1 q1.length p1, .slice D2 q2.length p2, .slice D3 q3.length p3]] ?_; (refine (spec_TickOn.callsW k q0 D1 p1 q1 D2 p2 q2 D3 p3 q3 s0 s1 s2 s3 s5 _ HQ.out.2.2.2.1 HQ.out.1 HQ.out.2.2.2.2.1 HQ.out.2.1 HQ.out.2.2.2.2.2 HQ.out.2.2.1 AT.out).mono ?_); rintro e wt_ ⟨z1, z2, z3, z4, PW2, PD2, rfl, hw_, hd_, _, hb⟩; obtain ⟨E1, n1, E2, n2, E3, n3, rfl, rfl, rfl, _, _, _, _⟩ := hw_.reads; obtain ⟨Am, cm, rfl⟩ := Kd.R_slice hd_; refine ⟨_, rfl, ?_⟩; have HWN := aM ((hw_.bound.mono (ok' := fun k_ => wr.heap.size ≤ k_) (fun k_ h_ => h_.2.1)).lower HB.out.size); have HM := aM (Kd.R_lower hd_ HB.out.size); clear hw_ hd_ HQ HWR; replace HD := zRB HD hb; have Zt := aM hb.size; replace BK2 := zBB BK2 hb; replace BK4 := zBB BK4 hb; replace BK6 := zBB BK6 hb;  replace HB := zLB HB.out hb; clear hb; (try clear hz2_); have hz2_ := zc4 BK2.out; (try clear hz4_); have hz4_ := zc4 BK4.out; (try clear hz6_); have hz6_ := zc4 BK6.out;) | ((with_reducible refine gD 9 rfl ?_); refine bE 9 #[.int .i64 0, .slice none 0 0, .slice none 0 0, .slice none 0 0] 25 ?_; intro g9 hg w9_ hbox hb; have GE9 := aM (zg HB.out hg : w.heap.size ≤ g9); have N2_9 := aM (zN BK2.out hg : g2 ≠ g9); have N4_9 := aM (zN BK4.out hg : g4 ≠ g9); have N6_9 := aM (zN BK6.out hg : g6 ≠ g9); have BK9 := aM hbox; clear hbox hg; replace HWN := aM (HWN.out.below hb); replace HM := zRB HM hb; replace HD := zRB HD hb; replace Zt := aM (Nat.le_trans Zt.out hb.size); replace BK2 := zBB BK2 hb; replace BK4 := zBB BK4 hb; replace BK6 := zBB BK6 hb;  replace HB := zLB HB.out hb; clear hb; (try clear hz2_); have hz2_ := zc4 BK2.out; (try clear hz4_); have hz4_ := zc4 BK4.out; (try clear hz6_); have hz6_ := zc4 BK6.out; have hz9_ := zc4 BK9.out;) | ((with_reducible refine gate_store (t := 25) (p := 9) rfl ?_); refine store_event (t := 25) (p := 9) (v := ?vo17_) (w1 := ((((w9_.setCell ⟨g9, 0, none⟩ (.int .i64 s0)).setCell ⟨g9, 1, none⟩ (.slice E1 s1.length n1)).setCell ⟨g9, 2, none⟩ (.slice E2 s2.length n2)).setCell ⟨g9, 3, none⟩ (.slice E3 s3.length n3))) ?hg ?ho ?hn ?hr ?_; (case ho => rfl); (case hg => rfl); (case hn => rfl); (case hr => (have hs0_ := (blk_cell BK9.out 0).trans rfl; have hf0_ := blk_frozen BK9.out 0; have hs1_ := (blk_cell BK9.out 1).trans rfl; have hf1_ := blk_frozen BK9.out 1; have hs2_ := (blk_cell BK9.out 2).trans rfl; have hf2_ := blk_frozen BK9.out 2; have hs3_ := (blk_cell BK9.out 3).trans rfl; have hf3_ := blk_frozen BK9.out 3;(try clear hz2_); have hz2_ := zc4 BK2.out; (try clear hz4_); have hz4_ := zc4 BK4.out; (try clear hz6_); have hz6_ := zc4 BK6.out; first | (go_simp; done) | (go_simp; rfl))); intro wa_ hw_; have HK_ := set4_kept hw_; have BKn := aM (set4_blk hw_ BK9.out rfl); have HBn := aM (set4_below hw_ HB.out GE9.out); replace HWN := aM (((HWN.out.types BK9.out (by decide) (by decide)).kept HK_ (fun _ h_ => h_.2)).mono (ok' := fun k_ => wr.heap.size ≤ k_) (fun _ h_ => h_.1)); replace HM := aM (Kd.R_mono (Kd.R_kept (Kd.R_types HM.out BK9.out (by decide)) HK_ (fun _ h_ => h_.2)) (fun _ h_ => h_.1)); replace HD := aM (Kd.R_mono (Kd.R_kept (Kd.R_types HD.out BK9.out (by decide)) HK_ (fun _ h_ => h_.2)) (fun _ h_ => h_.1)); replace Zt := aM (Nat.le_trans Zt.out HK_.1); replace BK2 := aM (blk_kept BK2.out HK_ (N2_9.out)); replace BK4 := aM (blk_kept BK4.out HK_ (N4_9.out)); replace BK6 := aM (blk_kept BK6.out HK_ (N6_9.out)); clear hw_ BK9 HB; have BK9 := BKn; have HB := HBn; clear BKn HBn HK_; (try clear hz2_); have hz2_ := zc4 BK2.out; (try clear hz4_); have hz4_ := zc4 BK4.out; (try clear hz6_); have hz6_ := zc4 BK6.out; (try clear hz9_); have hz9_ := zc4 BK9.out;) | ((with_reducible refine gate_store (t := 25) (p := 6) rfl ?_); refine store_event (t := 25) (p := 6) (v := ?vo18_) (w1 := ((((wa_.setCell ⟨g6, 0, none⟩ (.int .i64 s0)).setCell ⟨g6, 1, none⟩ (.slice E1 s1.length n1)).setCell ⟨g6, 2, none⟩ (.slice E2 s2.length n2)).setCell ⟨g6, 3, none⟩ (.slice E3 s3.length n3))) ?hg ?ho ?hn ?hr ?_; (case ho => rfl); (case hg => rfl); (case hn => rfl); (case hr => (have hs0_ := (blk_cell BK6.out 0).trans rfl; have hf0_ := blk_frozen BK6.out 0; have hs1_ := (blk_cell BK6.out 1).trans rfl; have hf1_ := blk_frozen BK6.out 1; have hs2_ := (blk_cell BK6.out 2).trans rfl; have hf2_ := blk_frozen BK6.out 2; have hs3_ := (blk_cell BK6.out 3).trans rfl; have hf3_ := blk_frozen BK6.out 3;(try clear hz2_); have hz2_ := zc4 BK2.out; (try clear hz4_); have hz4_ := zc4 BK4.out; have hz9q_ := zc4 BK9.out;  first | (go_simp; done) | (go_simp; rfl))); intro wb_ hw_; have HK_ := set4_kept hw_; have BKn := aM (set4_blk hw_ BK6.out rfl); have HBn := aM (set4_below hw_ HB.out GE6.out); replace HWN := aM (((HWN.out.types BK6.out (by decide) (by decide)).kept HK_ (fun _ h_ => h_.2)).mono (ok' := fun k_ => wr.heap.size ≤ k_ ∧ k_ ≠ g6) (fun _ h_ => h_)); replace HM := aM (Kd.R_mono (Kd.R_kept (Kd.R_types HM.out BK6.out (by decide)) HK_ (fun _ h_ => h_.2)) (fun _ h_ => h_.1)); replace HD := aM (Kd.R_mono (Kd.R_kept (Kd.R_types HD.out BK6.out (by decide)) HK_ (fun _ h_ => h_.2)) (fun _ h_ => h_.1)); replace Zt := aM (Nat.le_trans Zt.out HK_.1); replace BK2 := aM (blk_kept BK2.out HK_ (N2_6.out)); replace BK4 := aM (blk_kept BK4.out HK_ (N4_6.out)); replace BK9 := aM (blk_kept BK9.out HK_ (fun e_ => N6_9.out (Eq.symm e_))); clear hw_ BK6 HB; have BK6 := BKn; have HB := HBn; clear BKn HBn HK_; (try clear hz2_); have hz2_ := zc4 BK2.out; (try clear hz4_); have hz4_ := zc4 BK4.out; (try clear hz6_); have hz6_ := zc4 BK6.out;) | ((with_reducible refine gate_builtin (b := .append) (xs := #[.tmp 30, .tmp 31]) rfl ?_); at_builtin; refine Kd.R_append_rows k46 (w0 := w) w.heap.size rfl (.tmp 30) (.tmp 31) 23 46 (.agg #[(.int .i64 0), (.int .i64 0), (.int .i64 0)]) 24 rfl Try.underlying23 info46 rfl (by decide) (by omega) (.slice Ad q5.length cd) q5 s5 _ _ _ (fun k => PD k ∨ wb_.heap.size ≤ k) (fun _ => False) rfl rfl ?aO ?aR (fun _ _ h => h) (fun _ h => h.elim) ?aF ?aB ?aS ?aL ?_; (case aO => exact (Kd.R_mono HD.out (fun _ h_ => .inl h_))); (case aR => exact (Kd.R_reads' HM.out).2.2); (case aF => exact (fun _ h_ => .inr h_)); (case aB => exact HB.out); (case aS => exact HB.out.size); (case aL => (have h1_ := HLQ.out; omega)); intro vn wc_ ho hb hg hat; clear hat; have HKa := Kept.of_grown hg (Kept.refl wb_ PD) (fun k_ hk_ => .inl (HD.out.1 k_ hk_)); have hbw_ : ∀ k, ((wr.heap.size ≤ k ∧ k ≠ g6) ∧ k < wb_.heap.size) ∨ PD k ∨ False → n0 ≤ k ∧ k < wb_.heap.size ∧ k ≠ g6 := fun k_ h_ => (by have a_ := HN0.out; have b_ := HNW.out; have c_ := Zt.out; rcases h_ with h_ | h_ | h_; exact ⟨by omega, h_.2, h_.1.2⟩; exact ⟨(HBB.out k_ (.inr (.inl h_))).1, by have d_ := (HBB.out k_ (.inr (.inl h_))).2.1; omega, (HBB.out k_ (.inr (.inl h_))).2.2⟩; exact h_.elim); have HTn : Aside0 (TI s0 g6 n0 w.heap.size wc_ s1 s2 s3 (q5 ++ s5) vn [] (.slice none 0 0)) := aM (TI.due ⟨_, PD, fun _ => False, ⟨_, _, _, BK6.out, HWN.out.bound.mono (ok' := fun k => (wr.heap.size ≤ k ∧ k ≠ g6) ∧ k < wb_.heap.size) (fun _ h_ => ⟨h_.1, h_.2.2.1⟩)⟩, Kd.R_nil _ _ _ _ _, ⟨fun k_ h_ h2_ => (by have a_ := (HBB.out k_ (.inr (.inl h2_))).2.1; omega), fun _ _ h_ => h_, fun _ _ h_ => h_⟩, hbw_, ho, HKa⟩ (Nat.le_trans HN0.out (Nat.le_trans HNW.out Zt.out))); replace BK2 := aM (blk_kept BK2.out HKa (fun h_ => by have a_ := (HBB.out g2 (.inr (.inl h_))).1; have b_ := F2.out; omega)); replace BK4 := aM (blk_kept BK4.out HKa (fun h_ => by have a_ := (HBB.out g4 (.inr (.inl h_))).1; have b_ := F4.out; omega)); have HNN : Aside0 (w14_.heap.size ≤ wc_.heap.size) := ⟨Nat.le_trans (Nat.le_trans HNW.out Zt.out) HKa.1⟩; clear HB HD hbw_ HM HWN BK6 BK9; have HB := aM hb; clear ho hb hg HKa))
    go_roundg (t.toNat - (j + 1))
    case measure => have a_ := CJ.out; have b_ := HGK.out; omega
    case rel => exact ⟨j + 1, s0, s1, s2, s3, q5 ++ s5, by rw [← EJ.out], by have a_ := CJ.out; omega, Nat.le_refl _, HAN, HTn, BK2, BK4, HB, HNN⟩
   ·rw [if_neg g3_] at HA2
    exact absurd HA2 (by simp)
  ·have hje : t.toNat - j = 0 := by have := HJ.out; omega
   have HA2 := HA.out
   rw [hje] at HA2
   simp only [spec_Advance.l, Option.some.injEq, Prod.mk.injEq] at HA2
   obtain ⟨rfl, rfl, rfl, rfl, rfl⟩ := HA2
   have pj1 := eq_false cj
   have pj2 : decide ((j : Int) < t) = false := dF cj
   clear cj hje HA
   go_wp2_with (first | ((with_reducible refine gate_store (t := 25) (p := 4) rfl ?_); refine store_event (t := 25) (p := 4) (v := ?vo19_) (w1 := ((((wr.setCell ⟨g4, 0, none⟩ (.int .i64 q0)).setCell ⟨g4, 1, none⟩ (.slice D1 q1.length p1)).setCell ⟨g4, 2, none⟩ (.slice D2 q2.length p2)).setCell ⟨g4, 3, none⟩ (.slice D3 q3.length p3))) ?hg ?ho ?hn ?hr ?_; (case ho => rfl); (case hg => rfl); (case hn => rfl); (case hr => (have hs0_ := (blk_cell BK4.out 0).trans rfl; have hf0_ := blk_frozen BK4.out 0; have hs1_ := (blk_cell BK4.out 1).trans rfl; have hf1_ := blk_frozen BK4.out 1; have hs2_ := (blk_cell BK4.out 2).trans rfl; have hf2_ := blk_frozen BK4.out 2; have hs3_ := (blk_cell BK4.out 3).trans rfl; have hf3_ := blk_frozen BK4.out 3;(try clear hz2_); have hz2_ := zc4 BK2.out; (try clear hz6_); have hz6_ := zc4 BK6.out; first | (go_simp; done) | (go_simp; rfl))); intro wF hw_; have HK_ := set4_kept hw_; have BKn := aM (set4_blk hw_ BK4.out rfl); have HBn := aM (set4_below hw_ HB.out GE4.out); have HF := aM ((HWR.out.types BK4.out (by decide) (by decide)).kept HK_ (fun _ h_ => h_.2)); replace HD := aM (Kd.R_kept (Kd.R_types HD.out BK4.out (by decide)) HK_ (fun _ h_ => h_.2)); clear hw_ BK4 HB; have BK4 := BKn; have HB := HBn; clear BKn HBn HK_))
   refine bodyPost_ret (results_ct rfl _ _ g4 25 #[.int .i64 q0, .slice D1 q1.length p1, .slice D2 q2.length p2, .slice D3 q3.length p3] (0, 0) _ rfl (by exact BK4.out) Try.underlying25 rfl (by kernel_rfl)) rfl ?_
   exact ⟨_, _, _, _, _, _, rfl, HF.out, HD.out, fun k_ h_ h2_ => HXX.out k_ h_.1 h2_.1, HB.out⟩
theorem spec_Advance.callsW (k : Nat) (a : Int) (A1 : Option Addr) (c1 : Nat) (l1 : List (List S46)) (A2 : Option Addr) (c2 : Nat) (l2 : List (List S46)) (A3 : Option Addr) (c3 : Nat) (l3 : List S46) (t : Int) (r1 : Int) (r2 r3 : List (List S46)) (r4 r5 : List S46) (w : World) (hr1 : Kd.C (Kd.slice 46 k46) w A1 l1.length l1) (hc1 : l1.length ≤ c1) (hr2 : Kd.C (Kd.slice 46 k46) w A2 l2.length l2) (hc2 : l2.length ≤ c2) (hr3 : Kd.C k46 w A3 l3.length l3) (hc3 : l3.length ≤ c3) (h : spec_Advance.f k a l1 l2 l3 t = some (r1, r2, r3, r4, r5)) :
  Calls Try.prog 38 #[.agg #[.int .i64 a, .slice A1 l1.length c1, .slice A2 l2.length c2, .slice A3 l3.length c3], .int .i64 t] w fun e w' => ∃ (v1_ v2_ v3_ v4_ : Value) (PW PD : Nat → Prop), e = .returned (.tuple #[.agg #[.int .i64 r1, v1_, v2_, v3_], v4_]) ∧ WR w' w.heap.size PW v1_ v2_ v3_ r2 r3 r4 ∧ Kd.R k46 46 w' w.heap.size PD v4_ r5 ∧ (∀ k, PW k → ¬ PD k) ∧ Below w.heap.size w w' := by
 unfold spec_Advance.f at h
 obtain ⟨⟨y0, y1, y2, y3⟩, ⟨hac⟩, hh⟩ := zO h
 clear h
 have h := hh
 clear hh
 simp only at h
 by_cases ey : y0 = a
 ·rw [if_pos ey] at h
  subst ey
  obtain ⟨u, ⟨haw⟩, h⟩ := zO h
  cases u with
  | false =>
   rw [if_neg (by simp)] at h
   simp only [Option.some.injEq, Prod.mk.injEq] at h
   obtain ⟨rfl, rfl, rfl, rfl, rfl⟩ := h
   exact spec_Advance.stay k A1 c1 l1 A2 c2 l2 A3 c3 l3 y0 y1 y2 y3 t w hr1 hc1 hr2 hc2 hr3 hc3 hac haw
  | true =>
   rw [if_pos rfl] at h
   have hin : 0 ≤ t ∧ t ≤ 200 := by
    unfold spec_l1In.f at haw
    split at haw
    ·rename_i hc
     simp only [Option.some.injEq, decide_eq_true_eq] at haw
     exact ⟨hc, haw⟩
    ·exact absurd haw (by simp)
   exact spec_Advance.run k A1 c1 l1 A2 c2 l2 A3 c3 l3 y0 y1 y2 y3 t w hr1 hc1 hr2 hc2 hr3 hc3 hac haw hin.1 hin.2 r1 r2 r3 r4 r5 h
 ·rw [if_neg ey] at h
  exact absurd h (by simp)
theorem spec_Advance.calls (k : Nat) (a : Int) (A1 : Option Addr) (c1 : Nat) (l1 : List (List S46)) (A2 : Option Addr) (c2 : Nat) (l2 : List (List S46)) (A3 : Option Addr) (c3 : Nat) (l3 : List S46) (t : Int) (r1 : Int) (r2 r3 : List (List S46)) (r4 : List S46) (r5 : List S46) (w : World) (hr1 : Kd.C (Kd.slice 46 k46) w A1 l1.length l1) (hc1 : l1.length ≤ c1) (hr2 : Kd.C (Kd.slice 46 k46) w A2 l2.length l2) (hc2 : l2.length ≤ c2) (hr3 : Kd.C k46 w A3 l3.length l3) (hc3 : l3.length ≤ c3) (h : spec_Advance.f k a l1 l2 l3 t = some (r1, r2, r3, r4, r5)) :
  Calls Try.prog 38 #[.agg #[.int .i64 a, .slice A1 l1.length c1, .slice A2 l2.length c2, .slice A3 l3.length c3], .int .i64 t] w fun e w' => ∃ v1_ v2_ v3_ v4_ : Value, e = .returned (.tuple #[.agg #[.int .i64 r1, v1_, v2_, v3_], v4_]) ∧ Kd.S (Kd.slice 46 k46) 23 w' w.heap.size (fun k_ => some k_ ≠ (v2_ : Value).ownBlock ∧ some k_ ≠ (v3_ : Value).ownBlock ∧ some k_ ≠ (v4_ : Value).ownBlock) v1_ r2 ∧ Kd.S (Kd.slice 46 k46) 23 w' w.heap.size (fun k_ => some k_ ≠ (v1_ : Value).ownBlock ∧ some k_ ≠ (v3_ : Value).ownBlock ∧ some k_ ≠ (v4_ : Value).ownBlock) v2_ r3 ∧ Kd.R k46 46 w' w.heap.size (fun k_ => some k_ ≠ (v4_ : Value).ownBlock) v3_ r4 ∧ Kd.R k46 46 w' w.heap.size (fun k_ => some k_ ≠ (v3_ : Value).ownBlock) v4_ r5 ∧ Below w.heap.size w w' := by
 refine (spec_Advance.callsW k a A1 c1 l1 A2 c2 l2 A3 c3 l3 t r1 r2 r3 r4 r5 w hr1 hc1 hr2 hc2 hr3 hc3 h).mono ?_
 rintro e w' ⟨v1, v2, v3, v4, PW, PD, rfl, hw, hd, hx, hb⟩
 have o4 := hd.1
 obtain ⟨s1, s2, s3⟩ := hw.split
 have o3 := s3.1
 exact ⟨v1, v2, v3, v4, rfl, Kd.S_mono s1 (fun k_ h => ⟨h.2.1, h.2.2, fun e => hx k_ h.1 (o4 k_ e.symm)⟩), Kd.S_mono s2 (fun k_ h => ⟨h.2.1, h.2.2, fun e => hx k_ h.1 (o4 k_ e.symm)⟩), Kd.R_mono s3 (fun k_ h e => hx k_ h.1 (o4 k_ e.symm)), Kd.R_mono hd (fun k_ h e => hx k_ (o3 k_ e.symm).1 h), hb⟩

open Go.Proofs.YtggenhomnbnodaaW.PrintWords renaming blk_drewN → bN, blk_drew → bD, blk_alloc → bA, blk_cell → bC, blk_below → bB, below_set → bS
def impl_copySlots.l0 : Nat → List (List (S46)) → List (List (S46)) → Int → Int → Option ((List (List (S46))))
 | 0, _, _, _, _ => none
 | k + 1, x3, x6, x7, x8 => if x8 < x7 then (if 0 ≤ x8 then (if x8 < (x6.length : Int) then (if ([] : List (S46)).length + (rd_L2 x6 x8).length < 5864062014805 then (if x3.length < 5864062014805 then (impl_copySlots.l0 k (x3 ++ [(([] : List (S46)) ++ (rd_L2 x6 x8))]) x6 x7 (wrap64 (x8 + 1))) else (none)) else (none)) else (none)) else (none)) else (some x3)
def impl_copySlots.f (k : Nat) (l0 : List (List (S46))) : Option ((List (List (S46)))) := impl_copySlots.l0 k ([] : List (List (S46))) l0 (l0.length : Int) 0
set_option maxHeartbeats 8000000 in
set_option maxRecDepth 100000 in
theorem impl_copySlots.calls (k : Nat) (A0 : Option Addr) (c0 : Nat) (l0 : List (List (S46))) (r : List (List (S46))) (w : World) (hr0 : Kd.C (Kd.slice 46 k46) w A0 l0.length l0) (hc0 : l0.length ≤ c0) (h : impl_copySlots.f k l0 = some r) :
  Calls Try.prog 92 #[.slice A0 l0.length c0] w fun e w' => ∃ v0_ : Value, e = .returned (v0_) ∧ Kd.S (Kd.slice 46 k46) 23 w' w.heap.size (fun _ => True) v0_ r ∧ Below w.heap.size w w' := by
 have HR0 := aM hr0
 have HC0 := aM hc0
 clear hr0 hc0
 have HB := aM (Below.refl w.heap.size w)
 unfold impl_copySlots.f at h; have H := h
 clear h
 have H' := aM H
 clear H
 go_enter Try.func92, Try.ntmps92
 go_wp2
 go_loopg [3, 8] k (fun kq v3 v8 w' => ∃ (x3_1 : List (List (S46))) (x8_1 : Int), v8 = .int .i64 x8_1 ∧ Aside0 (impl_copySlots.l0 kq x3_1 l0 (l0.length : Int) x8_1 = some r) ∧ Aside0 (kq ≤ k) ∧ Aside0 (Kd.S (Kd.slice 46 k46) 23 w' w.heap.size (fun _ => True) v3 x3_1) ∧ Aside0 (Below w.heap.size w w'))
 case atStart => exact ⟨(([] : List (List (S46)))), (0), zV, H', ⟨Nat.le_refl _⟩, ⟨by first | exact Kd.S_nil _ _ _ _ _ | exact Kd.N_nil _ _ _ _ _ | exact Kd.V_nil _ _ _ _ _ | exact Kd.Q_nil _ _ _ _ _ | exact Kd.R_nil _ _ _ _ _⟩, ⟨zL HB.out⟩⟩
 case round =>
  clear H'
  obtain ⟨x3_1, x8_1, rfl, HA, HK1, HO_3, HB⟩ := hrel
  cases gk with
  | zero => exact absurd HA.out (by simp [impl_copySlots.l0])
  | succ k1 =>
   have H := HA.out
   clear HA
   simp only [impl_copySlots.l0] at H
   by_cases c2 : x8_1 < (l0.length : Int)
   ·rw [if_pos c2] at H
    have c2b0 := dT c2
    clear c2
    by_cases c3 : 0 ≤ x8_1
    ·rw [if_pos c3] at H
     have c3b0 := dT c3
     clear c3
     by_cases c4 : x8_1 < (l0.length : Int)
     ·rw [if_pos c4] at H
      have c4b0 := dT c4
      clear c4
      by_cases c5 : ([] : List (S46)).length + (rd_L2 l0 x8_1).length < 5864062014805
      ·rw [if_pos c5] at H
       have LMc5 := aM c5
       clear c5
       obtain ⟨y181, hy181⟩ : ∃ y_ : List (S46), y_ = (([] : List (S46)) ++ (rd_L2 l0 x8_1)) := ⟨_, rfl⟩
       replace H : (if x3_1.length < 5864062014805 then (impl_copySlots.l0 k1 (x3_1 ++ [y181]) l0 (l0.length : Int) (wrap64 (x8_1 + 1))) else (none)) = some r := by first | (rw [hy181]; with_reducible exact H) | (have H2_ := (Option.bind_some _ _).symm.trans H; rw [hy181]; with_reducible exact H2_) | (have H2_ := (Option.bind_some _ _).symm.trans H; with_reducible exact H2_) | with_reducible exact H | (rw [hy181]; exact H) | exact H
       have Ny181 := aM hy181
       clear hy181
       by_cases c6 : x3_1.length < 5864062014805
       ·rw [if_pos c6] at H
        have LMc6 := aM c6
        clear c6
        generalize hy184 : (x3_1 ++ [y181]) = y184 at H; (try rw [Option.bind_some] at H); have Ny184 := aM hy184.symm; clear hy184
        have H' := aM H
        clear H
        have p180 : 0 ≤ (x8_1 : Int) := zD
        have q180 : x8_1 < (l0.length : Int) := zD
        obtain ⟨ad180, A180_0, c180_0, e180, hx180_0, hl180_0, hi180_0⟩ := at_L2 HR0.out x8_1 p180 q180
        cases e180
        replace hx180_0 := zh HB.out hx180_0
        have HR180_0 := aM hi180_0
        have HC180_0 := aM hl180_0
        clear hi180_0 hl180_0
        replace p180 := eq_true p180
        replace q180 := eq_true q180
        go_wp2_with (first | ((with_reducible refine gate_builtin (b := .append) (xs := #[.const (.slice none 0 0), .tmp 13]) rfl ?_); at_builtin; refine Kd.R_append_rows k46 (w0 := w) w.heap.size rfl (.const (.slice none 0 0)) (.tmp 13) 23 46 (.agg #[(.int .i64 0), (.int .i64 0), (.int .i64 0)]) 24 rfl Try.underlying23 info46 rfl (by decide) (by omega) (.slice none 0 0) ([] : List (S46)) (rd_L2 l0 x8_1) _ _ _ (fun _ => True) (fun _ => False) rfl rfl ?aO ?aR (fun _ _ h => h) (fun _ h => h.elim) ?aF ?aB ?aS ?aL ?_; (case aR => repeat (first | exact (Kd.C_below HR180_0.out HB.out) | (with_reducible refine Kd.C_alloc ?_ _) | (with_reducible refine Kd.C_drewN ?_ _) | (with_reducible refine Kd.C_drew ?_))); (case aB => exact (zL HB.out)); (case aF => exact (fun _ _ => trivial)); (case aO => exact ((Kd.R_nil _ _ _ _ (fun _ => True)))); (case aS => exact (below_size (zL HB.out))); (case aL => have := LMc5.out; omega); intro v182 w7 ho hb hg hat; rw [← Ny181.out] at ho; replace HO_3 := aM (Kd.S_after (Kd.S_apart_nil (zS HO_3.out)) hg hat); replace HB := aM hb; have HO183 := aM (ho); clear ho hb hg hat; obtain ⟨Ao9, co9, eo9⟩ := Kd.R_slice HO183.out; subst eo9) | ((with_reducible refine gate_builtin (b := .append) (xs := #[.tmp 12, .tmp 15]) rfl ?_); at_builtin; refine Kd.S_append (Kd.slice 46 k46) (w0 := w) w.heap.size rfl (.tmp 12) (.tmp 15) 22 23 (.slice none 0 0) 24 rfl Try.underlying22 info23 rfl (by decide) (by omega) u3 x3_1 y181 [.slice Ao9 y181.length co9] (fun _ => True) (fun k_ => some k_ = (.slice Ao9 y181.length co9 : Value).ownBlock) rfl rfl ?aP (fun k_ hk_ => ((Kd.R_mono (ok' := fun k_ => ((fun _ => True)) k_ ∧ some k_ ≠ (u3 : Value).ownBlock) (Kd.R_apart' (HO183.out) (Kd.S_typed HO_3.out) (by decide)) (fun k_ hk => ⟨trivial, hk.2⟩))).1 k_ hk_.symm) ?aF ?aO ?aB ?aS ?aL ?_; (case aP => exact Kd.M_row (Kd.R_mono (Kd.R_tight rfl (Kd.R_mono (ok' := fun k_ => ((fun _ => True)) k_ ∧ some k_ ≠ (u3 : Value).ownBlock) (Kd.R_apart' (HO183.out) (Kd.S_typed HO_3.out) (by decide)) (fun k_ hk => ⟨trivial, hk.2⟩))) (fun _ h_ => h_))); (case aB => exact (zL HB.out)); (case aF => exact (fun _ _ => trivial)); (case aO => exact (zSm HO_3.out (fun k_ hk => ⟨trivial, fun e_ => hk.2 e_⟩))); (case aS => exact (below_size (zL HB.out))); (case aL => have := LMc6.out; omega); intro v185 w8 ho hb hg hat; rw [← Ny184.out] at ho; replace HB := aM hb; have HO186 := aM (ho); clear HO_3 HO183; clear ho hb hg hat))
        go_roundg k1
        case measure => have := HK1.out; omega
        case rel => exact ⟨(y184), (wrap64 (x8_1 + 1)), zV, H', ⟨by have := HK1.out; omega⟩, ⟨zS HO186.out⟩, ⟨zL HB.out⟩⟩
       ·rw [if_neg c6] at H
        exact absurd H (by simp)
      ·rw [if_neg c5] at H
       exact absurd H (by simp)
     ·rw [if_neg c4] at H
      exact absurd H (by simp)
    ·rw [if_neg c3] at H
     exact absurd H (by simp)
   ·rw [if_neg c2] at H
    have c2b0 := dF c2
    clear c2
    obtain rfl := Option.some.inj H
    go_wp2
    go_ret
    exact ⟨_, zW, zS HO_3.out, zL HB.out⟩

end Go.Proofs.Ytggenhomnbnodaa.QFnTimes
