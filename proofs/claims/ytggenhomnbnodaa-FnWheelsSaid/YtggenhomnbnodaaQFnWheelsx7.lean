/- What functions that the law reaches answer, with their walks. Conditions: those that each theorem names. -/
import Derived.Test.YtggenhomnbnodaaQFnWheelsx0
import Derived.Test.YtggenhomnbnodaaQFnWheelsx6
namespace Go.Proofs.Ytggenhomnbnodaa.QFnWheels
open Go.RowKit Go.Proofs.YtggenhomnbnodaaW.PrintWords Go.Proofs.YtggenhomnbnodaaW.PrintLast Go.Proofs.YtggenhomnbnodaaW.PrintMore
attribute [local go_sem] max2_int min2_int max_two min_two max_three min_three max_four min_four
set_option linter.unusedVariables false
set_option linter.unusedSimpArgs false

def WR (w : World) (base : Nat) (ok : Nat → Prop) (v1 v2 v3 : Value) (l1 l2 : List (List S46)) (l3 : List S46) : Prop :=
 ∃ P1 P2 P3 : Nat → Prop, ((∀ k, P1 k → ok k) ∧ (∀ k, P2 k → ok k) ∧ (∀ k, P3 k → ok k)) ∧ ((∀ k, P1 k → ¬ P2 k) ∧ (∀ k, P1 k → ¬ P3 k) ∧ (∀ k, P2 k → ¬ P3 k)) ∧
  Kd.S (Kd.slice 46 k46) 23 w base P1 v1 l1 ∧ Kd.S (Kd.slice 46 k46) 23 w base P2 v2 l2 ∧ Kd.R k46 46 w base P3 v3 l3
section
variable {w w1 : World} {base base' : Nat} {ok ok' S : Nat → Prop} {v1 v2 v3 : Value} {l1 l2 : List (List S46)} {l3 : List S46}
theorem WR.mono (h : WR w base ok v1 v2 v3 l1 l2 l3) (hk : ∀ k, ok k → ok' k) : WR w base ok' v1 v2 v3 l1 l2 l3 := by
 obtain ⟨P1, P2, P3, ⟨a, b, c⟩, d, s⟩ := h
 exact ⟨P1, P2, P3, ⟨fun k h => hk k (a k h), fun k h => hk k (b k h), fun k h => hk k (c k h)⟩, d, s⟩
theorem WR.bound (h : WR w base ok v1 v2 v3 l1 l2 l3) : WR w base (fun k => ok k ∧ base ≤ k ∧ k < w.heap.size ∧ ∃ q, q ∈ [23, 46] ∧ ∃ cells, w.heap[k]? = some (.cells cells q (0, 0))) v1 v2 v3 l1 l2 l3 := by
 obtain ⟨P1, P2, P3, ⟨a, b, c⟩, ⟨d1, d2, d3⟩, s1, s2, s3⟩ := h
 refine ⟨_, _, _, ⟨fun k h => ?_, fun k h => ?_, fun k h => ?_⟩, ⟨fun k h h2 => d1 k h.1 h2.1, fun k h h2 => d2 k h.1 h2.1, fun k h h2 => d3 k h.1 h2.1⟩, Kd.S_bound s1, Kd.S_bound s2, Kd.R_bound s3⟩
 ·obtain ⟨h1, h2, h3, q, hq, hc⟩ := h
  exact ⟨a k h1, h2, h3, q, hq, hc⟩
 ·obtain ⟨h1, h2, h3, q, hq, hc⟩ := h
  exact ⟨b k h1, h2, h3, q, hq, hc⟩
 ·obtain ⟨h1, h2, h3, q, hq, hc⟩ := h
  exact ⟨c k h1, h2, h3, q, List.mem_cons_of_mem _ hq, hc⟩
theorem WR.step (h : WR w base ok v1 v2 v3 l1 l2 l3) (hm : ∀ k, ok k → k < w.heap.size → w1.heap[k]? = w.heap[k]?) : WR w1 base ok v1 v2 v3 l1 l2 l3 := by
 obtain ⟨P1, P2, P3, ⟨a, b, c⟩, d, s1, s2, s3⟩ := h
 exact ⟨P1, P2, P3, ⟨a, b, c⟩, d, Kd.S_step s1 (fun k h => hm k (a k h)), Kd.S_step s2 (fun k h => hm k (b k h)), Kd.R_step s3 (fun k h => hm k (c k h))⟩
theorem WR.below (h : WR w base ok v1 v2 v3 l1 l2 l3) (hb : Below w.heap.size w w1) : WR w1 base ok v1 v2 v3 l1 l2 l3 := h.step (fun k _ hk => hb.block k hk)
theorem WR.kept (h : WR w base ok v1 v2 v3 l1 l2 l3) (hk : Kept w w1 S) (hne : ∀ k, ok k → ¬ S k) : WR w1 base ok v1 v2 v3 l1 l2 l3 := h.step (fun k ho hlt => hk.2 k hlt (hne k ho))
theorem WR.lower (h : WR w base ok v1 v2 v3 l1 l2 l3) (hb : base' ≤ base) : WR w base' ok v1 v2 v3 l1 l2 l3 := by
 obtain ⟨P1, P2, P3, a, d, s1, s2, s3⟩ := h
 exact ⟨P1, P2, P3, a, d, Kd.S_lower s1 hb, Kd.S_lower s2 hb, Kd.R_lower s3 hb⟩
theorem WR.drew (h : WR w base ok v1 v2 v3 l1 l2 l3) : WR w.drew base ok v1 v2 v3 l1 l2 l3 := h.below (below_drew (Below.refl _ _))
theorem WR.drewN (h : WR w base ok v1 v2 v3 l1 l2 l3) (n : Nat) : WR (w.drewN n) base ok v1 v2 v3 l1 l2 l3 := h.below (pw_below_drewN (Below.refl _ _) n)
theorem WR.types (h : WR w base ok v1 v2 v3 l1 l2 l3) {g t : Nat} {cells : Array Value} (hb : w.heap[g]? = some (.cells cells t (0, 0))) (h1 : t ≠ 23) (h2 : t ≠ 46) : WR w base (fun k => ok k ∧ k ≠ g) v1 v2 v3 l1 l2 l3 := by
 refine h.bound.mono (fun k hk => ⟨hk.1, fun e => ?_⟩)
 obtain ⟨_, _, _, q, hq, cs, hc⟩ := hk
 subst e
 rw [hb] at hc
 injection hc with hc
 injection hc with _ hc
 rw [← hc] at hq
 simp [h1, h2] at hq
theorem WR.far (h : WR w base ok v1 v2 v3 l1 l2 l3) {p : Addr} (hok : ∀ k, ok k → k ≠ p.block) (u : Value) : WR (w.setCell p u) base ok v1 v2 v3 l1 l2 l3 := h.step (fun k ho _ => Below.heap_setCell w p u k (hok k ho))
theorem WR.reads (h : WR w base ok v1 v2 v3 l1 l2 l3) : ∃ A1 c1 A2 c2 A3 c3, v1 = .slice A1 l1.length c1 ∧ v2 = .slice A2 l2.length c2 ∧ v3 = .slice A3 l3.length c3 ∧ (l1.length ≤ c1 ∧ l2.length ≤ c2 ∧ l3.length ≤ c3) ∧
  (Kd.slice 46 k46).C w A1 l1.length l1 ∧ (Kd.slice 46 k46).C w A2 l2.length l2 ∧ k46.C w A3 l3.length l3 := by
 obtain ⟨P1, P2, P3, _, _, s1, s2, s3⟩ := h
 obtain ⟨A1, c1, e1, b1, r1⟩ := Kd.S_reads s1
 obtain ⟨A2, c2, e2, b2, r2⟩ := Kd.S_reads s2
 obtain ⟨A3, c3, e3, b3, r3⟩ := Kd.R_reads s3
 exact ⟨A1, c1, A2, c2, A3, c3, e1, e2, e3, ⟨b1, b2, b3⟩, r1, r2, r3⟩
theorem WR.split (h : WR w base ok v1 v2 v3 l1 l2 l3) : Kd.S (Kd.slice 46 k46) 23 w base (fun k_ => ok k_ ∧ some k_ ≠ (v2 : Value).ownBlock ∧ some k_ ≠ (v3 : Value).ownBlock) v1 l1 ∧ Kd.S (Kd.slice 46 k46) 23 w base (fun k_ => ok k_ ∧ some k_ ≠ (v1 : Value).ownBlock ∧ some k_ ≠ (v3 : Value).ownBlock) v2 l2 ∧
  Kd.R k46 46 w base (fun k_ => ok k_ ∧ some k_ ≠ (v1 : Value).ownBlock ∧ some k_ ≠ (v2 : Value).ownBlock) v3 l3 := by
 obtain ⟨P1, P2, P3, ⟨a, b, c⟩, ⟨d1, d2, d3⟩, s1, s2, s3⟩ := h
 have o1 := (Kd.S_R s1).1
 have o2 := (Kd.S_R s2).1
 have o3 := s3.1
 exact ⟨Kd.S_mono s1 (fun k h => ⟨a k h, fun e => d1 k h (o2 k e.symm), fun e => d2 k h (o3 k e.symm)⟩), Kd.S_mono s2 (fun k h => ⟨b k h, fun e => d1 k (o1 k e.symm) h, fun e => d3 k h (o3 k e.symm)⟩), Kd.R_mono s3 (fun k h => ⟨c k h, fun e => d2 k (o1 k e.symm) h, fun e => d3 k (o2 k e.symm) h⟩)⟩
end
def WS (a : Int) (g base : Nat) (w : World) (ok : Nat → Prop) (l1 l2 : List (List S46)) (l3 : List S46) : Prop :=
 ∃ v1 v2 v3, w.heap[g]? = some (.cells #[.int .i64 a, v1, v2, v3] 25 (0, 0)) ∧ WR w base ok v1 v2 v3 l1 l2 l3
section
variable {w w1 : World} {base g : Nat} {a : Int} {ok ok' S : Nat → Prop} {l1 l2 : List (List S46)} {l3 : List S46}
theorem WS.mono (h : WS a g base w ok l1 l2 l3) (hk : ∀ k, ok k → ok' k) : WS a g base w ok' l1 l2 l3 := by
 obtain ⟨v1, v2, v3, hb, h⟩ := h
 exact ⟨v1, v2, v3, hb, h.mono hk⟩
theorem WS.below (h : WS a g base w ok l1 l2 l3) (hb : Below w.heap.size w w1) : WS a g base w1 ok l1 l2 l3 := by
 obtain ⟨v1, v2, v3, hg, h⟩ := h
 exact ⟨v1, v2, v3, blk_below hg hb, h.below hb⟩
theorem WS.kept (h : WS a g base w ok l1 l2 l3) (hk : Kept w w1 S) (hne : ∀ k, ok k → ¬ S k) (hg : ¬ S g) : WS a g base w1 ok l1 l2 l3 := by
 obtain ⟨v1, v2, v3, hb, h⟩ := h
 exact ⟨v1, v2, v3, blk_kept hb hk hg, h.kept hk hne⟩
theorem WS.bound (h : WS a g base w ok l1 l2 l3) : WS a g base w (fun k => (ok k ∧ k ≠ g) ∧ base ≤ k ∧ k < w.heap.size) l1 l2 l3 := by
 obtain ⟨v1, v2, v3, hb, h⟩ := h
 exact ⟨v1, v2, v3, hb, ((h.types hb (by decide) (by decide)).bound).mono (fun k hk => ⟨hk.1, hk.2.1, hk.2.2.1⟩)⟩
theorem WS.lt (h : WS a g base w ok l1 l2 l3) : g < w.heap.size := by
 obtain ⟨v1, v2, v3, hb, h⟩ := h
 exact blk_lt hb
end
section
variable {α : Type} {d : Kd α} {e et g n cap : Nat} {w W W1 : World} {base : Nat} {ok oki okp : Nat → Prop} {xs : List (List α)} {x' : List α} {i : Int} {c : List Value} {v1 : Value}
theorem slot_put (hH : Kd.H (Kd.slice et d) e W base ok (.slice (some ⟨g, 0, none⟩) n cap) xs i oki c) (h0 : 0 ≤ i) (h1 : i < n) (hR : d.R et W base okp v1 x') (hokp : ∀ k, okp k → oki k) (hne : ∀ k, okp k → k ≠ g) :
  Kd.S (Kd.slice et d) e (W.setCell ⟨g, i.toNat, none⟩ v1) base ok (.slice (some ⟨g, 0, none⟩) n cap) (xs.set i.toNat x') ∧ W.grownBy (W.setCell ⟨g, i.toNat, none⟩ v1) (some g) := by
 have hv := (Kd.R_val hR).2
 obtain ⟨_, _, _, hcl, _, _, _⟩ := Kd.H_raw hH h0 h1
 have hcl : c.length = 1 := hcl
 obtain ⟨h2, h3⟩ := Kd.H_seg hH h0 h1 (seg := [v1]) (j := 0) (by simp [Kd.slice]) (by simpa using hv)
 have e0 : W.setCells g (i.toNat * (Kd.slice et d).sz + 0) [v1] = W.setCell ⟨g, i.toNat, none⟩ v1 := by simp [Kd.slice, World.setCells]
 rw [e0] at h2 h3
 refine ⟨Kd.H_back h2 (okp := okp) ?_ hokp, h3⟩
 have e1 : c.take 0 ++ [v1] ++ c.drop (0 + [v1].length) = [v1] := by
  rw [List.drop_of_length_le (by simp [hcl])]; simp
 rw [e1]
 exact ⟨v1, rfl, Kd.R_step hR (fun k hk hlt => h3.block k hlt (fun he => hne k hk (by injection he)))⟩
end
section
variable {w wF : World} {base g : Nat} {a : Int} {ok P1 P2 P3 : Nat → Prop} {v1 v2 v3 v' : Value} {l1 l2 l' : List (List S46)} {l3 m' : List S46}
theorem ws_near (hbk : wF.heap[g]? = some (.cells #[.int .i64 a, v', v2, v3] 25 (0, 0))) (ho : (∀ k, P1 k → ok k ∧ k ≠ g) ∧ (∀ k, P2 k → ok k ∧ k ≠ g) ∧ (∀ k, P3 k → ok k ∧ k ≠ g)) (hd : (∀ k, P1 k → ¬ P2 k) ∧ (∀ k, P1 k → ¬ P3 k) ∧ (∀ k, P2 k → ¬ P3 k))
  (s1 : Kd.S (Kd.slice 46 k46) 23 wF base (fun k => P1 k ∨ w.heap.size ≤ k) v' l') (s2 : Kd.S (Kd.slice 46 k46) 23 w base P2 v2 l2) (s3 : Kd.R k46 46 w base P3 v3 l3) (hk : Kept w wF P1) : WS a g base wF (fun k => ok k ∨ w.heap.size ≤ k) l' l2 l3 := by
 obtain ⟨o1, o2, o3⟩ := ho
 obtain ⟨d1, d2, d3⟩ := hd
 refine ⟨v', v2, v3, hbk, _, fun k => P2 k ∧ k < w.heap.size, fun k => P3 k ∧ k < w.heap.size, ⟨fun k h => h.elim (fun h => .inl (o1 k h).1) .inr, fun k h => .inl (o2 k h.1).1, fun k h => .inl (o3 k h.1).1⟩, ⟨fun k h h2 => h.elim (fun h => d1 k h h2.1) (fun h => by have := h2.2; omega), fun k h h2 => h.elim (fun h => d2 k h h2.1) (fun h => by have := h2.2; omega), fun k h h2 => d3 k h.1 h2.1⟩, s1, ?_, ?_⟩
 ·exact Kd.S_kept (Kd.S_mono (Kd.S_bound s2) (fun k h => ⟨h.1, h.2.2.1⟩)) hk (fun k h h1 => d1 k h1 h.1)
 ·exact Kd.R_kept (Kd.R_mono (Kd.R_bound s3) (fun k h => ⟨h.1, h.2.2.1⟩)) hk (fun k h h1 => d2 k h1 h.1)
theorem ws_far (hbk : wF.heap[g]? = some (.cells #[.int .i64 a, v1, v', v3] 25 (0, 0))) (ho : (∀ k, P1 k → ok k ∧ k ≠ g) ∧ (∀ k, P2 k → ok k ∧ k ≠ g) ∧ (∀ k, P3 k → ok k ∧ k ≠ g)) (hd : (∀ k, P1 k → ¬ P2 k) ∧ (∀ k, P1 k → ¬ P3 k) ∧ (∀ k, P2 k → ¬ P3 k))
  (s2 : Kd.S (Kd.slice 46 k46) 23 wF base (fun k => P2 k ∨ w.heap.size ≤ k) v' l') (s1 : Kd.S (Kd.slice 46 k46) 23 w base P1 v1 l1) (s3 : Kd.R k46 46 w base P3 v3 l3) (hk : Kept w wF P2) : WS a g base wF (fun k => ok k ∨ w.heap.size ≤ k) l1 l' l3 := by
 obtain ⟨o1, o2, o3⟩ := ho
 obtain ⟨d1, d2, d3⟩ := hd
 refine ⟨v1, v', v3, hbk, fun k => P1 k ∧ k < w.heap.size, _, fun k => P3 k ∧ k < w.heap.size, ⟨fun k h => .inl (o1 k h.1).1, fun k h => h.elim (fun h => .inl (o2 k h).1) .inr, fun k h => .inl (o3 k h.1).1⟩, ⟨fun k h2 h => h.elim (fun h => d1 k h2.1 h) (fun h => by have := h2.2; omega), fun k h h2 => d2 k h.1 h2.1, fun k h h2 => h.elim (fun h => d3 k h h2.1) (fun h => by have := h2.2; omega)⟩, ?_, s2, ?_⟩
 ·exact Kd.S_kept (Kd.S_mono (Kd.S_bound s1) (fun k h => ⟨h.1, h.2.2.1⟩)) hk (fun k h h1 => d1 k h.1 h1)
 ·exact Kd.R_kept (Kd.R_mono (Kd.R_bound s3) (fun k h => ⟨h.1, h.2.2.1⟩)) hk (fun k h h1 => d3 k h1 h.1)
theorem ws_rest (hbk : wF.heap[g]? = some (.cells #[.int .i64 a, v1, v2, v'] 25 (0, 0))) (ho : (∀ k, P1 k → ok k ∧ k ≠ g) ∧ (∀ k, P2 k → ok k ∧ k ≠ g) ∧ (∀ k, P3 k → ok k ∧ k ≠ g)) (hd : (∀ k, P1 k → ¬ P2 k) ∧ (∀ k, P1 k → ¬ P3 k) ∧ (∀ k, P2 k → ¬ P3 k))
  (s3 : Kd.R k46 46 wF base (fun k => P3 k ∨ w.heap.size ≤ k) v' m') (s1 : Kd.S (Kd.slice 46 k46) 23 w base P1 v1 l1) (s2 : Kd.S (Kd.slice 46 k46) 23 w base P2 v2 l2) (hk : Kept w wF (fun k => P3 k ∨ k = g)) : WS a g base wF (fun k => ok k ∨ w.heap.size ≤ k) l1 l2 m' := by
 obtain ⟨o1, o2, o3⟩ := ho
 obtain ⟨d1, d2, d3⟩ := hd
 refine ⟨v1, v2, v', hbk, fun k => P1 k ∧ k < w.heap.size, fun k => P2 k ∧ k < w.heap.size, _, ⟨fun k h => .inl (o1 k h.1).1, fun k h => .inl (o2 k h.1).1, fun k h => h.elim (fun h => .inl (o3 k h).1) .inr⟩, ⟨fun k h h2 => d1 k h.1 h2.1, fun k h2 h => h.elim (fun h => d2 k h2.1 h) (fun h => by have := h2.2; omega), fun k h2 h => h.elim (fun h => d3 k h2.1 h) (fun h => by have := h2.2; omega)⟩, ?_, ?_, s3⟩
 ·exact Kd.S_kept (Kd.S_mono (Kd.S_bound s1) (fun k h => ⟨h.1, h.2.2.1⟩)) hk (fun k h h1 => h1.elim (fun h1 => d2 k h.1 h1) (fun h1 => (o1 k h.1).2 h1))
 ·exact Kd.S_kept (Kd.S_mono (Kd.S_bound s2) (fun k h => ⟨h.1, h.2.2.1⟩)) hk (fun k h h1 => h1.elim (fun h1 => d3 k h.1 h1) (fun h1 => (o2 k h.1).2 h1))
end
theorem zc3_ {w : World} {g : Nat} {t : TypeId} {a0 a1 a2 : Value} (h : w.heap[g]? = some (.cells #[a0, a1, a2] t (0, 0))) : w.cell? ⟨g, 0, none⟩ = some a0 ∧ w.cell? ⟨g, 1, none⟩ = some a1 ∧ w.cell? ⟨g, 2, none⟩ = some a2 := ⟨(blk_cell h 0).trans rfl, (blk_cell h 1).trans rfl, (blk_cell h 2).trans rfl⟩
section
variable {w w1 w0 : World} {g b : Nat} {u0 u1 u2 u3 : Value}
theorem set4_kept (e : w1 = (((w.setCell ⟨g, 0, none⟩ u0).setCell ⟨g, 1, none⟩ u1).setCell ⟨g, 2, none⟩ u2).setCell ⟨g, 3, none⟩ u3) : Kept w w1 (fun k => k = g) := by
 subst e
 exact ((((Kept.refl w (fun k => k = g)).setCell (p := ⟨g, 0, none⟩) (.inl rfl) _).setCell (p := ⟨g, 1, none⟩) (.inl rfl) _).setCell (p := ⟨g, 2, none⟩) (.inl rfl) _).setCell (p := ⟨g, 3, none⟩) (.inl rfl) _
theorem set4_below (e : w1 = (((w.setCell ⟨g, 0, none⟩ u0).setCell ⟨g, 1, none⟩ u1).setCell ⟨g, 2, none⟩ u2).setCell ⟨g, 3, none⟩ u3) (h : Below b w0 w) (hg : b ≤ g) : Below b w0 w1 := by
 subst e
 exact (((h.setCell hg _).setCell hg _).setCell hg _).setCell hg _
theorem set4_blk (e : w1 = (((w.setCell ⟨g, 0, none⟩ u0).setCell ⟨g, 1, none⟩ u1).setCell ⟨g, 2, none⟩ u2).setCell ⟨g, 3, none⟩ u3) {cs : Array Value} (h : w.heap[g]? = some (.cells cs 25 (0, 0))) (hs : cs.size = 4) : w1.heap[g]? = some (.cells #[u0, u1, u2, u3] 25 (0, 0)) := by
 subst e
 exact zp4 h hs
end
def spec_l8Copy.f (k : Nat) (a0_0 : Int) (l0_1 l0_2 : List (List S46)) (l0_3 : List S46) : Option (Int × List (List S46) × List (List S46) × List S46) :=
 (spec_l8Lists.f k l0_1).bind fun tB => ((spec_l8Lists.f k l0_2).bind fun tC => ((some (([] : List (S46)) : List (S46))).bind fun yA => (if yA.length + l0_3.length < 5864062014805 then (some (a0_0, tB, tC, (yA ++ l0_3))) else (none))))
def spec_l8Copy.T1 : Bool × List (List Nat × List Nat) := (true, [([], []), ([0], [0]), ([], []), ([2], [2]), ([3], [3]), ([], []), ([5], [5]), ([6, 4], [6]), ([], []), ([], []), ([9], [9]), ([8, 10, 7], [8, 10]), ([1, 4, 7, 11], [1, 4, 7, 11]), ([12, 11, 0, 1, 2, 3, 4, 5, 6, 7, 8, 9, 10, 11, 12], [12])])
def spec_l8Copy.B1 : List Nat := [0, 1, 0, 4, 12, 0, 32, 124, 0, 0, 512, 2044, 4095, 8191]
theorem spec_l8Copy.tab1 : rtab .any (opsOf Try.f72 1) = spec_l8Copy.T1 := by kernel_rfl
theorem spec_l8Copy.bits1 : waitsOk spec_l8Copy.T1.2 spec_l8Copy.B1 = true := by kernel_rfl
set_option maxHeartbeats 8000000 in
set_option maxRecDepth 100000 in
theorem spec_l8Copy.callsW (k : Nat) (a : Int) (A1 : Option Addr) (c1 : Nat) (l1 : List (List S46)) (A2 : Option Addr) (c2 : Nat) (l2 : List (List S46)) (A3 : Option Addr) (c3 : Nat) (l3 : List S46) (r1 : Int) (r2 r3 : List (List S46)) (r4 : List S46) (w : World) (hr1 : Kd.C (Kd.slice 46 k46) w A1 l1.length l1) (hc1 : l1.length ≤ c1) (hr2 : Kd.C (Kd.slice 46 k46) w A2 l2.length l2) (hc2 : l2.length ≤ c2) (hr3 : Kd.C k46 w A3 l3.length l3) (hc3 : l3.length ≤ c3) (h : spec_l8Copy.f k a l1 l2 l3 = some (r1, r2, r3, r4)) :
  Calls Try.prog 72 #[.agg #[.int .i64 a, .slice A1 l1.length c1, .slice A2 l2.length c2, .slice A3 l3.length c3]] w fun e w' => ∃ v1_ v2_ v3_ : Value, e = .returned (.agg #[.int .i64 r1, v1_, v2_, v3_]) ∧ WR w' w.heap.size (fun _ => True) v1_ v2_ v3_ r2 r3 r4 ∧ Below w.heap.size w w' := by
 have hu25 := Try.underlying25
 unfold spec_l8Copy.f at h
 obtain ⟨t1, A1_, h⟩ := zO h
 obtain ⟨t2, A2_, h⟩ := zO h
 try simp only [Option.bind_some] at h
 have hl3 : l3.length < 5864062014805 := by
  by_cases c : l3.length < 5864062014805
  ·exact c
  ·rw [if_neg (by simpa using c)] at h; exact absurd h (by simp)
 rw [if_pos (by simpa using hl3)] at h
 simp only [Option.some.injEq, Prod.mk.injEq, List.nil_append] at h
 obtain ⟨rfl, rfl, rfl, rfl⟩ := h
 have HR1 := aM hr1
 have HR2 := aM hr2
 have HR3 := aM hr3
 have HC1 := aM hc1
 have HC2 := aM hc2
 have HC3 := aM hc3
 have HL3 := aM hl3
 clear hr1 hr2 hr3 hc1 hc2 hc3 hl3
 go_enter Try.func72, Try.ntmps72
 try go_wp2_with (first | ((with_reducible refine gD 1 rfl ?_); refine bE 1 #[.int .i64 a, .slice A1 l1.length c1, .slice A2 l2.length c2, .slice A3 l3.length c3] 25 ?_; intro g1 hg w2 hbox hb; have BK1 := aM hbox; have HB := aM hb; clear hbox hb hg) | ((with_reducible refine gD 2 rfl ?_); refine bE 2 #[.int .i64 0, .slice none 0 0, .slice none 0 0, .slice none 0 0] 25 ?_; intro g2 hg w3 hbox hb; have BK2 := aM hbox; have NB := aM (zN BK1.o hg : g1 ≠ g2); have GE := aM (zg HB.o hg : w.heap.size ≤ g2); replace BK1 := zBB BK1 hb; replace HB := zLB HB.o hb; clear hbox hb hg))
 replace BK1 := zBD BK1
 replace BK2 := zBD BK2
 replace HB := zLD HB
 refine start_ (n := 14) (S := fun w' => w'.cell? ⟨g1, 0, none⟩ = some (.int .i64 a) ∧ w'.cell? ⟨g1, 1, none⟩ = some (.slice A1 l1.length c1) ∧ w'.cell? ⟨g1, 2, none⟩ = some (.slice A2 l2.length c2) ∧ w'.cell? ⟨g1, 3, none⟩ = some (.slice A3 l3.length c3)) (ds := [13]) (fB 14 0) (by kernel_rfl) rfl rfl ⟨(blk_cell BK1.o 0).trans rfl, (blk_cell BK1.o 1).trans rfl, (blk_cell BK1.o 2).trans rfl, (blk_cell BK1.o 3).trans rfl⟩ (fun hHeld => ?_); refine with_tabW spec_l8Copy.tab1 spec_l8Copy.bits1 (fun HT_ HW_ => ?_)
 generalize w3.drew = w4 at BK1 BK2 HB hHeld ⊢
 refine pY 0 3 (fB 14 1) HT_.o ?_
 refine pY 2 5 (fB 14 5) HT_.o ?_
 refine pY 5 8 (fB 14 37) HT_.o ?_
 refine pY 9 12 (fB 14 549) HT_.o ?_
 refine tY 1 4 (fB 14 551) HT_.o HW_.o hHeld ?_
 refine tY 3 6 (fB 14 559) HT_.o HW_.o hHeld ?_
 refine tY 6 9 (fB 14 623) HT_.o HW_.o hHeld ?_
 refine tY 10 13 (fB 14 1647) HT_.o HW_.o hHeld ?_
 refine join_ (σ := Value × Value × Value) 3 (fB 14 2047) (fun s_ => [(7, s_.1), (10, s_.2.1), (11, s_.2.2)]) (fun s_ w' => (w'.cell? ⟨g1, 0, none⟩ = some (.int .i64 a) ∧ w'.cell? ⟨g1, 1, none⟩ = some (.slice A1 l1.length c1) ∧ w'.cell? ⟨g1, 2, none⟩ = some (.slice A2 l2.length c2) ∧ w'.cell? ⟨g1, 3, none⟩ = some (.slice A3 l3.length c3)) ∧ (WR w' w.heap.size (fun _ => True) s_.1 s_.2.1 s_.2.2 t1 t2 []) ∧ (w'.heap[g1]? = some (.cells #[.int .i64 a, .slice A1 l1.length c1, .slice A2 l2.length c2, .slice A3 l3.length c3] 25 (0, 0))) ∧ (w'.heap[g2]? = some (.cells #[.int .i64 0, .slice none 0 0, .slice none 0 0, .slice none 0 0] 25 (0, 0))) ∧ Below w.heap.size w w') ?_ ?_
 rotate_left
 ·intro hCont
  refine two_ (i := 4) (j := 8) (Ni := some 7) (Nj := some 11) (fB 14 1663) (fB 14 1903) rfl rfl rfl rfl (two_of HT_.o (by kernel_rfl)) (by decide) (by decide) (fun K hK => ?_) (fun K hK => ?_)
  ·skip
   refine gS Try.func91 #[.slice A1 l1.length c1] ?_
   refine (spec_l8Lists.calls k _ _ l1 t1 _ ?side1 ?side2 A1_.o).mono ?_
   (case side1 => exact Kd.C_below HR1.o HB.o)
   (case side2 => exact HC1.o)
   rintro e w5 ⟨v1, rfl, ho, hb⟩
   refine ⟨_, rfl, ?_⟩
   have S1 := aM (Kd.S_lower (Kd.S_mono (Kd.S_bound ho) (ok' := fun k_ => w4.heap.size ≤ k_ ∧ k_ < w5.heap.size) (fun _ h_ => ⟨h_.2.1, h_.2.2.1⟩)) HB.o.size)
   have Zw5 := aM (hb.size : w4.heap.size ≤ w5.heap.size)
   replace BK1 := zBB BK1 hb
   replace BK2 := zBB BK2 hb
   replace HB := zLB HB.o hb
   clear hb ho
   refine hK.out _ _ ⟨(blk_cell BK1.o 0).trans rfl, (blk_cell BK1.o 1).trans rfl, (blk_cell BK1.o 2).trans rfl, (blk_cell BK1.o 3).trans rfl⟩ fun hHeld => ?_; clear hK K
   refine nZ 7 ?_
   refine two_ (i := 7) (j := 8) (Ni := some 10) (Nj := some 11) (fB 14 1791) (fB 14 1919) rfl rfl rfl rfl (two_of HT_.o (by kernel_rfl)) (by decide) (by decide) (fun K hK => ?_) (fun K hK => ?_)
   ·skip
    refine gS Try.func91 #[.slice A2 l2.length c2] ?_
    refine (spec_l8Lists.calls k _ _ l2 t2 _ ?side1 ?side2 A2_.o).mono ?_
    (case side1 => exact Kd.C_below HR2.o HB.o)
    (case side2 => exact HC2.o)
    rintro e w6 ⟨v2, rfl, ho, hb⟩
    refine ⟨_, rfl, ?_⟩
    have S2 := aM (Kd.S_lower (Kd.S_mono (Kd.S_bound ho) (ok' := fun k_ => w5.heap.size ≤ k_ ∧ k_ < w6.heap.size) (fun _ h_ => ⟨h_.2.1, h_.2.2.1⟩)) HB.o.size)
    replace S1 := aM (Kd.S_below S1.o hb)
    have Zw6 := aM (hb.size : w5.heap.size ≤ w6.heap.size)
    replace BK1 := zBB BK1 hb
    replace BK2 := zBB BK2 hb
    replace HB := zLB HB.o hb
    clear hb ho
    refine hK.out _ _ ⟨(blk_cell BK1.o 0).trans rfl, (blk_cell BK1.o 1).trans rfl, (blk_cell BK1.o 2).trans rfl, (blk_cell BK1.o 3).trans rfl⟩ fun hHeld => ?_; clear hK K
    refine nZ 10 ?_
    refine oN 8 11 (fB 14 2047) HT_.o fun K hK => ?_
    refine Kd.R_lit_step k46 (w0 := w6) w6.heap.size 46 ?hg (N := 11) ?hd (xs := ([] : List S46)) (inner := []) (ok := fun _ => True) (okp := fun _ => True) ?hr ?hp (fun _ hk => hk) trivial (Below.refl _ _) (Nat.le_refl _) (by simp) ?_; (case hd => rfl); (case hg => rfl); (case hr => first | (go_simp; done) | (go_simp; rfl)); (case hp => exact (Reps.none _ _))
    intro v3 w7 ho hb hg_ hn_
    clear hg_ hn_
    have S3 := aM (Kd.R_lower (Kd.R_mono (Kd.R_bound ho) (ok' := fun k_ => w6.heap.size ≤ k_ ∧ k_ < w7.heap.size) (fun _ h_ => ⟨h_.2.1, h_.2.2.1⟩)) HB.o.size)
    replace S1 := aM (Kd.S_below S1.o hb)
    replace S2 := aM (Kd.S_below S2.o hb)
    have Zw7 := aM (hb.size : w6.heap.size ≤ w7.heap.size)
    replace BK1 := zBB BK1 hb
    replace BK2 := zBB BK2 hb
    replace HB := zLB HB.o hb
    clear hb ho
    refine hK.out _ _ ⟨(blk_cell BK1.o 0).trans rfl, (blk_cell BK1.o 1).trans rfl, (blk_cell BK1.o 2).trans rfl, (blk_cell BK1.o 3).trans rfl⟩ fun hHeld => ?_; clear hK K
    refine nZ 11 ?_
    exact norm_ (by simp only [putAll, Act.put, List.setIfInBounds_toArray, List.set_cons_zero, List.set_cons_succ]) (hCont (v1, v2, v3) _ ⟨hHeld, ⟨_, _, _, ⟨fun _ _ => trivial, fun _ _ => trivial, fun _ _ => trivial⟩, ⟨fun k_ a_ b_ => by have y_ := a_; have z_ := b_; (try simp only at y_ z_); have h0_ := Zw5.o; have h1_ := Zw6.o; have h2_ := Zw7.o; omega, fun k_ a_ b_ => by have y_ := a_; have z_ := b_; (try simp only at y_ z_); have h0_ := Zw5.o; have h1_ := Zw6.o; have h2_ := Zw7.o; omega, fun k_ a_ b_ => by have y_ := a_; have z_ := b_; (try simp only at y_ z_); have h0_ := Zw5.o; have h1_ := Zw6.o; have h2_ := Zw7.o; omega⟩, S1.o, S2.o, S3.o⟩, BK1.o, BK2.o, HB.o⟩)
   ·skip
    refine Kd.R_lit_step k46 (w0 := w5) w5.heap.size 46 ?hg (N := 11) ?hd (xs := ([] : List S46)) (inner := []) (ok := fun _ => True) (okp := fun _ => True) ?hr ?hp (fun _ hk => hk) trivial (Below.refl _ _) (Nat.le_refl _) (by simp) ?_; (case hd => rfl); (case hg => rfl); (case hr => first | (go_simp; done) | (go_simp; rfl)); (case hp => exact (Reps.none _ _))
    intro v3 w6 ho hb hg_ hn_
    clear hg_ hn_
    have S3 := aM (Kd.R_lower (Kd.R_mono (Kd.R_bound ho) (ok' := fun k_ => w5.heap.size ≤ k_ ∧ k_ < w6.heap.size) (fun _ h_ => ⟨h_.2.1, h_.2.2.1⟩)) HB.o.size)
    replace S1 := aM (Kd.S_below S1.o hb)
    have Zw6 := aM (hb.size : w5.heap.size ≤ w6.heap.size)
    replace BK1 := zBB BK1 hb
    replace BK2 := zBB BK2 hb
    replace HB := zLB HB.o hb
    clear hb ho
    refine hK.out _ _ ⟨(blk_cell BK1.o 0).trans rfl, (blk_cell BK1.o 1).trans rfl, (blk_cell BK1.o 2).trans rfl, (blk_cell BK1.o 3).trans rfl⟩ fun hHeld => ?_; clear hK K
    refine nZ 11 ?_
    refine oN 7 10 (fB 14 2047) HT_.o fun K hK => ?_
    refine gS Try.func91 #[.slice A2 l2.length c2] ?_
    refine (spec_l8Lists.calls k _ _ l2 t2 _ ?side1 ?side2 A2_.o).mono ?_
    (case side1 => exact Kd.C_below HR2.o HB.o)
    (case side2 => exact HC2.o)
    rintro e w7 ⟨v2, rfl, ho, hb⟩
    refine ⟨_, rfl, ?_⟩
    have S2 := aM (Kd.S_lower (Kd.S_mono (Kd.S_bound ho) (ok' := fun k_ => w6.heap.size ≤ k_ ∧ k_ < w7.heap.size) (fun _ h_ => ⟨h_.2.1, h_.2.2.1⟩)) HB.o.size)
    replace S1 := aM (Kd.S_below S1.o hb)
    replace S3 := aM (Kd.R_below S3.o hb)
    have Zw7 := aM (hb.size : w6.heap.size ≤ w7.heap.size)
    replace BK1 := zBB BK1 hb
    replace BK2 := zBB BK2 hb
    replace HB := zLB HB.o hb
    clear hb ho
    refine hK.out _ _ ⟨(blk_cell BK1.o 0).trans rfl, (blk_cell BK1.o 1).trans rfl, (blk_cell BK1.o 2).trans rfl, (blk_cell BK1.o 3).trans rfl⟩ fun hHeld => ?_; clear hK K
    refine nZ 10 ?_
    exact norm_ (by simp only [putAll, Act.put, List.setIfInBounds_toArray, List.set_cons_zero, List.set_cons_succ]) (hCont (v1, v2, v3) _ ⟨hHeld, ⟨_, _, _, ⟨fun _ _ => trivial, fun _ _ => trivial, fun _ _ => trivial⟩, ⟨fun k_ a_ b_ => by have y_ := a_; have z_ := b_; (try simp only at y_ z_); have h0_ := Zw5.o; have h1_ := Zw6.o; have h2_ := Zw7.o; omega, fun k_ a_ b_ => by have y_ := a_; have z_ := b_; (try simp only at y_ z_); have h0_ := Zw5.o; have h1_ := Zw6.o; have h2_ := Zw7.o; omega, fun k_ a_ b_ => by have y_ := a_; have z_ := b_; (try simp only at y_ z_); have h0_ := Zw5.o; have h1_ := Zw6.o; have h2_ := Zw7.o; omega⟩, S1.o, S2.o, S3.o⟩, BK1.o, BK2.o, HB.o⟩)
  ·skip
   refine Kd.R_lit_step k46 (w0 := w4) w4.heap.size 46 ?hg (N := 11) ?hd (xs := ([] : List S46)) (inner := []) (ok := fun _ => True) (okp := fun _ => True) ?hr ?hp (fun _ hk => hk) trivial (Below.refl _ _) (Nat.le_refl _) (by simp) ?_; (case hd => rfl); (case hg => rfl); (case hr => first | (go_simp; done) | (go_simp; rfl)); (case hp => exact (Reps.none _ _))
   intro v3 w5 ho hb hg_ hn_
   clear hg_ hn_
   have S3 := aM (Kd.R_lower (Kd.R_mono (Kd.R_bound ho) (ok' := fun k_ => w4.heap.size ≤ k_ ∧ k_ < w5.heap.size) (fun _ h_ => ⟨h_.2.1, h_.2.2.1⟩)) HB.o.size)
   have Zw5 := aM (hb.size : w4.heap.size ≤ w5.heap.size)
   replace BK1 := zBB BK1 hb
   replace BK2 := zBB BK2 hb
   replace HB := zLB HB.o hb
   clear hb ho
   refine hK.out _ _ ⟨(blk_cell BK1.o 0).trans rfl, (blk_cell BK1.o 1).trans rfl, (blk_cell BK1.o 2).trans rfl, (blk_cell BK1.o 3).trans rfl⟩ fun hHeld => ?_; clear hK K
   refine nZ 11 ?_
   refine oN 4 7 (fB 14 1919) HT_.o fun K hK => ?_
   refine gS Try.func91 #[.slice A1 l1.length c1] ?_
   refine (spec_l8Lists.calls k _ _ l1 t1 _ ?side1 ?side2 A1_.o).mono ?_
   (case side1 => exact Kd.C_below HR1.o HB.o)
   (case side2 => exact HC1.o)
   rintro e w6 ⟨v1, rfl, ho, hb⟩
   refine ⟨_, rfl, ?_⟩
   have S1 := aM (Kd.S_lower (Kd.S_mono (Kd.S_bound ho) (ok' := fun k_ => w5.heap.size ≤ k_ ∧ k_ < w6.heap.size) (fun _ h_ => ⟨h_.2.1, h_.2.2.1⟩)) HB.o.size)
   replace S3 := aM (Kd.R_below S3.o hb)
   have Zw6 := aM (hb.size : w5.heap.size ≤ w6.heap.size)
   replace BK1 := zBB BK1 hb
   replace BK2 := zBB BK2 hb
   replace HB := zLB HB.o hb
   clear hb ho
   refine hK.out _ _ ⟨(blk_cell BK1.o 0).trans rfl, (blk_cell BK1.o 1).trans rfl, (blk_cell BK1.o 2).trans rfl, (blk_cell BK1.o 3).trans rfl⟩ fun hHeld => ?_; clear hK K
   refine nZ 7 ?_
   refine oN 7 10 (fB 14 2047) HT_.o fun K hK => ?_
   refine gS Try.func91 #[.slice A2 l2.length c2] ?_
   refine (spec_l8Lists.calls k _ _ l2 t2 _ ?side1 ?side2 A2_.o).mono ?_
   (case side1 => exact Kd.C_below HR2.o HB.o)
   (case side2 => exact HC2.o)
   rintro e w7 ⟨v2, rfl, ho, hb⟩
   refine ⟨_, rfl, ?_⟩
   have S2 := aM (Kd.S_lower (Kd.S_mono (Kd.S_bound ho) (ok' := fun k_ => w6.heap.size ≤ k_ ∧ k_ < w7.heap.size) (fun _ h_ => ⟨h_.2.1, h_.2.2.1⟩)) HB.o.size)
   replace S3 := aM (Kd.R_below S3.o hb)
   replace S1 := aM (Kd.S_below S1.o hb)
   have Zw7 := aM (hb.size : w6.heap.size ≤ w7.heap.size)
   replace BK1 := zBB BK1 hb
   replace BK2 := zBB BK2 hb
   replace HB := zLB HB.o hb
   clear hb ho
   refine hK.out _ _ ⟨(blk_cell BK1.o 0).trans rfl, (blk_cell BK1.o 1).trans rfl, (blk_cell BK1.o 2).trans rfl, (blk_cell BK1.o 3).trans rfl⟩ fun hHeld => ?_; clear hK K
   refine nZ 10 ?_
   exact norm_ (by simp only [putAll, Act.put, List.setIfInBounds_toArray, List.set_cons_zero, List.set_cons_succ]) (hCont (v1, v2, v3) _ ⟨hHeld, ⟨_, _, _, ⟨fun _ _ => trivial, fun _ _ => trivial, fun _ _ => trivial⟩, ⟨fun k_ a_ b_ => by have y_ := a_; have z_ := b_; (try simp only at y_ z_); have h0_ := Zw5.o; have h1_ := Zw6.o; have h2_ := Zw7.o; omega, fun k_ a_ b_ => by have y_ := a_; have z_ := b_; (try simp only at y_ z_); have h0_ := Zw5.o; have h1_ := Zw6.o; have h2_ := Zw7.o; omega, fun k_ a_ b_ => by have y_ := a_; have z_ := b_; (try simp only at y_ z_); have h0_ := Zw5.o; have h1_ := Zw6.o; have h2_ := Zw7.o; omega⟩, S1.o, S2.o, S3.o⟩, BK1.o, BK2.o, HB.o⟩)
 rintro ⟨v1, v2, v3⟩ w8 ⟨hHeld, hwr, hbk1, hbk2, hbb⟩
 clear BK1 BK2 HB
 have HWR := aM hwr
 have BK1 := aM hbk1
 have BK2 := aM hbk2
 have HB := aM hbb
 clear hwr hbk1 hbk2 hbb
 refine norm_ (a' := ?_) ?_ ?_
 rotate_left
 ·simp only [putAll, Act.put, List.setIfInBounds_toArray, List.set_cons_zero, List.set_cons_succ]
  rfl
 refine oN 11 14 (fB 14 4095) HT_.o fun K hK => ?_
 obtain ⟨P1, P2, P3, hp_, ⟨d1, d2, d3⟩, s1, s2, s3⟩ := HWR.o
 refine Kd.R_append_rows_step k46 (w0 := w) w.heap.size (by rfl) (.tmp 11) (.tmp 13) 23 46 (.agg #[(.int .i64 0), (.int .i64 0), (.int .i64 0)]) 24 rfl Try.underlying23 info46 rfl (by decide) (by omega) v3 [] l3 _ _ _ (fun k => P3 k ∨ w8.heap.size ≤ k) (fun _ => False) rfl rfl ?aO ?aR (fun _ _ h => h) (fun _ h => h.elim) ?aF ?aB ?aS ?aL ?_
 (case aO => exact Kd.R_mono s3 (fun k h => .inl h))
 (case aR => exact Kd.C_below HR3.o HB.o)
 (case aF => exact fun k hk => .inr hk)
 (case aB => exact HB.o)
 (case aS => exact HB.o.size)
 (case aL => (have h1_ := HL3.o; simp only [List.length_nil]; omega))
 intro vn w9 ho hb hg hat
 clear hat
 rw [List.nil_append] at ho
 have HK := Kept.of_grown hg (Kept.refl w8 P3) (fun k hk => .inl (s3.1 k hk))
 have HWN : Aside0 (WR w9 w.heap.size (fun _ => True) v1 v2 vn t1 t2 l3) := ⟨⟨fun k => P1 k ∧ k < w8.heap.size, fun k => P2 k ∧ k < w8.heap.size, _, ⟨fun _ _ => trivial, fun _ _ => trivial, fun _ _ => trivial⟩, ⟨fun k h h2 => d1 k h.1 h2.1, fun k h2 h => h.elim (fun h => d2 k h2.1 h) (fun h => by have := h2.2; omega), fun k h2 h => h.elim (fun h => d3 k h2.1 h) (fun h => by have := h2.2; omega)⟩, Kd.S_kept (Kd.S_mono (Kd.S_bound s1) (fun k h => ⟨h.1, h.2.2.1⟩)) HK (fun k h h1 => d2 k h.1 h1), Kd.S_kept (Kd.S_mono (Kd.S_bound s2) (fun k h => ⟨h.1, h.2.2.1⟩)) HK (fun k h h1 => d3 k h.1 h1), ho⟩⟩
 have e1_ := Kd.R_ne s3 BK1.o (by decide)
 have e2_ := Kd.R_ne s3 BK2.o (by decide)
 replace BK1 := aM (blk_grown BK1.o hg e1_)
 replace BK2 := aM (blk_grown BK2.o hg e2_)
 replace HB := aM hb
 clear e1_ e2_ HK s1 s2 s3 d1 d2 d3 hp_ HWR hb hg ho
 obtain ⟨B1, q1, B2, q2, B3, q3, rfl, rfl, rfl, _, _, _, _⟩ := HWN.o.reads
 refine hK.out _ _ ⟨(blk_cell BK1.o 0).trans rfl, (blk_cell BK1.o 1).trans rfl, (blk_cell BK1.o 2).trans rfl, (blk_cell BK1.o 3).trans rfl⟩ fun hHeld => ?_; clear hK K
 refine nZ 14 ?_
 refine pY 12 15 (fB 14 8191) HT_.o ?_
 refine last_ (i := 13) (N := none) (fB 14 16383) rfl rfl (one_of HT_.o (by kernel_rfl)) (by decide) (fun K hK => ?_)
 have hs0 := (blk_cell BK2.o 0).trans rfl
 have hf0 := blk_frozen BK2.o 0
 have hs1 := (blk_cell BK2.o 1).trans rfl
 have hf1 := blk_frozen BK2.o 1
 have hs2 := (blk_cell BK2.o 2).trans rfl
 have hf2 := blk_frozen BK2.o 2
 have hs3 := (blk_cell BK2.o 3).trans rfl
 have hf3 := blk_frozen BK2.o 3
 have hnb := NB.o
 have hnc := NB.o.symm
 refine skip_ (w1 := ?_) (by rfl) rfl ?_ ?_
 rotate_left
 ·go_simp
  rfl
 refine hK.out _ _ ?_
 clear hK K
 refine done_ (done_of HT_.o (by kernel_rfl)) ?_
 try go_wp2
 refine bodyPost_ret (results_cell_row rfl _ _ g2 25 #[.int .i64 a, .slice B1 t1.length q1, .slice B2 t2.length q2, .slice B3 l3.length q3] (0, 0) _ rfl (by refine zB ?_; exact zp4 BK2.o) Try.underlying25 rfl (by kernel_rfl)) rfl ?_
 exact ⟨_, _, _, rfl, (((((HWN.o.types BK2.o (by decide) (by decide)).far (p := ⟨g2, 0, none⟩) (fun _ h => h.2) _).far (p := ⟨g2, 1, none⟩) (fun _ h => h.2) _).far (p := ⟨g2, 2, none⟩) (fun _ h => h.2) _).far (p := ⟨g2, 3, none⟩) (fun _ h => h.2) _).mono (fun _ _ => trivial), zL1 HB.o GE.o⟩
theorem spec_l8Copy.calls (k : Nat) (a : Int) (A1 : Option Addr) (c1 : Nat) (l1 : List (List S46)) (A2 : Option Addr) (c2 : Nat) (l2 : List (List S46)) (A3 : Option Addr) (c3 : Nat) (l3 : List S46) (r1 : Int) (r2 r3 : List (List S46)) (r4 : List S46) (w : World) (hr1 : Kd.C (Kd.slice 46 k46) w A1 l1.length l1) (hc1 : l1.length ≤ c1) (hr2 : Kd.C (Kd.slice 46 k46) w A2 l2.length l2) (hc2 : l2.length ≤ c2) (hr3 : Kd.C k46 w A3 l3.length l3) (hc3 : l3.length ≤ c3) (h : spec_l8Copy.f k a l1 l2 l3 = some (r1, r2, r3, r4)) :
  Calls Try.prog 72 #[.agg #[.int .i64 a, .slice A1 l1.length c1, .slice A2 l2.length c2, .slice A3 l3.length c3]] w fun e w' => ∃ v1_ v2_ v3_ : Value, e = .returned (.agg #[.int .i64 r1, v1_, v2_, v3_]) ∧ Kd.S (Kd.slice 46 k46) 23 w' w.heap.size (fun k_ => some k_ ≠ (v2_ : Value).ownBlock ∧ some k_ ≠ (v3_ : Value).ownBlock) v1_ r2 ∧ Kd.S (Kd.slice 46 k46) 23 w' w.heap.size (fun k_ => some k_ ≠ (v1_ : Value).ownBlock ∧ some k_ ≠ (v3_ : Value).ownBlock) v2_ r3 ∧ Kd.R k46 46 w' w.heap.size (fun _ => True) v3_ r4 ∧ Below w.heap.size w w' := by
 refine (spec_l8Copy.callsW k a A1 c1 l1 A2 c2 l2 A3 c3 l3 r1 r2 r3 r4 w hr1 hc1 hr2 hc2 hr3 hc3 h).mono ?_
 rintro e w' ⟨v1, v2, v3, rfl, hw, hb⟩
 obtain ⟨s1, s2, s3⟩ := hw.split
 exact ⟨v1, v2, v3, rfl, Kd.S_mono s1 (fun _ h => h.2), Kd.S_mono s2 (fun _ h => h.2), Kd.R_mono s3 (fun _ _ => trivial), hb⟩

end Go.Proofs.Ytggenhomnbnodaa.QFnWheels
