/- What functions that the law reaches answer, with their walks. Conditions: those that each theorem names. -/
import Derived.Test.YtggenhomnbnodaaQFnWheelsx0
import Derived.Test.YtggenhomnbnodaaQFnWheelsx2
import Derived.Test.YtggenhomnbnodaaQFnWheelsx5
import Derived.Test.YtggenhomnbnodaaQFnWheelsx6
import Derived.Test.YtggenhomnbnodaaQFnWheelsx7
import Derived.Test.YtggenhomnbnodaaQFnWheelsx9
namespace Go.Proofs.Ytggenhomnbnodaa.QFnWheels
open Go.RowKit Go.Proofs.YtggenhomnbnodaaW.PrintWords Go.Proofs.YtggenhomnbnodaaW.PrintLast Go.Proofs.YtggenhomnbnodaaW.PrintMore
attribute [local go_sem] max2_int min2_int max_two min_two max_three min_three max_four min_four
set_option linter.unusedVariables false
set_option linter.unusedSimpArgs false

section
variable {w : World} {base : Nat} {ok : Nat → Prop} {v1 v2 v3 : Value} {l1 l2 : List (List S46)} {l3 : List S46}
theorem WR.forms (h : WR w base ok v1 v2 v3 l1 l2 l3) (h1 : 0 < l1.length) (h2 : 0 < l2.length) : ∃ gN cN gF cF A3 c3, v1 = .slice (some ⟨gN, 0, none⟩) l1.length cN ∧ v2 = .slice (some ⟨gF, 0, none⟩) l2.length cF ∧ v3 = .slice A3 l3.length c3 := by
 obtain ⟨P1, P2, P3, _, _, s1, s2, s3⟩ := h
 obtain ⟨gN, cN, e1, _⟩ := Kd.S_form s1 h1
 obtain ⟨gF, cF, e2, _⟩ := Kd.S_form s2 h2
 obtain ⟨A3, c3, e3⟩ := Kd.R_slice s3
 exact ⟨gN, cN, gF, cF, A3, c3, e1, e2, e3⟩
end
theorem set1_kept {w w1 : World} {p : Addr} {u : Value} (e : w1 = w.setCell p u) : Kept w w1 (fun k => k = p.block) := by
 subst e
 exact (Kept.refl w (fun k => k = p.block)).setCell (p := p) (.inl rfl) u
theorem set3_kept {w w1 : World} {g : Nat} {u0 u1 u2 : Value} (e : w1 = ((w.setCell ⟨g, 0, none⟩ u0).setCell ⟨g, 1, none⟩ u1).setCell ⟨g, 2, none⟩ u2) : Kept w w1 (fun k => k = g) := by
 subst e
 exact (((Kept.refl w (fun k => k = g)).setCell (p := ⟨g, 0, none⟩) (.inl rfl) _).setCell (p := ⟨g, 1, none⟩) (.inl rfl) _).setCell (p := ⟨g, 2, none⟩) (.inl rfl) _
theorem set3_blk {w w1 : World} {g : Nat} {u0 u1 u2 a0 a1 a2 : Value} (e : w1 = ((w.setCell ⟨g, 0, none⟩ u0).setCell ⟨g, 1, none⟩ u1).setCell ⟨g, 2, none⟩ u2) (h : w.heap[g]? = some (.cells #[a0, a1, a2] 46 (0, 0))) : w1.heap[g]? = some (.cells #[u0, u1, u2] 46 (0, 0)) := by
 subst e
 refine blk_put (cs := #[u0, u1, a2]) ?_ 2 _ rfl
 refine blk_put (cs := #[u0, a1, a2]) ?_ 1 _ rfl
 exact blk_put (cs := #[a0, a1, a2]) h 0 _ rfl
theorem set3_below {w w1 w0 : World} {g b : Nat} {u0 u1 u2 : Value} (e : w1 = ((w.setCell ⟨g, 0, none⟩ u0).setCell ⟨g, 1, none⟩ u1).setCell ⟨g, 2, none⟩ u2) (h : Below b w0 w) (hg : b ≤ g) : Below b w0 w1 := by
 subst e
 exact ((h.setCell hg _).setCell hg _).setCell hg _
theorem frozen_kept {W W2 : World} {S : Nat → Prop} {g j : Nat} (h : W.frozen? ⟨g, j, none⟩ = false) (hl : g < W.heap.size) (hk : Kept W W2 S) (hn : ¬ S g) : W2.frozen? ⟨g, j, none⟩ = false := by
 have := hk.2 g hl hn
 simpa [World.frozen?, this] using h
set_option maxHeartbeats 8000000 in
set_option maxRecDepth 100000 in
theorem impl_Timer_89.callsC {F_ : Int → Int → Int → Option (Bool)} {v_ : Value} (k : Nat) (A0 : Option Addr) (c0 : Nat) (l0 : List (S46)) (r : Int) (w : World) (hF_ : ∀ (x_ y_ z_ : Int) (q_ : Bool) (W_ : World), Below w.heap.size w W_ → F_ x_ y_ z_ = some q_ → Calls Try.prog 77 (#[.agg #[.int .i64 x_, .int .i64 y_, .int .i64 z_]] ++ #[v_]) W_ fun e w' => e = .returned (.bool q_) ∧ Below W_.heap.size W_ w') (hr0 : Kd.C k46 w A0 l0.length l0) (hc0 : l0.length ≤ c0) (h : impl_Timer_89.f F_ k l0 = some r) :
  Calls Try.prog 89 #[.slice A0 l0.length c0, .func (.func 77) #[] #[v_]] w fun e w' => e = .returned (.int .i64 r) ∧ Below w.heap.size w w' := by
 have hu46 := Try.underlying46
 have HR0 := aM hr0
 have HC0 := aM hc0
 clear hr0 hc0
 have HB := aM (Below.refl w.heap.size w)
 unfold impl_Timer_89.f at h; have H := h
 clear h
 have H' := aM H
 clear H
 go_enter Try.func89, Try.ntmps89
 go_wp2
 go_loopg [8] k (fun kq v8 w' => ∃ (x8_1 : Int), v8 = .int .i64 x8_1 ∧ Aside0 (impl_Timer_89.l0 F_ kq l0 (l0.length : Int) x8_1 = some r) ∧ Aside0 (kq ≤ k) ∧ Aside0 (Below w.heap.size w w'))
 case atStart => exact ⟨(0), zV, H', ⟨Nat.le_refl _⟩, ⟨zL HB.o⟩⟩
 case round =>
  clear H'
  obtain ⟨x8_1, rfl, HA, HK1, HB⟩ := hrel
  cases gk with
  | zero => exact absurd HA.o (by simp [impl_Timer_89.l0])
  | succ k1 =>
   have H := HA.o
   clear HA
   simp only [impl_Timer_89.l0] at H
   by_cases c2 : x8_1 < (l0.length : Int)
   ·rw [if_pos c2] at H
    have c2b0 := dT c2
    clear c2
    by_cases c3 : 0 ≤ x8_1
    ·rw [if_pos c3] at H
     have c3b0 := dT c3
     clear c3
     by_cases c4 : x8_1 < (l0.length : Int)
     ·rw [if_pos c4] at H
      have c4b0 := dT c4
      clear c4
      obtain ⟨tB, A5, H⟩ := zO H; try dsimp only at H
      by_cases c6 : tB = true
      ·subst c6
       rw [if_pos rfl] at H
       obtain rfl := Option.some.inj H
       have pA : 0 ≤ (x8_1 : Int) := zD
       have qA : x8_1 < (l0.length : Int) := zD
       obtain ⟨adA, eA, hxA_0, hxA_1, hxA_2⟩ := at_T46 HR0.o x8_1 pA qA
       cases eA
       replace hxA_0 := zh HB.o hxA_0
       replace hxA_1 := zh HB.o hxA_1
       replace hxA_2 := zh HB.o hxA_2
       replace pA := eq_true pA
       replace qA := eq_true qA
       go_wp2_with (first | ((with_reducible refine gate_calleeC (t := 11) rfl ?_); refine goesC_ (t := 11) (f := 77) (cap := #[v_]) (by rfl) (some 16) rfl rfl Try.func77 (by kernel_rfl) rfl #[.agg #[.int .i64 ((rd_T46 l0 x8_1).f0), .int .i64 ((rd_T46 l0 x8_1).f1), .int .i64 ((rd_T46 l0 x8_1).f2)]] rfl zE ?_; (with_reducible refine (hF_ ((rd_T46 l0 x8_1).f0) ((rd_T46 l0 x8_1).f1) ((rd_T46 l0 x8_1).f2) true _ HB.o A5.o).mono ?_); rintro e w7 ⟨rfl, hb⟩; refine ⟨_, rfl, ?_⟩; replace HB := zLB (zL HB.o) hb; clear hb))
       go_ret
       exact ⟨zW, zL HB.o⟩
      ·obtain rfl := Bool.eq_false_iff.mpr c6
       rw [if_neg zn] at H
       have H' := aM H
       clear H
       have pA : 0 ≤ (x8_1 : Int) := zD
       have qA : x8_1 < (l0.length : Int) := zD
       obtain ⟨adA, eA, hxA_0, hxA_1, hxA_2⟩ := at_T46 HR0.o x8_1 pA qA
       cases eA
       replace hxA_0 := zh HB.o hxA_0
       replace hxA_1 := zh HB.o hxA_1
       replace hxA_2 := zh HB.o hxA_2
       replace pA := eq_true pA
       replace qA := eq_true qA
       go_wp2_with (first | ((with_reducible refine gate_calleeC (t := 11) rfl ?_); refine goesC_ (t := 11) (f := 77) (cap := #[v_]) (by rfl) (some 16) rfl rfl Try.func77 (by kernel_rfl) rfl #[.agg #[.int .i64 ((rd_T46 l0 x8_1).f0), .int .i64 ((rd_T46 l0 x8_1).f1), .int .i64 ((rd_T46 l0 x8_1).f2)]] rfl zE ?_; (with_reducible refine (hF_ ((rd_T46 l0 x8_1).f0) ((rd_T46 l0 x8_1).f1) ((rd_T46 l0 x8_1).f2) false _ HB.o A5.o).mono ?_); rintro e w8 ⟨rfl, hb⟩; refine ⟨_, rfl, ?_⟩; replace HB := zLB (zL HB.o) hb; clear hb))
       go_roundg k1
       case measure => have := HK1.o; omega
       case rel => exact ⟨(wrap64 (x8_1 + 1)), zV, H', ⟨by have := HK1.o; omega⟩, ⟨zL HB.o⟩⟩
     ·rw [if_neg c4] at H
      exact absurd H (by simp)
    ·rw [if_neg c3] at H
     exact absurd H (by simp)
   ·rw [if_neg c2] at H
    have c2b0 := dF c2
    clear c2
    obtain rfl := Option.some.inj H
    go_wp2
    go_ret
    exact ⟨zW, zL HB.o⟩
set_option maxHeartbeats 8000000 in
set_option maxRecDepth 100000 in
theorem slices_DeleteFunc.closure (x y z id : Int) (g : Nat) (w : World) (hg0 : w.cell? ⟨g, 0, none⟩ = some (.int .i64 id)) :
  Calls Try.prog 77 (#[.agg #[.int .i64 x, .int .i64 y, .int .i64 z]] ++ #[.pointer (some ⟨g, 0, none⟩)]) w fun e w' => e = .returned (.bool (x == id)) ∧ Below w.heap.size w w' := by
 show Calls Try.prog 77 #[.agg #[.int .i64 x, .int .i64 y, .int .i64 z], .pointer (some ⟨g, 0, none⟩)] w _
 have hu := Try.underlying46
 have HB := aM (Below.refl w.heap.size w)
 go_enter Try.func77, Try.ntmps77
 go_wp2_with (first | ((with_reducible refine gate_dst (N := 2) rfl ?_); refine box_event ?hg (N := 2) ?hd (cs := #[.int .i64 x, .int .i64 y, .int .i64 z]) (t := 46) ?hr ?_; (case hd => rfl); (case hg => rfl); (case hr => first | (go_simp; done) | (go_simp; rfl)); intro gb hg w7 hbox hb; have n0_ := aM (below_step HB.o hb); have n1_ := aM hbox; clear HB; have HB := n0_; have BK := n1_; clear n0_ n1_; clear hb hbox hg; have hx0 : w7.cell? ⟨g, 0, none⟩ = some (.int .i64 id) := (HB.o.cell (World.block_lt_of_cell? w _ hg0)).trans hg0; have hcz_0 : w7.cell? ⟨gb, 0, none⟩ = some (.int .i64 x) := (blk_cell BK.o 0).trans rfl; have hfz_0 := blk_frozen BK.o 0))
 go_ret
 exact ⟨rfl, by repeat (first | (with_reducible first | exact HB.o | apply below_alloc | apply pw_below_drewN | apply below_drew1) | exact HB.o)⟩

theorem kept_via {w w1 w2 : World} {S : Nat → Prop} {g : Nat} (h : Kept w w1 S) (h2 : Kept w1 w2 (fun k => k = g)) (hg : w.heap.size ≤ g) : Kept w w2 S :=
 ⟨Nat.le_trans h.1 h2.1, fun k hk hn => (h2.2 k (by have := h.1; omega) (by omega)).trans (h.2 k hk hn)⟩
def zer3 (n : Nat) : List Value := List.replicate (n * 3) (.int .i64 0)
theorem zer3_succ (n : Nat) : zer3 (n + 1) = .int .i64 0 :: .int .i64 0 :: .int .i64 0 :: zer3 n := by
 unfold zer3
 rw [show (n + 1) * 3 = n * 3 + 1 + 1 + 1 by omega]
 rfl
theorem setCells_kept {S : Nat → Prop} {w : World} {g : Nat} (hg : S g ∨ w.heap.size ≤ g) : ∀ (vs : List Value) (o : Nat) (w1 : World), Kept w w1 S → Kept w (w1.setCells g o vs) S
 | [], _, _, h => h
 | v :: r, o, w1, h => setCells_kept hg r (o + 1) _ (h.setCell (p := ⟨g, o, none⟩) hg v)
theorem setCells_below {b g : Nat} {w : World} (hg : b ≤ g) : ∀ (vs : List Value) (o : Nat) (w1 : World), Below b w w1 → Below b w (w1.setCells g o vs)
 | [], _, _, h => h
 | v :: r, o, w1, h => setCells_below hg r (o + 1) _ (h.setCell (p := ⟨g, o, none⟩) hg v)
theorem clearR {base g n cap : Nat} {ok : Nat → Prop} : ∀ (m e : Nat) (x : List S46) (W : World), e + m = x.length → k46.R 46 W base ok (.slice (some ⟨g, 0, none⟩) n cap) x → ∃ x', k46.R 46 (W.setCells g (e * 3) (zer3 m)) base ok (.slice (some ⟨g, 0, none⟩) n cap) x' ∧ x'.length = x.length ∧ x'.take e = x.take e
 | 0, e, x, W, h, hR => ⟨x, hR, rfl, rfl⟩
 | m + 1, e, x, W, h, hR => by
  obtain ⟨hn, _, _⟩ := Kd.R_reads' hR
  obtain ⟨c, hcl, hM, hcc, hfr⟩ := Kd.R_elem hR z46 (e : Int) (by omega) (by omega)
  obtain ⟨h1, _⟩ := Kd.R_seg hR (e : Int) (by omega) (by omega) (seg := [.int .i64 0, .int .i64 0, .int .i64 0]) (j := 0) hcl hcc (show 3 ≤ 3 from by decide) (x' := (⟨0, 0, 0⟩ : S46)) (by obtain rfl := k46_openM hM; exact k46_mkM _ _ _ (⟨0, 0, 0⟩ : S46)) (fun _ hk => hk)
  obtain ⟨x', h2, h3, h4⟩ := clearR m (e + 1) (x.set (e : Int).toNat ⟨0, 0, 0⟩) _ (by rw [List.length_set]; omega) h1
  refine ⟨x', ?_, by rw [h3, List.length_set], ?_⟩
  ·have e1 : W.setCells g (e * 3) (zer3 (m + 1)) = (W.setCells g ((e : Int).toNat * k46.sz + 0) [.int .i64 0, .int .i64 0, .int .i64 0]).setCells g ((e + 1) * 3) (zer3 m) := by
    rw [zer3_succ, Int.toNat_natCast, show (e + 1) * 3 = e * 3 + 1 + 1 + 1 by omega]
    rfl
   rw [e1]
   exact h2
  ·have e2 := congrArg (List.take e) h4
   rw [List.take_take, List.take_take, Nat.min_eq_left (by omega)] at e2
   rw [e2, Int.toNat_natCast, List.take_set_of_le (Nat.le_refl e)]
theorem run_clear46 {x : List S46} {W : World} {base g n cap : Nat} {ok : Nat → Prop} (hR : k46.R 46 W base ok (.slice (some ⟨g, 0, none⟩) n cap) x) (e m c ty : Nat) (he : e + m = x.length) :
  (Builtin.clear_ #[23] ty #[.slice (some ⟨g, e * 3, none⟩) m c]).run Try.prog W = .ok (.tuple #[]) (W.setCells g (e * 3) (zer3 m)) := by
 obtain ⟨hn, _, _⟩ := Kd.R_reads' hR
 cases m with
 | zero =>
  have e0 : W.setCells g (e * 3) (zer3 0) = W := rfl
  simp [Builtin.clear_, run_underlying Try.underlying23, e0]
 | succ m =>
  have hat : ∀ j, j < (m + 1) * 3 → (W.cell? ⟨g, e * 3 + j, none⟩).isSome = true ∧ W.frozen? ⟨g, e * 3 + j, none⟩ = false := by
   intro j hj
   obtain ⟨cc, hcl, hM, hcc, hfr⟩ := Kd.R_elem hR z46 ((e + j / 3 : Nat) : Int) (by omega) (by omega)
   have hsz : k46.sz = 3 := rfl
   rw [Int.toNat_natCast, hsz] at hcc hfr
   have e1 : e * 3 + j = (e + j / 3) * 3 + j % 3 := by omega
   rw [hsz] at hcl
   rw [e1]
   refine ⟨?_, hfr _⟩
   have hl : j % 3 < cc.length := by omega
   rw [hcc (j % 3) cc[j % 3] (List.getElem?_eq_getElem hl)]
   rfl
  have hzc : (Builtin.zeroCells (Value.agg #[.int .i64 0, .int .i64 0, .int .i64 0]).cells (m + 1)).toList = zer3 (m + 1) := by
   unfold zer3
   apply List.ext_getElem
   ·simp [Builtin.zeroCells, Value.cells]
   ·intro i h1 h2
    simp [Builtin.zeroCells, Value.cells]
    have : i % 3 = 0 ∨ i % 3 = 1 ∨ i % 3 = 2 := by omega
    rcases this with h | h | h <;> simp [h]
  have hst := run_storeCells_cells (P := Try.prog) g (e * 3) (zer3 (m + 1)) 0 W (fun j hj => by simpa using (hat j (by simpa [zer3] using hj)).1) (fun j hj => by simpa using (hat j (by simpa [zer3] using hj)).2) (by intro v hv'; rw [List.eq_of_mem_replicate hv']; rfl)
  simp only [Nat.add_zero] at hst
  have hv : ∀ w, (zeroValue 46).run Try.prog w = .ok (.agg #[.int .i64 0, .int .i64 0, .int .i64 0]) w := by
   intro w
   have hu46 := Try.underlying46
   go_simp
  simp [Builtin.clear_, run_underlying Try.underlying23, hv, hzc, hst]

def del.l (id : Int) : Nat → List S46 → Int → Int → Option (List S46 × Int)
 | 0, _, _, _ => none
 | k + 1, x, i, j => if j < (x.length : Int) then (if 0 ≤ j then (if (rd_T46 x j).f0 = id then del.l id k x i (wrap64 (j + 1)) else (if 0 ≤ i then (if i < (x.length : Int) then del.l id k (x.set i.toNat ⟨(rd_T46 x j).f0, (rd_T46 x j).f1, (rd_T46 x j).f2⟩) (wrap64 (i + 1)) (wrap64 (j + 1)) else none) else none)) else none) else some (x, i)
def slices_DeleteFunc.f (k : Nat) (l : List S46) (id : Int) : Option (List S46) :=
 (impl_Timer_89.f (fun x _ _ => some (x == id)) k l).bind fun i => (if i = -1 then some l else (if 0 < l.length then (del.l id k l i (wrap64 (i + 1))).bind fun r => (if 0 ≤ r.2 then (if r.2 ≤ (r.1.length : Int) then some (r.1.take r.2.toNat) else none) else none) else none))
set_option maxHeartbeats 8000000 in
set_option maxRecDepth 100000 in
theorem slices_DeleteFunc.calls (k : Nat) (P0_ : Nat → Prop) (u : Value) (l : List S46) (id : Int) (r : List S46) (gi : Nat) (w0 w : World) (hB : Below w0.heap.size w0 w) (hi : w.heap[gi]? = some (.cells #[.int .i64 id] 3 (0, 0))) (ho : k46.R 46 w w0.heap.size P0_ u l) (h : slices_DeleteFunc.f k l id = some r) :
  Calls Try.prog 78 #[u, .func (.func 77) #[] #[.pointer (some ⟨gi, 0, none⟩)]] w fun e w' => ∃ v : Value, e = .returned v ∧ k46.R 46 w' w0.heap.size (fun k_ => (P0_ k_ ∨ w.heap.size ≤ k_)) v r ∧ Below w0.heap.size w0 w' ∧ Kept w w' P0_ := by
 have hu46 := Try.underlying46
 have hu23 := Try.underlying23
 obtain ⟨A0, c0, rfl, hc0, hr0⟩ := Kd.R_reads ho
 have HO := aM (Kd.R_mono (ok' := (fun k_ => (P0_ k_ ∨ w.heap.size ≤ k_))) ho (fun _ h_ => .inl h_))
 have HR0 := aM hr0
 have HC0 := aM hc0
 have HB := aM hB
 have HI := aM hi
 have HK := aM (Kept.refl w P0_)
 clear hB hi ho hr0 hc0
 unfold slices_DeleteFunc.f at h
 replace h := zO h
 obtain ⟨i0, AI, h⟩ := h
 by_cases ci : i0 = -1
 ·rw [if_pos ci] at h
  subst ci
  obtain rfl := Option.some.inj h
  go_enter Try.func78, Try.ntmps78
  go_wp2_with (first | (go_at_call 89; (refine (impl_Timer_89.callsC k _ _ l _ w ?side0 HR0.o HC0.o AI.o).mono ?_); (case side0 => intro x y z q W hb hq; have hq' := Option.some.inj hq; subst hq'; have hc0_ : w.cell? ⟨gi, 0, none⟩ = some (.int .i64 id) := (blk_cell HI.o 0).trans rfl; exact slices_DeleteFunc.closure x y z id gi W ((hb.cell (World.block_lt_of_cell? w _ hc0_)).trans hc0_)); rintro e w1_ ⟨rfl, hb⟩; replace HO := zRB HO hb; replace HI := zBB HI hb; replace HK := aM (HK.o.below hb); replace HB := zLB HB.o hb; clear hb))
  go_ret
  exact ⟨_, rfl, HO.o, HB.o, HK.o⟩
 ·rw [if_neg ci] at h
  have cib2 : (i0 == -1) = false := by simpa using ci
  clear ci
  by_cases cl : 0 < l.length
  rotate_left
  ·rw [if_neg cl] at h
   exact absurd h (by simp)
  rw [if_pos cl] at h
  replace h := zO h
  obtain ⟨⟨x9, i9⟩, AD, h⟩ := h
  simp only at h
  by_cases c1 : 0 ≤ i9
  rotate_left
  ·rw [if_neg c1] at h
   exact absurd h (by simp)
  rw [if_pos c1] at h
  by_cases c2 : i9 ≤ (x9.length : Int)
  rotate_left
  ·rw [if_neg c2] at h
   exact absurd h (by simp)
  rw [if_pos c2] at h
  obtain rfl := Option.some.inj h
  clear h
  obtain ⟨g, cap, eo, gb, gl, cells, HG⟩ := Kd.R_form HO.o cl
  (first | cases eo | (injection eo with ea_ en_ ec_; (first | subst ea_ | (injection ea_ with ea_; subst ea_)); subst ec_; clear en_))
  have GB := aM gb
  clear gb gl HG
  have CLN := aM cl
  clear cl
  have C1 := aM c1
  have C2 := aM c2
  clear c1 c2
  go_enter Try.func78, Try.ntmps78
  go_wp2_with (first | (go_at_call 89; (refine (impl_Timer_89.callsC k _ _ l _ w ?side0 HR0.o HC0.o AI.o).mono ?_); (case side0 => intro x y z q W hb hq; have hq' := Option.some.inj hq; subst hq'; have hc0_ : w.cell? ⟨gi, 0, none⟩ = some (.int .i64 id) := (blk_cell HI.o 0).trans rfl; exact slices_DeleteFunc.closure x y z id gi W ((hb.cell (World.block_lt_of_cell? w _ hc0_)).trans hc0_)); rintro e w1_ ⟨rfl, hb⟩; replace HO := zRB HO hb; replace HI := zBB HI hb; replace HK := aM (HK.o.below hb); replace HB := zLB HB.o hb; clear hb))
  go_loopg [5, 6] k (fun kq v5 v6 w' => ∃ (x : List S46) (i j : Int), v5 = .int .i64 i ∧ v6 = .int .i64 j ∧ Aside0 (del.l id kq x i j = some (x9, i9)) ∧ Aside0 (kq ≤ k) ∧ Aside0 (k46.R 46 w' w0.heap.size (fun k_ => (P0_ k_ ∨ w.heap.size ≤ k_)) (.slice (some ⟨g, 0, none⟩) l.length c0) x) ∧ Aside0 (Kept w w' P0_) ∧ Aside0 (Below w0.heap.size w0 w') ∧ Aside0 (w'.heap[gi]? = some (.cells #[.int .i64 id] 3 (0, 0))) ∧ Aside0 (w.heap.size ≤ w'.heap.size))
  case atStart => exact ⟨l, i0, wrap64 (i0 + 1), zV, zV, AD, ⟨Nat.le_refl _⟩, HO, HK, HB, HI, ⟨HK.o.1⟩⟩
  case round =>
   obtain ⟨x, i, j, rfl, rfl, HA, HK1, HO, HK, HB, HI, HS⟩ := hrel
   cases gk with
   | zero => exact absurd HA.o (by simp [del.l])
   | succ k1 =>
    have H := HA.o
    clear HA
    simp only [del.l] at H
    have HX := aM (Kd.R_reads' HO.o).1
    by_cases c3 : j < (x.length : Int)
    rotate_left
    ·rw [if_neg c3] at H
     simp only [Option.some.injEq, Prod.mk.injEq] at H
     obtain ⟨rfl, rfl⟩ := H
     have c3b := dF (show ¬ j < (l.length : Int) by rw [HX.o]; exact c3)
     clear c3
     have p8 := eq_true C1.o
     have q8 := eq_true (show i ≤ (l.length : Int) by have := C2.o; have d_ := HX.o; omega)
     have r8 := eq_true (show i ≤ (c0 : Int) by have := C2.o; have d_ := HX.o; have e_ := HC0.o; omega)
     by_cases c9 : c0 = i.toNat
     ·have hm0 : l.length - i.toNat = 0 := by have e_ := HC0.o; omega
      have c9t := eq_true c9
      clear c9
      have hcl : ∀ ty c, (Builtin.clear_ #[23] ty #[.slice (some ⟨g, 0, none⟩) (l.length - i.toNat) c]).run Try.prog wr = .ok (.tuple #[]) wr := by
       intro ty c
       rw [hm0]
       simp [Builtin.clear_, run_underlying Try.underlying23]
      clear hm0
      go_wp2
      go_ret
      refine ⟨_, rfl, ?_, HB.o, HK.o⟩
      exact Kd.R_take HO.o (by have a_ := C1.o; have b_ := C2.o; have d_ := HX.o; omega)
     ·have c9t := eq_false c9
      clear c9
      have hcl := fun ty => run_clear46 HO.o i.toNat (l.length - i.toNat) (c0 - i.toNat) ty (by have a_ := C1.o; have b_ := C2.o; have d_ := HX.o; omega)
      obtain ⟨x8, f1, f2, f3⟩ := clearR (l.length - i.toNat) i.toNat x wr (by have a_ := C1.o; have b_ := C2.o; have d_ := HX.o; omega) HO.o
      have F := aM (And.intro f1 (And.intro f2 f3))
      clear f1 f2 f3
      go_wp2
      go_ret
      refine ⟨_, rfl, ?_, setCells_below GB.o _ _ _ HB.o, setCells_kept (HO.o.1 g rfl) _ _ _ HK.o⟩
      rw [← F.o.2.2]
      exact Kd.R_take F.o.1 (by have a_ := C1.o; have b_ := C2.o; have d_ := F.o.2.1; omega)
    rw [if_pos c3] at H
    have c3b := dT (show j < (l.length : Int) by rw [HX.o]; exact c3)
    by_cases c4 : 0 ≤ j
    rotate_left
    ·rw [if_neg c4] at H
     exact absurd H (by simp)
    rw [if_pos c4] at H
    have p3 : 0 ≤ j := c4
    have q3 : j < (l.length : Int) := by rw [HX.o]; exact c3
    obtain ⟨ce, hcl, hM, hcc, hfr⟩ := Kd.R_elem HO.o z46 j p3 q3
    obtain rfl := k46_openM hM
    have hx_0 : wr.cell? ⟨g, j.toNat * 3, none⟩ = some (.int .i64 (rd_T46 x j).f0) := hcc 0 _ rfl
    have hx_1 : wr.cell? ⟨g, j.toNat * 3 + 1, none⟩ = some (.int .i64 (rd_T46 x j).f1) := hcc 1 _ rfl
    have hx_2 : wr.cell? ⟨g, j.toNat * 3 + 2, none⟩ = some (.int .i64 (rd_T46 x j).f2) := hcc 2 _ rfl
    clear hcl hcc hfr hM c3 c4
    replace p3 := eq_true p3
    replace q3 := eq_true q3
    generalize hfa : (rd_T46 x j).f0 = fa at *
    generalize hfb : (rd_T46 x j).f1 = fb at *
    generalize hfc : (rd_T46 x j).f2 = fc at *
    clear hfa hfb hfc
    have HOL := aM HO.o
    by_cases c5 : fa = id
    ·rw [if_pos c5] at H
     have c5b : (fa == id) = true := by simpa using c5
     have H' := aM H
     clear H c5
     go_wp2_with (first | ((with_reducible refine gD 7 rfl ?_); refine bE 7 #[.int .i64 0, .int .i64 0, .int .i64 0] 46 ?_; intro g7 hg w7_ hbox hb; replace HO := aM (Kd.R_below (Kd.R_mono (Kd.R_bound HO.o) (ok' := fun k_ => (P0_ k_ ∨ w.heap.size ≤ k_) ∧ k_ < g7) (fun k_ h_ => ⟨h_.1, by rw [hg]; exact h_.2.2.1⟩)) hb); have NI := aM (zN HI.o hg : gi ≠ g7); have GE7 := aM (zg HB.o hg : w0.heap.size ≤ g7); have FR7 := aM (by rw [hg]; exact HS.o : w.heap.size ≤ g7); replace HI := zBB HI hb; replace HK := aM (HK.o.below hb); replace HS := aM (Nat.le_trans HS.o hb.size); replace HB := zLB HB.o hb; have BK7 := aM hbox; clear hbox hg hb; have hz7 := zc3_ BK7.o; have hs0_ := (blk_cell BK7.o 0).trans rfl; have hs1_ := (blk_cell BK7.o 1).trans rfl; have hs2_ := (blk_cell BK7.o 2).trans rfl; have hf0_ := blk_frozen BK7.o 0; have hf1_ := blk_frozen BK7.o 1; have hf2_ := blk_frozen BK7.o 2) | ((with_reducible refine gate_store (t := 46) (p := 7) rfl ?_); refine store_event (t := 46) (p := 7) (v := ?vs1_) (w1 := (((w7_.setCell ⟨g7, 0, none⟩ (.int .i64 fa)).setCell ⟨g7, 1, none⟩ (.int .i64 fb)).setCell ⟨g7, 2, none⟩ (.int .i64 fc))) ?hg ?ho ?hn ?hr ?_; (case ho => rfl); (case hg => rfl); (case hn => rfl); (case hr => first | (go_simp; done) | (go_simp; rfl)); intro w8_ hw_; have HK_ := set3_kept hw_; replace HO := aM (Kd.R_mono (Kd.R_kept HO.o HK_ (fun k_ h_ e_ => by have a_ := h_.2; omega)) (ok' := (fun k_ => (P0_ k_ ∨ w.heap.size ≤ k_))) (fun _ h_ => h_.1)); replace HI := aM (blk_kept HI.o HK_ NI.o); replace HK := aM (kept_via HK.o HK_ FR7.o); replace HS := aM (Nat.le_trans HS.o HK_.1); have BKn := aM (set3_blk hw_ BK7.o); replace HB := aM (set3_below hw_ HB.o GE7.o); clear BK7 hw_ HK_ hz7 hs0_ hs1_ hs2_ hf0_ hf1_ hf2_; have BK7 := BKn; clear BKn; have hz7 := zc3_ BK7.o) | ((with_reducible refine gate_calleeC (t := 26) rfl ?_); refine goesC_ (t := 26) (f := 77) (cap := #[.pointer (some ⟨gi, 0, none⟩)]) (by rfl) (some 28) rfl rfl Try.func77 (by kernel_rfl) rfl #[.agg #[.int .i64 fa, .int .i64 fb, .int .i64 fc]] rfl zE ?_; (refine (slices_DeleteFunc.closure fa fb fc id gi w8_ ((blk_cell HI.o 0).trans rfl)).mono ?_); rintro e w9_ ⟨rfl, hb⟩; refine ⟨_, rfl, ?_⟩; replace HO := zRB HO hb; replace HI := zBB HI hb; replace BK7 := zBB BK7 hb; replace HK := aM (HK.o.below hb); replace HS := aM (Nat.le_trans HS.o hb.size); replace HB := zLB HB.o hb; clear hb hz7; have hz7 := zc3_ BK7.o))
     go_roundg k1
     case measure => have := HK1.o; omega
     case rel => exact ⟨x, i, wrap64 (j + 1), zV, zV, H', ⟨by have := HK1.o; omega⟩, HO, HK, HB, HI, HS⟩
    ·rw [if_neg c5] at H
     have c5b : (fa == id) = false := by simpa using c5
     clear c5
     by_cases c6 : 0 ≤ i
     rotate_left
     ·rw [if_neg c6] at H
      exact absurd H (by simp)
     rw [if_pos c6] at H
     by_cases c7 : i < (x.length : Int)
     rotate_left
     ·rw [if_neg c7] at H
      exact absurd H (by simp)
     rw [if_pos c7] at H
     generalize hy : x.set i.toNat (⟨fa, fb, fc⟩ : S46) = y at H
     have NY := aM hy.symm
     clear hy
     have H' := aM H
     clear H
     have p6 : 0 ≤ i := c6
     have q6 : i < (l.length : Int) := by rw [HX.o]; exact c7
     have P6 := aM p6
     have Q6 := aM q6
     clear c6 c7
     replace p6 := eq_true p6
     replace q6 := eq_true q6
     go_wp2_with (first | ((with_reducible refine gD 7 rfl ?_); refine bE 7 #[.int .i64 0, .int .i64 0, .int .i64 0] 46 ?_; intro g7 hg w7_ hbox hb; replace HO := aM (Kd.R_below (Kd.R_mono (Kd.R_bound HO.o) (ok' := fun k_ => (P0_ k_ ∨ w.heap.size ≤ k_) ∧ k_ < g7) (fun k_ h_ => ⟨h_.1, by rw [hg]; exact h_.2.2.1⟩)) hb); have NI := aM (zN HI.o hg : gi ≠ g7); have GE7 := aM (zg HB.o hg : w0.heap.size ≤ g7); have FR7 := aM (by rw [hg]; exact HS.o : w.heap.size ≤ g7); replace HI := zBB HI hb; replace HK := aM (HK.o.below hb); replace HS := aM (Nat.le_trans HS.o hb.size); replace HB := zLB HB.o hb; have BK7 := aM hbox; clear hbox hg hb; have hz7 := zc3_ BK7.o; have hs0_ := (blk_cell BK7.o 0).trans rfl; have hs1_ := (blk_cell BK7.o 1).trans rfl; have hs2_ := (blk_cell BK7.o 2).trans rfl; have hf0_ := blk_frozen BK7.o 0; have hf1_ := blk_frozen BK7.o 1; have hf2_ := blk_frozen BK7.o 2) | ((with_reducible refine gate_store (t := 46) (p := 7) rfl ?_); refine store_event (t := 46) (p := 7) (v := ?vs2_) (w1 := (((w7_.setCell ⟨g7, 0, none⟩ (.int .i64 fa)).setCell ⟨g7, 1, none⟩ (.int .i64 fb)).setCell ⟨g7, 2, none⟩ (.int .i64 fc))) ?hg ?ho ?hn ?hr ?_; (case ho => rfl); (case hg => rfl); (case hn => rfl); (case hr => first | (go_simp; done) | (go_simp; rfl)); intro w8_ hw_; have HK_ := set3_kept hw_; replace HO := aM (Kd.R_mono (Kd.R_kept HO.o HK_ (fun k_ h_ e_ => by have a_ := h_.2; omega)) (ok' := (fun k_ => (P0_ k_ ∨ w.heap.size ≤ k_))) (fun _ h_ => h_.1)); replace HI := aM (blk_kept HI.o HK_ NI.o); replace HK := aM (kept_via HK.o HK_ FR7.o); replace HS := aM (Nat.le_trans HS.o HK_.1); have BKn := aM (set3_blk hw_ BK7.o); replace HB := aM (set3_below hw_ HB.o GE7.o); clear BK7 hw_ HK_ hz7 hs0_ hs1_ hs2_ hf0_ hf1_ hf2_; have BK7 := BKn; clear BKn; have hz7 := zc3_ BK7.o) | ((with_reducible refine gate_calleeC (t := 26) rfl ?_); refine goesC_ (t := 26) (f := 77) (cap := #[.pointer (some ⟨gi, 0, none⟩)]) (by rfl) (some 28) rfl rfl Try.func77 (by kernel_rfl) rfl #[.agg #[.int .i64 fa, .int .i64 fb, .int .i64 fc]] rfl zE ?_; (refine (slices_DeleteFunc.closure fa fb fc id gi w8_ ((blk_cell HI.o 0).trans rfl)).mono ?_); rintro e w9_ ⟨rfl, hb⟩; refine ⟨_, rfl, ?_⟩; replace HO := zRB HO hb; replace HI := zBB HI hb; replace BK7 := zBB BK7 hb; replace HK := aM (HK.o.below hb); replace HS := aM (Nat.le_trans HS.o hb.size); replace HB := zLB HB.o hb; clear hb hz7; have hz7 := zc3_ BK7.o; obtain ⟨ce, hcl, hM, hcc, hfr⟩ := Kd.R_elem HO.o z46 i P6.o Q6.o; obtain rfl := k46_openM hM; have HP := aM (Kd.R_seg HO.o i P6.o Q6.o (seg := [.int .i64 fa, .int .i64 fb, .int .i64 fc]) (j := 0) hcl hcc (show 3 ≤ 3 from by decide) (x' := (⟨fa, fb, fc⟩ : S46)) (k46_mkM _ _ _ (⟨fa, fb, fc⟩ : S46)) (fun _ hk => hk)); have hy_0 : w9_.cell? ⟨g, i.toNat * 3, none⟩ = some _ := hcc 0 _ rfl; have hy_1 : w9_.cell? ⟨g, i.toNat * 3 + 1, none⟩ = some _ := hcc 1 _ rfl; have hy_2 : w9_.cell? ⟨g, i.toNat * 3 + 2, none⟩ = some _ := hcc 2 _ rfl; have hg_0 : w9_.frozen? ⟨g, i.toNat * 3, none⟩ = false := hfr 0; have hg_1 : w9_.frozen? ⟨g, i.toNat * 3 + 1, none⟩ = false := hfr 1; have hg_2 : w9_.frozen? ⟨g, i.toNat * 3 + 2, none⟩ = false := hfr 2; clear hcl hM hcc hfr) | ((with_reducible refine gate_store (t := 46) (p := 33) rfl ?_); refine store_event (t := 46) (p := 33) (v := ?vt_) (w1 := (((w9_.setCell ⟨g, i.toNat * 3, none⟩ (.int .i64 fa)).setCell ⟨g, i.toNat * 3 + 1, none⟩ (.int .i64 fb)).setCell ⟨g, i.toNat * 3 + 2, none⟩ (.int .i64 fc))) ?hg ?ho ?hn ?hr ?_; (case ho => rfl); (case hg => rfl); (case hn => rfl); (case hr => first | (go_simp; done) | (go_simp; rfl)); intro wA_ hw_; have HGR : w9_.grownBy wA_ (some g) := (by rw [hw_]; exact HP.o.2); have HOn := aM (show k46.R 46 wA_ w0.heap.size (fun k_ => (P0_ k_ ∨ w.heap.size ≤ k_)) (.slice (some ⟨g, 0, none⟩) l.length c0) y from (by rw [hw_, NY.o]; exact HP.o.1)); replace HK := aM (Kept.of_grown HGR HK.o (fun k_ e_ => (HO.o.1 k_ e_))); replace HB := aM ((by rw [hw_]; exact (((HB.o.setCell GB.o _).setCell GB.o _).setCell GB.o _)) : Below w0.heap.size w0 wA_); replace HI := aM (blk_grown HI.o HGR (Kd.R_ne HO.o HI.o (by decide))); replace HS := aM HK.o.1; clear HO hw_ HGR HP; have HO := HOn; clear HOn))
     go_roundg k1
     case measure => have := HK1.o; omega
     case rel => exact ⟨y, wrap64 (i + 1), wrap64 (j + 1), zV, zV, H', ⟨by have := HK1.o; omega⟩, HO, HK, HB, HI, ⟨HK.o.1⟩⟩
section
variable {α : Type} {d : Kd α} {e et g n cap : Nat} {w W : World} {base : Nat} {ok : Nat → Prop} {xs : List (List α)} {i : Int}
theorem slot_turn (h : Kd.S (Kd.slice et d) e W base ok (.slice (some ⟨g, 0, none⟩) n cap) xs) (h0 : 0 ≤ i) (h1 : i < n) :
  ∃ (oki : Nat → Prop) (vs : Value), W.cell? ⟨g, i.toNat, none⟩ = some vs ∧ d.R et W base oki vs (xs.getD i.toNat []) ∧ (∀ k, oki k → ok k ∧ k ≠ g ∧ k < W.heap.size) ∧
   ∀ (W' : World) (vn : Value) (x' : List α), Kept W W' oki → d.R et W' base (fun k => oki k ∨ W.heap.size ≤ k) vn x' → Kd.S (Kd.slice et d) e (W'.setCell ⟨g, i.toNat, none⟩ vn) base (fun k => ok k ∨ W.heap.size ≤ k) (.slice (some ⟨g, 0, none⟩) n cap) (xs.set i.toNat x') := by
 obtain ⟨oki, c, hcl, hM, hcc, hoki, HH⟩ := Kd.S_lend (Kd.S_mono (Kd.S_bound h) (ok' := fun k => ok k ∧ k < W.heap.size) (fun k hk => ⟨hk.1, hk.2.2.1⟩)) [] i h0 h1
 have hgl : g < W.heap.size := (Kd.S_lt h) g rfl
 obtain ⟨vs, hv, hR⟩ := hM
 subst hv
 refine ⟨oki, vs, ?_, hR, fun k hk => ⟨(hoki k hk).1.1, (hoki k hk).2, (hoki k hk).1.2⟩, fun W' vn x' hk hR' => ?_⟩
 ·have := hcc 0 vs rfl
  have e0 : i.toNat * (Kd.slice et d).sz + 0 = i.toNat := Nat.mul_one _
  rwa [e0] at this
 ·obtain ⟨f, hf⟩ := HH.2
  have H1 : Kd.H (Kd.slice et d) e W base (fun k => ok k ∨ W.heap.size ≤ k) (.slice (some ⟨g, 0, none⟩) n cap) xs i (fun k => oki k ∨ W.heap.size ≤ k) [vs] :=
   ⟨fun k hk => hk.elim (fun h_ => .inl (hoki k h_).1.1) .inr, f, Kd.R_mono hf (fun k hk => ⟨.inl hk.1.1, fun h2 => h2.elim hk.2 (fun h3 => by have := hk.1.2; omega)⟩)⟩
  have H2 := Kd.H_step (w1 := W') H1 (fun k ho hn hlt => hk.2 k hlt (fun h2 => hn (.inl h2)))
  exact (slot_put H2 h0 h1 hR' (fun k hk => hk) (fun k hk he => hk.elim (fun h_ => (hoki k h_).2 he) (fun h_ => by omega))).1
end
section
variable {w : World} {base gN n c : Nat} {ok : Nat → Prop} {v1 v2 v3 : Value} {l1 l2 : List (List S46)} {l3 : List S46} {i : Int}
theorem WR.near_turn (h : WR w base ok (.slice (some ⟨gN, 0, none⟩) n c) v2 v3 l1 l2 l3) (h0 : 0 ≤ i) (h1 : i < n) :
  ∃ (oki : Nat → Prop) (A : Option Addr) (q : Nat), w.cell? ⟨gN, i.toNat, none⟩ = some (.slice A (l1.getD i.toNat []).length q) ∧ k46.R 46 w base oki (.slice A (l1.getD i.toNat []).length q) (l1.getD i.toNat []) ∧ (∀ k, oki k → ok k ∧ k ≠ gN ∧ k < w.heap.size) ∧ (∀ j, w.frozen? ⟨gN, j, none⟩ = false) ∧ ok gN ∧ base ≤ gN ∧ gN < w.heap.size ∧
   ∀ (W' : World) (vn : Value) (x' : List S46), Kept w W' oki → k46.R 46 W' base (fun k => oki k ∨ w.heap.size ≤ k) vn x' → WR (W'.setCell ⟨gN, i.toNat, none⟩ vn) base (fun k => ok k ∨ w.heap.size ≤ k) (.slice (some ⟨gN, 0, none⟩) n c) v2 v3 (l1.set i.toNat x') l2 l3 := by
 obtain ⟨P1, P2, P3, ⟨o1, o2, o3⟩, ⟨d1, d2, d3⟩, s1, s2, s3⟩ := h
 have pg : P1 gN := (Kd.S_R s1).1 gN rfl
 have hlt := Kd.S_lt s1 gN rfl
 have hbs := (Kd.S_bound s1)
 have hge : base ≤ gN := ((Kd.S_R hbs).1 gN rfl).2.1
 obtain ⟨oki, vs, hx, hR, hok, hsw⟩ := slot_turn s1 h0 h1
 obtain ⟨A, q, rfl⟩ := Kd.R_slice hR
 obtain ⟨cells, hc⟩ := Kd.S_typed s1 gN rfl
 refine ⟨oki, A, q, hx, hR, fun k hk => ⟨o1 k (hok k hk).1, (hok k hk).2⟩, fun j => blk_frozen hc j, o1 _ pg, hge, hlt, fun W' vn x' hk hR' => ?_⟩
 have hs := Kd.S_mono (Kd.S_bound (hsw W' vn x' hk hR')) (ok' := fun k => (P1 k ∧ k < w.heap.size) ∨ w.heap.size ≤ k) (fun k hk => (Nat.lt_or_ge k w.heap.size).elim (fun hl => hk.1.elim (fun h => .inl ⟨h, hl⟩) .inr) .inr)
 have hkk : Kept w (W'.setCell ⟨gN, i.toNat, none⟩ vn) (fun k => oki k ∨ k = gN) := (hk.mono (S' := fun k => oki k ∨ k = gN) (fun k h => .inl h)).setCell (p := ⟨gN, i.toNat, none⟩) (.inl (.inr rfl)) vn
 refine ⟨_, fun k => P2 k ∧ k < w.heap.size, fun k => P3 k ∧ k < w.heap.size, ⟨fun k h => h.elim (fun h => .inl (o1 k h.1)) .inr, fun k h => .inl (o2 k h.1), fun k h => .inl (o3 k h.1)⟩, ⟨fun k h h2 => h.elim (fun h => d1 k h.1 h2.1) (fun h => by have := h2.2; omega), fun k h h2 => h.elim (fun h => d2 k h.1 h2.1) (fun h => by have := h2.2; omega), fun k h h2 => d3 k h.1 h2.1⟩, hs, ?_, ?_⟩
 ·exact Kd.S_kept (Kd.S_mono (Kd.S_bound s2) (fun k h => ⟨h.1, h.2.2.1⟩)) hkk (fun k h h1 => h1.elim (fun h2 => d1 k (hok k h2).1 h.1) (fun e => d1 k (e ▸ pg) h.1))
 ·exact Kd.R_kept (Kd.R_mono (Kd.R_bound s3) (fun k h => ⟨h.1, h.2.2.1⟩)) hkk (fun k h h1 => h1.elim (fun h2 => d2 k (hok k h2).1 h.1) (fun e => d2 k (e ▸ pg) h.1))
theorem WR.far_turn (h : WR w base ok v1 (.slice (some ⟨gN, 0, none⟩) n c) v3 l1 l2 l3) (h0 : 0 ≤ i) (h1 : i < n) :
  ∃ (oki : Nat → Prop) (A : Option Addr) (q : Nat), w.cell? ⟨gN, i.toNat, none⟩ = some (.slice A (l2.getD i.toNat []).length q) ∧ k46.R 46 w base oki (.slice A (l2.getD i.toNat []).length q) (l2.getD i.toNat []) ∧ (∀ k, oki k → ok k ∧ k ≠ gN ∧ k < w.heap.size) ∧ (∀ j, w.frozen? ⟨gN, j, none⟩ = false) ∧ ok gN ∧ base ≤ gN ∧ gN < w.heap.size ∧
   ∀ (W' : World) (vn : Value) (x' : List S46), Kept w W' oki → k46.R 46 W' base (fun k => oki k ∨ w.heap.size ≤ k) vn x' → WR (W'.setCell ⟨gN, i.toNat, none⟩ vn) base (fun k => ok k ∨ w.heap.size ≤ k) v1 (.slice (some ⟨gN, 0, none⟩) n c) v3 l1 (l2.set i.toNat x') l3 := by
 obtain ⟨P1, P2, P3, ⟨o1, o2, o3⟩, ⟨d1, d2, d3⟩, s1, s2, s3⟩ := h
 have pg : P2 gN := (Kd.S_R s2).1 gN rfl
 have hlt := Kd.S_lt s2 gN rfl
 have hbs := (Kd.S_bound s2)
 have hge : base ≤ gN := ((Kd.S_R hbs).1 gN rfl).2.1
 obtain ⟨oki, vs, hx, hR, hok, hsw⟩ := slot_turn s2 h0 h1
 obtain ⟨A, q, rfl⟩ := Kd.R_slice hR
 obtain ⟨cells, hc⟩ := Kd.S_typed s2 gN rfl
 refine ⟨oki, A, q, hx, hR, fun k hk => ⟨o2 k (hok k hk).1, (hok k hk).2⟩, fun j => blk_frozen hc j, o2 _ pg, hge, hlt, fun W' vn x' hk hR' => ?_⟩
 have hs := Kd.S_mono (Kd.S_bound (hsw W' vn x' hk hR')) (ok' := fun k => (P2 k ∧ k < w.heap.size) ∨ w.heap.size ≤ k) (fun k hk => (Nat.lt_or_ge k w.heap.size).elim (fun hl => hk.1.elim (fun h => .inl ⟨h, hl⟩) .inr) .inr)
 have hkk : Kept w (W'.setCell ⟨gN, i.toNat, none⟩ vn) (fun k => oki k ∨ k = gN) := (hk.mono (S' := fun k => oki k ∨ k = gN) (fun k h => .inl h)).setCell (p := ⟨gN, i.toNat, none⟩) (.inl (.inr rfl)) vn
 refine ⟨fun k => P1 k ∧ k < w.heap.size, _, fun k => P3 k ∧ k < w.heap.size, ⟨fun k h => .inl (o1 k h.1), fun k h => h.elim (fun h => .inl (o2 k h.1)) .inr, fun k h => .inl (o3 k h.1)⟩, ⟨fun k h2 h => h.elim (fun h => d1 k h2.1 h.1) (fun h => by have := h2.2; omega), fun k h h2 => d2 k h.1 h2.1, fun k h h2 => h.elim (fun h => d3 k h.1 h2.1) (fun h => by have := h2.2; omega)⟩, ?_, hs, ?_⟩
 ·exact Kd.S_kept (Kd.S_mono (Kd.S_bound s1) (fun k h => ⟨h.1, h.2.2.1⟩)) hkk (fun k h h1 => h1.elim (fun h2 => d1 k h.1 (hok k h2).1) (fun e => d1 k h.1 (e ▸ pg)))
 ·exact Kd.R_kept (Kd.R_mono (Kd.R_bound s3) (fun k h => ⟨h.1, h.2.2.1⟩)) hkk (fun k h h1 => h1.elim (fun h2 => d3 k (hok k h2).1 h.1) (fun e => d3 k (e ▸ pg) h.1))
theorem WR.rest_turn (h : WR w base ok v1 v2 v3 l1 l2 l3) :
  ∃ (oki : Nat → Prop) (A : Option Addr) (q : Nat), v3 = .slice A l3.length q ∧ k46.R 46 w base oki v3 l3 ∧ (∀ k, oki k → ok k ∧ k < w.heap.size) ∧
   ∀ (W' : World) (vn : Value) (x' : List S46), Kept w W' oki → k46.R 46 W' base (fun k => oki k ∨ w.heap.size ≤ k) vn x' → WR W' base (fun k => ok k ∨ w.heap.size ≤ k) v1 v2 vn l1 l2 x' := by
 obtain ⟨P1, P2, P3, ⟨o1, o2, o3⟩, ⟨d1, d2, d3⟩, s1, s2, s3⟩ := h
 obtain ⟨A, q, e⟩ := Kd.R_slice s3
 refine ⟨fun k => P3 k ∧ k < w.heap.size, A, q, e, Kd.R_mono (Kd.R_bound s3) (fun k h => ⟨h.1, h.2.2.1⟩), fun k hk => ⟨o3 k hk.1, hk.2⟩, fun W' vn x' hk hR' => ?_⟩
 refine ⟨fun k => P1 k ∧ k < w.heap.size, fun k => P2 k ∧ k < w.heap.size, _, ⟨fun k h => .inl (o1 k h.1), fun k h => .inl (o2 k h.1), fun k h => h.elim (fun h => .inl (o3 k h.1)) .inr⟩, ⟨fun k h h2 => d1 k h.1 h2.1, fun k h2 h => h.elim (fun h => d2 k h2.1 h.1) (fun h => by have := h2.2; omega), fun k h2 h => h.elim (fun h => d3 k h2.1 h.1) (fun h => by have := h2.2; omega)⟩, ?_, ?_, hR'⟩
 ·exact Kd.S_kept (Kd.S_mono (Kd.S_bound s1) (fun k h => ⟨h.1, h.2.2.1⟩)) hk (fun k h h1 => d2 k h.1 h1.1)
 ·exact Kd.S_kept (Kd.S_mono (Kd.S_bound s2) (fun k h => ⟨h.1, h.2.2.1⟩)) hk (fun k h h1 => d3 k h.1 h1.1)
end
def impl_Cancel.T2 : Bool × List (List Nat × List Nat) := (true, [([], []), ([0], [0]), ([1], [1]), ([2, 1], [2]), ([3], [3]), ([4, 3, 3], [3, 4]), ([3], [3]), ([5, 6, 5, 3], [3, 5, 6]), ([7, 3], [3, 7]), ([3, 8], [3, 8])])
def impl_Cancel.B2 : List Nat := [0, 1, 3, 7, 15, 31, 15, 127, 255, 511]
theorem impl_Cancel.tab2 : rtab .any (opsOf Try.f35 2) = impl_Cancel.T2 := by kernel_rfl
theorem impl_Cancel.bits2 : waitsOk impl_Cancel.T2.2 impl_Cancel.B2 = true := by kernel_rfl
set_option maxHeartbeats 8000000 in
set_option maxRecDepth 100000 in
theorem impl_Cancel.wrong (k : Nat) (A1 : Option Addr) (c1 : Nat) (l1 : List (List S46)) (A2 : Option Addr) (c2 : Nat) (l2 : List (List S46)) (A3 : Option Addr) (c3 : Nat) (l3 : List S46) (id y0 : Int) (y1 y2 : List (List S46)) (y3 : List S46) (w : World) (hr1 : Kd.C (Kd.slice 46 k46) w A1 l1.length l1) (hc1 : l1.length ≤ c1) (hr2 : Kd.C (Kd.slice 46 k46) w A2 l2.length l2) (hc2 : l2.length ≤ c2) (hr3 : Kd.C k46 w A3 l3.length l3) (hc3 : l3.length ≤ c3) (hac : impl_copyWheel.f k y0 l1 l2 l3 = some (y0, y1, y2, y3)) (hao : impl_WheelOk.f k y0 l1 l2 l3 = some false) :
  Calls Try.prog 35 #[.agg #[.int .i64 y0, .slice A1 l1.length c1, .slice A2 l2.length c2, .slice A3 l3.length c3], .int .i64 id] w fun e w' => ∃ v1_ v2_ v3_ : Value, e = .returned (.tuple #[.agg #[.int .i64 y0, v1_, v2_, v3_], .bool false]) ∧ WR w' w.heap.size (fun _ => True) v1_ v2_ v3_ y1 y2 y3 ∧ Below w.heap.size w w' := by
 have hu25 := Try.underlying25
 have hu46 := Try.underlying46
 have AC := aM hac
 have AO := aM hao
 clear hac hao
 have HR1 := aM hr1
 have HR2 := aM hr2
 have HR3 := aM hr3
 have HC1 := aM hc1
 have HC2 := aM hc2
 have HC3 := aM hc3
 have HB := aM (Below.refl w.heap.size w)
 clear hr1 hr2 hr3 hc1 hc2 hc3
 go_enter Try.func35, Try.ntmps35
 try go_wp2_with (first | ((with_reducible refine gD 2 rfl ?_); refine bE 2 #[.int .i64 y0, .slice A1 l1.length c1, .slice A2 l2.length c2, .slice A3 l3.length c3] 25 ?_; intro g2 hg w2_ hbox hb; have GE2 := aM (zg HB.o hg : w.heap.size ≤ g2);   have BK2 := aM hbox; clear hbox hg;   replace HB := zLB HB.o hb; clear hb; (try clear hz2_); have hz2_ := zc4 BK2.o;) | ((with_reducible refine gD 3 rfl ?_); refine bE 3 #[.int .i64 id] 3 ?_; intro g3 hg w3_ hbox hb; have GE3 := aM (zg HB.o hg : w.heap.size ≤ g3); have N2_3 := aM (zN BK2.o hg : g2 ≠ g3);  have BK3 := aM hbox; clear hbox hg; replace BK2 := zBB BK2 hb;  replace HB := zLB HB.o hb; clear hb; (try clear hz2_); have hz2_ := zc4 BK2.o; (try clear hz3_); have hz3_ := ((blk_cell BK3.o 0).trans rfl : _ = some (Value.int .i64 id));) | ((with_reducible refine gD 4 rfl ?_); refine bE 4 #[.int .i64 0, .slice none 0 0, .slice none 0 0, .slice none 0 0] 25 ?_; intro g4 hg w4_ hbox hb; have GE4 := aM (zg HB.o hg : w.heap.size ≤ g4); have N2_4 := aM (zN BK2.o hg : g2 ≠ g4); have N3_4 := aM (zN BK3.o hg : g3 ≠ g4);  have BK4 := aM hbox; clear hbox hg; replace BK2 := zBB BK2 hb; replace BK3 := zBB BK3 hb;  replace HB := zLB HB.o hb; clear hb; (try clear hz2_); have hz2_ := zc4 BK2.o; (try clear hz3_); have hz3_ := ((blk_cell BK3.o 0).trans rfl : _ = some (Value.int .i64 id)); (try clear hz4_); have hz4_ := zc4 BK4.o;) | ((with_reducible refine gC 74 rfl ?_); refine gL 10 Try.func74 #[.agg #[.int .i64 y0, .slice A1 l1.length c1, .slice A2 l2.length c2, .slice A3 l3.length c3]] ?_; (refine (impl_copyWheel.callsW k y0 A1 c1 l1 A2 c2 l2 A3 c3 l3 y0 y1 y2 y3 _ ?s1 HC1.o ?s2 HC2.o ?s3 HC3.o AC.o).mono ?_); (case s1 => exact Kd.C_below HR1.o HB.o); (case s2 => exact Kd.C_below HR2.o HB.o); (case s3 => exact Kd.C_below HR3.o HB.o); rintro e w10_ ⟨v1, v2, v3, rfl, hw_, hb⟩; obtain ⟨B1, q1, B2, q2, B3, q3, rfl, rfl, rfl, _, _, _, _⟩ := hw_.reads; refine ⟨_, rfl, ?_⟩; have F2 := aM (blk_lt BK2.o); have F3 := aM (blk_lt BK3.o); have F4 := aM (blk_lt BK4.o); obtain ⟨n0, hn0_⟩ : ∃ n0, n0 = _ := ⟨_, rfl⟩; have HWR := aM ((hw_.bound.mono (ok' := fun k_ => n0 ≤ k_) (fun k_ h_ => by rw [hn0_]; exact h_.2.1)).lower HB.o.size); have FN := aM (hb.size); have HNB := aM (HB.o.size); rw [← hn0_] at F2 F3 F4 FN HNB; clear hw_ hn0_; replace BK2 := zBB BK2 hb; replace BK3 := zBB BK3 hb; replace BK4 := zBB BK4 hb;  replace HB := zLB HB.o hb; clear hb; (try clear hz2_); have hz2_ := zc4 BK2.o; (try clear hz3_); have hz3_ := ((blk_cell BK3.o 0).trans rfl : _ = some (Value.int .i64 id)); (try clear hz4_); have hz4_ := zc4 BK4.o;) | ((with_reducible refine gD 6 rfl ?_); refine bE 6 #[.int .i64 0, .slice none 0 0, .slice none 0 0, .slice none 0 0] 25 ?_; intro g6 hg w6_ hbox hb; have GE6 := aM (zg HB.o hg : w.heap.size ≤ g6); have N2_6 := aM (zN BK2.o hg : g2 ≠ g6); have N3_6 := aM (zN BK3.o hg : g3 ≠ g6); have N4_6 := aM (zN BK4.o hg : g4 ≠ g6); have FN6 := aM (by rw [hg]; exact FN.o : n0 ≤ g6); have BK6 := aM hbox; clear hbox hg; replace BK2 := zBB BK2 hb; replace BK3 := zBB BK3 hb; replace BK4 := zBB BK4 hb; replace HWR := aM (HWR.o.below hb); replace HB := zLB HB.o hb; clear hb; (try clear hz2_); have hz2_ := zc4 BK2.o; (try clear hz3_); have hz3_ := ((blk_cell BK3.o 0).trans rfl : _ = some (Value.int .i64 id)); (try clear hz4_); have hz4_ := zc4 BK4.o; (try clear hz6_); have hz6_ := zc4 BK6.o;) | ((with_reducible refine gate_store (t := 25) (p := 6) rfl ?_); refine store_event (t := 25) (p := 6) (v := ?vo1_) (w1 := ((((w6_.setCell ⟨g6, 0, none⟩ (.int .i64 y0)).setCell ⟨g6, 1, none⟩ (.slice B1 y1.length q1)).setCell ⟨g6, 2, none⟩ (.slice B2 y2.length q2)).setCell ⟨g6, 3, none⟩ (.slice B3 y3.length q3))) ?hg ?ho ?hn ?hr ?_; (case ho => rfl); (case hg => rfl); (case hn => rfl); (case hr => (have hs0_ := (blk_cell BK6.o 0).trans rfl; have hf0_ := blk_frozen BK6.o 0; have hs1_ := (blk_cell BK6.o 1).trans rfl; have hf1_ := blk_frozen BK6.o 1; have hs2_ := (blk_cell BK6.o 2).trans rfl; have hf2_ := blk_frozen BK6.o 2; have hs3_ := (blk_cell BK6.o 3).trans rfl; have hf3_ := blk_frozen BK6.o 3;(try clear hz2_); have hz2_ := zc4 BK2.o; (try clear hz3_); have hz3_ := ((blk_cell BK3.o 0).trans rfl : _ = some (Value.int .i64 id)); (try clear hz4_); have hz4_ := zc4 BK4.o; first | (go_simp; done) | (go_simp; rfl))); intro w7_ hw_; have HK_ := set4_kept hw_; have BKn := aM (set4_blk hw_ BK6.o rfl); have HBn := aM (set4_below hw_ HB.o GE6.o); replace BK2 := aM (blk_kept BK2.o HK_ (N2_6.o)); replace BK3 := aM (blk_kept BK3.o HK_ (N3_6.o)); replace BK4 := aM (blk_kept BK4.o HK_ (N4_6.o)); replace HWR := aM (((HWR.o.types BK6.o (by decide) (by decide)).kept HK_ (fun _ h_ => h_.2)).mono (ok' := fun k_ => n0 ≤ k_ ∧ k_ ≠ g6) (fun _ h_ => h_)); clear hw_ BK6 HB; have BK6 := BKn; have HB := HBn; clear BKn HBn HK_; (try clear hz2_); have hz2_ := zc4 BK2.o; (try clear hz3_); have hz3_ := ((blk_cell BK3.o 0).trans rfl : _ = some (Value.int .i64 id)); (try clear hz4_); have hz4_ := zc4 BK4.o; (try clear hz6_); have hz6_ := zc4 BK6.o;))
 replace BK2 := zBD BK2
 replace BK3 := zBD BK3
 replace BK4 := zBD BK4
 replace BK6 := zBD BK6
 replace HWR := aM (HWR.o.drew)
 replace HB := zLD HB
 refine start_ (n := 10) (S := fun w' => w'.cell? ⟨g2, 0, none⟩ = some (.int .i64 y0) ∧ w'.cell? ⟨g2, 1, none⟩ = some (.slice A1 l1.length c1) ∧ w'.cell? ⟨g2, 2, none⟩ = some (.slice A2 l2.length c2) ∧ w'.cell? ⟨g2, 3, none⟩ = some (.slice A3 l3.length c3) ∧ w'.cell? ⟨g3, 0, none⟩ = some (.int .i64 id)) (ds := []) (fB 10 0) (by kernel_rfl) rfl rfl ⟨(blk_cell BK2.o 0).trans rfl, (blk_cell BK2.o 1).trans rfl, (blk_cell BK2.o 2).trans rfl, (blk_cell BK2.o 3).trans rfl, (blk_cell BK3.o 0).trans rfl⟩ (fun hHeld => ?_); refine with_tabW impl_Cancel.tab2 impl_Cancel.bits2 (fun HT_ HW_ => ?_)
 generalize w7_.drew = w8_ at BK2 BK3 BK4 BK6 HWR HB hHeld ⊢
 refine tY 0 11 (fB 10 1) HT_.o HW_.o hHeld ?_
 refine oN 1 12 (fB 10 3) HT_.o fun K hK => ?_
 refine gS Try.func30 #[.agg #[.int .i64 y0, .slice A1 l1.length c1, .slice A2 l2.length c2, .slice A3 l3.length c3]] ?_
 refine (impl_WheelOk.calls k y0 A1 c1 l1 A2 c2 l2 A3 c3 l3 false _ ?s1 HC1.o ?s2 HC2.o ?s3 HC3.o AO.o).mono ?_
 (case s1 => exact Kd.C_below HR1.o HB.o)
 (case s2 => exact Kd.C_below HR2.o HB.o)
 (case s3 => exact Kd.C_below HR3.o HB.o)
 rintro e w9_ ⟨rfl, hb⟩
 refine ⟨_, rfl, ?_⟩
 replace BK2 := zBB BK2 hb
 replace BK3 := zBB BK3 hb
 replace BK4 := zBB BK4 hb
 replace BK6 := zBB BK6 hb
 replace HWR := aM (HWR.o.below hb)
 replace HB := zLB HB.o hb
 clear hb
 refine hK.out _ _ ⟨(blk_cell BK2.o 0).trans rfl, (blk_cell BK2.o 1).trans rfl, (blk_cell BK2.o 2).trans rfl, (blk_cell BK2.o 3).trans rfl, (blk_cell BK3.o 0).trans rfl⟩ fun hHeld => ?_; clear hK K
 refine nZ 12 ?_
 refine pY 2 13 (fB 10 7) HT_.o ?_
 refine pY 3 14 (fB 10 15) HT_.o ?_
 refine pN 4 15 (fB 10 31) HT_.o ?_
 refine pN 6 17 (fB 10 95) HT_.o ?_
 refine oN 5 16 (fB 10 127) HT_.o fun K hK => ?_
 refine off_ (by rfl) ?_
 refine hK.out _ _ ⟨(blk_cell BK2.o 0).trans rfl, (blk_cell BK2.o 1).trans rfl, (blk_cell BK2.o 2).trans rfl, (blk_cell BK2.o 3).trans rfl, (blk_cell BK3.o 0).trans rfl⟩ fun hHeld => ?_; clear hK K
 refine nZ 16 ?_
 refine oN 7 18 (fB 10 255) HT_.o fun K hK => ?_
 refine off_ (by rfl) ?_
 refine hK.out _ _ ⟨(blk_cell BK2.o 0).trans rfl, (blk_cell BK2.o 1).trans rfl, (blk_cell BK2.o 2).trans rfl, (blk_cell BK2.o 3).trans rfl, (blk_cell BK3.o 0).trans rfl⟩ fun hHeld => ?_; clear hK K
 refine nZ 18 ?_
 refine pN 8 19 (fB 10 511) HT_.o ?_
 refine pY 9 20 (fB 10 1023) HT_.o ?_
 refine done_ (done_of HT_.o (by kernel_rfl)) ?_
 clear hHeld HT_ HW_
 have hz2_ := zc4 BK2.o
 have hz3_ := ((blk_cell BK3.o 0).trans rfl : _ = some (Value.int .i64 id))
 have hz4_ := zc4 BK4.o
 have hz6_ := zc4 BK6.o
 go_wp2_with (first | ((with_reducible refine gate_store (t := 25) (p := 4) rfl ?_); refine store_event (t := 25) (p := 4) (v := ?vo0_) (w1 := ((((w9_.setCell ⟨g4, 0, none⟩ (.int .i64 y0)).setCell ⟨g4, 1, none⟩ (.slice B1 y1.length q1)).setCell ⟨g4, 2, none⟩ (.slice B2 y2.length q2)).setCell ⟨g4, 3, none⟩ (.slice B3 y3.length q3))) ?hg ?ho ?hn ?hr ?_; (case ho => rfl); (case hg => rfl); (case hn => rfl); (case hr => (have hs0_ := (blk_cell BK4.o 0).trans rfl; have hf0_ := blk_frozen BK4.o 0; have hs1_ := (blk_cell BK4.o 1).trans rfl; have hf1_ := blk_frozen BK4.o 1; have hs2_ := (blk_cell BK4.o 2).trans rfl; have hf2_ := blk_frozen BK4.o 2; have hs3_ := (blk_cell BK4.o 3).trans rfl; have hf3_ := blk_frozen BK4.o 3;(try clear hz2_); have hz2_ := zc4 BK2.o; (try clear hz3_); have hz3_ := ((blk_cell BK3.o 0).trans rfl : _ = some (Value.int .i64 id)); (try clear hz6_); have hz6_ := zc4 BK6.o; first | (go_simp; done) | (go_simp; rfl))); intro wF hw_; have HK_ := set4_kept hw_; have BKn := aM (set4_blk hw_ BK4.o rfl); have HBn := aM (set4_below hw_ HB.o GE4.o); have HF := aM (((HWR.o.types BK4.o (by decide) (by decide)).kept HK_ (fun _ h_ => h_.2)).mono (ok' := fun _ => True) (fun _ _ => trivial)); clear hw_ BK4 HB; have BK4 := BKn; have HB := HBn; clear BKn HBn HK_))
 refine bodyPost_ret (results_ct rfl _ _ g4 25 #[.int .i64 y0, .slice B1 y1.length q1, .slice B2 y2.length q2, .slice B3 y3.length q3] (0, 0) _ rfl (by exact BK4.o) Try.underlying25 rfl (by kernel_rfl)) rfl ?_
 exact ⟨_, _, _, rfl, HF.o, HB.o⟩
set_option maxHeartbeats 8000000 in
set_option maxRecDepth 100000 in
theorem impl_Cancel.lacks (k : Nat) (A1 : Option Addr) (c1 : Nat) (l1 : List (List S46)) (A2 : Option Addr) (c2 : Nat) (l2 : List (List S46)) (A3 : Option Addr) (c3 : Nat) (l3 : List S46) (id y0 : Int) (y1 y2 : List (List S46)) (y3 : List S46) (w : World) (hr1 : Kd.C (Kd.slice 46 k46) w A1 l1.length l1) (hc1 : l1.length ≤ c1) (hr2 : Kd.C (Kd.slice 46 k46) w A2 l2.length l2) (hc2 : l2.length ≤ c2) (hr3 : Kd.C k46 w A3 l3.length l3) (hc3 : l3.length ≤ c3) (hac : impl_copyWheel.f k y0 l1 l2 l3 = some (y0, y1, y2, y3)) (hao : impl_WheelOk.f k y0 l1 l2 l3 = some true) (T : List S46) (t : Int) (hT : impl_Timers.f k y0 l1 l2 l3 = some T) (ha : impl_timerAt.f k T id = some t) (ht : t < 0) :
  Calls Try.prog 35 #[.agg #[.int .i64 y0, .slice A1 l1.length c1, .slice A2 l2.length c2, .slice A3 l3.length c3], .int .i64 id] w fun e w' => ∃ v1_ v2_ v3_ : Value, e = .returned (.tuple #[.agg #[.int .i64 y0, v1_, v2_, v3_], .bool false]) ∧ WR w' w.heap.size (fun _ => True) v1_ v2_ v3_ y1 y2 y3 ∧ Below w.heap.size w w' := by
 have hu25 := Try.underlying25
 have hu46 := Try.underlying46
 have AC := aM hac
 have AO := aM hao
 clear hac hao
 have HR1 := aM hr1
 have HR2 := aM hr2
 have HR3 := aM hr3
 have HC1 := aM hc1
 have HC2 := aM hc2
 have HC3 := aM hc3
 have HB := aM (Below.refl w.heap.size w)
 clear hr1 hr2 hr3 hc1 hc2 hc3
 have AT := aM hT
 have AA := aM ha
 have ht2 := dT ht
 clear hT ha ht
 go_enter Try.func35, Try.ntmps35
 try go_wp2_with (first | ((with_reducible refine gD 2 rfl ?_); refine bE 2 #[.int .i64 y0, .slice A1 l1.length c1, .slice A2 l2.length c2, .slice A3 l3.length c3] 25 ?_; intro g2 hg w2_ hbox hb; have GE2 := aM (zg HB.o hg : w.heap.size ≤ g2);   have BK2 := aM hbox; clear hbox hg;   replace HB := zLB HB.o hb; clear hb; (try clear hz2_); have hz2_ := zc4 BK2.o;) | ((with_reducible refine gD 3 rfl ?_); refine bE 3 #[.int .i64 id] 3 ?_; intro g3 hg w3_ hbox hb; have GE3 := aM (zg HB.o hg : w.heap.size ≤ g3); have N2_3 := aM (zN BK2.o hg : g2 ≠ g3);  have BK3 := aM hbox; clear hbox hg; replace BK2 := zBB BK2 hb;  replace HB := zLB HB.o hb; clear hb; (try clear hz2_); have hz2_ := zc4 BK2.o; (try clear hz3_); have hz3_ := ((blk_cell BK3.o 0).trans rfl : _ = some (Value.int .i64 id));) | ((with_reducible refine gD 4 rfl ?_); refine bE 4 #[.int .i64 0, .slice none 0 0, .slice none 0 0, .slice none 0 0] 25 ?_; intro g4 hg w4_ hbox hb; have GE4 := aM (zg HB.o hg : w.heap.size ≤ g4); have N2_4 := aM (zN BK2.o hg : g2 ≠ g4); have N3_4 := aM (zN BK3.o hg : g3 ≠ g4);  have BK4 := aM hbox; clear hbox hg; replace BK2 := zBB BK2 hb; replace BK3 := zBB BK3 hb;  replace HB := zLB HB.o hb; clear hb; (try clear hz2_); have hz2_ := zc4 BK2.o; (try clear hz3_); have hz3_ := ((blk_cell BK3.o 0).trans rfl : _ = some (Value.int .i64 id)); (try clear hz4_); have hz4_ := zc4 BK4.o;) | ((with_reducible refine gC 74 rfl ?_); refine gL 10 Try.func74 #[.agg #[.int .i64 y0, .slice A1 l1.length c1, .slice A2 l2.length c2, .slice A3 l3.length c3]] ?_; (refine (impl_copyWheel.callsW k y0 A1 c1 l1 A2 c2 l2 A3 c3 l3 y0 y1 y2 y3 _ ?s1 HC1.o ?s2 HC2.o ?s3 HC3.o AC.o).mono ?_); (case s1 => exact Kd.C_below HR1.o HB.o); (case s2 => exact Kd.C_below HR2.o HB.o); (case s3 => exact Kd.C_below HR3.o HB.o); rintro e w10_ ⟨v1, v2, v3, rfl, hw_, hb⟩; obtain ⟨B1, q1, B2, q2, B3, q3, rfl, rfl, rfl, _, _, _, _⟩ := hw_.reads; refine ⟨_, rfl, ?_⟩; have F2 := aM (blk_lt BK2.o); have F3 := aM (blk_lt BK3.o); have F4 := aM (blk_lt BK4.o); obtain ⟨n0, hn0_⟩ : ∃ n0, n0 = _ := ⟨_, rfl⟩; have HWR := aM ((hw_.bound.mono (ok' := fun k_ => n0 ≤ k_) (fun k_ h_ => by rw [hn0_]; exact h_.2.1)).lower HB.o.size); have FN := aM (hb.size); have HNB := aM (HB.o.size); rw [← hn0_] at F2 F3 F4 FN HNB; clear hw_ hn0_; replace BK2 := zBB BK2 hb; replace BK3 := zBB BK3 hb; replace BK4 := zBB BK4 hb;  replace HB := zLB HB.o hb; clear hb; (try clear hz2_); have hz2_ := zc4 BK2.o; (try clear hz3_); have hz3_ := ((blk_cell BK3.o 0).trans rfl : _ = some (Value.int .i64 id)); (try clear hz4_); have hz4_ := zc4 BK4.o;) | ((with_reducible refine gD 6 rfl ?_); refine bE 6 #[.int .i64 0, .slice none 0 0, .slice none 0 0, .slice none 0 0] 25 ?_; intro g6 hg w6_ hbox hb; have GE6 := aM (zg HB.o hg : w.heap.size ≤ g6); have N2_6 := aM (zN BK2.o hg : g2 ≠ g6); have N3_6 := aM (zN BK3.o hg : g3 ≠ g6); have N4_6 := aM (zN BK4.o hg : g4 ≠ g6); have FN6 := aM (by rw [hg]; exact FN.o : n0 ≤ g6); have BK6 := aM hbox; clear hbox hg; replace BK2 := zBB BK2 hb; replace BK3 := zBB BK3 hb; replace BK4 := zBB BK4 hb; replace HWR := aM (HWR.o.below hb); replace HB := zLB HB.o hb; clear hb; (try clear hz2_); have hz2_ := zc4 BK2.o; (try clear hz3_); have hz3_ := ((blk_cell BK3.o 0).trans rfl : _ = some (Value.int .i64 id)); (try clear hz4_); have hz4_ := zc4 BK4.o; (try clear hz6_); have hz6_ := zc4 BK6.o;) | ((with_reducible refine gate_store (t := 25) (p := 6) rfl ?_); refine store_event (t := 25) (p := 6) (v := ?vo3_) (w1 := ((((w6_.setCell ⟨g6, 0, none⟩ (.int .i64 y0)).setCell ⟨g6, 1, none⟩ (.slice B1 y1.length q1)).setCell ⟨g6, 2, none⟩ (.slice B2 y2.length q2)).setCell ⟨g6, 3, none⟩ (.slice B3 y3.length q3))) ?hg ?ho ?hn ?hr ?_; (case ho => rfl); (case hg => rfl); (case hn => rfl); (case hr => (have hs0_ := (blk_cell BK6.o 0).trans rfl; have hf0_ := blk_frozen BK6.o 0; have hs1_ := (blk_cell BK6.o 1).trans rfl; have hf1_ := blk_frozen BK6.o 1; have hs2_ := (blk_cell BK6.o 2).trans rfl; have hf2_ := blk_frozen BK6.o 2; have hs3_ := (blk_cell BK6.o 3).trans rfl; have hf3_ := blk_frozen BK6.o 3;(try clear hz2_); have hz2_ := zc4 BK2.o; (try clear hz3_); have hz3_ := ((blk_cell BK3.o 0).trans rfl : _ = some (Value.int .i64 id)); (try clear hz4_); have hz4_ := zc4 BK4.o; first | (go_simp; done) | (go_simp; rfl))); intro w7_ hw_; have HK_ := set4_kept hw_; have BKn := aM (set4_blk hw_ BK6.o rfl); have HBn := aM (set4_below hw_ HB.o GE6.o); replace BK2 := aM (blk_kept BK2.o HK_ (N2_6.o)); replace BK3 := aM (blk_kept BK3.o HK_ (N3_6.o)); replace BK4 := aM (blk_kept BK4.o HK_ (N4_6.o)); replace HWR := aM (((HWR.o.types BK6.o (by decide) (by decide)).kept HK_ (fun _ h_ => h_.2)).mono (ok' := fun k_ => n0 ≤ k_ ∧ k_ ≠ g6) (fun _ h_ => h_)); clear hw_ BK6 HB; have BK6 := BKn; have HB := HBn; clear BKn HBn HK_; (try clear hz2_); have hz2_ := zc4 BK2.o; (try clear hz3_); have hz3_ := ((blk_cell BK3.o 0).trans rfl : _ = some (Value.int .i64 id)); (try clear hz4_); have hz4_ := zc4 BK4.o; (try clear hz6_); have hz6_ := zc4 BK6.o;))
 replace BK2 := zBD BK2
 replace BK3 := zBD BK3
 replace BK4 := zBD BK4
 replace BK6 := zBD BK6
 replace HWR := aM (HWR.o.drew)
 replace HB := zLD HB
 refine start_ (n := 10) (S := fun w' => w'.cell? ⟨g2, 0, none⟩ = some (.int .i64 y0) ∧ w'.cell? ⟨g2, 1, none⟩ = some (.slice A1 l1.length c1) ∧ w'.cell? ⟨g2, 2, none⟩ = some (.slice A2 l2.length c2) ∧ w'.cell? ⟨g2, 3, none⟩ = some (.slice A3 l3.length c3) ∧ w'.cell? ⟨g3, 0, none⟩ = some (.int .i64 id)) (ds := []) (fB 10 0) (by kernel_rfl) rfl rfl ⟨(blk_cell BK2.o 0).trans rfl, (blk_cell BK2.o 1).trans rfl, (blk_cell BK2.o 2).trans rfl, (blk_cell BK2.o 3).trans rfl, (blk_cell BK3.o 0).trans rfl⟩ (fun hHeld => ?_); refine with_tabW impl_Cancel.tab2 impl_Cancel.bits2 (fun HT_ HW_ => ?_)
 generalize w7_.drew = w8_ at BK2 BK3 BK4 BK6 HWR HB hHeld ⊢
 refine tY 0 11 (fB 10 1) HT_.o HW_.o hHeld ?_
 refine oN 1 12 (fB 10 3) HT_.o fun K hK => ?_
 refine gS Try.func30 #[.agg #[.int .i64 y0, .slice A1 l1.length c1, .slice A2 l2.length c2, .slice A3 l3.length c3]] ?_
 refine (impl_WheelOk.calls k y0 A1 c1 l1 A2 c2 l2 A3 c3 l3 true _ ?s1 HC1.o ?s2 HC2.o ?s3 HC3.o AO.o).mono ?_
 (case s1 => exact Kd.C_below HR1.o HB.o)
 (case s2 => exact Kd.C_below HR2.o HB.o)
 (case s3 => exact Kd.C_below HR3.o HB.o)
 rintro e w9_ ⟨rfl, hb⟩
 refine ⟨_, rfl, ?_⟩
 replace BK2 := zBB BK2 hb
 replace BK3 := zBB BK3 hb
 replace BK4 := zBB BK4 hb
 replace BK6 := zBB BK6 hb
 replace HWR := aM (HWR.o.below hb)
 replace HB := zLB HB.o hb
 clear hb
 refine hK.out _ _ ⟨(blk_cell BK2.o 0).trans rfl, (blk_cell BK2.o 1).trans rfl, (blk_cell BK2.o 2).trans rfl, (blk_cell BK2.o 3).trans rfl, (blk_cell BK3.o 0).trans rfl⟩ fun hHeld => ?_; clear hK K
 refine nZ 12 ?_
 refine pY 2 13 (fB 10 7) HT_.o ?_
 refine pY 3 14 (fB 10 15) HT_.o ?_
 refine tY 4 15 (fB 10 31) HT_.o HW_.o hHeld ?_
 refine tY 6 17 (fB 10 95) HT_.o HW_.o hHeld ?_
 refine oN 5 16 (fB 10 127) HT_.o fun K hK => ?_
 refine gS Try.func25 #[.agg #[.int .i64 y0, .slice A1 l1.length c1, .slice A2 l2.length c2, .slice A3 l3.length c3]] ?_
 refine (impl_Timers.calls k y0 A1 c1 l1 A2 c2 l2 A3 c3 l3 T _ ?s1 HC1.o ?s2 HC2.o ?s3 HC3.o AT.o).mono ?_
 (case s1 => exact Kd.C_below HR1.o HB.o)
 (case s2 => exact Kd.C_below HR2.o HB.o)
 (case s3 => exact Kd.C_below HR3.o HB.o)
 rintro e wt_ ⟨vT, rfl, hT_, hb⟩
 obtain ⟨AT_, ct_, rfl, htc_, htr_⟩ := Kd.R_reads hT_
 clear hT_
 refine ⟨_, rfl, ?_⟩
 replace BK2 := zBB BK2 hb
 replace BK3 := zBB BK3 hb
 replace BK4 := zBB BK4 hb
 replace BK6 := zBB BK6 hb
 replace HWR := aM (HWR.o.below hb)
 replace HB := zLB HB.o hb
 clear hb
 refine hK.out _ _ ⟨(blk_cell BK2.o 0).trans rfl, (blk_cell BK2.o 1).trans rfl, (blk_cell BK2.o 2).trans rfl, (blk_cell BK2.o 3).trans rfl, (blk_cell BK3.o 0).trans rfl⟩ fun hHeld => ?_; clear hK K
 refine nZ 16 ?_
 refine oN 7 18 (fB 10 255) HT_.o fun K hK => ?_
 refine gS Try.func71 #[.slice AT_ T.length ct_, .int .i64 id] ?_
 refine (impl_timerAt.calls k AT_ ct_ T id t _ htr_ htc_ AA.o).mono ?_
 rintro e wu_ ⟨rfl, hb⟩
 refine ⟨_, rfl, ?_⟩
 clear htr_ htc_
 replace BK2 := zBB BK2 hb
 replace BK3 := zBB BK3 hb
 replace BK4 := zBB BK4 hb
 replace BK6 := zBB BK6 hb
 replace HWR := aM (HWR.o.below hb)
 replace HB := zLB HB.o hb
 clear hb
 refine hK.out _ _ ⟨(blk_cell BK2.o 0).trans rfl, (blk_cell BK2.o 1).trans rfl, (blk_cell BK2.o 2).trans rfl, (blk_cell BK2.o 3).trans rfl, (blk_cell BK3.o 0).trans rfl⟩ fun hHeld => ?_; clear hK K
 refine nZ 18 ?_
 refine pY 8 19 (fB 10 511) HT_.o ?_
 refine pY 9 20 (fB 10 1023) HT_.o ?_
 refine done_ (done_of HT_.o (by kernel_rfl)) ?_
 clear hHeld HT_ HW_
 have hz2_ := zc4 BK2.o
 have hz3_ := ((blk_cell BK3.o 0).trans rfl : _ = some (Value.int .i64 id))
 have hz4_ := zc4 BK4.o
 have hz6_ := zc4 BK6.o
 go_wp2_with (first | ((with_reducible refine gate_store (t := 25) (p := 4) rfl ?_); refine store_event (t := 25) (p := 4) (v := ?vo2_) (w1 := ((((wu_.setCell ⟨g4, 0, none⟩ (.int .i64 y0)).setCell ⟨g4, 1, none⟩ (.slice B1 y1.length q1)).setCell ⟨g4, 2, none⟩ (.slice B2 y2.length q2)).setCell ⟨g4, 3, none⟩ (.slice B3 y3.length q3))) ?hg ?ho ?hn ?hr ?_; (case ho => rfl); (case hg => rfl); (case hn => rfl); (case hr => (have hs0_ := (blk_cell BK4.o 0).trans rfl; have hf0_ := blk_frozen BK4.o 0; have hs1_ := (blk_cell BK4.o 1).trans rfl; have hf1_ := blk_frozen BK4.o 1; have hs2_ := (blk_cell BK4.o 2).trans rfl; have hf2_ := blk_frozen BK4.o 2; have hs3_ := (blk_cell BK4.o 3).trans rfl; have hf3_ := blk_frozen BK4.o 3;(try clear hz2_); have hz2_ := zc4 BK2.o; (try clear hz3_); have hz3_ := ((blk_cell BK3.o 0).trans rfl : _ = some (Value.int .i64 id)); (try clear hz6_); have hz6_ := zc4 BK6.o; first | (go_simp; done) | (go_simp; rfl))); intro wF hw_; have HK_ := set4_kept hw_; have BKn := aM (set4_blk hw_ BK4.o rfl); have HBn := aM (set4_below hw_ HB.o GE4.o); have HF := aM (((HWR.o.types BK4.o (by decide) (by decide)).kept HK_ (fun _ h_ => h_.2)).mono (ok' := fun _ => True) (fun _ _ => trivial)); clear hw_ BK4 HB; have BK4 := BKn; have HB := HBn; clear BKn HBn HK_))
 refine bodyPost_ret (results_ct rfl _ _ g4 25 #[.int .i64 y0, .slice B1 y1.length q1, .slice B2 y2.length q2, .slice B3 y3.length q3] (0, 0) _ rfl (by exact BK4.o) Try.underlying25 rfl (by kernel_rfl)) rfl ?_
 exact ⟨_, _, _, rfl, HF.o, HB.o⟩
def cancel.l (k : Nat) (id : Int) : Nat → Int → List (List S46) → List (List S46) → Option (List (List S46) × List (List S46))
 | 0, _, _, _ => none
 | n + 1, i, m1, m2 => if i < 8 then (if 0 ≤ i then (slices_DeleteFunc.f k (m1.getD i.toNat []) id).bind fun x => (slices_DeleteFunc.f k (m2.getD i.toNat []) id).bind fun y => cancel.l k id n (wrap64 (i + 1)) (m1.set i.toNat x) (m2.set i.toNat y) else none) else some (m1, m2)
def impl_Cancel.T8 : Bool × List (List Nat × List Nat) := (true, [([], []), ([0], [0]), ([], []), ([], []), ([3], [3]), ([], []), ([4, 5], [4, 5]), ([6], [6]), ([], []), ([7, 8], [7, 8]), ([1, 2, 0, 1, 2, 3, 4, 5, 6, 7, 8, 9], [1, 2]), ([10, 9, 9, 0, 1, 2, 3, 4, 5, 6, 7, 8, 9], [9, 10])])
def impl_Cancel.B8 : List Nat := [0, 1, 0, 0, 8, 0, 56, 120, 0, 504, 1023, 2047]
theorem impl_Cancel.tab8 : rtab .any (opsOf Try.f35 8) = impl_Cancel.T8 := by kernel_rfl
theorem impl_Cancel.bits8 : waitsOk impl_Cancel.T8.2 impl_Cancel.B8 = true := by kernel_rfl
def impl_Cancel.T9 : Bool × List (List Nat × List Nat) := (true, [([], []), ([0], [0]), ([], []), ([], []), ([3], [3]), ([], []), ([4, 5], [4, 5]), ([6], [6]), ([], []), ([7, 8], [7, 8]), ([1, 2, 0, 1, 2, 3, 4, 5, 6, 7, 8, 9], [1, 2]), ([10, 9, 9, 0, 1, 2, 3, 4, 5, 6, 7, 8, 9], [9, 10])])
def impl_Cancel.B9 : List Nat := [0, 1, 0, 0, 8, 0, 56, 120, 0, 504, 1023, 2047]
theorem impl_Cancel.tab9 : rtab .any (opsOf Try.f35 9) = impl_Cancel.T9 := by kernel_rfl
theorem impl_Cancel.bits9 : waitsOk impl_Cancel.T9.2 impl_Cancel.B9 = true := by kernel_rfl
theorem kept_two {w w1 w2 : World} {S : Nat → Prop} (h : Kept w w1 S) (h2 : Kept w1 w2 S) : Kept w w2 S :=
 ⟨Nat.le_trans h.1 h2.1, fun k hk hn => (h2.2 k (by have := h.1; omega) hn).trans (h.2 k hk hn)⟩
set_option maxHeartbeats 8000000 in
set_option maxRecDepth 100000 in
theorem impl_Cancel.does (k : Nat) (A1 : Option Addr) (c1 : Nat) (l1 : List (List S46)) (A2 : Option Addr) (c2 : Nat) (l2 : List (List S46)) (A3 : Option Addr) (c3 : Nat) (l3 : List S46) (id y0 : Int) (y1 y2 : List (List S46)) (y3 : List S46) (w : World) (hr1 : Kd.C (Kd.slice 46 k46) w A1 l1.length l1) (hc1 : l1.length ≤ c1) (hr2 : Kd.C (Kd.slice 46 k46) w A2 l2.length l2) (hc2 : l2.length ≤ c2) (hr3 : Kd.C k46 w A3 l3.length l3) (hc3 : l3.length ≤ c3) (hac : impl_copyWheel.f k y0 l1 l2 l3 = some (y0, y1, y2, y3)) (hao : impl_WheelOk.f k y0 l1 l2 l3 = some true) (T : List S46) (t : Int) (hT : impl_Timers.f k y0 l1 l2 l3 = some T) (ha : impl_timerAt.f k T id = some t) (ht : ¬ t < 0) (e1 : y1.length = 8) (e2 : y2.length = 8) (x1 x2 : List (List S46)) (x3 : List S46) (hL : cancel.l k id k 0 y1 y2 = some (x1, x2)) (hD : slices_DeleteFunc.f k y3 id = some x3) :
  Calls Try.prog 35 #[.agg #[.int .i64 y0, .slice A1 l1.length c1, .slice A2 l2.length c2, .slice A3 l3.length c3], .int .i64 id] w fun e w' => ∃ v1_ v2_ v3_ : Value, e = .returned (.tuple #[.agg #[.int .i64 y0, v1_, v2_, v3_], .bool true]) ∧ WR w' w.heap.size (fun _ => True) v1_ v2_ v3_ x1 x2 x3 ∧ Below w.heap.size w w' := by
 have hu25 := Try.underlying25
 have hu46 := Try.underlying46
 have AC := aM hac
 have AO := aM hao
 clear hac hao
 have HR1 := aM hr1
 have HR2 := aM hr2
 have HR3 := aM hr3
 have HC1 := aM hc1
 have HC2 := aM hc2
 have HC3 := aM hc3
 have HB := aM (Below.refl w.heap.size w)
 clear hr1 hr2 hr3 hc1 hc2 hc3
 have AT := aM hT
 have AA := aM ha
 have ht2 := dF ht
 have AL := aM hL
 have AD := aM hD
 have E1 := aM e1
 have E2 := aM e2
 have H8 := aM (And.intro (show 0 < y1.length by omega) (show 0 < y2.length by omega))
 clear hT ha ht hL hD e1 e2
 have hmf : ∀ (fn : Fn) (first cap : Array Value) (w : World), (Instr.makeFunc fn first cap).run Try.prog w = .ok (.func fn first cap) w := fun _ _ _ _ => rfl
 go_enter Try.func35, Try.ntmps35
 try go_wp2_with (first | ((with_reducible refine gD 2 rfl ?_); refine bE 2 #[.int .i64 y0, .slice A1 l1.length c1, .slice A2 l2.length c2, .slice A3 l3.length c3] 25 ?_; intro g2 hg w2_ hbox hb; have GE2 := aM (zg HB.o hg : w.heap.size ≤ g2);   have BK2 := aM hbox; clear hbox hg;   replace HB := zLB HB.o hb; clear hb; (try clear hz2_); have hz2_ := zc4 BK2.o;) | ((with_reducible refine gD 3 rfl ?_); refine bE 3 #[.int .i64 id] 3 ?_; intro g3 hg w3_ hbox hb; have GE3 := aM (zg HB.o hg : w.heap.size ≤ g3); have N2_3 := aM (zN BK2.o hg : g2 ≠ g3);  have BK3 := aM hbox; clear hbox hg; replace BK2 := zBB BK2 hb;  replace HB := zLB HB.o hb; clear hb; (try clear hz2_); have hz2_ := zc4 BK2.o; (try clear hz3_); have hz3_ := ((blk_cell BK3.o 0).trans rfl : _ = some (Value.int .i64 id));) | ((with_reducible refine gD 4 rfl ?_); refine bE 4 #[.int .i64 0, .slice none 0 0, .slice none 0 0, .slice none 0 0] 25 ?_; intro g4 hg w4_ hbox hb; have GE4 := aM (zg HB.o hg : w.heap.size ≤ g4); have N2_4 := aM (zN BK2.o hg : g2 ≠ g4); have N3_4 := aM (zN BK3.o hg : g3 ≠ g4);  have BK4 := aM hbox; clear hbox hg; replace BK2 := zBB BK2 hb; replace BK3 := zBB BK3 hb;  replace HB := zLB HB.o hb; clear hb; (try clear hz2_); have hz2_ := zc4 BK2.o; (try clear hz3_); have hz3_ := ((blk_cell BK3.o 0).trans rfl : _ = some (Value.int .i64 id)); (try clear hz4_); have hz4_ := zc4 BK4.o;) | ((with_reducible refine gC 74 rfl ?_); refine gL 10 Try.func74 #[.agg #[.int .i64 y0, .slice A1 l1.length c1, .slice A2 l2.length c2, .slice A3 l3.length c3]] ?_; (refine (impl_copyWheel.callsW k y0 A1 c1 l1 A2 c2 l2 A3 c3 l3 y0 y1 y2 y3 _ ?s1 HC1.o ?s2 HC2.o ?s3 HC3.o AC.o).mono ?_); (case s1 => exact Kd.C_below HR1.o HB.o); (case s2 => exact Kd.C_below HR2.o HB.o); (case s3 => exact Kd.C_below HR3.o HB.o); rintro e w10_ ⟨v1, v2, v3, rfl, hw_, hb⟩; obtain ⟨gN, cN, gF, cF, A3_, c3_, rfl, rfl, rfl⟩ := hw_.forms H8.o.1 H8.o.2; refine ⟨_, rfl, ?_⟩; have F2 := aM (blk_lt BK2.o); have F3 := aM (blk_lt BK3.o); have F4 := aM (blk_lt BK4.o); obtain ⟨n0, hn0_⟩ : ∃ n0, n0 = _ := ⟨_, rfl⟩; have HWR := aM ((hw_.bound.mono (ok' := fun k_ => n0 ≤ k_) (fun k_ h_ => by rw [hn0_]; exact h_.2.1)).lower HB.o.size); have FN := aM (hb.size); have HNB := aM (HB.o.size); rw [← hn0_] at F2 F3 F4 FN HNB; clear hw_ hn0_; replace BK2 := zBB BK2 hb; replace BK3 := zBB BK3 hb; replace BK4 := zBB BK4 hb;  replace HB := zLB HB.o hb; clear hb; (try clear hz2_); have hz2_ := zc4 BK2.o; (try clear hz3_); have hz3_ := ((blk_cell BK3.o 0).trans rfl : _ = some (Value.int .i64 id)); (try clear hz4_); have hz4_ := zc4 BK4.o;) | ((with_reducible refine gD 6 rfl ?_); refine bE 6 #[.int .i64 0, .slice none 0 0, .slice none 0 0, .slice none 0 0] 25 ?_; intro g6 hg w6_ hbox hb; have GE6 := aM (zg HB.o hg : w.heap.size ≤ g6); have N2_6 := aM (zN BK2.o hg : g2 ≠ g6); have N3_6 := aM (zN BK3.o hg : g3 ≠ g6); have N4_6 := aM (zN BK4.o hg : g4 ≠ g6); have FN6 := aM (by rw [hg]; exact FN.o : n0 ≤ g6); have BK6 := aM hbox; clear hbox hg; replace BK2 := zBB BK2 hb; replace BK3 := zBB BK3 hb; replace BK4 := zBB BK4 hb; replace HWR := aM (HWR.o.below hb); replace HB := zLB HB.o hb; clear hb; (try clear hz2_); have hz2_ := zc4 BK2.o; (try clear hz3_); have hz3_ := ((blk_cell BK3.o 0).trans rfl : _ = some (Value.int .i64 id)); (try clear hz4_); have hz4_ := zc4 BK4.o; (try clear hz6_); have hz6_ := zc4 BK6.o;) | ((with_reducible refine gate_store (t := 25) (p := 6) rfl ?_); refine store_event (t := 25) (p := 6) (v := ?vo4_) (w1 := ((((w6_.setCell ⟨g6, 0, none⟩ (.int .i64 y0)).setCell ⟨g6, 1, none⟩ (.slice (some ⟨gN, 0, none⟩) y1.length cN)).setCell ⟨g6, 2, none⟩ (.slice (some ⟨gF, 0, none⟩) y2.length cF)).setCell ⟨g6, 3, none⟩ (.slice A3_ y3.length c3_))) ?hg ?ho ?hn ?hr ?_; (case ho => rfl); (case hg => rfl); (case hn => rfl); (case hr => (have hs0_ := (blk_cell BK6.o 0).trans rfl; have hf0_ := blk_frozen BK6.o 0; have hs1_ := (blk_cell BK6.o 1).trans rfl; have hf1_ := blk_frozen BK6.o 1; have hs2_ := (blk_cell BK6.o 2).trans rfl; have hf2_ := blk_frozen BK6.o 2; have hs3_ := (blk_cell BK6.o 3).trans rfl; have hf3_ := blk_frozen BK6.o 3;(try clear hz2_); have hz2_ := zc4 BK2.o; (try clear hz3_); have hz3_ := ((blk_cell BK3.o 0).trans rfl : _ = some (Value.int .i64 id)); (try clear hz4_); have hz4_ := zc4 BK4.o; first | (go_simp; done) | (go_simp; rfl))); intro w7_ hw_; have HK_ := set4_kept hw_; have BKn := aM (set4_blk hw_ BK6.o rfl); have HBn := aM (set4_below hw_ HB.o GE6.o); replace BK2 := aM (blk_kept BK2.o HK_ (N2_6.o)); replace BK3 := aM (blk_kept BK3.o HK_ (N3_6.o)); replace BK4 := aM (blk_kept BK4.o HK_ (N4_6.o)); replace HWR := aM (((HWR.o.types BK6.o (by decide) (by decide)).kept HK_ (fun _ h_ => h_.2)).mono (ok' := fun k_ => n0 ≤ k_ ∧ k_ ≠ g6) (fun _ h_ => h_)); clear hw_ BK6 HB; have BK6 := BKn; have HB := HBn; clear BKn HBn HK_; (try clear hz2_); have hz2_ := zc4 BK2.o; (try clear hz3_); have hz3_ := ((blk_cell BK3.o 0).trans rfl : _ = some (Value.int .i64 id)); (try clear hz4_); have hz4_ := zc4 BK4.o; (try clear hz6_); have hz6_ := zc4 BK6.o;))
 replace BK2 := zBD BK2
 replace BK3 := zBD BK3
 replace BK4 := zBD BK4
 replace BK6 := zBD BK6
 replace HWR := aM (HWR.o.drew)
 replace HB := zLD HB
 refine start_ (n := 10) (S := fun w' => w'.cell? ⟨g2, 0, none⟩ = some (.int .i64 y0) ∧ w'.cell? ⟨g2, 1, none⟩ = some (.slice A1 l1.length c1) ∧ w'.cell? ⟨g2, 2, none⟩ = some (.slice A2 l2.length c2) ∧ w'.cell? ⟨g2, 3, none⟩ = some (.slice A3 l3.length c3) ∧ w'.cell? ⟨g3, 0, none⟩ = some (.int .i64 id)) (ds := []) (fB 10 0) (by kernel_rfl) rfl rfl ⟨(blk_cell BK2.o 0).trans rfl, (blk_cell BK2.o 1).trans rfl, (blk_cell BK2.o 2).trans rfl, (blk_cell BK2.o 3).trans rfl, (blk_cell BK3.o 0).trans rfl⟩ (fun hHeld => ?_); refine with_tabW impl_Cancel.tab2 impl_Cancel.bits2 (fun HT_ HW_ => ?_)
 generalize w7_.drew = w8_ at BK2 BK3 BK4 BK6 HWR HB hHeld ⊢
 refine tY 0 11 (fB 10 1) HT_.o HW_.o hHeld ?_
 refine oN 1 12 (fB 10 3) HT_.o fun K hK => ?_
 refine gS Try.func30 #[.agg #[.int .i64 y0, .slice A1 l1.length c1, .slice A2 l2.length c2, .slice A3 l3.length c3]] ?_
 refine (impl_WheelOk.calls k y0 A1 c1 l1 A2 c2 l2 A3 c3 l3 true _ ?s1 HC1.o ?s2 HC2.o ?s3 HC3.o AO.o).mono ?_
 (case s1 => exact Kd.C_below HR1.o HB.o)
 (case s2 => exact Kd.C_below HR2.o HB.o)
 (case s3 => exact Kd.C_below HR3.o HB.o)
 rintro e w9_ ⟨rfl, hb⟩
 refine ⟨_, rfl, ?_⟩
 replace BK2 := zBB BK2 hb
 replace BK3 := zBB BK3 hb
 replace BK4 := zBB BK4 hb
 replace BK6 := zBB BK6 hb
 replace HWR := aM (HWR.o.below hb)
 replace HB := zLB HB.o hb
 clear hb
 refine hK.out _ _ ⟨(blk_cell BK2.o 0).trans rfl, (blk_cell BK2.o 1).trans rfl, (blk_cell BK2.o 2).trans rfl, (blk_cell BK2.o 3).trans rfl, (blk_cell BK3.o 0).trans rfl⟩ fun hHeld => ?_; clear hK K
 refine nZ 12 ?_
 refine pY 2 13 (fB 10 7) HT_.o ?_
 refine pY 3 14 (fB 10 15) HT_.o ?_
 refine tY 4 15 (fB 10 31) HT_.o HW_.o hHeld ?_
 refine tY 6 17 (fB 10 95) HT_.o HW_.o hHeld ?_
 refine oN 5 16 (fB 10 127) HT_.o fun K hK => ?_
 refine gS Try.func25 #[.agg #[.int .i64 y0, .slice A1 l1.length c1, .slice A2 l2.length c2, .slice A3 l3.length c3]] ?_
 refine (impl_Timers.calls k y0 A1 c1 l1 A2 c2 l2 A3 c3 l3 T _ ?s1 HC1.o ?s2 HC2.o ?s3 HC3.o AT.o).mono ?_
 (case s1 => exact Kd.C_below HR1.o HB.o)
 (case s2 => exact Kd.C_below HR2.o HB.o)
 (case s3 => exact Kd.C_below HR3.o HB.o)
 rintro e wt_ ⟨vT, rfl, hT_, hb⟩
 obtain ⟨AT_, ct_, rfl, htc_, htr_⟩ := Kd.R_reads hT_
 clear hT_
 refine ⟨_, rfl, ?_⟩
 replace BK2 := zBB BK2 hb
 replace BK3 := zBB BK3 hb
 replace BK4 := zBB BK4 hb
 replace BK6 := zBB BK6 hb
 replace HWR := aM (HWR.o.below hb)
 replace HB := zLB HB.o hb
 clear hb
 refine hK.out _ _ ⟨(blk_cell BK2.o 0).trans rfl, (blk_cell BK2.o 1).trans rfl, (blk_cell BK2.o 2).trans rfl, (blk_cell BK2.o 3).trans rfl, (blk_cell BK3.o 0).trans rfl⟩ fun hHeld => ?_; clear hK K
 refine nZ 16 ?_
 refine oN 7 18 (fB 10 255) HT_.o fun K hK => ?_
 refine gS Try.func71 #[.slice AT_ T.length ct_, .int .i64 id] ?_
 refine (impl_timerAt.calls k AT_ ct_ T id t _ htr_ htc_ AA.o).mono ?_
 rintro e wu_ ⟨rfl, hb⟩
 refine ⟨_, rfl, ?_⟩
 clear htr_ htc_
 replace BK2 := zBB BK2 hb
 replace BK3 := zBB BK3 hb
 replace BK4 := zBB BK4 hb
 replace BK6 := zBB BK6 hb
 replace HWR := aM (HWR.o.below hb)
 replace HB := zLB HB.o hb
 clear hb
 refine hK.out _ _ ⟨(blk_cell BK2.o 0).trans rfl, (blk_cell BK2.o 1).trans rfl, (blk_cell BK2.o 2).trans rfl, (blk_cell BK2.o 3).trans rfl, (blk_cell BK3.o 0).trans rfl⟩ fun hHeld => ?_; clear hK K
 refine nZ 18 ?_
 refine pY 8 19 (fB 10 511) HT_.o ?_
 refine pY 9 20 (fB 10 1023) HT_.o ?_
 refine done_ (done_of HT_.o (by kernel_rfl)) ?_
 clear hHeld HT_ HW_
 have hz2_ := zc4 BK2.o
 have hz3_ := ((blk_cell BK3.o 0).trans rfl : _ = some (Value.int .i64 id))
 have hz4_ := zc4 BK4.o
 have hz6_ := zc4 BK6.o
 have FS := aM (And.intro (Nat.le_of_lt (Nat.lt_of_le_of_lt FN6.o (blk_lt BK6.o))) (blk_lt BK6.o))
 go_wp2
 go_loopg [8] k (fun kq v8 w' => ∃ (i : Int) (m1 m2 : List (List S46)), v8 = .int .i64 i ∧ Aside0 (cancel.l k id kq i m1 m2 = some (x1, x2)) ∧ Aside0 (kq ≤ k) ∧ Aside0 (WR w' w.heap.size (fun k_ => n0 ≤ k_ ∧ k_ ≠ g6) (.slice (some ⟨gN, 0, none⟩) y1.length cN) (.slice (some ⟨gF, 0, none⟩) y2.length cF) (.slice A3_ y3.length c3_) m1 m2 y3) ∧ Aside0 (w'.heap[g2]? = some (.cells #[.int .i64 y0, .slice A1 l1.length c1, .slice A2 l2.length c2, .slice A3 l3.length c3] 25 (0, 0))) ∧ Aside0 (w'.heap[g3]? = some (.cells #[.int .i64 id] 3 (0, 0))) ∧ Aside0 (w'.heap[g4]? = some (.cells #[.int .i64 0, .slice none 0 0, .slice none 0 0, .slice none 0 0] 25 (0, 0))) ∧ Aside0 (w'.heap[g6]? = some (.cells #[.int .i64 y0, .slice (some ⟨gN, 0, none⟩) y1.length cN, .slice (some ⟨gF, 0, none⟩) y2.length cF, .slice A3_ y3.length c3_] 25 (0, 0))) ∧ Aside0 (n0 ≤ w'.heap.size ∧ g6 < w'.heap.size) ∧ Aside0 (Below w.heap.size w w'))
 case atStart => exact ⟨0, y1, y2, zV, AL, ⟨Nat.le_refl _⟩, HWR, BK2, BK3, BK4, BK6, FS, HB⟩
 case round =>
  clear hz2_ BK2 hz3_ BK3 hz4_ BK4 hz6_ BK6 HWR FS HB AL
  obtain ⟨i, m1, m2, rfl, HA, HK1, HWR, BK2, BK3, BK4, BK6, FS, HB⟩ := hrel
  have hz2_ := zc4 BK2.o
  have hz3_ := ((blk_cell BK3.o 0).trans rfl : _ = some (Value.int .i64 id))
  have hz4_ := zc4 BK4.o
  have hz6_ := zc4 BK6.o
  cases gk with
  | zero => exact absurd HA.o (by simp [cancel.l])
  | succ k1 =>
   have H := HA.o
   clear HA
   simp only [cancel.l] at H
   by_cases c3 : i < 8
   rotate_left
   ·rw [if_neg c3] at H
    simp only [Option.some.injEq, Prod.mk.injEq] at H
    obtain ⟨rfl, rfl⟩ := H
    have c3b := dF c3
    clear c3
    obtain ⟨okR, AR_, cR, hv3_, hR_, hok_, hsw_⟩ := HWR.o.rest_turn
    have HR := aM hR_
    have HOK := aM hok_
    have HSW := aM hsw_
    clear hv3_ hR_ hok_ hsw_ HWR
    go_wp2_with (first | ((with_reducible refine gC 78 rfl ?_); refine gL 52 Try.func78 #[.slice A3_ y3.length c3_, .func (.func 77) #[] #[.pointer (some ⟨g3, 0, none⟩)]] ?_; (refine (slices_DeleteFunc.calls k okR _ y3 id x3 g3 w _ HB.o BK3.o HR.o AD.o).mono ?_); rintro e wz_ ⟨vx, rfl, hr2_, hb_, hk_⟩; obtain ⟨Az, cz, rfl⟩ := Kd.R_slice hr2_; refine ⟨_, rfl, ?_⟩; have HWN := aM (HSW.o wz_ _ x3 hk_ hr2_); replace BK2 := aM (blk_kept BK2.o hk_ (fun h_ => by have a_ := (HOK.o _ h_).1; have b_ := F2.o; omega)); replace BK3 := aM (blk_kept BK3.o hk_ (fun h_ => by have a_ := (HOK.o _ h_).1; have b_ := F3.o; omega)); replace BK4 := aM (blk_kept BK4.o hk_ (fun h_ => by have a_ := (HOK.o _ h_).1; have b_ := F4.o; omega)); replace BK6 := aM (blk_kept BK6.o hk_ (fun h_ => by have a_ := (HOK.o _ h_).1; exact a_.2 rfl)); clear HB; have HB := aM hb_; clear hr2_ hb_ hk_; (try clear hz2_); have hz2_ := zc4 BK2.o; (try clear hz3_); have hz3_ := ((blk_cell BK3.o 0).trans rfl : _ = some (Value.int .i64 id)); (try clear hz4_); have hz4_ := zc4 BK4.o; (try clear hz6_); have hz6_ := zc4 BK6.o;) | ((with_reducible refine gate_store (t := 23) (p := 53) rfl ?_); refine store_event (t := 23) (p := 53) (v := ?vo5_) (w1 := (wz_.setCell ⟨g6, 3, none⟩ (.slice Az x3.length cz))) ?hg ?ho ?hn ?hr ?_; (case ho => rfl); (case hg => rfl); (case hn => rfl); (case hr => (have hs0_ := (blk_cell BK6.o 0).trans rfl; have hf0_ := blk_frozen BK6.o 0; have hs1_ := (blk_cell BK6.o 1).trans rfl; have hf1_ := blk_frozen BK6.o 1; have hs2_ := (blk_cell BK6.o 2).trans rfl; have hf2_ := blk_frozen BK6.o 2; have hs3_ := (blk_cell BK6.o 3).trans rfl; have hf3_ := blk_frozen BK6.o 3;(try clear hz2_); have hz2_ := zc4 BK2.o; (try clear hz3_); have hz3_ := ((blk_cell BK3.o 0).trans rfl : _ = some (Value.int .i64 id)); (try clear hz4_); have hz4_ := zc4 BK4.o; (try clear hz6_); have hz6_ := zc4 BK6.o; first | (go_simp; done) | (go_simp; rfl))); intro wy_ hw_; have HK_ := set1_kept hw_; have BKn := aM (by rw [hw_]; exact blk_put BK6.o 3 _ rfl : wy_.heap[g6]? = some (.cells #[.int .i64 y0, .slice (some ⟨gN, 0, none⟩) y1.length cN, .slice (some ⟨gF, 0, none⟩) y2.length cF, .slice Az x3.length cz] 25 (0, 0))); have HBn := aM (by rw [hw_]; exact HB.o.setCell GE6.o _ : Below w.heap.size w wy_); replace BK2 := aM (blk_kept BK2.o HK_ (N2_6.o)); replace BK3 := aM (blk_kept BK3.o HK_ (N3_6.o)); replace BK4 := aM (blk_kept BK4.o HK_ (N4_6.o)); replace HWN := aM (HWN.o.kept HK_ (fun k_ h_ e_ => by have e2_ : k_ = g6 := e_; have a_ := FS.o; rcases h_ with h_ | h_; exact h_.2 e2_; omega)); clear hw_ BK6 HB HK_; have BK6 := BKn; have HB := HBn; clear BKn HBn; (try clear hz2_); have hz2_ := zc4 BK2.o; (try clear hz3_); have hz3_ := ((blk_cell BK3.o 0).trans rfl : _ = some (Value.int .i64 id)); (try clear hz4_); have hz4_ := zc4 BK4.o; (try clear hz6_); have hz6_ := zc4 BK6.o;) | ((with_reducible refine gate_store (t := 25) (p := 4) rfl ?_); refine store_event (t := 25) (p := 4) (v := ?vo6_) (w1 := ((((wy_.setCell ⟨g4, 0, none⟩ (.int .i64 y0)).setCell ⟨g4, 1, none⟩ (.slice (some ⟨gN, 0, none⟩) y1.length cN)).setCell ⟨g4, 2, none⟩ (.slice (some ⟨gF, 0, none⟩) y2.length cF)).setCell ⟨g4, 3, none⟩ (.slice Az x3.length cz))) ?hg ?ho ?hn ?hr ?_; (case ho => rfl); (case hg => rfl); (case hn => rfl); (case hr => (have hs0_ := (blk_cell BK4.o 0).trans rfl; have hf0_ := blk_frozen BK4.o 0; have hs1_ := (blk_cell BK4.o 1).trans rfl; have hf1_ := blk_frozen BK4.o 1; have hs2_ := (blk_cell BK4.o 2).trans rfl; have hf2_ := blk_frozen BK4.o 2; have hs3_ := (blk_cell BK4.o 3).trans rfl; have hf3_ := blk_frozen BK4.o 3;(try clear hz2_); have hz2_ := zc4 BK2.o; (try clear hz3_); have hz3_ := ((blk_cell BK3.o 0).trans rfl : _ = some (Value.int .i64 id)); (try clear hz6_); have hz6_ := zc4 BK6.o; first | (go_simp; done) | (go_simp; rfl))); intro wF hw_; have HK_ := set4_kept hw_; have BKn := aM (set4_blk hw_ BK4.o rfl); have HBn := aM (set4_below hw_ HB.o GE4.o); have HF := aM (((HWN.o.types BK4.o (by decide) (by decide)).kept HK_ (fun _ h_ => h_.2)).mono (ok' := fun _ => True) (fun _ _ => trivial)); clear hw_ BK4 HB; have BK4 := BKn; have HB := HBn; clear BKn HBn HK_))
    refine bodyPost_ret (results_ct rfl _ _ g4 25 #[.int .i64 y0, .slice (some ⟨gN, 0, none⟩) y1.length cN, .slice (some ⟨gF, 0, none⟩) y2.length cF, .slice Az x3.length cz] (0, 0) _ rfl (by exact BK4.o) Try.underlying25 rfl (by kernel_rfl)) rfl ?_
    exact ⟨_, _, _, rfl, HF.o, HB.o⟩
   rw [if_pos c3] at H
   have c3b := dT c3
   by_cases c4 : 0 ≤ i
   rotate_left
   ·rw [if_neg c4] at H
    exact absurd H (by simp)
   rw [if_pos c4] at H
   replace H := zO H
   obtain ⟨x, Ax, H⟩ := H
   replace H := zO H
   obtain ⟨y, Ay, H⟩ := H
   have H' := aM H
   clear H
   have PN := aM c4
   have QN := aM (show i < (y1.length : Int) by have := E1.o; omega)
   have PF := aM c4
   have QF := aM (show i < (y2.length : Int) by have := E2.o; omega)
   have p1 := eq_true PN.o
   have q1 := eq_true QN.o
   have q2 := eq_true QF.o
   clear c3 c4
   obtain ⟨lyN, hlyN⟩ : ∃ l_, l_ = m1.getD i.toNat [] := ⟨_, rfl⟩
   have NLN := aM hlyN
   obtain ⟨lyF, hlyF⟩ : ∃ l_, l_ = m2.getD i.toNat [] := ⟨_, rfl⟩
   have NLF := aM hlyF
   replace Ax := aM (by rw [hlyN]; exact Ax.o : slices_DeleteFunc.f k lyN id = some x)
   replace Ay := aM (by rw [hlyF]; exact Ay.o : slices_DeleteFunc.f k lyF id = some y)
   clear hlyN hlyF
   obtain ⟨nx1, hn1⟩ : ∃ l_, l_ = m1.set i.toNat x := ⟨_, rfl⟩
   obtain ⟨nx2, hn2⟩ : ∃ l_, l_ = m2.set i.toNat y := ⟨_, rfl⟩
   have NX1 := aM hn1
   have NX2 := aM hn2
   replace H' := aM (by rw [hn1, hn2]; exact H'.o : cancel.l k id k1 (wrap64 (i + 1)) nx1 nx2 = some (x1, x2))
   clear hn1 hn2
   go_wp2
   obtain ⟨okN, AsN, csN, hx_, hR_, hok_, hfz_, hgo_, hge_, hgl_, hsw_⟩ := HWR.o.near_turn PN.o QN.o
   rw [← NLN.o] at hx_ hR_
   have HR := aM hR_
   have HOK := aM hok_
   have HFZ := aM hfz_
   have HGO := aM hgo_
   have HGE := aM hge_
   have HGL := aM hgl_
   have HSW := aM hsw_
   have HXX := aM hx_
   clear hx_ hR_ hok_ hfz_ hgo_ hge_ hgl_ hsw_ HWR
   replace BK2 := zBD BK2
   replace BK3 := zBD BK3
   replace BK4 := zBD BK4
   replace BK6 := zBD BK6
   replace HR := zRD HR
   replace HB := zLD HB
   refine start_ (n := 12) (S := fun w' => w'.cell? ⟨g6, 0, none⟩ = some (.int .i64 y0) ∧ w'.cell? ⟨g6, 1, none⟩ = some (.slice (some ⟨gN, 0, none⟩) y1.length cN) ∧ w'.cell? ⟨g6, 2, none⟩ = some (.slice (some ⟨gF, 0, none⟩) y2.length cF) ∧ w'.cell? ⟨g6, 3, none⟩ = some (.slice A3_ y3.length c3_) ∧ w'.cell? ⟨gN, i.toNat, none⟩ = some (.slice AsN lyN.length csN)) (ds := [11]) (fB 12 0) (by kernel_rfl) rfl rfl ⟨(blk_cell BK6.o 0).trans rfl, (blk_cell BK6.o 1).trans rfl, (blk_cell BK6.o 2).trans rfl, (blk_cell BK6.o 3).trans rfl, HXX.o⟩ (fun hHeld => ?_); refine with_tabW impl_Cancel.tab8 impl_Cancel.bits8 (fun HT_ HW_ => ?_)
   have HKD := aM (Kept.drew (Kept.refl wr okN))
   generalize wr.drew = wd8_ at BK2 BK3 BK4 BK6 HR HB HKD hHeld ⊢
   refine pY 0 27 (fB 12 1) HT_.o ?_
   refine pY 2 29 (fB 12 5) HT_.o ?_
   refine pY 3 30 (fB 12 13) HT_.o ?_
   refine pY 5 32 (fB 12 45) HT_.o ?_
   refine pY 8 35 (fB 12 301) HT_.o ?_
   refine tY 1 28 (fB 12 303) HT_.o HW_.o hHeld ?_
   refine tY 4 31 (fB 12 319) HT_.o HW_.o hHeld ?_
   refine pY 6 33 (fB 12 383) HT_.o ?_
   refine tY 7 34 (fB 12 511) HT_.o HW_.o hHeld ?_
   refine oN 9 36 (fB 12 1023) HT_.o fun K hK => ?_
   refine gS Try.func78 #[.slice AsN lyN.length csN, .func (.func 77) #[] #[.pointer (some ⟨g3, 0, none⟩)]] ?_
   refine (slices_DeleteFunc.calls k okN _ lyN id x g3 w _ HB.o BK3.o HR.o Ax.o).mono ?_
   rintro e we8_ ⟨vx, rfl, hr2_, hb_, hk_⟩
   obtain ⟨AxN, cxN, rfl⟩ := Kd.R_slice hr2_
   refine ⟨_, rfl, ?_⟩
   have HKS := aM (kept_two HKD.o hk_)
   have HR2 := aM (Kd.R_mono hr2_ (ok' := fun k_ => okN k_ ∨ wr.heap.size ≤ k_) (fun k_ h_ => h_.elim .inl (fun h_ => .inr (Nat.le_trans HKD.o.1 h_))))
   replace HXX := aM (cell_kept HXX.o HKS.o (fun h_ => (HOK.o gN h_).2.1 rfl))
   replace BK2 := aM (blk_kept BK2.o hk_ (fun h_ => by have a_ := (HOK.o _ h_).1; have b_ := F2.o; omega))
   replace BK3 := aM (blk_kept BK3.o hk_ (fun h_ => by have a_ := (HOK.o _ h_).1; have b_ := F3.o; omega))
   replace BK4 := aM (blk_kept BK4.o hk_ (fun h_ => by have a_ := (HOK.o _ h_).1; have b_ := F4.o; omega))
   replace BK6 := aM (blk_kept BK6.o hk_ (fun h_ => by have a_ := (HOK.o _ h_).1; exact a_.2 rfl))
   clear HR HB
   have HB := aM hb_
   clear hr2_ hb_ hk_ HKD
   refine hK.out _ _ ⟨(blk_cell BK6.o 0).trans rfl, (blk_cell BK6.o 1).trans rfl, (blk_cell BK6.o 2).trans rfl, (blk_cell BK6.o 3).trans rfl, HXX.o⟩ fun hHeld => ?_; clear hK K
   refine nZ 36 ?_
   refine pY 10 37 (fB 12 2047) HT_.o ?_
   refine last_ (i := 11) (N := none) (fB 12 4095) rfl rfl (one_of HT_.o (by kernel_rfl)) (by decide) (fun K hK => ?_)
   have hxx_ := HXX.o
   have hff_ := frozen_kept (HFZ.o i.toNat) HGL.o HKS.o (fun h_ => (HOK.o gN h_).2.1 rfl)
   obtain ⟨wf8_, hw_⟩ : ∃ x_, x_ = we8_.setCell ⟨gN, i.toNat, none⟩ (.slice AxN x.length cxN) := ⟨_, rfl⟩
   refine skip_ (w1 := wf8_) (by rfl) rfl (by rw [hw_]; first | (go_simp; done) | (go_simp; rfl)) ?_
   clear hxx_ hff_
   have HWR := aM (((by rw [hw_]; exact HSW.o we8_ _ x HKS.o HR2.o) : WR wf8_ w.heap.size (fun k => (n0 ≤ k ∧ k ≠ g6) ∨ wr.heap.size ≤ k) (.slice (some ⟨gN, 0, none⟩) y1.length cN) (.slice (some ⟨gF, 0, none⟩) y2.length cF) (.slice A3_ y3.length c3_) (m1.set i.toNat x) m2 y3).mono (ok' := (fun k_ => n0 ≤ k_ ∧ k_ ≠ g6)) (fun k_ h_ => h_.elim (fun q_ => q_) (fun h_ => by have a_ := FS.o; exact ⟨by omega, by omega⟩)))
   have HK_ := set1_kept hw_
   replace BK2 := aM (blk_kept BK2.o HK_ (fun e_ => by have e2_ : g2 = gN := e_; have a_ := HGO.o; have b_ := F2.o; omega))
   replace BK3 := aM (blk_kept BK3.o HK_ (fun e_ => by have e2_ : g3 = gN := e_; have a_ := HGO.o; have b_ := F3.o; omega))
   replace BK4 := aM (blk_kept BK4.o HK_ (fun e_ => by have e2_ : g4 = gN := e_; have a_ := HGO.o; have b_ := F4.o; omega))
   replace BK6 := aM (blk_kept BK6.o HK_ (fun e_ => by have e2_ : g6 = gN := e_; have a_ := HGO.o; exact a_.2 e2_.symm))
   replace HB := aM ((by rw [hw_]; exact HB.o.setCell HGE.o _) : Below w.heap.size w wf8_)
   replace FS := aM (And.intro (Nat.le_trans FS.o.1 (Nat.le_trans HKS.o.1 HK_.1)) (Nat.lt_of_lt_of_le FS.o.2 (Nat.le_trans HKS.o.1 HK_.1)))
   clear hw_ HK_ HSW HKS HR2 HXX HFZ HGO HGE HGL HOK
   refine hK.out _ _ ?_
   clear hK K
   refine done_ (done_of HT_.o (by kernel_rfl)) ?_
   clear hHeld HT_ HW_
   have hz2_ := zc4 BK2.o
   have hz3_ := ((blk_cell BK3.o 0).trans rfl : _ = some (Value.int .i64 id))
   have hz4_ := zc4 BK4.o
   have hz6_ := zc4 BK6.o
   rw [← NX1.o] at HWR
   go_wp2
   obtain ⟨okF, AsF, csF, hx_, hR_, hok_, hfz_, hgo_, hge_, hgl_, hsw_⟩ := HWR.o.far_turn PF.o QF.o
   rw [← NLF.o] at hx_ hR_
   have HR := aM hR_
   have HOK := aM hok_
   have HFZ := aM hfz_
   have HGO := aM hgo_
   have HGE := aM hge_
   have HGL := aM hgl_
   have HSW := aM hsw_
   have HXX := aM hx_
   clear hx_ hR_ hok_ hfz_ hgo_ hge_ hgl_ hsw_ HWR
   replace BK2 := zBD BK2
   replace BK3 := zBD BK3
   replace BK4 := zBD BK4
   replace BK6 := zBD BK6
   replace HR := zRD HR
   replace HB := zLD HB
   refine start_ (n := 12) (S := fun w' => w'.cell? ⟨g6, 0, none⟩ = some (.int .i64 y0) ∧ w'.cell? ⟨g6, 1, none⟩ = some (.slice (some ⟨gN, 0, none⟩) y1.length cN) ∧ w'.cell? ⟨g6, 2, none⟩ = some (.slice (some ⟨gF, 0, none⟩) y2.length cF) ∧ w'.cell? ⟨g6, 3, none⟩ = some (.slice A3_ y3.length c3_) ∧ w'.cell? ⟨gF, i.toNat, none⟩ = some (.slice AsF lyF.length csF)) (ds := [11]) (fB 12 0) (by kernel_rfl) rfl rfl ⟨(blk_cell BK6.o 0).trans rfl, (blk_cell BK6.o 1).trans rfl, (blk_cell BK6.o 2).trans rfl, (blk_cell BK6.o 3).trans rfl, HXX.o⟩ (fun hHeld => ?_); refine with_tabW impl_Cancel.tab9 impl_Cancel.bits9 (fun HT_ HW_ => ?_)
   have HKD := aM (Kept.drew (Kept.refl wf8_ okF))
   generalize wf8_.drew = wd9_ at BK2 BK3 BK4 BK6 HR HB HKD hHeld ⊢
   refine pY 0 38 (fB 12 1) HT_.o ?_
   refine pY 2 40 (fB 12 5) HT_.o ?_
   refine pY 3 41 (fB 12 13) HT_.o ?_
   refine pY 5 43 (fB 12 45) HT_.o ?_
   refine pY 8 46 (fB 12 301) HT_.o ?_
   refine tY 1 39 (fB 12 303) HT_.o HW_.o hHeld ?_
   refine tY 4 42 (fB 12 319) HT_.o HW_.o hHeld ?_
   refine pY 6 44 (fB 12 383) HT_.o ?_
   refine tY 7 45 (fB 12 511) HT_.o HW_.o hHeld ?_
   refine oN 9 47 (fB 12 1023) HT_.o fun K hK => ?_
   refine gS Try.func78 #[.slice AsF lyF.length csF, .func (.func 77) #[] #[.pointer (some ⟨g3, 0, none⟩)]] ?_
   refine (slices_DeleteFunc.calls k okF _ lyF id y g3 w _ HB.o BK3.o HR.o Ay.o).mono ?_
   rintro e we9_ ⟨vx, rfl, hr2_, hb_, hk_⟩
   obtain ⟨AxF, cxF, rfl⟩ := Kd.R_slice hr2_
   refine ⟨_, rfl, ?_⟩
   have HKS := aM (kept_two HKD.o hk_)
   have HR2 := aM (Kd.R_mono hr2_ (ok' := fun k_ => okF k_ ∨ wf8_.heap.size ≤ k_) (fun k_ h_ => h_.elim .inl (fun h_ => .inr (Nat.le_trans HKD.o.1 h_))))
   replace HXX := aM (cell_kept HXX.o HKS.o (fun h_ => (HOK.o gF h_).2.1 rfl))
   replace BK2 := aM (blk_kept BK2.o hk_ (fun h_ => by have a_ := (HOK.o _ h_).1; have b_ := F2.o; omega))
   replace BK3 := aM (blk_kept BK3.o hk_ (fun h_ => by have a_ := (HOK.o _ h_).1; have b_ := F3.o; omega))
   replace BK4 := aM (blk_kept BK4.o hk_ (fun h_ => by have a_ := (HOK.o _ h_).1; have b_ := F4.o; omega))
   replace BK6 := aM (blk_kept BK6.o hk_ (fun h_ => by have a_ := (HOK.o _ h_).1; exact a_.2 rfl))
   clear HR HB
   have HB := aM hb_
   clear hr2_ hb_ hk_ HKD
   refine hK.out _ _ ⟨(blk_cell BK6.o 0).trans rfl, (blk_cell BK6.o 1).trans rfl, (blk_cell BK6.o 2).trans rfl, (blk_cell BK6.o 3).trans rfl, HXX.o⟩ fun hHeld => ?_; clear hK K
   refine nZ 47 ?_
   refine pY 10 48 (fB 12 2047) HT_.o ?_
   refine last_ (i := 11) (N := none) (fB 12 4095) rfl rfl (one_of HT_.o (by kernel_rfl)) (by decide) (fun K hK => ?_)
   have hxx_ := HXX.o
   have hff_ := frozen_kept (HFZ.o i.toNat) HGL.o HKS.o (fun h_ => (HOK.o gF h_).2.1 rfl)
   obtain ⟨wf9_, hw_⟩ : ∃ x_, x_ = we9_.setCell ⟨gF, i.toNat, none⟩ (.slice AxF y.length cxF) := ⟨_, rfl⟩
   refine skip_ (w1 := wf9_) (by rfl) rfl (by rw [hw_]; first | (go_simp; done) | (go_simp; rfl)) ?_
   clear hxx_ hff_
   have HWR := aM (((by rw [hw_]; exact HSW.o we9_ _ y HKS.o HR2.o) : WR wf9_ w.heap.size (fun k => (n0 ≤ k ∧ k ≠ g6) ∨ wf8_.heap.size ≤ k) (.slice (some ⟨gN, 0, none⟩) y1.length cN) (.slice (some ⟨gF, 0, none⟩) y2.length cF) (.slice A3_ y3.length c3_) nx1 (m2.set i.toNat y) y3).mono (ok' := (fun k_ => n0 ≤ k_ ∧ k_ ≠ g6)) (fun k_ h_ => h_.elim (fun q_ => q_) (fun h_ => by have a_ := FS.o; exact ⟨by omega, by omega⟩)))
   have HK_ := set1_kept hw_
   replace BK2 := aM (blk_kept BK2.o HK_ (fun e_ => by have e2_ : g2 = gF := e_; have a_ := HGO.o; have b_ := F2.o; omega))
   replace BK3 := aM (blk_kept BK3.o HK_ (fun e_ => by have e2_ : g3 = gF := e_; have a_ := HGO.o; have b_ := F3.o; omega))
   replace BK4 := aM (blk_kept BK4.o HK_ (fun e_ => by have e2_ : g4 = gF := e_; have a_ := HGO.o; have b_ := F4.o; omega))
   replace BK6 := aM (blk_kept BK6.o HK_ (fun e_ => by have e2_ : g6 = gF := e_; have a_ := HGO.o; exact a_.2 e2_.symm))
   replace HB := aM ((by rw [hw_]; exact HB.o.setCell HGE.o _) : Below w.heap.size w wf9_)
   replace FS := aM (And.intro (Nat.le_trans FS.o.1 (Nat.le_trans HKS.o.1 HK_.1)) (Nat.lt_of_lt_of_le FS.o.2 (Nat.le_trans HKS.o.1 HK_.1)))
   clear hw_ HK_ HSW HKS HR2 HXX HFZ HGO HGE HGL HOK
   refine hK.out _ _ ?_
   clear hK K
   refine done_ (done_of HT_.o (by kernel_rfl)) ?_
   clear hHeld HT_ HW_
   have hz2_ := zc4 BK2.o
   have hz3_ := ((blk_cell BK3.o 0).trans rfl : _ = some (Value.int .i64 id))
   have hz4_ := zc4 BK4.o
   have hz6_ := zc4 BK6.o
   rw [← NX2.o] at HWR
   go_wp2
   go_roundg k1
   case measure => have := HK1.o; omega
   case rel => exact ⟨wrap64 (i + 1), nx1, nx2, zV, H', ⟨by have := HK1.o; omega⟩, HWR, BK2, BK3, BK4, BK6, FS, HB⟩
def impl_Cancel.f (k : Nat) (a : Int) (l1 l2 : List (List S46)) (l3 : List S46) (id : Int) : Option (Int × List (List S46) × List (List S46) × List S46 × Bool) :=
 (impl_copyWheel.f k a l1 l2 l3).bind fun c => (if c.1 = a then (impl_WheelOk.f k a l1 l2 l3).bind fun b => (if b = true then (impl_Timers.f k a l1 l2 l3).bind fun T => (impl_timerAt.f k T id).bind fun t => (if t < 0 then some (c.1, c.2.1, c.2.2.1, c.2.2.2, false) else (if c.2.1.length = 8 then (if c.2.2.1.length = 8 then (cancel.l k id k 0 c.2.1 c.2.2.1).bind fun r => (slices_DeleteFunc.f k c.2.2.2 id).bind fun z => some (c.1, r.1, r.2, z, true) else none) else none)) else some (c.1, c.2.1, c.2.2.1, c.2.2.2, false)) else none)
theorem impl_Cancel.callsW (k : Nat) (a : Int) (A1 : Option Addr) (c1 : Nat) (l1 : List (List S46)) (A2 : Option Addr) (c2 : Nat) (l2 : List (List S46)) (A3 : Option Addr) (c3 : Nat) (l3 : List S46) (id : Int) (r1 : Int) (r2 r3 : List (List S46)) (r4 : List S46) (r5 : Bool) (w : World) (hr1 : Kd.C (Kd.slice 46 k46) w A1 l1.length l1) (hc1 : l1.length ≤ c1) (hr2 : Kd.C (Kd.slice 46 k46) w A2 l2.length l2) (hc2 : l2.length ≤ c2) (hr3 : Kd.C k46 w A3 l3.length l3) (hc3 : l3.length ≤ c3) (h : impl_Cancel.f k a l1 l2 l3 id = some (r1, r2, r3, r4, r5)) :
  Calls Try.prog 35 #[.agg #[.int .i64 a, .slice A1 l1.length c1, .slice A2 l2.length c2, .slice A3 l3.length c3], .int .i64 id] w fun e w' => ∃ v1_ v2_ v3_ : Value, e = .returned (.tuple #[.agg #[.int .i64 r1, v1_, v2_, v3_], .bool r5]) ∧ WR w' w.heap.size (fun _ => True) v1_ v2_ v3_ r2 r3 r4 ∧ Below w.heap.size w w' := by
 unfold impl_Cancel.f at h
 replace h := zO h
 obtain ⟨⟨y0, y1, y2, y3⟩, ⟨hac⟩, h⟩ := h
 simp only at h
 by_cases ey : y0 = a
 rotate_left
 ·rw [if_neg ey] at h
  exact absurd h (by simp)
 rw [if_pos ey] at h
 subst ey
 replace h := zO h
 obtain ⟨b, ⟨hao⟩, h⟩ := h
 cases b with
 | false =>
  rw [if_neg (by simp)] at h
  simp only [Option.some.injEq, Prod.mk.injEq] at h
  obtain ⟨rfl, rfl, rfl, rfl, rfl⟩ := h
  exact impl_Cancel.wrong k A1 c1 l1 A2 c2 l2 A3 c3 l3 id y0 y1 y2 y3 w hr1 hc1 hr2 hc2 hr3 hc3 hac hao
 | true =>
  rw [if_pos rfl] at h
  replace h := zO h
  obtain ⟨T, ⟨hT⟩, h⟩ := h
  replace h := zO h
  obtain ⟨t, ⟨ha⟩, h⟩ := h
  by_cases ht : t < 0
  ·rw [if_pos ht] at h
   simp only [Option.some.injEq, Prod.mk.injEq] at h
   obtain ⟨rfl, rfl, rfl, rfl, rfl⟩ := h
   exact impl_Cancel.lacks k A1 c1 l1 A2 c2 l2 A3 c3 l3 id y0 y1 y2 y3 w hr1 hc1 hr2 hc2 hr3 hc3 hac hao T t hT ha ht
  ·rw [if_neg ht] at h
   by_cases e1 : y1.length = 8
   rotate_left
   ·rw [if_neg e1] at h
    exact absurd h (by simp)
   rw [if_pos e1] at h
   by_cases e2 : y2.length = 8
   rotate_left
   ·rw [if_neg e2] at h
    exact absurd h (by simp)
   rw [if_pos e2] at h
   replace h := zO h
   obtain ⟨⟨x1, x2⟩, ⟨hL⟩, h⟩ := h
   replace h := zO h
   obtain ⟨x3, ⟨hD⟩, h⟩ := h
   simp only [Option.some.injEq, Prod.mk.injEq] at h
   obtain ⟨rfl, rfl, rfl, rfl, rfl⟩ := h
   exact impl_Cancel.does k A1 c1 l1 A2 c2 l2 A3 c3 l3 id y0 y1 y2 y3 w hr1 hc1 hr2 hc2 hr3 hc3 hac hao T t hT ha ht e1 e2 x1 x2 x3 hL hD
end Go.Proofs.Ytggenhomnbnodaa.QFnWheels
