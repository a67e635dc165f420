/- What the Go functions that the law FnExactCancel reaches answer: each as a Lean function, with its walk. Written by a program of this session. Conditions: those that each theorem names. -/
import Derived.Test.YtggenhomnbnodaaQFnExactCancelx0
import Derived.Test.YtggenhomnbnodaaQFnExactCancelx1
import Derived.Test.YtggenhomnbnodaaQFnExactCancelx2
import Derived.Test.YtggenhomnbnodaaQFnExactCancelx3
import Derived.Test.YtggenhomnbnodaaQFnExactCancelx5
import Derived.Test.YtggenhomnbnodaaQFnExactCancelx6
import Derived.Test.YtggenhomnbnodaaQFnExactCancelx9
namespace Go.Proofs.Ytggenhomnbnodaa.QFnExactCancel
open Go.RowKit Go.Proofs.YtggenhomnbnodaaW.PrintWords Go.Proofs.YtggenhomnbnodaaW.PrintLast Go.Proofs.YtggenhomnbnodaaW.PrintMore
attribute [local go_sem] max2_int min2_int max_two min_two max_three min_three max_four min_four   -- for this text's walks alone
set_option linter.unusedVariables false
set_option linter.unusedSimpArgs false

/-! ### laws_FnExactCancel: function 8, by hand -/
/-! ### The calls of the laws' own functions, over rows as they are told here -/
theorem laws_toWheel.callsW (k : Nat) (a : Int) (A1 : Option Addr) (c1 : Nat) (l1 : List (List S43)) (A2 : Option Addr) (c2 : Nat) (l2 : List (List S43)) (A3 : Option Addr) (c3 : Nat) (l3 : List S43) (r1 : Int) (r2 r3 : List (List S46)) (r4 : List S46) (w : World) (hr1 : Kd.C (Kd.slice 43 k43) w A1 l1.length l1) (hc1 : l1.length ≤ c1) (hr2 : Kd.C (Kd.slice 43 k43) w A2 l2.length l2) (hc2 : l2.length ≤ c2) (hr3 : Kd.C k43 w A3 l3.length l3) (hc3 : l3.length ≤ c3) (h : laws_toWheel.f k a l1 l2 l3 = some (r1, r2, r3, r4)) :
    Calls Try.prog 22 #[.agg #[.int .i64 a, .slice A1 l1.length c1, .slice A2 l2.length c2, .slice A3 l3.length c3]] w fun e w' => ∃ v1_ v2_ v3_ : Value, e = .returned (.agg #[.int .i64 r1, v1_, v2_, v3_]) ∧ WR w' w.heap.size (fun _ => True) v1_ v2_ v3_ r2 r3 r4 ∧ Below w.heap.size w w' := by
  refine (laws_toWheel.calls k a A1 c1 l1 A2 c2 l2 A3 c3 l3 r1 r2 r3 r4 w hr1 hc1 hr2 hc2 hr3 hc3 h).mono ?_
  rintro e w' ⟨N1, N2, v1, v2, v3, rfl, s1, s2, s3, hb⟩
  exact ⟨v1, v2, v3, rfl, ⟨_, _, _, ⟨fun _ _ => trivial, fun _ _ => trivial, fun _ _ => trivial⟩, ⟨fun k_ h_ h2_ => by have a_ := h_.2; have b_ := h2_.2.1; omega, fun k_ h_ h2_ => by have a_ := h_.2; have b_ := h2_.1; omega, fun k_ h_ h2_ => by have a_ := h_.2.2; have b_ := h2_.2; omega⟩, s1, s2, s3⟩, hb⟩
section
variable {w : World} {b1 b2 : Nat} {o1 o2 : Nat → Prop} {v1 v2 v3 u1 u2 u3 : Value} {l1 l2 p1 p2 : List (List S46)} {l3 p3 : List S46}
theorem laws_eqWheel.callsV (k : Nat) (a b : Int) (r : Bool) (h1 : WR w b1 o1 v1 v2 v3 l1 l2 l3) (h2 : WR w b2 o2 u1 u2 u3 p1 p2 p3) (h : laws_eqWheel.f k a l1 l2 l3 b p1 p2 p3 = some r) :
    Calls Try.prog 17 #[.agg #[.int .i64 a, v1, v2, v3], .agg #[.int .i64 b, u1, u2, u3]] w fun e w' => e = .returned (.bool r) ∧ Below w.heap.size w w' := by
  obtain ⟨A1, c1, A2, c2, A3, c3, rfl, rfl, rfl, ⟨x1, x2, x3⟩, y1, y2, y3⟩ := h1.reads
  obtain ⟨B1, d1, B2, d2, B3, d3, rfl, rfl, rfl, ⟨z1, z2, z3⟩, t1, t2, t3⟩ := h2.reads
  exact laws_eqWheel.calls k a A1 c1 l1 A2 c2 l2 A3 c3 l3 b B1 d1 p1 B2 d2 p2 B3 d3 p3 r w y1 x1 y2 x2 y3 x3 t1 z1 t2 z2 t3 z3 h
theorem laws_heldWheel.callsV (k : Nat) (a x r : Int) (h1 : WR w b1 o1 v1 v2 v3 l1 l2 l3) (h : laws_heldWheel.f k a l1 l2 l3 x = some r) :
    Calls Try.prog 19 #[.agg #[.int .i64 a, v1, v2, v3], .int .i64 x] w fun e w' => e = .returned (.int .i64 r) ∧ Below w.heap.size w w' := by
  obtain ⟨A1, c1, A2, c2, A3, c3, rfl, rfl, rfl, ⟨x1, x2, x3⟩, y1, y2, y3⟩ := h1.reads
  exact laws_heldWheel.calls k a A1 c1 l1 A2 c2 l2 A3 c3 l3 x r w y1 x1 y2 x2 y3 x3 h
theorem laws_markWheel.callsV {w0 : World} (k : Nat) (a x r : Int) (m1 m2 : List (List S46)) (m3 : List S46) (hB : Below w0.heap.size w0 w) (h1 : WR w w0.heap.size o1 v1 v2 v3 l1 l2 l3) (h : laws_markWheel.all k a l1 l2 l3 x = some (r, m1, m2, m3)) :
    Calls Try.prog 18 #[.agg #[.int .i64 a, v1, v2, v3], .int .i64 x] w fun e w' => e = .returned (.int .i64 r) ∧ WR w' w0.heap.size o1 v1 v2 v3 m1 m2 m3 ∧ Below w0.heap.size w0 w' ∧ Kept w w' o1 := by
  obtain ⟨P1, P2, P3, ⟨q1, q2, q3⟩, ⟨d1, d2, d3⟩, s1, s2, s3⟩ := h1
  refine (laws_markWheel.callsAll k P1 P2 P3 v1 v2 v3 a l1 l2 l3 x r m1 m2 m3 w0 w hB s1 s2 s3 d1 d2 d3 h).mono ?_
  rintro e w' ⟨rfl, t1, t2, t3, hb, hk⟩
  exact ⟨rfl, ⟨P1, P2, P3, ⟨q1, q2, q3⟩, ⟨d1, d2, d3⟩, t1, t2, t3⟩, hb, hk.mono (fun k_ h_ => by rcases h_ with h_ | h_ | h_; exact q1 k_ h_; exact q2 k_ h_; exact q3 k_ h_)⟩
end
section
variable {w : World} {b1 b2 : Nat} {o1 o2 : Nat → Prop} {v u : Value} {l p : List S46}
theorem laws_eqTimerS.callsV (k : Nat) (r : Bool) (h1 : k46.R 46 w b1 o1 v l) (h2 : k46.R 46 w b2 o2 u p) (h : laws_eqTimerS.f k l p = some r) :
    Calls Try.prog 26 #[v, u] w fun e w' => e = .returned (.bool r) ∧ Below w.heap.size w w' := by
  obtain ⟨A, c, rfl, x1, y1⟩ := Kd.R_reads h1
  obtain ⟨B, d, rfl, z1, t1⟩ := Kd.R_reads h2
  exact (laws_eqTimerS.calls k A c l B d p r w y1 x1 t1 z1 h).mono (fun e w' h_ => h_)
theorem laws_heldTimerS.callsV (k : Nat) (x r : Int) (h1 : k46.R 46 w b1 o1 v l) (h : laws_heldTimerS.f k l x = some r) :
    Calls Try.prog 28 #[v, .int .i64 x] w fun e w' => e = .returned (.int .i64 r) ∧ Below w.heap.size w w' := by
  obtain ⟨A, c, rfl, x1, y1⟩ := Kd.R_reads h1
  exact (laws_heldTimerS.calls k A c l x r w y1 x1 h).mono (fun e w' h_ => ⟨h_.1, h_.2.below⟩)
theorem laws_markTimerS.callsV {w0 : World} (k : Nat) (x r : Int) (m : List S46) (hB : Below w0.heap.size w0 w) (h1 : k46.R 46 w w0.heap.size o1 v l) (h : laws_markTimerS.f k l x = some (r, m)) :
    Calls Try.prog 27 #[v, .int .i64 x] w fun e w' => e = .returned (.int .i64 r) ∧ k46.R 46 w' w0.heap.size o1 v m ∧ Below w0.heap.size w0 w' ∧ Kept w w' o1 := by
  refine (laws_markTimerS.calls k o1 v l x r m w0 w hB h1 h).mono ?_
  rintro e w' ⟨rfl, h2, hb, hk⟩
  exact ⟨rfl, Kd.R_mono (Kd.R_tight rfl h2) (fun k_ hk => h1.1 k_ hk.symm), hb, hk⟩
end
/-- What a kind of another type lies in is none of the row's blocks. -/
theorem nt_ {w : World} {g t base : Nat} {cs : Array Value} (hb : w.heap[g]? = some (.cells cs t (0, 0))) (h1 : t ≠ 23) (h2 : t ≠ 46) : ¬ (base ≤ g ∧ g < w.heap.size ∧ ∃ q, q ∈ [23, 46] ∧ ∃ cells, w.heap[g]? = some (.cells cells q (0, 0))) := by
  rintro ⟨_, _, q, hq, cs2, hc⟩
  rw [hb] at hc
  injection hc with hc
  injection hc with _ hc
  rw [← hc] at hq
  simp [h1, h2] at hq
theorem ntR_ {w : World} {g t base : Nat} {cs : Array Value} (hb : w.heap[g]? = some (.cells cs t (0, 0))) (h2 : t ≠ 46) : ¬ (base ≤ g ∧ g < w.heap.size ∧ ∃ q, q ∈ 46 :: k46.E ∧ ∃ cells, w.heap[g]? = some (.cells cells q (0, 0))) := by
  rintro ⟨_, _, q, hq, cs2, hc⟩
  rw [hb] at hc
  injection hc with hc
  injection hc with _ hc
  rw [← hc] at hq
  have e0 : k46.E = [] := rfl
  rw [e0] at hq
  simp [h2] at hq
/-- A wheel's three rows, to be read alone. -/
def WN (w : World) (base : Nat) (ok : Nat → Prop) (v1 v2 v3 : Value) (l1 l2 : List (List S46)) (l3 : List S46) : Prop :=
  Kd.N (Kd.slice 46 k46) 23 w base ok v1 l1 ∧ Kd.N (Kd.slice 46 k46) 23 w base ok v2 l2 ∧ Kd.R k46 46 w base ok v3 l3
section
variable {w w1 : World} {base base' : Nat} {ok ok' S : Nat → Prop} {v1 v2 v3 : Value} {l1 l2 : List (List S46)} {l3 : List S46}
theorem WN.mono (h : WN w base ok v1 v2 v3 l1 l2 l3) (hk : ∀ k, ok k → ok' k) : WN w base ok' v1 v2 v3 l1 l2 l3 := ⟨Kd.N_mono h.1 hk, Kd.N_mono h.2.1 hk, Kd.R_mono h.2.2 hk⟩
theorem WN.bound (h : WN w base ok v1 v2 v3 l1 l2 l3) : WN w base (fun k => ok k ∧ k < w.heap.size) v1 v2 v3 l1 l2 l3 := ⟨Kd.N_bound h.1, Kd.N_bound h.2.1, Kd.R_mono (Kd.R_bound h.2.2) (fun _ h => ⟨h.1, h.2.2.1⟩)⟩
theorem WN.below (h : WN w base ok v1 v2 v3 l1 l2 l3) (hb : Below w.heap.size w w1) : WN w1 base ok v1 v2 v3 l1 l2 l3 := ⟨Kd.N_below h.1 hb, Kd.N_below h.2.1 hb, Kd.R_below h.2.2 hb⟩
theorem WN.kept (h : WN w base ok v1 v2 v3 l1 l2 l3) (hk : Kept w w1 S) (hne : ∀ k, ok k → ¬ S k) : WN w1 base ok v1 v2 v3 l1 l2 l3 := ⟨Kd.N_kept h.1 hk hne, Kd.N_kept h.2.1 hk hne, Kd.R_kept h.2.2 hk hne⟩
theorem WN.lower (h : WN w base ok v1 v2 v3 l1 l2 l3) (hb : base' ≤ base) : WN w base' ok v1 v2 v3 l1 l2 l3 := ⟨Kd.N_lower h.1 hb, Kd.N_lower h.2.1 hb, Kd.R_lower h.2.2 hb⟩
theorem WN.drew (h : WN w base ok v1 v2 v3 l1 l2 l3) : WN w.drew base ok v1 v2 v3 l1 l2 l3 := h.below (below_drew (Below.refl _ _))
theorem WN.reads (h : WN w base ok v1 v2 v3 l1 l2 l3) : ∃ A1 c1 A2 c2 A3 c3, v1 = .slice A1 l1.length c1 ∧ v2 = .slice A2 l2.length c2 ∧ v3 = .slice A3 l3.length c3 ∧ (l1.length ≤ c1 ∧ l2.length ≤ c2 ∧ l3.length ≤ c3) ∧
    (Kd.slice 46 k46).C w A1 l1.length l1 ∧ (Kd.slice 46 k46).C w A2 l2.length l2 ∧ k46.C w A3 l3.length l3 := by
  obtain ⟨s1, s2, s3⟩ := h
  obtain ⟨A1, c1, e1, b1, r1⟩ := Kd.N_reads s1
  obtain ⟨A2, c2, e2, b2, r2⟩ := Kd.N_reads s2
  obtain ⟨A3, c3, e3, b3, r3⟩ := Kd.R_reads s3
  exact ⟨A1, c1, A2, c2, A3, c3, e1, e2, e3, ⟨b1, b2, b3⟩, r1, r2, r3⟩
end
theorem laws_eqWheel.callsN {w : World} {b1 b2 : Nat} {o1 o2 : Nat → Prop} {v1 v2 v3 u1 u2 u3 : Value} {l1 l2 p1 p2 : List (List S46)} {l3 p3 : List S46} (k : Nat) (a b : Int) (r : Bool) (h1 : WR w b1 o1 v1 v2 v3 l1 l2 l3) (h2 : WN w b2 o2 u1 u2 u3 p1 p2 p3) (h : laws_eqWheel.f k a l1 l2 l3 b p1 p2 p3 = some r) :
    Calls Try.prog 17 #[.agg #[.int .i64 a, v1, v2, v3], .agg #[.int .i64 b, u1, u2, u3]] w fun e w' => e = .returned (.bool r) ∧ Below w.heap.size w w' := by
  obtain ⟨A1, c1, A2, c2, A3, c3, rfl, rfl, rfl, ⟨x1, x2, x3⟩, y1, y2, y3⟩ := h1.reads
  obtain ⟨B1, d1, B2, d2, B3, d3, rfl, rfl, rfl, ⟨z1, z2, z3⟩, t1, t2, t3⟩ := h2.reads
  exact laws_eqWheel.calls k a A1 c1 l1 A2 c2 l2 A3 c3 l3 b B1 d1 p1 B2 d2 p2 B3 d3 p3 r w y1 x1 y2 x2 y3 x3 t1 z1 t2 z2 t3 z3 h
theorem spec_Cancel.callsV {w : World} {b1 : Nat} {o1 : Nat → Prop} {v1 v2 v3 : Value} {l1 l2 : List (List S46)} {l3 : List S46} (k : Nat) (a id r1 : Int) (r2 r3 : List (List S46)) (r4 : List S46) (r5 : Bool) (h1 : WR w b1 o1 v1 v2 v3 l1 l2 l3) (h : spec_Cancel.f k a l1 l2 l3 id = some (r1, r2, r3, r4, r5)) :
    Calls Try.prog 34 #[.agg #[.int .i64 a, v1, v2, v3], .int .i64 id] w fun e w' => ∃ v1_ v2_ v3_ : Value, e = .returned (.tuple #[.agg #[.int .i64 r1, v1_, v2_, v3_], .bool r5]) ∧ WN w' w.heap.size (fun k_ => w.heap.size ≤ k_) v1_ v2_ v3_ r2 r3 r4 ∧ Below w.heap.size w w' := by
  obtain ⟨A1, c1, A2, c2, A3, c3, rfl, rfl, rfl, ⟨x1_, x2_, x3_⟩, y1, y2, y3⟩ := h1.reads
  refine (spec_Cancel.calls k a A1 c1 l1 A2 c2 l2 A3 c3 l3 id r1 r2 r3 r4 r5 w y1 x1_ y2 x2_ y3 x3_ h).mono ?_
  rintro e w' ⟨v1, v2, v3, rfl, n1, n2, n3, hb⟩
  exact ⟨v1, v2, v3, rfl, ⟨Kd.N_mono n1 (fun _ h => h.1), Kd.N_mono n2 (fun _ h => h.1), n3⟩, hb⟩
def laws_FnExactCancel.T10 : Bool × List (List Nat × List Nat) := (true, [([], []), ([], []), ([1], [1]), ([0, 2, 2], [0, 2]), ([3], [3])])
def laws_FnExactCancel.B10 : List Nat := [0, 0, 2, 7, 15]
theorem laws_FnExactCancel.tab10 : rtab .any (opsOf Try.f8 10) = laws_FnExactCancel.T10 := by kernel_rfl
theorem laws_FnExactCancel.bits10 : waitsOk laws_FnExactCancel.T10.2 laws_FnExactCancel.B10 = true := by kernel_rfl
def laws_FnExactCancel.f (k : Nat) (a0_0 : Int) (l0_1 l0_2 : List (List S43)) (l0_3 : List S43) (a1 : Int) : Option Bool :=
  (laws_szWheel.f k a0_0 l0_1 l0_2 l0_3 1048576).bind fun s => (if s < 0 then some true else (laws_toWheel.f k a0_0 l0_1 l0_2 l0_3).bind fun A => (spec_Cancel.f k A.1 A.2.1 A.2.2.1 A.2.2.2 a1).bind fun W => (impl_Cancel.f k A.1 A.2.1 A.2.2.1 A.2.2.2 a1).bind fun G => (laws_eqWheel.f k G.1 G.2.1 G.2.2.1 G.2.2.2.1 W.1 W.2.1 W.2.2.1 W.2.2.2.1).bind fun e1 => (if e1 = true then (if G.2.2.2.2 = W.2.2.2.2 then (laws_eqWheel.f k A.1 A.2.1 A.2.2.1 A.2.2.2 A.1 A.2.1 A.2.2.1 A.2.2.2).bind fun e3 => (if e3 = true then (laws_markWheel.all k A.1 A.2.1 A.2.2.1 A.2.2.2 1).bind fun X => (if X.1 < 0 then none else (laws_markWheel.all k G.1 G.2.1 G.2.2.1 G.2.2.2.1 1).bind fun M => (laws_heldWheel.f k G.1 M.2.1 M.2.2.1 M.2.2.2 1).bind fun q1 => (if q1 < 0 then none else (if q1 = M.1 then some true else none))) else none) else none) else none))
set_option maxHeartbeats 8000000 in
set_option maxRecDepth 100000 in
theorem laws_FnExactCancel.calls (k : Nat) (a0_0 : Int) (A0_1 : Option Addr) (c0_1 : Nat) (l0_1 : List (List (S43))) (A0_2 : Option Addr) (c0_2 : Nat) (l0_2 : List (List (S43))) (A0_3 : Option Addr) (c0_3 : Nat) (l0_3 : List (S43)) (a1 : Int) (r : Bool) (w : World) (hr0_1 : Kd.C (Kd.slice 43 k43) w A0_1 l0_1.length l0_1) (hc0_1 : l0_1.length ≤ c0_1) (hr0_2 : Kd.C (Kd.slice 43 k43) w A0_2 l0_2.length l0_2) (hc0_2 : l0_2.length ≤ c0_2) (hr0_3 : Kd.C k43 w A0_3 l0_3.length l0_3) (hc0_3 : l0_3.length ≤ c0_3) (hrt_ : Aside0 (r = true)) (h : laws_FnExactCancel.f k a0_0 l0_1 l0_2 l0_3 a1 = some r) :
    Calls Try.prog 8 #[.agg #[.int .i64 a0_0, .slice A0_1 l0_1.length c0_1, .slice A0_2 l0_2.length c0_2, .slice A0_3 l0_3.length c0_3], .int .i64 a1] w fun e w' => e = .returned (.bool r) ∧ Below w.heap.size w w' := by
  have hu33 := Try.underlying33
  have hu25 := Try.underlying25
  have hu43 := Try.underlying43
  have HR1 := Aside0.mk hr0_1
  have HR2 := Aside0.mk hr0_2
  have HR3 := Aside0.mk hr0_3
  have HC1 := Aside0.mk hc0_1
  have HC2 := Aside0.mk hc0_2
  have HC3 := Aside0.mk hc0_3
  have HB := Aside0.mk (Below.refl w.heap.size w)
  clear hr0_1 hr0_2 hr0_3 hc0_1 hc0_2 hc0_3
  obtain rfl := hrt_.out
  clear hrt_
  unfold laws_FnExactCancel.f at h
  replace h := zO h
  obtain ⟨sz, AS, h⟩ := h
  by_cases hs : sz < 0
  · rw [if_pos hs] at h
    clear h
    have hs1 := eq_true hs
    have hs2 : decide (sz < 0) = true := decide_eq_true hs
    clear hs
    go_enter Try.func8, Try.ntmps8
    go_wp2_with (first | ((with_reducible refine gD 2 rfl ?_); refine bE 2 #[.int .i64 a0_0, .slice A0_1 l0_1.length c0_1, .slice A0_2 l0_2.length c0_2, .slice A0_3 l0_3.length c0_3] 33 ?_; intro g2 hg wa_ hbox hb; have GE2 := Aside0.mk (zg HB.out hg : w.heap.size ≤ g2);   have BK2 := Aside0.mk hbox; clear hbox hg;  replace HB := zLB HB.out hb; clear hb; (try clear hz2_); have hz2_ := zc4 BK2.out;) | ((with_reducible refine gC 20 rfl ?_); refine gL 18 Try.func20 #[.agg #[.int .i64 a0_0, .slice A0_1 l0_1.length c0_1, .slice A0_2 l0_2.length c0_2, .slice A0_3 l0_3.length c0_3], .int .i64 1048576] ?_; (refine (laws_szWheel.calls k a0_0 A0_1 c0_1 l0_1 A0_2 c0_2 l0_2 A0_3 c0_3 l0_3 1048576 sz _ (Kd.C_below HR1.out HB.out) HC1.out (Kd.C_below HR2.out HB.out) HC2.out (Kd.C_below HR3.out HB.out) HC3.out AS.out).mono ?_); rintro e wb_ ⟨rfl, hb⟩; refine ⟨_, rfl, ?_⟩;  replace BK2 := zBB BK2 hb; replace HB := zLB HB.out hb; clear hb; (try clear hz2_); have hz2_ := zc4 BK2.out;))
    go_ret
    exact ⟨rfl, HB.out⟩
  · rw [if_neg hs] at h
    have hs1 := eq_false hs
    have hs2 : decide (sz < 0) = false := decide_eq_false hs
    clear hs
    replace h := zO h
    obtain ⟨⟨y0, y1, y2, y3⟩, AT, h⟩ := h
    simp only at h
    replace h := zO h
    obtain ⟨⟨t0, t1, t2, t3, t5⟩, AW, h⟩ := h
    simp only at h
    replace h := zO h
    obtain ⟨⟨s0, s1, s2, s3, s5⟩, AG, h⟩ := h
    simp only at h
    replace h := zO h
    obtain ⟨e1, EQ1, h⟩ := h
    by_cases c1 : e1 = true
    rotate_left
    · rw [if_neg c1] at h
      exact absurd h (by simp)
    rw [if_pos c1] at h
    subst c1
    by_cases c2 : s5 = t5
    rotate_left
    · rw [if_neg c2] at h
      exact absurd h (by simp)
    rw [if_pos c2] at h
    subst c2
    have hfl_ : (s5 != s5) = false := by simp
    replace h := zO h
    obtain ⟨e3, EQ3, h⟩ := h
    by_cases c3 : e3 = true
    rotate_left
    · rw [if_neg c3] at h
      exact absurd h (by simp)
    rw [if_pos c3] at h
    subst c3
    replace h := zO h
    obtain ⟨⟨x0, x1, x2, x3⟩, AX, h⟩ := h
    simp only at h
    by_cases c4 : x0 < 0
    · rw [if_pos c4] at h
      exact absurd h (by simp)
    rw [if_neg c4] at h
    have c4a := eq_false c4
    have c4b : decide (x0 < 0) = false := decide_eq_false c4
    clear c4
    replace h := zO h
    obtain ⟨⟨m0, m1, m2, m3⟩, AM, h⟩ := h
    simp only at h
    replace h := zO h
    obtain ⟨q1, AQ, h⟩ := h
    by_cases c5 : q1 < 0
    · rw [if_pos c5] at h
      exact absurd h (by simp)
    rw [if_neg c5] at h
    have c5a := eq_false c5
    have c5b : decide (q1 < 0) = false := decide_eq_false c5
    clear c5
    by_cases c7 : q1 = m0
    rotate_left
    · rw [if_neg c7] at h
      exact absurd h (by simp)
    rw [if_pos c7] at h
    subst c7
    have c7b : (q1 != q1) = false := by simp
    clear h
    go_enter Try.func8, Try.ntmps8
    try go_wp2_with (first | ((with_reducible refine gD 2 rfl ?_); refine bE 2 #[.int .i64 a0_0, .slice A0_1 l0_1.length c0_1, .slice A0_2 l0_2.length c0_2, .slice A0_3 l0_3.length c0_3] 33 ?_; intro g2 hg wa_ hbox hb; have GE2 := Aside0.mk (zg HB.out hg : w.heap.size ≤ g2);   have BK2 := Aside0.mk hbox; clear hbox hg;  replace HB := zLB HB.out hb; clear hb; (try clear hz2_); have hz2_ := zc4 BK2.out;) | ((with_reducible refine gC 20 rfl ?_); refine gL 18 Try.func20 #[.agg #[.int .i64 a0_0, .slice A0_1 l0_1.length c0_1, .slice A0_2 l0_2.length c0_2, .slice A0_3 l0_3.length c0_3], .int .i64 1048576] ?_; (refine (laws_szWheel.calls k a0_0 A0_1 c0_1 l0_1 A0_2 c0_2 l0_2 A0_3 c0_3 l0_3 1048576 sz _ (Kd.C_below HR1.out HB.out) HC1.out (Kd.C_below HR2.out HB.out) HC2.out (Kd.C_below HR3.out HB.out) HC3.out AS.out).mono ?_); rintro e wb_ ⟨rfl, hb⟩; refine ⟨_, rfl, ?_⟩;  replace BK2 := zBB BK2 hb; replace HB := zLB HB.out hb; clear hb; (try clear hz2_); have hz2_ := zc4 BK2.out;) | ((with_reducible refine gC 22 rfl ?_); refine gL 23 Try.func22 #[.agg #[.int .i64 a0_0, .slice A0_1 l0_1.length c0_1, .slice A0_2 l0_2.length c0_2, .slice A0_3 l0_3.length c0_3]] ?_; (refine (laws_toWheel.callsW k a0_0 A0_1 c0_1 l0_1 A0_2 c0_2 l0_2 A0_3 c0_3 l0_3 y0 y1 y2 y3 _ (Kd.C_below HR1.out HB.out) HC1.out (Kd.C_below HR2.out HB.out) HC2.out (Kd.C_below HR3.out HB.out) HC3.out AT.out).mono ?_); rintro e wc_ ⟨v1, v2, v3, rfl, hw_, hb⟩; obtain ⟨E1, e1, E2, e2, E3, e3, rfl, rfl, rfl, _, _, _, _⟩ := hw_.reads; refine ⟨_, rfl, ?_⟩;  have HAn := Aside0.mk ((hw_.bound.mono (ok' := (fun _ => True)) (fun k_ h_ => trivial)).lower HB.out.size); clear hw_; replace BK2 := zBB BK2 hb; replace HB := zLB HB.out hb; clear hb; (try clear hz2_); have hz2_ := zc4 BK2.out; have HA := HAn; clear HAn;) | ((with_reducible refine gC 34 rfl ?_); refine gL 25 Try.func34 #[.agg #[.int .i64 y0, .slice E1 y1.length e1, .slice E2 y2.length e2, .slice E3 y3.length e3], .int .i64 a1] ?_; (refine (spec_Cancel.callsV k y0 a1 t0 t1 t2 t3 s5 HA.out AW.out).mono ?_); rintro e wd_ ⟨v1, v2, v3, rfl, hw_, hb⟩; obtain ⟨B1, b1, B2, b2, B3, b3, rfl, rfl, rfl, _, _, _, _⟩ := hw_.reads; refine ⟨_, rfl, ?_⟩;  have HWn := Aside0.mk ((hw_.bound.mono (ok' := (fun _ => True)) (fun k_ h_ => trivial)).lower HB.out.size); clear hw_; replace BK2 := zBB BK2 hb; replace HA := Aside0.mk (HA.out.below hb); replace HB := zLB HB.out hb; clear hb; (try clear hz2_); have hz2_ := zc4 BK2.out; have HW := HWn; clear HWn;) | ((with_reducible refine gD 6 rfl ?_); refine bE 6 #[.int .i64 0, .slice none 0 0, .slice none 0 0, .slice none 0 0] 25 ?_; intro g6 hg we_ hbox hb; have GE6 := Aside0.mk (zg HB.out hg : w.heap.size ≤ g6); have N2_6 := Aside0.mk (zN BK2.out hg : g2 ≠ g6); replace HW := Aside0.mk (HW.out.bound.mono (ok' := fun k_ => k_ < g6) (fun k_ h_ => by have a_ := h_.2; omega)); have BK6 := Aside0.mk hbox; clear hbox hg; replace BK2 := zBB BK2 hb; replace HW := Aside0.mk (HW.out.below hb); replace HB := zLB HB.out hb; clear hb; (try clear hz2_); have hz2_ := zc4 BK2.out; (try clear hz6_); have hz6_ := zc4 BK6.out;) | ((with_reducible refine gate_store (t := 25) (p := 6) rfl ?_); refine store_event (t := 25) (p := 6) (v := ?vl0_) (w1 := ((((we_.setCell ⟨g6, 0, none⟩ (.int .i64 t0)).setCell ⟨g6, 1, none⟩ (.slice B1 t1.length b1)).setCell ⟨g6, 2, none⟩ (.slice B2 t2.length b2)).setCell ⟨g6, 3, none⟩ (.slice B3 t3.length b3))) ?hg ?ho ?hn ?hr ?_; (case ho => rfl); (case hg => rfl); (case hn => rfl); (case hr => (have hs0_ := (blk_cell BK6.out 0).trans rfl; have hf0_ := blk_frozen BK6.out 0; have hs1_ := (blk_cell BK6.out 1).trans rfl; have hf1_ := blk_frozen BK6.out 1; have hs2_ := (blk_cell BK6.out 2).trans rfl; have hf2_ := blk_frozen BK6.out 2; have hs3_ := (blk_cell BK6.out 3).trans rfl; have hf3_ := blk_frozen BK6.out 3; (try clear hz2_); have hz2_ := zc4 BK2.out; (try clear hz6_); have hz6_ := zc4 BK6.out; first | (go_simp; done) | (go_simp; rfl))); intro wf_ hw_; have HK_ := set4_kept hw_; have BKn := Aside0.mk (set4_blk hw_ BK6.out rfl); have HBn := Aside0.mk (set4_below hw_ HB.out GE6.out); replace BK2 := Aside0.mk (blk_kept BK2.out HK_ (N2_6.out)); replace HW := Aside0.mk (HW.out.kept HK_ (fun k_ h_ e_ => by have e2_ : k_ = g6 := e_; have h2_ : k_ < g6 := h_; omega)); clear hw_ BK6 HB; have BK6 := BKn; have HB := HBn; clear BKn HBn HK_; (try clear hz2_); have hz2_ := zc4 BK2.out; (try clear hz6_); have hz6_ := zc4 BK6.out;) | ((with_reducible refine gC 22 rfl ?_); refine gL 29 Try.func22 #[.agg #[.int .i64 a0_0, .slice A0_1 l0_1.length c0_1, .slice A0_2 l0_2.length c0_2, .slice A0_3 l0_3.length c0_3]] ?_; (refine (laws_toWheel.callsW k a0_0 A0_1 c0_1 l0_1 A0_2 c0_2 l0_2 A0_3 c0_3 l0_3 y0 y1 y2 y3 _ (Kd.C_below HR1.out HB.out) HC1.out (Kd.C_below HR2.out HB.out) HC2.out (Kd.C_below HR3.out HB.out) HC3.out AT.out).mono ?_); rintro e wg_ ⟨v1, v2, v3, rfl, hw_, hb⟩; obtain ⟨F1, f1, F2, f2, F3, f3, rfl, rfl, rfl, _, _, _, _⟩ := hw_.reads; refine ⟨_, rfl, ?_⟩; replace HW := Aside0.mk (HW.out.bound.mono (ok' := fun k_ => k_ < wf_.heap.size) (fun _ h_ => h_.2)); have ZX := Aside0.mk hb.size; have HXn := Aside0.mk ((hw_.bound.mono (ok' := (fun k_ => wf_.heap.size ≤ k_)) (fun k_ h_ => h_.2.1)).lower HB.out.size); clear hw_; replace BK2 := zBB BK2 hb; replace BK6 := zBB BK6 hb; replace HW := Aside0.mk (HW.out.below hb); replace HB := zLB HB.out hb; clear hb; (try clear hz2_); have hz2_ := zc4 BK2.out; (try clear hz6_); have hz6_ := zc4 BK6.out; have HX := HXn; clear HXn;) | ((with_reducible refine gD 8 rfl ?_); refine bE 8 #[.int .i64 0, .slice none 0 0, .slice none 0 0, .slice none 0 0] 25 ?_; intro g8 hg wh_ hbox hb; have GE8 := Aside0.mk (zg HB.out hg : w.heap.size ≤ g8); have N2_8 := Aside0.mk (zN BK2.out hg : g2 ≠ g8); have N6_8 := Aside0.mk (zN BK6.out hg : g6 ≠ g8); have GW8 := Aside0.mk (by rw [hg]; exact ZX.out : wf_.heap.size ≤ g8); have BK8 := Aside0.mk hbox; clear hbox hg; replace BK2 := zBB BK2 hb; replace BK6 := zBB BK6 hb; replace HW := Aside0.mk (HW.out.below hb); replace HX := Aside0.mk (HX.out.below hb); replace ZX := Aside0.mk (Nat.le_trans ZX.out hb.size); replace HB := zLB HB.out hb; clear hb; (try clear hz2_); have hz2_ := zc4 BK2.out; (try clear hz6_); have hz6_ := zc4 BK6.out; (try clear hz8_); have hz8_ := zc4 BK8.out;) | ((with_reducible refine gate_store (t := 25) (p := 8) rfl ?_); refine store_event (t := 25) (p := 8) (v := ?vl1_) (w1 := ((((wh_.setCell ⟨g8, 0, none⟩ (.int .i64 y0)).setCell ⟨g8, 1, none⟩ (.slice F1 y1.length f1)).setCell ⟨g8, 2, none⟩ (.slice F2 y2.length f2)).setCell ⟨g8, 3, none⟩ (.slice F3 y3.length f3))) ?hg ?ho ?hn ?hr ?_; (case ho => rfl); (case hg => rfl); (case hn => rfl); (case hr => (have hs0_ := (blk_cell BK8.out 0).trans rfl; have hf0_ := blk_frozen BK8.out 0; have hs1_ := (blk_cell BK8.out 1).trans rfl; have hf1_ := blk_frozen BK8.out 1; have hs2_ := (blk_cell BK8.out 2).trans rfl; have hf2_ := blk_frozen BK8.out 2; have hs3_ := (blk_cell BK8.out 3).trans rfl; have hf3_ := blk_frozen BK8.out 3; (try clear hz2_); have hz2_ := zc4 BK2.out; (try clear hz6_); have hz6_ := zc4 BK6.out; (try clear hz8_); have hz8_ := zc4 BK8.out; first | (go_simp; done) | (go_simp; rfl))); intro wi_ hw_; have HK_ := set4_kept hw_; have BKn := Aside0.mk (set4_blk hw_ BK8.out rfl); have HBn := Aside0.mk (set4_below hw_ HB.out GE8.out); replace BK2 := Aside0.mk (blk_kept BK2.out HK_ (N2_8.out)); replace BK6 := Aside0.mk (blk_kept BK6.out HK_ (N6_8.out)); replace HW := Aside0.mk (HW.out.kept HK_ (fun k_ h_ e_ => by have e2_ : k_ = g8 := e_; have h2_ : k_ < wf_.heap.size := h_; have a_ := GW8.out; omega)); replace HX := Aside0.mk (((HX.out.types BK8.out (by decide) (by decide)).kept HK_ (fun _ h_ => h_.2)).mono (fun _ h_ => h_.1)); replace ZX := Aside0.mk (Nat.le_trans ZX.out HK_.1); clear hw_ BK8 HB; have BK8 := BKn; have HB := HBn; clear BKn HBn HK_; (try clear hz2_); have hz2_ := zc4 BK2.out; (try clear hz6_); have hz6_ := zc4 BK6.out; (try clear hz8_); have hz8_ := zc4 BK8.out;) | ((with_reducible refine gC 35 rfl ?_); refine gL 33 Try.func35 #[.agg #[.int .i64 y0, .slice F1 y1.length f1, .slice F2 y2.length f2, .slice F3 y3.length f3], .int .i64 a1] ?_; (refine (impl_Cancel.callsV k y0 a1 s0 s1 s2 s3 s5 HX.out AG.out).mono ?_); rintro e wj_ ⟨v1, v2, v3, rfl, hw_, hb⟩; obtain ⟨D1, d1, D2, d2, D3, d3, rfl, rfl, rfl, _, _, _, _⟩ := hw_.reads; refine ⟨_, rfl, ?_⟩; replace HX := Aside0.mk (HX.out.bound.mono (ok' := fun k_ => wf_.heap.size ≤ k_ ∧ k_ < wi_.heap.size) (fun _ h_ => ⟨h_.1, h_.2.2.1⟩)); have ZXG : Aside0 (wf_.heap.size ≤ wi_.heap.size) := ⟨ZX.out⟩; have HGn := Aside0.mk ((hw_.bound.mono (ok' := (fun k_ => wi_.heap.size ≤ k_)) (fun k_ h_ => h_.2.1)).lower HB.out.size); clear hw_; replace BK2 := zBB BK2 hb; replace BK6 := zBB BK6 hb; replace BK8 := zBB BK8 hb; replace HW := Aside0.mk (HW.out.below hb); replace HX := Aside0.mk (HX.out.below hb); replace ZX := Aside0.mk (Nat.le_trans ZX.out hb.size); replace HB := zLB HB.out hb; clear hb; (try clear hz2_); have hz2_ := zc4 BK2.out; (try clear hz6_); have hz6_ := zc4 BK6.out; (try clear hz8_); have hz8_ := zc4 BK8.out; have HG := HGn; clear HGn;) | ((with_reducible refine gD 9 rfl ?_); refine bE 9 #[.int .i64 0, .slice none 0 0, .slice none 0 0, .slice none 0 0] 25 ?_; intro g9 hg wk_ hbox hb; have GE9 := Aside0.mk (zg HB.out hg : w.heap.size ≤ g9); have N2_9 := Aside0.mk (zN BK2.out hg : g2 ≠ g9); have N6_9 := Aside0.mk (zN BK6.out hg : g6 ≠ g9); have N8_9 := Aside0.mk (zN BK8.out hg : g8 ≠ g9); have GW9 := Aside0.mk (by rw [hg]; exact Nat.le_of_lt (Nat.lt_of_le_of_lt GW8.out (blk_lt BK8.out)) : wf_.heap.size ≤ g9); have BK9 := Aside0.mk hbox; clear hbox hg; replace BK2 := zBB BK2 hb; replace BK6 := zBB BK6 hb; replace BK8 := zBB BK8 hb; replace HW := Aside0.mk (HW.out.below hb); replace HX := Aside0.mk (HX.out.below hb); replace HG := Aside0.mk (HG.out.below hb); replace HB := zLB HB.out hb; clear hb; (try clear hz2_); have hz2_ := zc4 BK2.out; (try clear hz6_); have hz6_ := zc4 BK6.out; (try clear hz8_); have hz8_ := zc4 BK8.out; (try clear hz9_); have hz9_ := zc4 BK9.out;) | ((with_reducible refine gate_store (t := 25) (p := 9) rfl ?_); refine store_event (t := 25) (p := 9) (v := ?vl2_) (w1 := ((((wk_.setCell ⟨g9, 0, none⟩ (.int .i64 s0)).setCell ⟨g9, 1, none⟩ (.slice D1 s1.length d1)).setCell ⟨g9, 2, none⟩ (.slice D2 s2.length d2)).setCell ⟨g9, 3, none⟩ (.slice D3 s3.length d3))) ?hg ?ho ?hn ?hr ?_; (case ho => rfl); (case hg => rfl); (case hn => rfl); (case hr => (have hs0_ := (blk_cell BK9.out 0).trans rfl; have hf0_ := blk_frozen BK9.out 0; have hs1_ := (blk_cell BK9.out 1).trans rfl; have hf1_ := blk_frozen BK9.out 1; have hs2_ := (blk_cell BK9.out 2).trans rfl; have hf2_ := blk_frozen BK9.out 2; have hs3_ := (blk_cell BK9.out 3).trans rfl; have hf3_ := blk_frozen BK9.out 3; (try clear hz2_); have hz2_ := zc4 BK2.out; (try clear hz6_); have hz6_ := zc4 BK6.out; (try clear hz8_); have hz8_ := zc4 BK8.out; (try clear hz9_); have hz9_ := zc4 BK9.out; first | (go_simp; done) | (go_simp; rfl))); intro wl_ hw_; have HK_ := set4_kept hw_; have BKn := Aside0.mk (set4_blk hw_ BK9.out rfl); have HBn := Aside0.mk (set4_below hw_ HB.out GE9.out); replace BK2 := Aside0.mk (blk_kept BK2.out HK_ (N2_9.out)); replace BK6 := Aside0.mk (blk_kept BK6.out HK_ (N6_9.out)); replace BK8 := Aside0.mk (blk_kept BK8.out HK_ (N8_9.out)); replace HW := Aside0.mk (HW.out.kept HK_ (fun k_ h_ e_ => by have e2_ : k_ = g9 := e_; have h2_ : k_ < wf_.heap.size := h_; have a_ := GW9.out; omega)); replace HX := Aside0.mk (((HX.out.types BK9.out (by decide) (by decide)).kept HK_ (fun _ h_ => h_.2)).mono (fun _ h_ => h_.1)); replace HG := Aside0.mk (((HG.out.types BK9.out (by decide) (by decide)).kept HK_ (fun _ h_ => h_.2)).mono (fun _ h_ => h_.1)); clear hw_ BK9 HB; have BK9 := BKn; have HB := HBn; clear BKn HBn HK_; (try clear hz2_); have hz2_ := zc4 BK2.out; (try clear hz6_); have hz6_ := zc4 BK6.out; (try clear hz8_); have hz8_ := zc4 BK8.out; (try clear hz9_); have hz9_ := zc4 BK9.out;) | ((with_reducible refine gC 17 rfl ?_); refine gL 38 Try.func17 #[.agg #[.int .i64 s0, .slice D1 s1.length d1, .slice D2 s2.length d2, .slice D3 s3.length d3], .agg #[.int .i64 t0, .slice B1 t1.length b1, .slice B2 t2.length b2, .slice B3 t3.length b3]] ?_; (refine (laws_eqWheel.callsN k s0 t0 true HG.out HW.out EQ1.out).mono ?_); rintro e wm_ ⟨rfl, hb⟩; refine ⟨_, rfl, ?_⟩;  replace BK2 := zBB BK2 hb; replace BK6 := zBB BK6 hb; replace BK8 := zBB BK8 hb; replace BK9 := zBB BK9 hb; replace HW := Aside0.mk (HW.out.below hb); replace HX := Aside0.mk (HX.out.below hb); replace HG := Aside0.mk (HG.out.below hb); replace HB := zLB HB.out hb; clear hb; (try clear hz2_); have hz2_ := zc4 BK2.out; (try clear hz6_); have hz6_ := zc4 BK6.out; (try clear hz8_); have hz8_ := zc4 BK8.out; (try clear hz9_); have hz9_ := zc4 BK9.out;))
    replace BK2 := zBD BK2
    replace BK6 := zBD BK6
    replace BK8 := zBD BK8
    replace BK9 := zBD BK9
    replace HW := Aside0.mk (HW.out.drew)
    replace HX := Aside0.mk (HX.out.drew)
    replace HG := Aside0.mk (HG.out.drew)
    replace HB := zLD HB
    refine start_ (n := 5) (S := fun w' => w'.cell? ⟨g8, 0, none⟩ = some (.int .i64 y0) ∧ w'.cell? ⟨g8, 1, none⟩ = some (.slice F1 y1.length f1) ∧ w'.cell? ⟨g8, 2, none⟩ = some (.slice F2 y2.length f2) ∧ w'.cell? ⟨g8, 3, none⟩ = some (.slice F3 y3.length f3) ∧ w'.cell? ⟨g2, 0, none⟩ = some (.int .i64 a0_0) ∧ w'.cell? ⟨g2, 1, none⟩ = some (.slice A0_1 l0_1.length c0_1) ∧ w'.cell? ⟨g2, 2, none⟩ = some (.slice A0_2 l0_2.length c0_2) ∧ w'.cell? ⟨g2, 3, none⟩ = some (.slice A0_3 l0_3.length c0_3)) (ds := []) (fB 5 0) (by kernel_rfl) rfl rfl ⟨(blk_cell BK8.out 0).trans rfl, (blk_cell BK8.out 1).trans rfl, (blk_cell BK8.out 2).trans rfl, (blk_cell BK8.out 3).trans rfl, (blk_cell BK2.out 0).trans rfl, (blk_cell BK2.out 1).trans rfl, (blk_cell BK2.out 2).trans rfl, (blk_cell BK2.out 3).trans rfl⟩ (fun hHeld => ?_); refine with_tabW laws_FnExactCancel.tab10 laws_FnExactCancel.bits10 (fun HT_ HW_ => ?_)
    generalize wm_.drew = wo_ at BK2 BK6 BK8 BK9 HW HX HG HB hHeld ⊢
    refine tY 0 45 (fB 5 1) HT_.out HW_.out hHeld ?_
    refine tY 1 46 (fB 5 3) HT_.out HW_.out hHeld ?_
    refine oN 2 47 (fB 5 7) HT_.out fun K hK => ?_
    refine gS Try.func22 #[.agg #[.int .i64 a0_0, .slice A0_1 l0_1.length c0_1, .slice A0_2 l0_2.length c0_2, .slice A0_3 l0_3.length c0_3]] ?_
    refine (laws_toWheel.callsW k a0_0 A0_1 c0_1 l0_1 A0_2 c0_2 l0_2 A0_3 c0_3 l0_3 y0 y1 y2 y3 _ (Kd.C_below HR1.out HB.out) HC1.out (Kd.C_below HR2.out HB.out) HC2.out (Kd.C_below HR3.out HB.out) HC3.out AT.out).mono ?_
    rintro e wp_ ⟨v1, v2, v3, rfl, hw_, hb⟩
    obtain ⟨K1, k1, K2, k2, K3, k3, rfl, rfl, rfl, _, _, _, _⟩ := hw_.reads
    refine ⟨_, rfl, ?_⟩
    have HY := Aside0.mk hw_
    clear hw_
    replace BK2 := zBB BK2 hb
    replace BK6 := zBB BK6 hb
    replace BK8 := zBB BK8 hb
    replace BK9 := zBB BK9 hb
    replace HW := Aside0.mk (HW.out.below hb)
    replace HX := Aside0.mk (HX.out.below hb)
    replace HG := Aside0.mk (HG.out.below hb)
    replace HB := zLB HB.out hb
    clear hb
    refine hK.out _ _ ⟨(blk_cell BK8.out 0).trans rfl, (blk_cell BK8.out 1).trans rfl, (blk_cell BK8.out 2).trans rfl, (blk_cell BK8.out 3).trans rfl, (blk_cell BK2.out 0).trans rfl, (blk_cell BK2.out 1).trans rfl, (blk_cell BK2.out 2).trans rfl, (blk_cell BK2.out 3).trans rfl⟩ fun hHeld => ?_; clear hK K
    refine nZ 47 ?_
    refine oN 3 48 (fB 5 15) HT_.out fun K hK => ?_
    refine gS Try.func17 #[.agg #[.int .i64 y0, .slice F1 y1.length f1, .slice F2 y2.length f2, .slice F3 y3.length f3], .agg #[.int .i64 y0, .slice K1 y1.length k1, .slice K2 y2.length k2, .slice K3 y3.length k3]] ?_
    refine (laws_eqWheel.callsV k y0 y0 true HX.out HY.out EQ3.out).mono ?_
    rintro e wq_ ⟨rfl, hb⟩
    refine ⟨_, rfl, ?_⟩
    clear HY
    replace BK2 := zBB BK2 hb
    replace BK6 := zBB BK6 hb
    replace BK8 := zBB BK8 hb
    replace BK9 := zBB BK9 hb
    replace HW := Aside0.mk (HW.out.below hb)
    replace HX := Aside0.mk (HX.out.below hb)
    replace HG := Aside0.mk (HG.out.below hb)
    replace HB := zLB HB.out hb
    clear hb
    refine hK.out _ _ ⟨(blk_cell BK8.out 0).trans rfl, (blk_cell BK8.out 1).trans rfl, (blk_cell BK8.out 2).trans rfl, (blk_cell BK8.out 3).trans rfl, (blk_cell BK2.out 0).trans rfl, (blk_cell BK2.out 1).trans rfl, (blk_cell BK2.out 2).trans rfl, (blk_cell BK2.out 3).trans rfl⟩ fun hHeld => ?_; clear hK K
    refine nZ 48 ?_
    refine pY 4 49 (fB 5 31) HT_.out ?_
    refine done_ (done_of HT_.out (by kernel_rfl)) ?_
    clear hHeld
    have hz2_ := zc4 BK2.out
    have hz6_ := zc4 BK6.out
    have hz8_ := zc4 BK8.out
    have hz9_ := zc4 BK9.out
    go_wp2_with (first | ((with_reducible refine gC 18 rfl ?_); refine gL 52 Try.func18 #[.agg #[.int .i64 y0, .slice F1 y1.length f1, .slice F2 y2.length f2, .slice F3 y3.length f3], .int .i64 1] ?_; (refine (laws_markWheel.callsV k y0 1 x0 x1 x2 x3 HB.out HX.out.bound AX.out).mono ?_); rintro e wr_ ⟨rfl, _, hb, hk_⟩; refine ⟨_, rfl, ?_⟩; have hkx_ := hk_; replace BK2 := Aside0.mk (blk_kept BK2.out hk_ (fun h_ => nt_ BK2.out (by decide) (by decide) h_.2)); replace BK6 := Aside0.mk (blk_kept BK6.out hk_ (fun h_ => nt_ BK6.out (by decide) (by decide) h_.2)); replace BK8 := Aside0.mk (blk_kept BK8.out hk_ (fun h_ => nt_ BK8.out (by decide) (by decide) h_.2)); replace BK9 := Aside0.mk (blk_kept BK9.out hk_ (fun h_ => nt_ BK9.out (by decide) (by decide) h_.2)); replace HW := Aside0.mk (HW.out.kept hk_ (fun k_ h_ h2_ => by have a_ := h2_.1.1; omega)); replace HG := Aside0.mk (HG.out.kept hk_ (fun k_ h_ h2_ => by have a_ := h2_.1.2; have b_ := h_; omega)); clear HB HX; have HB := Aside0.mk hb; clear hb hk_ hkx_; (try clear hz2_); have hz2_ := zc4 BK2.out; (try clear hz6_); have hz6_ := zc4 BK6.out; (try clear hz8_); have hz8_ := zc4 BK8.out; (try clear hz9_); have hz9_ := zc4 BK9.out;) | (go_at_call 17; (refine (laws_eqWheel.callsN k s0 t0 true HG.out HW.out EQ1.out).mono ?_); rintro e ws_ ⟨rfl, hb⟩;  replace BK2 := zBB BK2 hb; replace BK6 := zBB BK6 hb; replace BK8 := zBB BK8 hb; replace BK9 := zBB BK9 hb; replace HW := Aside0.mk (HW.out.below hb); replace HG := Aside0.mk (HG.out.below hb); replace HB := zLB HB.out hb; clear hb; (try clear hz2_); have hz2_ := zc4 BK2.out; (try clear hz6_); have hz6_ := zc4 BK6.out; (try clear hz8_); have hz8_ := zc4 BK8.out; (try clear hz9_); have hz9_ := zc4 BK9.out;) | ((with_reducible refine gC 18 rfl ?_); refine gL 68 Try.func18 #[.agg #[.int .i64 s0, .slice D1 s1.length d1, .slice D2 s2.length d2, .slice D3 s3.length d3], .int .i64 1] ?_; (refine (laws_markWheel.callsV k s0 1 q1 m1 m2 m3 HB.out HG.out.bound AM.out).mono ?_); rintro e wu_ ⟨rfl, hw_, hb, hk_⟩; refine ⟨_, rfl, ?_⟩; replace BK2 := Aside0.mk (blk_kept BK2.out hk_ (fun h_ => nt_ BK2.out (by decide) (by decide) h_.2)); replace BK6 := Aside0.mk (blk_kept BK6.out hk_ (fun h_ => nt_ BK6.out (by decide) (by decide) h_.2)); replace BK8 := Aside0.mk (blk_kept BK8.out hk_ (fun h_ => nt_ BK8.out (by decide) (by decide) h_.2)); replace BK9 := Aside0.mk (blk_kept BK9.out hk_ (fun h_ => nt_ BK9.out (by decide) (by decide) h_.2)); replace HW := Aside0.mk (HW.out.kept hk_ (fun k_ h_ h2_ => by have a_ := h2_.1; have z_ := ZXG.out; omega)); clear HB HG; have HB := Aside0.mk hb; have HG := Aside0.mk (hw_.mono (fun _ h_ => h_.1)); clear hw_ hb hk_; (try clear hz2_); have hz2_ := zc4 BK2.out; (try clear hz6_); have hz6_ := zc4 BK6.out; (try clear hz8_); have hz8_ := zc4 BK8.out; (try clear hz9_); have hz9_ := zc4 BK9.out;) | ((with_reducible refine gC 19 rfl ?_); refine gL 71 Try.func19 #[.agg #[.int .i64 s0, .slice D1 s1.length d1, .slice D2 s2.length d2, .slice D3 s3.length d3], .int .i64 1] ?_; (refine (laws_heldWheel.callsV k s0 1 q1 HG.out AQ.out).mono ?_); rintro e ww_ ⟨rfl, hb⟩; refine ⟨_, rfl, ?_⟩;  replace BK2 := zBB BK2 hb; replace BK6 := zBB BK6 hb; replace BK8 := zBB BK8 hb; replace BK9 := zBB BK9 hb; replace HW := Aside0.mk (HW.out.below hb); replace HG := Aside0.mk (HG.out.below hb); replace HB := zLB HB.out hb; clear hb; (try clear hz2_); have hz2_ := zc4 BK2.out; (try clear hz6_); have hz6_ := zc4 BK6.out; (try clear hz8_); have hz8_ := zc4 BK8.out; (try clear hz9_); have hz9_ := zc4 BK9.out;) | ((with_reducible refine gC 22 rfl ?_); refine gL 79 Try.func22 #[.agg #[.int .i64 a0_0, .slice A0_1 l0_1.length c0_1, .slice A0_2 l0_2.length c0_2, .slice A0_3 l0_3.length c0_3]] ?_; (refine (laws_toWheel.callsW k a0_0 A0_1 c0_1 l0_1 A0_2 c0_2 l0_2 A0_3 c0_3 l0_3 y0 y1 y2 y3 _ (Kd.C_below HR1.out HB.out) HC1.out (Kd.C_below HR2.out HB.out) HC2.out (Kd.C_below HR3.out HB.out) HC3.out AT.out).mono ?_); rintro e wy_ ⟨v1, v2, v3, rfl, hw_, hb⟩; obtain ⟨H1, h1, H2, h2, H3, h3, rfl, rfl, rfl, _, _, _, _⟩ := hw_.reads; refine ⟨_, rfl, ?_⟩;  have HAn := Aside0.mk ((hw_.bound.mono (ok' := (fun _ => True)) (fun k_ h_ => trivial)).lower HB.out.size); clear hw_; replace BK2 := zBB BK2 hb; replace BK6 := zBB BK6 hb; replace BK8 := zBB BK8 hb; replace BK9 := zBB BK9 hb; replace HW := Aside0.mk (HW.out.below hb); replace HG := Aside0.mk (HG.out.below hb); replace HB := zLB HB.out hb; clear hb; (try clear hz2_); have hz2_ := zc4 BK2.out; (try clear hz6_); have hz6_ := zc4 BK6.out; (try clear hz8_); have hz8_ := zc4 BK8.out; (try clear hz9_); have hz9_ := zc4 BK9.out; have HA := HAn; clear HAn;) | ((with_reducible refine gC 35 rfl ?_); refine gL 81 Try.func35 #[.agg #[.int .i64 y0, .slice H1 y1.length h1, .slice H2 y2.length h2, .slice H3 y3.length h3], .int .i64 a1] ?_; (refine (impl_Cancel.callsV k y0 a1 s0 s1 s2 s3 s5 HA.out AG.out).mono ?_); rintro e wz_ ⟨v1, v2, v3, rfl, hw_, hb⟩; obtain ⟨J1, j1, J2, j2, J3, j3, rfl, rfl, rfl, _, _, _, _⟩ := hw_.reads; refine ⟨_, rfl, ?_⟩;  have HHn := Aside0.mk ((hw_.bound.mono (ok' := (fun _ => True)) (fun k_ h_ => trivial)).lower HB.out.size); clear hw_; replace BK2 := zBB BK2 hb; replace BK6 := zBB BK6 hb; replace BK8 := zBB BK8 hb; replace BK9 := zBB BK9 hb; replace HW := Aside0.mk (HW.out.below hb); replace HG := Aside0.mk (HG.out.below hb); replace HA := Aside0.mk (HA.out.below hb); replace HB := zLB HB.out hb; clear hb; (try clear hz2_); have hz2_ := zc4 BK2.out; (try clear hz6_); have hz6_ := zc4 BK6.out; (try clear hz8_); have hz8_ := zc4 BK8.out; (try clear hz9_); have hz9_ := zc4 BK9.out; have HH := HHn; clear HHn;) | ((with_reducible refine gD 14 rfl ?_); refine bE 14 #[.int .i64 0, .slice none 0 0, .slice none 0 0, .slice none 0 0] 25 ?_; intro g14 hg xa_ hbox hb; have GE14 := Aside0.mk (zg HB.out hg : w.heap.size ≤ g14); have N2_14 := Aside0.mk (zN BK2.out hg : g2 ≠ g14); have N6_14 := Aside0.mk (zN BK6.out hg : g6 ≠ g14); have N8_14 := Aside0.mk (zN BK8.out hg : g8 ≠ g14); have N9_14 := Aside0.mk (zN BK9.out hg : g9 ≠ g14); have GW14 := Aside0.mk (by rw [hg]; exact Nat.le_of_lt (Nat.lt_of_le_of_lt GW9.out (blk_lt BK9.out)) : wf_.heap.size ≤ g14); have BK14 := Aside0.mk hbox; clear hbox hg; replace BK2 := zBB BK2 hb; replace BK6 := zBB BK6 hb; replace BK8 := zBB BK8 hb; replace BK9 := zBB BK9 hb; replace HW := Aside0.mk (HW.out.below hb); replace HG := Aside0.mk (HG.out.below hb); replace HH := Aside0.mk (HH.out.below hb); replace HB := zLB HB.out hb; clear hb; (try clear hz2_); have hz2_ := zc4 BK2.out; (try clear hz6_); have hz6_ := zc4 BK6.out; (try clear hz8_); have hz8_ := zc4 BK8.out; (try clear hz9_); have hz9_ := zc4 BK9.out; (try clear hz14_); have hz14_ := zc4 BK14.out;) | ((with_reducible refine gate_store (t := 25) (p := 14) rfl ?_); refine store_event (t := 25) (p := 14) (v := ?vl3_) (w1 := ((((xa_.setCell ⟨g14, 0, none⟩ (.int .i64 s0)).setCell ⟨g14, 1, none⟩ (.slice J1 s1.length j1)).setCell ⟨g14, 2, none⟩ (.slice J2 s2.length j2)).setCell ⟨g14, 3, none⟩ (.slice J3 s3.length j3))) ?hg ?ho ?hn ?hr ?_; (case ho => rfl); (case hg => rfl); (case hn => rfl); (case hr => (have hs0_ := (blk_cell BK14.out 0).trans rfl; have hf0_ := blk_frozen BK14.out 0; have hs1_ := (blk_cell BK14.out 1).trans rfl; have hf1_ := blk_frozen BK14.out 1; have hs2_ := (blk_cell BK14.out 2).trans rfl; have hf2_ := blk_frozen BK14.out 2; have hs3_ := (blk_cell BK14.out 3).trans rfl; have hf3_ := blk_frozen BK14.out 3; (try clear hz2_); have hz2_ := zc4 BK2.out; (try clear hz6_); have hz6_ := zc4 BK6.out; (try clear hz8_); have hz8_ := zc4 BK8.out; (try clear hz9_); have hz9_ := zc4 BK9.out; (try clear hz14_); have hz14_ := zc4 BK14.out; first | (go_simp; done) | (go_simp; rfl))); intro xb_ hw_; have HK_ := set4_kept hw_; have BKn := Aside0.mk (set4_blk hw_ BK14.out rfl); have HBn := Aside0.mk (set4_below hw_ HB.out GE14.out); replace BK2 := Aside0.mk (blk_kept BK2.out HK_ (N2_14.out)); replace BK6 := Aside0.mk (blk_kept BK6.out HK_ (N6_14.out)); replace BK8 := Aside0.mk (blk_kept BK8.out HK_ (N8_14.out)); replace BK9 := Aside0.mk (blk_kept BK9.out HK_ (N9_14.out)); replace HW := Aside0.mk (HW.out.kept HK_ (fun k_ h_ e_ => by have e2_ : k_ = g14 := e_; have h2_ : k_ < wf_.heap.size := h_; have a_ := GW14.out; omega)); replace HG := Aside0.mk (((HG.out.types BK14.out (by decide) (by decide)).kept HK_ (fun _ h_ => h_.2)).mono (fun _ h_ => h_.1)); replace HH := Aside0.mk (((HH.out.types BK14.out (by decide) (by decide)).kept HK_ (fun _ h_ => h_.2)).mono (fun _ h_ => h_.1)); clear hw_ BK14 HB; have BK14 := BKn; have HB := HBn; clear BKn HBn HK_; (try clear hz2_); have hz2_ := zc4 BK2.out; (try clear hz6_); have hz6_ := zc4 BK6.out; (try clear hz8_); have hz8_ := zc4 BK8.out; (try clear hz9_); have hz9_ := zc4 BK9.out; (try clear hz14_); have hz14_ := zc4 BK14.out;) | ((with_reducible refine gC 17 rfl ?_); refine gL 86 Try.func17 #[.agg #[.int .i64 s0, .slice J1 s1.length j1, .slice J2 s2.length j2, .slice J3 s3.length j3], .agg #[.int .i64 t0, .slice B1 t1.length b1, .slice B2 t2.length b2, .slice B3 t3.length b3]] ?_; (refine (laws_eqWheel.callsN k s0 t0 true HH.out HW.out EQ1.out).mono ?_); rintro e xc_ ⟨rfl, hb⟩; refine ⟨_, rfl, ?_⟩;  replace BK2 := zBB BK2 hb; replace BK6 := zBB BK6 hb; replace BK8 := zBB BK8 hb; replace BK9 := zBB BK9 hb; replace BK14 := zBB BK14 hb; replace HW := Aside0.mk (HW.out.below hb); replace HG := Aside0.mk (HG.out.below hb); replace HH := Aside0.mk (HH.out.below hb); replace HB := zLB HB.out hb; clear hb; (try clear hz2_); have hz2_ := zc4 BK2.out; (try clear hz6_); have hz6_ := zc4 BK6.out; (try clear hz8_); have hz8_ := zc4 BK8.out; (try clear hz9_); have hz9_ := zc4 BK9.out; (try clear hz14_); have hz14_ := zc4 BK14.out;) | ((with_reducible refine gC 19 rfl ?_); refine gL 95 Try.func19 #[.agg #[.int .i64 s0, .slice D1 s1.length d1, .slice D2 s2.length d2, .slice D3 s3.length d3], .int .i64 1] ?_; (refine (laws_heldWheel.callsV k s0 1 q1 HG.out AQ.out).mono ?_); rintro e xe_ ⟨rfl, hb⟩; refine ⟨_, rfl, ?_⟩;  replace BK2 := zBB BK2 hb; replace BK6 := zBB BK6 hb; replace BK8 := zBB BK8 hb; replace BK9 := zBB BK9 hb; replace BK14 := zBB BK14 hb; replace HW := Aside0.mk (HW.out.below hb); replace HG := Aside0.mk (HG.out.below hb); replace HH := Aside0.mk (HH.out.below hb); replace HB := zLB HB.out hb; clear hb; (try clear hz2_); have hz2_ := zc4 BK2.out; (try clear hz6_); have hz6_ := zc4 BK6.out; (try clear hz8_); have hz8_ := zc4 BK8.out; (try clear hz9_); have hz9_ := zc4 BK9.out; (try clear hz14_); have hz14_ := zc4 BK14.out;))
    go_ret
    exact ⟨rfl, HB.out⟩

end Go.Proofs.Ytggenhomnbnodaa.QFnExactCancel
