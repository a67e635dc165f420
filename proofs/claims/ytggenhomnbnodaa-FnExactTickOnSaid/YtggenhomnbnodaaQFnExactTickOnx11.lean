/- What the Go functions that the law FnExactTickOn reaches answer: each as a Lean function, with its walk. Written by a program of this session. Conditions: those that each theorem names. -/
import Derived.Test.YtggenhomnbnodaaQFnExactTickOnx0
import Derived.Test.YtggenhomnbnodaaQFnExactTickOnx1
import Derived.Test.YtggenhomnbnodaaQFnExactTickOnx2
import Derived.Test.YtggenhomnbnodaaQFnExactTickOnx3
import Derived.Test.YtggenhomnbnodaaQFnExactTickOnx5
import Derived.Test.YtggenhomnbnodaaQFnExactTickOnx7
import Derived.Test.YtggenhomnbnodaaQFnExactTickOnx10
namespace Go.Proofs.Ytggenhomnbnodaa.QFnExactTickOn
open Go.RowKit Go.Proofs.YtggenhomnbnodaaW.PrintWords Go.Proofs.YtggenhomnbnodaaW.PrintLast Go.Proofs.YtggenhomnbnodaaW.PrintMore
attribute [local go_sem] max2_int min2_int max_two min_two max_three min_three max_four min_four   -- for this text's walks alone
set_option linter.unusedVariables false
set_option linter.unusedSimpArgs false

/-! ### laws_FnExactTickOn: function 9, by hand -/
/-! ### The calls of the laws' own functions, over rows as they are told here -/
theorem laws_toWheel.callsW (k : Nat) (a : Int) (A1 : Option Addr) (c1 : Nat) (l1 : List (List S43)) (A2 : Option Addr) (c2 : Nat) (l2 : List (List S43)) (A3 : Option Addr) (c3 : Nat) (l3 : List S43) (r1 : Int) (r2 r3 : List (List S46)) (r4 : List S46) (w : World) (hr1 : Kd.C (Kd.slice 43 k43) w A1 l1.length l1) (hc1 : l1.length ≤ c1) (hr2 : Kd.C (Kd.slice 43 k43) w A2 l2.length l2) (hc2 : l2.length ≤ c2) (hr3 : Kd.C k43 w A3 l3.length l3) (hc3 : l3.length ≤ c3) (h : laws_toWheel.f k a l1 l2 l3 = some (r1, r2, r3, r4)) :
    Calls Try.prog 22 #[.agg #[.int .i64 a, .slice A1 l1.length c1, .slice A2 l2.length c2, .slice A3 l3.length c3]] w fun e w' => ∃ v1_ v2_ v3_ : Value, e = .returned (.agg #[.int .i64 r1, v1_, v2_, v3_]) ∧ WR w' w.heap.size (fun _ => True) v1_ v2_ v3_ r2 r3 r4 ∧ Below w.heap.size w w' := by
  refine (laws_toWheel.calls k a A1 c1 l1 A2 c2 l2 A3 c3 l3 r1 r2 r3 r4 w hr1 hc1 hr2 hc2 hr3 hc3 h).mono ?_
  rintro e w' ⟨N1, N2, v1, v2, v3, rfl, s1, s2, s3, hb⟩
  exact ⟨v1, v2, v3, rfl, ⟨_, _, _, ⟨fun _ _ => trivial, fun _ _ => trivial, fun _ _ => trivial⟩, ⟨fun k_ h_ h2_ => by have a_ := h_.2; have b_ := h2_.2.1; omega, fun k_ h_ h2_ => by have a_ := h_.2; have b_ := h2_.1; omega, fun k_ h_ h2_ => by have a_ := h_.2.2; have b_ := h2_.2; omega⟩, s1, s2, s3⟩, hb⟩
section
variable {w : World} {b1 b2 : Nat} {o1 o2 : Nat → Prop} {v1 v2 v3 u1 u2 u3 : Value} {l1 l2 p1 p2 : List (List S46)} {l3 p3 : List S46}
theorem laws_eqWheel.callsV (k : Nat) (a b : Int) (r : Bool) (h1 : WR w b1 o1 v1 v2 v3 l1 l2 l3) (h2 : WR w b2 o2 u1 u2 u3 p1 p2 p3) (h : laws_eqWheel.f k a l1 l2 l3 b p1 p2 p3 = some r) :
    Calls Try.prog 17 #[.agg #[.int .i64 a, v1, v2, v3], .agg #[.int .i64 b, u1, u2, u3]] w fun e w' => e = .returned (.bool r) ∧ Below w.heap.size w w' := by
  obtain ⟨A1, c1, A2, c2, A3, c3, rfl, rfl, rfl, ⟨x1, x2, x3⟩, y1, y2, y3⟩ := h1.reads
  obtain ⟨B1, d1, B2, d2, B3, d3, rfl, rfl, rfl, ⟨z1, z2, z3⟩, t1, t2, t3⟩ := h2.reads
  exact laws_eqWheel.calls k a A1 c1 l1 A2 c2 l2 A3 c3 l3 b B1 d1 p1 B2 d2 p2 B3 d3 p3 r w y1 x1 y2 x2 y3 x3 t1 z1 t2 z2 t3 z3 h
theorem laws_heldWheel.callsV (k : Nat) (a x r : Int) (h1 : WR w b1 o1 v1 v2 v3 l1 l2 l3) (h : laws_heldWheel.f k a l1 l2 l3 x = some r) :
    Calls Try.prog 19 #[.agg #[.int .i64 a, v1, v2, v3], .int .i64 x] w fun e w' => e = .returned (.int .i64 r) ∧ Below w.heap.size w w' := by
  obtain ⟨A1, c1, A2, c2, A3, c3, rfl, rfl, rfl, ⟨x1, x2, x3⟩, y1, y2, y3⟩ := h1.reads
  exact laws_heldWheel.calls k a A1 c1 l1 A2 c2 l2 A3 c3 l3 x r w y1 x1 y2 x2 y3 x3 h
theorem laws_markWheel.callsV {w0 : World} (k : Nat) (a x r : Int) (m1 m2 : List (List S46)) (m3 : List S46) (hB : Below w0.heap.size w0 w) (h1 : WR w w0.heap.size o1 v1 v2 v3 l1 l2 l3) (h : laws_markWheel.all k a l1 l2 l3 x = some (r, m1, m2, m3)) :
    Calls Try.prog 18 #[.agg #[.int .i64 a, v1, v2, v3], .int .i64 x] w fun e w' => e = .returned (.int .i64 r) ∧ WR w' w0.heap.size o1 v1 v2 v3 m1 m2 m3 ∧ Below w0.heap.size w0 w' ∧ Kept w w' o1 := by
  obtain ⟨P1, P2, P3, ⟨q1, q2, q3⟩, ⟨d1, d2, d3⟩, s1, s2, s3⟩ := h1
  refine (laws_markWheel.callsAll k P1 P2 P3 v1 v2 v3 a l1 l2 l3 x r m1 m2 m3 w0 w hB s1 s2 s3 d1 d2 d3 h).mono ?_
  rintro e w' ⟨rfl, t1, t2, t3, hb, hk⟩
  exact ⟨rfl, ⟨P1, P2, P3, ⟨q1, q2, q3⟩, ⟨d1, d2, d3⟩, t1, t2, t3⟩, hb, hk.mono (fun k_ h_ => by rcases h_ with h_ | h_ | h_; exact q1 k_ h_; exact q2 k_ h_; exact q3 k_ h_)⟩
end
section
variable {w : World} {b1 b2 : Nat} {o1 o2 : Nat → Prop} {v u : Value} {l p : List S46}
theorem laws_eqTimerS.callsV (k : Nat) (r : Bool) (h1 : k46.R 46 w b1 o1 v l) (h2 : k46.R 46 w b2 o2 u p) (h : laws_eqTimerS.f k l p = some r) :
    Calls Try.prog 26 #[v, u] w fun e w' => e = .returned (.bool r) ∧ Below w.heap.size w w' := by
  obtain ⟨A, c, rfl, x1, y1⟩ := Kd.R_reads h1
  obtain ⟨B, d, rfl, z1, t1⟩ := Kd.R_reads h2
  exact (laws_eqTimerS.calls k A c l B d p r w y1 x1 t1 z1 h).mono (fun e w' h_ => h_)
theorem laws_heldTimerS.callsV (k : Nat) (x r : Int) (h1 : k46.R 46 w b1 o1 v l) (h : laws_heldTimerS.f k l x = some r) :
    Calls Try.prog 28 #[v, .int .i64 x] w fun e w' => e = .returned (.int .i64 r) ∧ Below w.heap.size w w' := by
  obtain ⟨A, c, rfl, x1, y1⟩ := Kd.R_reads h1
  exact (laws_heldTimerS.calls k A c l x r w y1 x1 h).mono (fun e w' h_ => ⟨h_.1, h_.2.below⟩)
theorem laws_markTimerS.callsV {w0 : World} (k : Nat) (x r : Int) (m : List S46) (hB : Below w0.heap.size w0 w) (h1 : k46.R 46 w w0.heap.size o1 v l) (h : laws_markTimerS.f k l x = some (r, m)) :
    Calls Try.prog 27 #[v, .int .i64 x] w fun e w' => e = .returned (.int .i64 r) ∧ k46.R 46 w' w0.heap.size o1 v m ∧ Below w0.heap.size w0 w' ∧ Kept w w' o1 := by
  refine (laws_markTimerS.calls k o1 v l x r m w0 w hB h1 h).mono ?_
  rintro e w' ⟨rfl, h2, hb, hk⟩
  exact ⟨rfl, Kd.R_mono (Kd.R_tight rfl h2) (fun k_ hk => h1.1 k_ hk.symm), hb, hk⟩
end
/-- What a kind of another type lies in is none of the row's blocks. -/
theorem nt_ {w : World} {g t base : Nat} {cs : Array Value} (hb : w.heap[g]? = some (.cells cs t (0, 0))) (h1 : t ≠ 23) (h2 : t ≠ 46) : ¬ (base ≤ g ∧ g < w.heap.size ∧ ∃ q, q ∈ [23, 46] ∧ ∃ cells, w.heap[g]? = some (.cells cells q (0, 0))) := by
  rintro ⟨_, _, q, hq, cs2, hc⟩
  rw [hb] at hc
  injection hc with hc
  injection hc with _ hc
  rw [← hc] at hq
  simp [h1, h2] at hq
theorem ntR_ {w : World} {g t base : Nat} {cs : Array Value} (hb : w.heap[g]? = some (.cells cs t (0, 0))) (h2 : t ≠ 46) : ¬ (base ≤ g ∧ g < w.heap.size ∧ ∃ q, q ∈ 46 :: k46.E ∧ ∃ cells, w.heap[g]? = some (.cells cells q (0, 0))) := by
  rintro ⟨_, _, q, hq, cs2, hc⟩
  rw [hb] at hc
  injection hc with hc
  injection hc with _ hc
  rw [← hc] at hq
  have e0 : k46.E = [] := rfl
  rw [e0] at hq
  simp [h2] at hq
def laws_FnExactTickOn.T10 : Bool × List (List Nat × List Nat) := (true, [([], []), ([], []), ([1], [1]), ([0, 2, 2], [0, 2]), ([3], [3])])
def laws_FnExactTickOn.B10 : List Nat := [0, 0, 2, 7, 15]
theorem laws_FnExactTickOn.tab10 : rtab .any (opsOf Try.f9 10) = laws_FnExactTickOn.T10 := by kernel_rfl
theorem laws_FnExactTickOn.bits10 : waitsOk laws_FnExactTickOn.T10.2 laws_FnExactTickOn.B10 = true := by kernel_rfl
def laws_FnExactTickOn.f (k : Nat) (a0_0 : Int) (l0_1 l0_2 : List (List S43)) (l0_3 : List S43) : Option Bool :=
  (laws_szWheel.f k a0_0 l0_1 l0_2 l0_3 1048576).bind fun s => (if s < 0 then some true else (laws_toWheel.f k a0_0 l0_1 l0_2 l0_3).bind fun A => (spec_TickOn.f k A.1 A.2.1 A.2.2.1 A.2.2.2).bind fun W => (impl_TickOn.f k A.1 A.2.1 A.2.2.1 A.2.2.2).bind fun G => (laws_eqWheel.f k G.1 G.2.1 G.2.2.1 G.2.2.2.1 W.1 W.2.1 W.2.2.1 W.2.2.2.1).bind fun e1 => (if e1 = true then (laws_eqTimerS.f k G.2.2.2.2 W.2.2.2.2).bind fun e2 => (if e2 = true then (laws_eqWheel.f k A.1 A.2.1 A.2.2.1 A.2.2.2 A.1 A.2.1 A.2.2.1 A.2.2.2).bind fun e3 => (if e3 = true then (laws_markWheel.all k A.1 A.2.1 A.2.2.1 A.2.2.2 1).bind fun X => (if X.1 < 0 then none else (laws_markWheel.all k G.1 G.2.1 G.2.2.1 G.2.2.2.1 1).bind fun M => (laws_markTimerS.f k G.2.2.2.2 M.1).bind fun D => (laws_heldWheel.f k G.1 M.2.1 M.2.2.1 M.2.2.2 1).bind fun q1 => (if q1 < 0 then none else (laws_heldTimerS.f k D.2 q1).bind fun q2 => (if q2 < 0 then none else (if q2 = D.1 then some true else none)))) else none) else none) else none))
set_option maxHeartbeats 8000000 in
set_option maxRecDepth 100000 in
theorem laws_FnExactTickOn.calls (k : Nat) (a0_0 : Int) (A0_1 : Option Addr) (c0_1 : Nat) (l0_1 : List (List (S43))) (A0_2 : Option Addr) (c0_2 : Nat) (l0_2 : List (List (S43))) (A0_3 : Option Addr) (c0_3 : Nat) (l0_3 : List (S43)) (r : Bool) (w : World) (hr0_1 : Kd.C (Kd.slice 43 k43) w A0_1 l0_1.length l0_1) (hc0_1 : l0_1.length ≤ c0_1) (hr0_2 : Kd.C (Kd.slice 43 k43) w A0_2 l0_2.length l0_2) (hc0_2 : l0_2.length ≤ c0_2) (hr0_3 : Kd.C k43 w A0_3 l0_3.length l0_3) (hc0_3 : l0_3.length ≤ c0_3) (hrt_ : Aside0 (r = true)) (h : laws_FnExactTickOn.f k a0_0 l0_1 l0_2 l0_3 = some r) :
    Calls Try.prog 9 #[.agg #[.int .i64 a0_0, .slice A0_1 l0_1.length c0_1, .slice A0_2 l0_2.length c0_2, .slice A0_3 l0_3.length c0_3]] w fun e w' => e = .returned (.bool r) ∧ Below w.heap.size w w' := by
  have hu33 := Try.underlying33
  have hu25 := Try.underlying25
  have hu43 := Try.underlying43
  have HR1 := Aside0.mk hr0_1
  have HR2 := Aside0.mk hr0_2
  have HR3 := Aside0.mk hr0_3
  have HC1 := Aside0.mk hc0_1
  have HC2 := Aside0.mk hc0_2
  have HC3 := Aside0.mk hc0_3
  have HB := Aside0.mk (Below.refl w.heap.size w)
  clear hr0_1 hr0_2 hr0_3 hc0_1 hc0_2 hc0_3
  obtain rfl := hrt_.out
  clear hrt_
  unfold laws_FnExactTickOn.f at h
  obtain ⟨sz, AS, h⟩ := zO h
  by_cases hs : sz < 0
  · rw [if_pos hs] at h
    clear h
    have hs1 := eq_true hs
    have hs2 : decide (sz < 0) = true := decide_eq_true hs
    clear hs
    go_enter Try.func9, Try.ntmps9
    go_wp2_with (first | ((with_reducible refine gD 1 rfl ?_); refine bE 1 #[.int .i64 a0_0, .slice A0_1 l0_1.length c0_1, .slice A0_2 l0_2.length c0_2, .slice A0_3 l0_3.length c0_3] 33 ?_; intro g1 hg wa_ hbox hb; have GE1 := Aside0.mk (zg HB.out hg : w.heap.size ≤ g1);  have BK1 := Aside0.mk hbox; clear hbox hg;  replace HB := zLB HB.out hb; clear hb; (try clear hz1_); have hz1_ := zc4 BK1.out;) | ((with_reducible refine gC 20 rfl ?_); refine gL 16 Try.func20 #[.agg #[.int .i64 a0_0, .slice A0_1 l0_1.length c0_1, .slice A0_2 l0_2.length c0_2, .slice A0_3 l0_3.length c0_3], .int .i64 1048576] ?_; (refine (laws_szWheel.calls k a0_0 A0_1 c0_1 l0_1 A0_2 c0_2 l0_2 A0_3 c0_3 l0_3 1048576 sz _ (Kd.C_below HR1.out HB.out) HC1.out (Kd.C_below HR2.out HB.out) HC2.out (Kd.C_below HR3.out HB.out) HC3.out AS.out).mono ?_); rintro e wb_ ⟨rfl, hb⟩; refine ⟨_, rfl, ?_⟩;  replace BK1 := zBB BK1 hb; replace HB := zLB HB.out hb; clear hb; (try clear hz1_); have hz1_ := zc4 BK1.out;))
    go_ret
    exact ⟨rfl, HB.out⟩
  · rw [if_neg hs] at h
    have hs1 := eq_false hs
    have hs2 : decide (sz < 0) = false := decide_eq_false hs
    clear hs
    obtain ⟨⟨y0, y1, y2, y3⟩, AT, h⟩ := zO h
    simp only at h
    obtain ⟨⟨t0, t1, t2, t3, t5⟩, AW, h⟩ := zO h
    simp only at h
    obtain ⟨⟨s0, s1, s2, s3, s5⟩, AG, h⟩ := zO h
    simp only at h
    obtain ⟨e1, EQ1, h⟩ := zO h
    by_cases c1 : e1 = true
    rotate_left
    · rw [if_neg c1] at h
      exact absurd h (by simp)
    rw [if_pos c1] at h
    subst c1
    obtain ⟨e2, EQ2, h⟩ := zO h
    by_cases c2 : e2 = true
    rotate_left
    · rw [if_neg c2] at h
      exact absurd h (by simp)
    rw [if_pos c2] at h
    subst c2
    obtain ⟨e3, EQ3, h⟩ := zO h
    by_cases c3 : e3 = true
    rotate_left
    · rw [if_neg c3] at h
      exact absurd h (by simp)
    rw [if_pos c3] at h
    subst c3
    obtain ⟨⟨x0, x1, x2, x3⟩, AX, h⟩ := zO h
    simp only at h
    by_cases c4 : x0 < 0
    · rw [if_pos c4] at h
      exact absurd h (by simp)
    rw [if_neg c4] at h
    have c4a := eq_false c4
    have c4b : decide (x0 < 0) = false := decide_eq_false c4
    clear c4
    obtain ⟨⟨m0, m1, m2, m3⟩, AM, h⟩ := zO h
    simp only at h
    obtain ⟨⟨d0, d5⟩, AD, h⟩ := zO h
    simp only at h
    obtain ⟨q1, AQ, h⟩ := zO h
    by_cases c5 : q1 < 0
    · rw [if_pos c5] at h
      exact absurd h (by simp)
    rw [if_neg c5] at h
    have c5a := eq_false c5
    have c5b : decide (q1 < 0) = false := decide_eq_false c5
    clear c5
    obtain ⟨q2, AQ2, h⟩ := zO h
    by_cases c6 : q2 < 0
    · rw [if_pos c6] at h
      exact absurd h (by simp)
    rw [if_neg c6] at h
    have c6a := eq_false c6
    have c6b : decide (q2 < 0) = false := decide_eq_false c6
    clear c6
    by_cases c7 : q2 = d0
    rotate_left
    · rw [if_neg c7] at h
      exact absurd h (by simp)
    rw [if_pos c7] at h
    subst c7
    have c7b : (q2 != q2) = false := by simp
    clear h
    go_enter Try.func9, Try.ntmps9
    try go_wp2_with (first | ((with_reducible refine gD 1 rfl ?_); refine bE 1 #[.int .i64 a0_0, .slice A0_1 l0_1.length c0_1, .slice A0_2 l0_2.length c0_2, .slice A0_3 l0_3.length c0_3] 33 ?_; intro g1 hg wa_ hbox hb; have GE1 := Aside0.mk (zg HB.out hg : w.heap.size ≤ g1);  have BK1 := Aside0.mk hbox; clear hbox hg;  replace HB := zLB HB.out hb; clear hb; (try clear hz1_); have hz1_ := zc4 BK1.out;) | ((with_reducible refine gC 20 rfl ?_); refine gL 16 Try.func20 #[.agg #[.int .i64 a0_0, .slice A0_1 l0_1.length c0_1, .slice A0_2 l0_2.length c0_2, .slice A0_3 l0_3.length c0_3], .int .i64 1048576] ?_; (refine (laws_szWheel.calls k a0_0 A0_1 c0_1 l0_1 A0_2 c0_2 l0_2 A0_3 c0_3 l0_3 1048576 sz _ (Kd.C_below HR1.out HB.out) HC1.out (Kd.C_below HR2.out HB.out) HC2.out (Kd.C_below HR3.out HB.out) HC3.out AS.out).mono ?_); rintro e wb_ ⟨rfl, hb⟩; refine ⟨_, rfl, ?_⟩;  replace BK1 := zBB BK1 hb; replace HB := zLB HB.out hb; clear hb; (try clear hz1_); have hz1_ := zc4 BK1.out;) | ((with_reducible refine gC 22 rfl ?_); refine gL 21 Try.func22 #[.agg #[.int .i64 a0_0, .slice A0_1 l0_1.length c0_1, .slice A0_2 l0_2.length c0_2, .slice A0_3 l0_3.length c0_3]] ?_; (refine (laws_toWheel.callsW k a0_0 A0_1 c0_1 l0_1 A0_2 c0_2 l0_2 A0_3 c0_3 l0_3 y0 y1 y2 y3 _ (Kd.C_below HR1.out HB.out) HC1.out (Kd.C_below HR2.out HB.out) HC2.out (Kd.C_below HR3.out HB.out) HC3.out AT.out).mono ?_); rintro e wc_ ⟨v1, v2, v3, rfl, hw_, hb⟩; obtain ⟨E1, e1, E2, e2, E3, e3, rfl, rfl, rfl, _, _, _, _⟩ := hw_.reads; refine ⟨_, rfl, ?_⟩;  have HAn := Aside0.mk ((hw_.bound.mono (ok' := (fun _ => True)) (fun k_ h_ => trivial)).lower HB.out.size); clear hw_; replace BK1 := zBB BK1 hb; replace HB := zLB HB.out hb; clear hb; (try clear hz1_); have hz1_ := zc4 BK1.out; have HA := HAn; clear HAn;) | ((with_reducible refine gC 36 rfl ?_); refine gL 22 Try.func36 #[.agg #[.int .i64 y0, .slice E1 y1.length e1, .slice E2 y2.length e2, .slice E3 y3.length e3]] ?_; (refine (spec_TickOn.callsV k y0 t0 t1 t2 t3 t5 HA.out AW.out).mono ?_); rintro e wd_ ⟨v1, v2, v3, v4, PWHW, PDHW, rfl, hw_, hd_, hx_, hb⟩; obtain ⟨B1, b1, B2, b2, B3, b3, rfl, rfl, rfl, _, _, _, _⟩ := hw_.reads; obtain ⟨B4, b4, rfl⟩ := Kd.R_slice hd_; refine ⟨_, rfl, ?_⟩;  have HWn := Aside0.mk ((hw_.bound.mono (ok' := (fun _ => True)) (fun k_ h_ => trivial)).lower HB.out.size); have HWdn := Aside0.mk (Kd.R_lower (Kd.R_mono (Kd.R_bound hd_) (ok' := (fun _ => True)) (fun k_ h_ => trivial)) HB.out.size); have HWx := Aside0.mk hx_; clear hw_ hd_ hx_; replace BK1 := zBB BK1 hb; replace HA := Aside0.mk (HA.out.below hb); replace HB := zLB HB.out hb; clear hb; (try clear hz1_); have hz1_ := zc4 BK1.out; have HW := HWn; clear HWn; have HWd := HWdn; clear HWdn;) | ((with_reducible refine gD 4 rfl ?_); refine bE 4 #[.int .i64 0, .slice none 0 0, .slice none 0 0, .slice none 0 0] 25 ?_; intro g4 hg we_ hbox hb; have GE4 := Aside0.mk (zg HB.out hg : w.heap.size ≤ g4); have N1_4 := Aside0.mk (zN BK1.out hg : g1 ≠ g4); have BK4 := Aside0.mk hbox; clear hbox hg; replace BK1 := zBB BK1 hb; replace HW := Aside0.mk (HW.out.below hb); replace HWd := zRB HWd hb; replace HB := zLB HB.out hb; clear hb; (try clear hz1_); have hz1_ := zc4 BK1.out; (try clear hz4_); have hz4_ := zc4 BK4.out;) | ((with_reducible refine gate_store (t := 25) (p := 4) rfl ?_); refine store_event (t := 25) (p := 4) (v := ?vl0_) (w1 := ((((we_.setCell ⟨g4, 0, none⟩ (.int .i64 t0)).setCell ⟨g4, 1, none⟩ (.slice B1 t1.length b1)).setCell ⟨g4, 2, none⟩ (.slice B2 t2.length b2)).setCell ⟨g4, 3, none⟩ (.slice B3 t3.length b3))) ?hg ?ho ?hn ?hr ?_; (case ho => rfl); (case hg => rfl); (case hn => rfl); (case hr => (have hs0_ := (blk_cell BK4.out 0).trans rfl; have hf0_ := blk_frozen BK4.out 0; have hs1_ := (blk_cell BK4.out 1).trans rfl; have hf1_ := blk_frozen BK4.out 1; have hs2_ := (blk_cell BK4.out 2).trans rfl; have hf2_ := blk_frozen BK4.out 2; have hs3_ := (blk_cell BK4.out 3).trans rfl; have hf3_ := blk_frozen BK4.out 3; (try clear hz1_); have hz1_ := zc4 BK1.out; (try clear hz4_); have hz4_ := zc4 BK4.out; first | (go_simp; done) | (go_simp; rfl))); intro wf_ hw_; have HK_ := set4_kept hw_; have BKn := Aside0.mk (set4_blk hw_ BK4.out rfl); have HBn := Aside0.mk (set4_below hw_ HB.out GE4.out); replace BK1 := Aside0.mk (blk_kept BK1.out HK_ (N1_4.out)); replace HW := Aside0.mk (((HW.out.types BK4.out (by decide) (by decide)).kept HK_ (fun _ h_ => h_.2)).mono (fun _ h_ => h_.1)); replace HWd := Aside0.mk (Kd.R_mono (Kd.R_kept (Kd.R_types HWd.out BK4.out (by decide)) HK_ (fun _ h_ => h_.2)) (fun _ h_ => h_.1)); clear hw_ BK4 HB; have BK4 := BKn; have HB := HBn; clear BKn HBn HK_; (try clear hz1_); have hz1_ := zc4 BK1.out; (try clear hz4_); have hz4_ := zc4 BK4.out;) | ((with_reducible refine gC 22 rfl ?_); refine gL 26 Try.func22 #[.agg #[.int .i64 a0_0, .slice A0_1 l0_1.length c0_1, .slice A0_2 l0_2.length c0_2, .slice A0_3 l0_3.length c0_3]] ?_; (refine (laws_toWheel.callsW k a0_0 A0_1 c0_1 l0_1 A0_2 c0_2 l0_2 A0_3 c0_3 l0_3 y0 y1 y2 y3 _ (Kd.C_below HR1.out HB.out) HC1.out (Kd.C_below HR2.out HB.out) HC2.out (Kd.C_below HR3.out HB.out) HC3.out AT.out).mono ?_); rintro e wg_ ⟨v1, v2, v3, rfl, hw_, hb⟩; obtain ⟨F1, f1, F2, f2, F3, f3, rfl, rfl, rfl, _, _, _, _⟩ := hw_.reads; refine ⟨_, rfl, ?_⟩; replace HW := Aside0.mk (HW.out.bound.mono (ok' := fun k_ => k_ < wf_.heap.size) (fun _ h_ => h_.2.2.1)); replace HWd := Aside0.mk (Kd.R_mono (Kd.R_bound HWd.out) (ok' := fun k_ => k_ < wf_.heap.size) (fun _ h_ => h_.2.2.1)); have ZX := Aside0.mk hb.size; have HXn := Aside0.mk ((hw_.bound.mono (ok' := (fun k_ => wf_.heap.size ≤ k_)) (fun k_ h_ => h_.2.1)).lower HB.out.size); clear hw_; replace BK1 := zBB BK1 hb; replace BK4 := zBB BK4 hb; replace HW := Aside0.mk (HW.out.below hb); replace HWd := zRB HWd hb; replace HB := zLB HB.out hb; clear hb; (try clear hz1_); have hz1_ := zc4 BK1.out; (try clear hz4_); have hz4_ := zc4 BK4.out; have HX := HXn; clear HXn;) | ((with_reducible refine gD 6 rfl ?_); refine bE 6 #[.int .i64 0, .slice none 0 0, .slice none 0 0, .slice none 0 0] 25 ?_; intro g6 hg wh_ hbox hb; have GE6 := Aside0.mk (zg HB.out hg : w.heap.size ≤ g6); have N1_6 := Aside0.mk (zN BK1.out hg : g1 ≠ g6); have N4_6 := Aside0.mk (zN BK4.out hg : g4 ≠ g6); have BK6 := Aside0.mk hbox; clear hbox hg; replace BK1 := zBB BK1 hb; replace BK4 := zBB BK4 hb; replace HW := Aside0.mk (HW.out.below hb); replace HX := Aside0.mk (HX.out.below hb); replace HWd := zRB HWd hb; replace ZX := Aside0.mk (Nat.le_trans ZX.out hb.size); replace HB := zLB HB.out hb; clear hb; (try clear hz1_); have hz1_ := zc4 BK1.out; (try clear hz4_); have hz4_ := zc4 BK4.out; (try clear hz6_); have hz6_ := zc4 BK6.out;) | ((with_reducible refine gate_store (t := 25) (p := 6) rfl ?_); refine store_event (t := 25) (p := 6) (v := ?vl1_) (w1 := ((((wh_.setCell ⟨g6, 0, none⟩ (.int .i64 y0)).setCell ⟨g6, 1, none⟩ (.slice F1 y1.length f1)).setCell ⟨g6, 2, none⟩ (.slice F2 y2.length f2)).setCell ⟨g6, 3, none⟩ (.slice F3 y3.length f3))) ?hg ?ho ?hn ?hr ?_; (case ho => rfl); (case hg => rfl); (case hn => rfl); (case hr => (have hs0_ := (blk_cell BK6.out 0).trans rfl; have hf0_ := blk_frozen BK6.out 0; have hs1_ := (blk_cell BK6.out 1).trans rfl; have hf1_ := blk_frozen BK6.out 1; have hs2_ := (blk_cell BK6.out 2).trans rfl; have hf2_ := blk_frozen BK6.out 2; have hs3_ := (blk_cell BK6.out 3).trans rfl; have hf3_ := blk_frozen BK6.out 3; (try clear hz1_); have hz1_ := zc4 BK1.out; (try clear hz4_); have hz4_ := zc4 BK4.out; (try clear hz6_); have hz6_ := zc4 BK6.out; first | (go_simp; done) | (go_simp; rfl))); intro wi_ hw_; have HK_ := set4_kept hw_; have BKn := Aside0.mk (set4_blk hw_ BK6.out rfl); have HBn := Aside0.mk (set4_below hw_ HB.out GE6.out); replace BK1 := Aside0.mk (blk_kept BK1.out HK_ (N1_6.out)); replace BK4 := Aside0.mk (blk_kept BK4.out HK_ (N4_6.out)); replace HW := Aside0.mk (((HW.out.types BK6.out (by decide) (by decide)).kept HK_ (fun _ h_ => h_.2)).mono (fun _ h_ => h_.1)); replace HX := Aside0.mk (((HX.out.types BK6.out (by decide) (by decide)).kept HK_ (fun _ h_ => h_.2)).mono (fun _ h_ => h_.1)); replace HWd := Aside0.mk (Kd.R_mono (Kd.R_kept (Kd.R_types HWd.out BK6.out (by decide)) HK_ (fun _ h_ => h_.2)) (fun _ h_ => h_.1)); replace ZX := Aside0.mk (Nat.le_trans ZX.out HK_.1); clear hw_ BK6 HB; have BK6 := BKn; have HB := HBn; clear BKn HBn HK_; (try clear hz1_); have hz1_ := zc4 BK1.out; (try clear hz4_); have hz4_ := zc4 BK4.out; (try clear hz6_); have hz6_ := zc4 BK6.out;) | ((with_reducible refine gC 37 rfl ?_); refine gL 29 Try.func37 #[.agg #[.int .i64 y0, .slice F1 y1.length f1, .slice F2 y2.length f2, .slice F3 y3.length f3]] ?_; (refine (impl_TickOn.callsV k y0 s0 s1 s2 s3 s5 HX.out AG.out).mono ?_); rintro e wj_ ⟨v1, v2, v3, v4, PWHG, PDHG, rfl, hw_, hd_, hx_, hb⟩; obtain ⟨D1, d1, D2, d2, D3, d3, rfl, rfl, rfl, _, _, _, _⟩ := hw_.reads; obtain ⟨D4, d4, rfl⟩ := Kd.R_slice hd_; refine ⟨_, rfl, ?_⟩; replace HX := Aside0.mk (HX.out.bound.mono (ok' := fun k_ => wf_.heap.size ≤ k_ ∧ k_ < wi_.heap.size) (fun _ h_ => ⟨h_.1, h_.2.2.1⟩)); have ZXG : Aside0 (wf_.heap.size ≤ wi_.heap.size) := ⟨ZX.out⟩; have HGn := Aside0.mk ((hw_.bound.mono (ok' := (fun k_ => PWHG k_ ∧ wi_.heap.size ≤ k_)) (fun k_ h_ => ⟨h_.1, h_.2.1⟩)).lower HB.out.size); have HGdn := Aside0.mk (Kd.R_lower (Kd.R_mono (Kd.R_bound hd_) (ok' := (fun k_ => PDHG k_ ∧ wi_.heap.size ≤ k_)) (fun k_ h_ => ⟨h_.1, h_.2.1⟩)) HB.out.size); have HGx := Aside0.mk hx_; clear hw_ hd_ hx_; replace BK1 := zBB BK1 hb; replace BK4 := zBB BK4 hb; replace BK6 := zBB BK6 hb; replace HW := Aside0.mk (HW.out.below hb); replace HX := Aside0.mk (HX.out.below hb); replace HWd := zRB HWd hb; replace ZX := Aside0.mk (Nat.le_trans ZX.out hb.size); replace HB := zLB HB.out hb; clear hb; (try clear hz1_); have hz1_ := zc4 BK1.out; (try clear hz4_); have hz4_ := zc4 BK4.out; (try clear hz6_); have hz6_ := zc4 BK6.out; have HG := HGn; clear HGn; have HGd := HGdn; clear HGdn;) | ((with_reducible refine gD 7 rfl ?_); refine bE 7 #[.int .i64 0, .slice none 0 0, .slice none 0 0, .slice none 0 0] 25 ?_; intro g7 hg wk_ hbox hb; have GE7 := Aside0.mk (zg HB.out hg : w.heap.size ≤ g7); have N1_7 := Aside0.mk (zN BK1.out hg : g1 ≠ g7); have N4_7 := Aside0.mk (zN BK4.out hg : g4 ≠ g7); have N6_7 := Aside0.mk (zN BK6.out hg : g6 ≠ g7); have BK7 := Aside0.mk hbox; clear hbox hg; replace BK1 := zBB BK1 hb; replace BK4 := zBB BK4 hb; replace BK6 := zBB BK6 hb; replace HW := Aside0.mk (HW.out.below hb); replace HX := Aside0.mk (HX.out.below hb); replace HG := Aside0.mk (HG.out.below hb); replace HWd := zRB HWd hb; replace HGd := zRB HGd hb; replace HB := zLB HB.out hb; clear hb; (try clear hz1_); have hz1_ := zc4 BK1.out; (try clear hz4_); have hz4_ := zc4 BK4.out; (try clear hz6_); have hz6_ := zc4 BK6.out; (try clear hz7_); have hz7_ := zc4 BK7.out;) | ((with_reducible refine gate_store (t := 25) (p := 7) rfl ?_); refine store_event (t := 25) (p := 7) (v := ?vl2_) (w1 := ((((wk_.setCell ⟨g7, 0, none⟩ (.int .i64 s0)).setCell ⟨g7, 1, none⟩ (.slice D1 s1.length d1)).setCell ⟨g7, 2, none⟩ (.slice D2 s2.length d2)).setCell ⟨g7, 3, none⟩ (.slice D3 s3.length d3))) ?hg ?ho ?hn ?hr ?_; (case ho => rfl); (case hg => rfl); (case hn => rfl); (case hr => (have hs0_ := (blk_cell BK7.out 0).trans rfl; have hf0_ := blk_frozen BK7.out 0; have hs1_ := (blk_cell BK7.out 1).trans rfl; have hf1_ := blk_frozen BK7.out 1; have hs2_ := (blk_cell BK7.out 2).trans rfl; have hf2_ := blk_frozen BK7.out 2; have hs3_ := (blk_cell BK7.out 3).trans rfl; have hf3_ := blk_frozen BK7.out 3; (try clear hz1_); have hz1_ := zc4 BK1.out; (try clear hz4_); have hz4_ := zc4 BK4.out; (try clear hz6_); have hz6_ := zc4 BK6.out; (try clear hz7_); have hz7_ := zc4 BK7.out; first | (go_simp; done) | (go_simp; rfl))); intro wl_ hw_; have HK_ := set4_kept hw_; have BKn := Aside0.mk (set4_blk hw_ BK7.out rfl); have HBn := Aside0.mk (set4_below hw_ HB.out GE7.out); replace BK1 := Aside0.mk (blk_kept BK1.out HK_ (N1_7.out)); replace BK4 := Aside0.mk (blk_kept BK4.out HK_ (N4_7.out)); replace BK6 := Aside0.mk (blk_kept BK6.out HK_ (N6_7.out)); replace HW := Aside0.mk (((HW.out.types BK7.out (by decide) (by decide)).kept HK_ (fun _ h_ => h_.2)).mono (fun _ h_ => h_.1)); replace HX := Aside0.mk (((HX.out.types BK7.out (by decide) (by decide)).kept HK_ (fun _ h_ => h_.2)).mono (fun _ h_ => h_.1)); replace HG := Aside0.mk (((HG.out.types BK7.out (by decide) (by decide)).kept HK_ (fun _ h_ => h_.2)).mono (fun _ h_ => h_.1)); replace HWd := Aside0.mk (Kd.R_mono (Kd.R_kept (Kd.R_types HWd.out BK7.out (by decide)) HK_ (fun _ h_ => h_.2)) (fun _ h_ => h_.1)); replace HGd := Aside0.mk (Kd.R_mono (Kd.R_kept (Kd.R_types HGd.out BK7.out (by decide)) HK_ (fun _ h_ => h_.2)) (fun _ h_ => h_.1)); clear hw_ BK7 HB; have BK7 := BKn; have HB := HBn; clear BKn HBn HK_; (try clear hz1_); have hz1_ := zc4 BK1.out; (try clear hz4_); have hz4_ := zc4 BK4.out; (try clear hz6_); have hz6_ := zc4 BK6.out; (try clear hz7_); have hz7_ := zc4 BK7.out;) | ((with_reducible refine gC 17 rfl ?_); refine gL 34 Try.func17 #[.agg #[.int .i64 s0, .slice D1 s1.length d1, .slice D2 s2.length d2, .slice D3 s3.length d3], .agg #[.int .i64 t0, .slice B1 t1.length b1, .slice B2 t2.length b2, .slice B3 t3.length b3]] ?_; (refine (laws_eqWheel.callsV k s0 t0 true HG.out HW.out EQ1.out).mono ?_); rintro e wm_ ⟨rfl, hb⟩; refine ⟨_, rfl, ?_⟩;  replace BK1 := zBB BK1 hb; replace BK4 := zBB BK4 hb; replace BK6 := zBB BK6 hb; replace BK7 := zBB BK7 hb; replace HW := Aside0.mk (HW.out.below hb); replace HX := Aside0.mk (HX.out.below hb); replace HG := Aside0.mk (HG.out.below hb); replace HWd := zRB HWd hb; replace HGd := zRB HGd hb; replace HB := zLB HB.out hb; clear hb; (try clear hz1_); have hz1_ := zc4 BK1.out; (try clear hz4_); have hz4_ := zc4 BK4.out; (try clear hz6_); have hz6_ := zc4 BK6.out; (try clear hz7_); have hz7_ := zc4 BK7.out;) | (go_at_call 26; (refine (laws_eqTimerS.callsV k true HGd.out HWd.out EQ2.out).mono ?_); rintro e wn_ ⟨rfl, hb⟩;  replace BK1 := zBB BK1 hb; replace BK4 := zBB BK4 hb; replace BK6 := zBB BK6 hb; replace BK7 := zBB BK7 hb; replace HW := Aside0.mk (HW.out.below hb); replace HX := Aside0.mk (HX.out.below hb); replace HG := Aside0.mk (HG.out.below hb); replace HWd := zRB HWd hb; replace HGd := zRB HGd hb; replace HB := zLB HB.out hb; clear hb; (try clear hz1_); have hz1_ := zc4 BK1.out; (try clear hz4_); have hz4_ := zc4 BK4.out; (try clear hz6_); have hz6_ := zc4 BK6.out; (try clear hz7_); have hz7_ := zc4 BK7.out;))
    replace BK1 := zBD BK1
    replace BK4 := zBD BK4
    replace BK6 := zBD BK6
    replace BK7 := zBD BK7
    replace HW := Aside0.mk (HW.out.drew)
    replace HX := Aside0.mk (HX.out.drew)
    replace HG := Aside0.mk (HG.out.drew)
    replace HWd := zRD HWd
    replace HGd := zRD HGd
    replace HB := zLD HB
    refine start_ (n := 5) (S := fun w' => w'.cell? ⟨g6, 0, none⟩ = some (.int .i64 y0) ∧ w'.cell? ⟨g6, 1, none⟩ = some (.slice F1 y1.length f1) ∧ w'.cell? ⟨g6, 2, none⟩ = some (.slice F2 y2.length f2) ∧ w'.cell? ⟨g6, 3, none⟩ = some (.slice F3 y3.length f3) ∧ w'.cell? ⟨g1, 0, none⟩ = some (.int .i64 a0_0) ∧ w'.cell? ⟨g1, 1, none⟩ = some (.slice A0_1 l0_1.length c0_1) ∧ w'.cell? ⟨g1, 2, none⟩ = some (.slice A0_2 l0_2.length c0_2) ∧ w'.cell? ⟨g1, 3, none⟩ = some (.slice A0_3 l0_3.length c0_3)) (ds := []) (fB 5 0) (by kernel_rfl) rfl rfl ⟨(blk_cell BK6.out 0).trans rfl, (blk_cell BK6.out 1).trans rfl, (blk_cell BK6.out 2).trans rfl, (blk_cell BK6.out 3).trans rfl, (blk_cell BK1.out 0).trans rfl, (blk_cell BK1.out 1).trans rfl, (blk_cell BK1.out 2).trans rfl, (blk_cell BK1.out 3).trans rfl⟩ (fun hHeld => ?_); refine with_tabW laws_FnExactTickOn.tab10 laws_FnExactTickOn.bits10 (fun HT_ HW_ => ?_)
    generalize wn_.drew = wo_ at BK1 BK4 BK6 BK7 HW HX HG HWd HGd HB hHeld ⊢
    refine tY 0 42 (fB 5 1) HT_.out HW_.out hHeld ?_
    refine tY 1 43 (fB 5 3) HT_.out HW_.out hHeld ?_
    refine oN 2 44 (fB 5 7) HT_.out fun K hK => ?_
    refine gS Try.func22 #[.agg #[.int .i64 a0_0, .slice A0_1 l0_1.length c0_1, .slice A0_2 l0_2.length c0_2, .slice A0_3 l0_3.length c0_3]] ?_
    refine (laws_toWheel.callsW k a0_0 A0_1 c0_1 l0_1 A0_2 c0_2 l0_2 A0_3 c0_3 l0_3 y0 y1 y2 y3 _ (Kd.C_below HR1.out HB.out) HC1.out (Kd.C_below HR2.out HB.out) HC2.out (Kd.C_below HR3.out HB.out) HC3.out AT.out).mono ?_
    rintro e wp_ ⟨v1, v2, v3, rfl, hw_, hb⟩
    obtain ⟨K1, k1, K2, k2, K3, k3, rfl, rfl, rfl, _, _, _, _⟩ := hw_.reads
    refine ⟨_, rfl, ?_⟩
    have HY := Aside0.mk hw_
    clear hw_
    replace BK1 := zBB BK1 hb
    replace BK4 := zBB BK4 hb
    replace BK6 := zBB BK6 hb
    replace BK7 := zBB BK7 hb
    replace HW := Aside0.mk (HW.out.below hb)
    replace HX := Aside0.mk (HX.out.below hb)
    replace HG := Aside0.mk (HG.out.below hb)
    replace HWd := zRB HWd hb
    replace HGd := zRB HGd hb
    replace HB := zLB HB.out hb
    clear hb
    refine hK.out _ _ ⟨(blk_cell BK6.out 0).trans rfl, (blk_cell BK6.out 1).trans rfl, (blk_cell BK6.out 2).trans rfl, (blk_cell BK6.out 3).trans rfl, (blk_cell BK1.out 0).trans rfl, (blk_cell BK1.out 1).trans rfl, (blk_cell BK1.out 2).trans rfl, (blk_cell BK1.out 3).trans rfl⟩ fun hHeld => ?_; clear hK K
    refine nZ 44 ?_
    refine oN 3 45 (fB 5 15) HT_.out fun K hK => ?_
    refine gS Try.func17 #[.agg #[.int .i64 y0, .slice F1 y1.length f1, .slice F2 y2.length f2, .slice F3 y3.length f3], .agg #[.int .i64 y0, .slice K1 y1.length k1, .slice K2 y2.length k2, .slice K3 y3.length k3]] ?_
    refine (laws_eqWheel.callsV k y0 y0 true HX.out HY.out EQ3.out).mono ?_
    rintro e wq_ ⟨rfl, hb⟩
    refine ⟨_, rfl, ?_⟩
    clear HY
    replace BK1 := zBB BK1 hb
    replace BK4 := zBB BK4 hb
    replace BK6 := zBB BK6 hb
    replace BK7 := zBB BK7 hb
    replace HW := Aside0.mk (HW.out.below hb)
    replace HX := Aside0.mk (HX.out.below hb)
    replace HG := Aside0.mk (HG.out.below hb)
    replace HWd := zRB HWd hb
    replace HGd := zRB HGd hb
    replace HB := zLB HB.out hb
    clear hb
    refine hK.out _ _ ⟨(blk_cell BK6.out 0).trans rfl, (blk_cell BK6.out 1).trans rfl, (blk_cell BK6.out 2).trans rfl, (blk_cell BK6.out 3).trans rfl, (blk_cell BK1.out 0).trans rfl, (blk_cell BK1.out 1).trans rfl, (blk_cell BK1.out 2).trans rfl, (blk_cell BK1.out 3).trans rfl⟩ fun hHeld => ?_; clear hK K
    refine nZ 45 ?_
    refine pY 4 46 (fB 5 31) HT_.out ?_
    refine done_ (done_of HT_.out (by kernel_rfl)) ?_
    clear hHeld
    have hz1_ := zc4 BK1.out
    have hz4_ := zc4 BK4.out
    have hz6_ := zc4 BK6.out
    have hz7_ := zc4 BK7.out
    go_wp2_with (first | ((with_reducible refine gC 18 rfl ?_); refine gL 49 Try.func18 #[.agg #[.int .i64 y0, .slice F1 y1.length f1, .slice F2 y2.length f2, .slice F3 y3.length f3], .int .i64 1] ?_; (refine (laws_markWheel.callsV k y0 1 x0 x1 x2 x3 HB.out HX.out.bound AX.out).mono ?_); rintro e wr_ ⟨rfl, _, hb, hk_⟩; refine ⟨_, rfl, ?_⟩; have hkx_ := hk_; replace BK1 := Aside0.mk (blk_kept BK1.out hk_ (fun h_ => nt_ BK1.out (by decide) (by decide) h_.2)); replace BK4 := Aside0.mk (blk_kept BK4.out hk_ (fun h_ => nt_ BK4.out (by decide) (by decide) h_.2)); replace BK6 := Aside0.mk (blk_kept BK6.out hk_ (fun h_ => nt_ BK6.out (by decide) (by decide) h_.2)); replace BK7 := Aside0.mk (blk_kept BK7.out hk_ (fun h_ => nt_ BK7.out (by decide) (by decide) h_.2)); replace HW := Aside0.mk (HW.out.kept hk_ (fun k_ h_ h2_ => by have a_ := h2_.1.1; omega)); replace HG := Aside0.mk (HG.out.kept hk_ (fun k_ h_ h2_ => by have a_ := h2_.1.2; have b_ := h_.2; omega)); replace HWd := Aside0.mk (Kd.R_kept HWd.out hk_ (fun k_ h_ h2_ => by have a_ := h2_.1.1; omega)); replace HGd := Aside0.mk (Kd.R_kept HGd.out hk_ (fun k_ h_ h2_ => by have a_ := h2_.1.2; have b_ := h_.2; omega)); clear HB HX; have HB := Aside0.mk hb; clear hb hk_ hkx_; (try clear hz1_); have hz1_ := zc4 BK1.out; (try clear hz4_); have hz4_ := zc4 BK4.out; (try clear hz6_); have hz6_ := zc4 BK6.out; (try clear hz7_); have hz7_ := zc4 BK7.out;) | (go_at_call 17; (refine (laws_eqWheel.callsV k s0 t0 true HG.out HW.out EQ1.out).mono ?_); rintro e ws_ ⟨rfl, hb⟩;  replace BK1 := zBB BK1 hb; replace BK4 := zBB BK4 hb; replace BK6 := zBB BK6 hb; replace BK7 := zBB BK7 hb; replace HW := Aside0.mk (HW.out.below hb); replace HG := Aside0.mk (HG.out.below hb); replace HWd := zRB HWd hb; replace HGd := zRB HGd hb; replace HB := zLB HB.out hb; clear hb; (try clear hz1_); have hz1_ := zc4 BK1.out; (try clear hz4_); have hz4_ := zc4 BK4.out; (try clear hz6_); have hz6_ := zc4 BK6.out; (try clear hz7_); have hz7_ := zc4 BK7.out;) | (go_at_call 26; (refine (laws_eqTimerS.callsV k true HGd.out HWd.out EQ2.out).mono ?_); rintro e wt_ ⟨rfl, hb⟩;  replace BK1 := zBB BK1 hb; replace BK4 := zBB BK4 hb; replace BK6 := zBB BK6 hb; replace BK7 := zBB BK7 hb; replace HW := Aside0.mk (HW.out.below hb); replace HG := Aside0.mk (HG.out.below hb); replace HWd := zRB HWd hb; replace HGd := zRB HGd hb; replace HB := zLB HB.out hb; clear hb; (try clear hz1_); have hz1_ := zc4 BK1.out; (try clear hz4_); have hz4_ := zc4 BK4.out; (try clear hz6_); have hz6_ := zc4 BK6.out; (try clear hz7_); have hz7_ := zc4 BK7.out;) | ((with_reducible refine gC 18 rfl ?_); refine gL 66 Try.func18 #[.agg #[.int .i64 s0, .slice D1 s1.length d1, .slice D2 s2.length d2, .slice D3 s3.length d3], .int .i64 1] ?_; (refine (laws_markWheel.callsV k s0 1 m0 m1 m2 m3 HB.out HG.out.bound AM.out).mono ?_); rintro e wu_ ⟨rfl, hw_, hb, hk_⟩; refine ⟨_, rfl, ?_⟩; replace BK1 := Aside0.mk (blk_kept BK1.out hk_ (fun h_ => nt_ BK1.out (by decide) (by decide) h_.2)); replace BK4 := Aside0.mk (blk_kept BK4.out hk_ (fun h_ => nt_ BK4.out (by decide) (by decide) h_.2)); replace BK6 := Aside0.mk (blk_kept BK6.out hk_ (fun h_ => nt_ BK6.out (by decide) (by decide) h_.2)); replace BK7 := Aside0.mk (blk_kept BK7.out hk_ (fun h_ => nt_ BK7.out (by decide) (by decide) h_.2)); replace HW := Aside0.mk (HW.out.kept hk_ (fun k_ h_ h2_ => by have a_ := h2_.1.2; have z_ := ZXG.out; omega)); replace HWd := Aside0.mk (Kd.R_kept HWd.out hk_ (fun k_ h_ h2_ => by have a_ := h2_.1.2; have z_ := ZXG.out; omega)); replace HGd := Aside0.mk (Kd.R_kept HGd.out hk_ (fun k_ h_ h2_ => HGx.out k_ h2_.1.1 h_.1)); clear HB HG; have HB := Aside0.mk hb; have HG := Aside0.mk (hw_.mono (fun _ h_ => h_.1)); clear hw_ hb hk_; (try clear hz1_); have hz1_ := zc4 BK1.out; (try clear hz4_); have hz4_ := zc4 BK4.out; (try clear hz6_); have hz6_ := zc4 BK6.out; (try clear hz7_); have hz7_ := zc4 BK7.out;) | ((with_reducible refine gC 27 rfl ?_); refine gL 69 Try.func27 #[.slice D4 s5.length d4, .int .i64 m0] ?_; (refine (laws_markTimerS.callsV k m0 q2 d5 HB.out (Kd.R_bound HGd.out) AD.out).mono ?_); rintro e wv_ ⟨rfl, hw_, hb, hk_⟩; refine ⟨_, rfl, ?_⟩; replace BK1 := Aside0.mk (blk_kept BK1.out hk_ (fun h_ => ntR_ BK1.out (by decide) h_.2)); replace BK4 := Aside0.mk (blk_kept BK4.out hk_ (fun h_ => ntR_ BK4.out (by decide) h_.2)); replace BK6 := Aside0.mk (blk_kept BK6.out hk_ (fun h_ => ntR_ BK6.out (by decide) h_.2)); replace BK7 := Aside0.mk (blk_kept BK7.out hk_ (fun h_ => ntR_ BK7.out (by decide) h_.2)); replace HW := Aside0.mk (HW.out.kept hk_ (fun k_ h_ h2_ => by have a_ := h2_.1.2; have z_ := ZXG.out; omega)); replace HWd := Aside0.mk (Kd.R_kept HWd.out hk_ (fun k_ h_ h2_ => by have a_ := h2_.1.2; have z_ := ZXG.out; omega)); replace HG := Aside0.mk (HG.out.kept hk_ (fun k_ h_ h2_ => HGx.out k_ h_.1 h2_.1.1)); clear HB HGd; have HB := Aside0.mk hb; have HGd := Aside0.mk (Kd.R_mono hw_ (fun _ h_ => h_.1)); clear hw_ hb hk_; (try clear hz1_); have hz1_ := zc4 BK1.out; (try clear hz4_); have hz4_ := zc4 BK4.out; (try clear hz6_); have hz6_ := zc4 BK6.out; (try clear hz7_); have hz7_ := zc4 BK7.out;) | ((with_reducible refine gC 19 rfl ?_); refine gL 72 Try.func19 #[.agg #[.int .i64 s0, .slice D1 s1.length d1, .slice D2 s2.length d2, .slice D3 s3.length d3], .int .i64 1] ?_; (refine (laws_heldWheel.callsV k s0 1 q1 HG.out AQ.out).mono ?_); rintro e ww_ ⟨rfl, hb⟩; refine ⟨_, rfl, ?_⟩;  replace BK1 := zBB BK1 hb; replace BK4 := zBB BK4 hb; replace BK6 := zBB BK6 hb; replace BK7 := zBB BK7 hb; replace HW := Aside0.mk (HW.out.below hb); replace HG := Aside0.mk (HG.out.below hb); replace HWd := zRB HWd hb; replace HGd := zRB HGd hb; replace HB := zLB HB.out hb; clear hb; (try clear hz1_); have hz1_ := zc4 BK1.out; (try clear hz4_); have hz4_ := zc4 BK4.out; (try clear hz6_); have hz6_ := zc4 BK6.out; (try clear hz7_); have hz7_ := zc4 BK7.out;) | ((with_reducible refine gC 28 rfl ?_); refine gL 77 Try.func28 #[.slice D4 s5.length d4, .int .i64 q1] ?_; (refine (laws_heldTimerS.callsV k q1 q2 HGd.out AQ2.out).mono ?_); rintro e wx_ ⟨rfl, hb⟩; refine ⟨_, rfl, ?_⟩;  replace BK1 := zBB BK1 hb; replace BK4 := zBB BK4 hb; replace BK6 := zBB BK6 hb; replace BK7 := zBB BK7 hb; replace HW := Aside0.mk (HW.out.below hb); replace HG := Aside0.mk (HG.out.below hb); replace HWd := zRB HWd hb; replace HGd := zRB HGd hb; replace HB := zLB HB.out hb; clear hb; (try clear hz1_); have hz1_ := zc4 BK1.out; (try clear hz4_); have hz4_ := zc4 BK4.out; (try clear hz6_); have hz6_ := zc4 BK6.out; (try clear hz7_); have hz7_ := zc4 BK7.out;) | ((with_reducible refine gC 22 rfl ?_); refine gL 85 Try.func22 #[.agg #[.int .i64 a0_0, .slice A0_1 l0_1.length c0_1, .slice A0_2 l0_2.length c0_2, .slice A0_3 l0_3.length c0_3]] ?_; (refine (laws_toWheel.callsW k a0_0 A0_1 c0_1 l0_1 A0_2 c0_2 l0_2 A0_3 c0_3 l0_3 y0 y1 y2 y3 _ (Kd.C_below HR1.out HB.out) HC1.out (Kd.C_below HR2.out HB.out) HC2.out (Kd.C_below HR3.out HB.out) HC3.out AT.out).mono ?_); rintro e wy_ ⟨v1, v2, v3, rfl, hw_, hb⟩; obtain ⟨H1, h1, H2, h2, H3, h3, rfl, rfl, rfl, _, _, _, _⟩ := hw_.reads; refine ⟨_, rfl, ?_⟩;  have HAn := Aside0.mk ((hw_.bound.mono (ok' := (fun _ => True)) (fun k_ h_ => trivial)).lower HB.out.size); clear hw_; replace BK1 := zBB BK1 hb; replace BK4 := zBB BK4 hb; replace BK6 := zBB BK6 hb; replace BK7 := zBB BK7 hb; replace HW := Aside0.mk (HW.out.below hb); replace HG := Aside0.mk (HG.out.below hb); replace HWd := zRB HWd hb; replace HGd := zRB HGd hb; replace HB := zLB HB.out hb; clear hb; (try clear hz1_); have hz1_ := zc4 BK1.out; (try clear hz4_); have hz4_ := zc4 BK4.out; (try clear hz6_); have hz6_ := zc4 BK6.out; (try clear hz7_); have hz7_ := zc4 BK7.out; have HA := HAn; clear HAn;) | ((with_reducible refine gC 37 rfl ?_); refine gL 86 Try.func37 #[.agg #[.int .i64 y0, .slice H1 y1.length h1, .slice H2 y2.length h2, .slice H3 y3.length h3]] ?_; (refine (impl_TickOn.callsV k y0 s0 s1 s2 s3 s5 HA.out AG.out).mono ?_); rintro e wz_ ⟨v1, v2, v3, v4, PWHH, PDHH, rfl, hw_, hd_, hx_, hb⟩; obtain ⟨J1, j1, J2, j2, J3, j3, rfl, rfl, rfl, _, _, _, _⟩ := hw_.reads; obtain ⟨J4, j4, rfl⟩ := Kd.R_slice hd_; refine ⟨_, rfl, ?_⟩;  have HHn := Aside0.mk ((hw_.bound.mono (ok' := (fun _ => True)) (fun k_ h_ => trivial)).lower HB.out.size); have HHdn := Aside0.mk (Kd.R_lower (Kd.R_mono (Kd.R_bound hd_) (ok' := (fun _ => True)) (fun k_ h_ => trivial)) HB.out.size); have HHx := Aside0.mk hx_; clear hw_ hd_ hx_; replace BK1 := zBB BK1 hb; replace BK4 := zBB BK4 hb; replace BK6 := zBB BK6 hb; replace BK7 := zBB BK7 hb; replace HW := Aside0.mk (HW.out.below hb); replace HG := Aside0.mk (HG.out.below hb); replace HA := Aside0.mk (HA.out.below hb); replace HWd := zRB HWd hb; replace HGd := zRB HGd hb; replace HB := zLB HB.out hb; clear hb; (try clear hz1_); have hz1_ := zc4 BK1.out; (try clear hz4_); have hz4_ := zc4 BK4.out; (try clear hz6_); have hz6_ := zc4 BK6.out; (try clear hz7_); have hz7_ := zc4 BK7.out; have HH := HHn; clear HHn; have HHd := HHdn; clear HHdn;) | ((with_reducible refine gD 12 rfl ?_); refine bE 12 #[.int .i64 0, .slice none 0 0, .slice none 0 0, .slice none 0 0] 25 ?_; intro g12 hg xa_ hbox hb; have GE12 := Aside0.mk (zg HB.out hg : w.heap.size ≤ g12); have N1_12 := Aside0.mk (zN BK1.out hg : g1 ≠ g12); have N4_12 := Aside0.mk (zN BK4.out hg : g4 ≠ g12); have N6_12 := Aside0.mk (zN BK6.out hg : g6 ≠ g12); have N7_12 := Aside0.mk (zN BK7.out hg : g7 ≠ g12); have BK12 := Aside0.mk hbox; clear hbox hg; replace BK1 := zBB BK1 hb; replace BK4 := zBB BK4 hb; replace BK6 := zBB BK6 hb; replace BK7 := zBB BK7 hb; replace HW := Aside0.mk (HW.out.below hb); replace HG := Aside0.mk (HG.out.below hb); replace HH := Aside0.mk (HH.out.below hb); replace HWd := zRB HWd hb; replace HGd := zRB HGd hb; replace HHd := zRB HHd hb; replace HB := zLB HB.out hb; clear hb; (try clear hz1_); have hz1_ := zc4 BK1.out; (try clear hz4_); have hz4_ := zc4 BK4.out; (try clear hz6_); have hz6_ := zc4 BK6.out; (try clear hz7_); have hz7_ := zc4 BK7.out; (try clear hz12_); have hz12_ := zc4 BK12.out;) | ((with_reducible refine gate_store (t := 25) (p := 12) rfl ?_); refine store_event (t := 25) (p := 12) (v := ?vl3_) (w1 := ((((xa_.setCell ⟨g12, 0, none⟩ (.int .i64 s0)).setCell ⟨g12, 1, none⟩ (.slice J1 s1.length j1)).setCell ⟨g12, 2, none⟩ (.slice J2 s2.length j2)).setCell ⟨g12, 3, none⟩ (.slice J3 s3.length j3))) ?hg ?ho ?hn ?hr ?_; (case ho => rfl); (case hg => rfl); (case hn => rfl); (case hr => (have hs0_ := (blk_cell BK12.out 0).trans rfl; have hf0_ := blk_frozen BK12.out 0; have hs1_ := (blk_cell BK12.out 1).trans rfl; have hf1_ := blk_frozen BK12.out 1; have hs2_ := (blk_cell BK12.out 2).trans rfl; have hf2_ := blk_frozen BK12.out 2; have hs3_ := (blk_cell BK12.out 3).trans rfl; have hf3_ := blk_frozen BK12.out 3; (try clear hz1_); have hz1_ := zc4 BK1.out; (try clear hz4_); have hz4_ := zc4 BK4.out; (try clear hz6_); have hz6_ := zc4 BK6.out; (try clear hz7_); have hz7_ := zc4 BK7.out; (try clear hz12_); have hz12_ := zc4 BK12.out; first | (go_simp; done) | (go_simp; rfl))); intro xb_ hw_; have HK_ := set4_kept hw_; have BKn := Aside0.mk (set4_blk hw_ BK12.out rfl); have HBn := Aside0.mk (set4_below hw_ HB.out GE12.out); replace BK1 := Aside0.mk (blk_kept BK1.out HK_ (N1_12.out)); replace BK4 := Aside0.mk (blk_kept BK4.out HK_ (N4_12.out)); replace BK6 := Aside0.mk (blk_kept BK6.out HK_ (N6_12.out)); replace BK7 := Aside0.mk (blk_kept BK7.out HK_ (N7_12.out)); replace HW := Aside0.mk (((HW.out.types BK12.out (by decide) (by decide)).kept HK_ (fun _ h_ => h_.2)).mono (fun _ h_ => h_.1)); replace HG := Aside0.mk (((HG.out.types BK12.out (by decide) (by decide)).kept HK_ (fun _ h_ => h_.2)).mono (fun _ h_ => h_.1)); replace HH := Aside0.mk (((HH.out.types BK12.out (by decide) (by decide)).kept HK_ (fun _ h_ => h_.2)).mono (fun _ h_ => h_.1)); replace HWd := Aside0.mk (Kd.R_mono (Kd.R_kept (Kd.R_types HWd.out BK12.out (by decide)) HK_ (fun _ h_ => h_.2)) (fun _ h_ => h_.1)); replace HGd := Aside0.mk (Kd.R_mono (Kd.R_kept (Kd.R_types HGd.out BK12.out (by decide)) HK_ (fun _ h_ => h_.2)) (fun _ h_ => h_.1)); replace HHd := Aside0.mk (Kd.R_mono (Kd.R_kept (Kd.R_types HHd.out BK12.out (by decide)) HK_ (fun _ h_ => h_.2)) (fun _ h_ => h_.1)); clear hw_ BK12 HB; have BK12 := BKn; have HB := HBn; clear BKn HBn HK_; (try clear hz1_); have hz1_ := zc4 BK1.out; (try clear hz4_); have hz4_ := zc4 BK4.out; (try clear hz6_); have hz6_ := zc4 BK6.out; (try clear hz7_); have hz7_ := zc4 BK7.out; (try clear hz12_); have hz12_ := zc4 BK12.out;) | ((with_reducible refine gC 17 rfl ?_); refine gL 91 Try.func17 #[.agg #[.int .i64 s0, .slice J1 s1.length j1, .slice J2 s2.length j2, .slice J3 s3.length j3], .agg #[.int .i64 t0, .slice B1 t1.length b1, .slice B2 t2.length b2, .slice B3 t3.length b3]] ?_; (refine (laws_eqWheel.callsV k s0 t0 true HH.out HW.out EQ1.out).mono ?_); rintro e xc_ ⟨rfl, hb⟩; refine ⟨_, rfl, ?_⟩;  replace BK1 := zBB BK1 hb; replace BK4 := zBB BK4 hb; replace BK6 := zBB BK6 hb; replace BK7 := zBB BK7 hb; replace BK12 := zBB BK12 hb; replace HW := Aside0.mk (HW.out.below hb); replace HG := Aside0.mk (HG.out.below hb); replace HH := Aside0.mk (HH.out.below hb); replace HWd := zRB HWd hb; replace HGd := zRB HGd hb; replace HHd := zRB HHd hb; replace HB := zLB HB.out hb; clear hb; (try clear hz1_); have hz1_ := zc4 BK1.out; (try clear hz4_); have hz4_ := zc4 BK4.out; (try clear hz6_); have hz6_ := zc4 BK6.out; (try clear hz7_); have hz7_ := zc4 BK7.out; (try clear hz12_); have hz12_ := zc4 BK12.out;) | (go_at_call 26; (refine (laws_eqTimerS.callsV k true HHd.out HWd.out EQ2.out).mono ?_); rintro e xd_ ⟨rfl, hb⟩;  replace BK1 := zBB BK1 hb; replace BK4 := zBB BK4 hb; replace BK6 := zBB BK6 hb; replace BK7 := zBB BK7 hb; replace BK12 := zBB BK12 hb; replace HW := Aside0.mk (HW.out.below hb); replace HG := Aside0.mk (HG.out.below hb); replace HH := Aside0.mk (HH.out.below hb); replace HWd := zRB HWd hb; replace HGd := zRB HGd hb; replace HHd := zRB HHd hb; replace HB := zLB HB.out hb; clear hb; (try clear hz1_); have hz1_ := zc4 BK1.out; (try clear hz4_); have hz4_ := zc4 BK4.out; (try clear hz6_); have hz6_ := zc4 BK6.out; (try clear hz7_); have hz7_ := zc4 BK7.out; (try clear hz12_); have hz12_ := zc4 BK12.out;) | ((with_reducible refine gC 19 rfl ?_); refine gL 101 Try.func19 #[.agg #[.int .i64 s0, .slice D1 s1.length d1, .slice D2 s2.length d2, .slice D3 s3.length d3], .int .i64 1] ?_; (refine (laws_heldWheel.callsV k s0 1 q1 HG.out AQ.out).mono ?_); rintro e xe_ ⟨rfl, hb⟩; refine ⟨_, rfl, ?_⟩;  replace BK1 := zBB BK1 hb; replace BK4 := zBB BK4 hb; replace BK6 := zBB BK6 hb; replace BK7 := zBB BK7 hb; replace BK12 := zBB BK12 hb; replace HW := Aside0.mk (HW.out.below hb); replace HG := Aside0.mk (HG.out.below hb); replace HH := Aside0.mk (HH.out.below hb); replace HWd := zRB HWd hb; replace HGd := zRB HGd hb; replace HHd := zRB HHd hb; replace HB := zLB HB.out hb; clear hb; (try clear hz1_); have hz1_ := zc4 BK1.out; (try clear hz4_); have hz4_ := zc4 BK4.out; (try clear hz6_); have hz6_ := zc4 BK6.out; (try clear hz7_); have hz7_ := zc4 BK7.out; (try clear hz12_); have hz12_ := zc4 BK12.out;) | ((with_reducible refine gC 28 rfl ?_); refine gL 106 Try.func28 #[.slice D4 s5.length d4, .int .i64 q1] ?_; (refine (laws_heldTimerS.callsV k q1 q2 HGd.out AQ2.out).mono ?_); rintro e xf_ ⟨rfl, hb⟩; refine ⟨_, rfl, ?_⟩;  replace BK1 := zBB BK1 hb; replace BK4 := zBB BK4 hb; replace BK6 := zBB BK6 hb; replace BK7 := zBB BK7 hb; replace BK12 := zBB BK12 hb; replace HW := Aside0.mk (HW.out.below hb); replace HG := Aside0.mk (HG.out.below hb); replace HH := Aside0.mk (HH.out.below hb); replace HWd := zRB HWd hb; replace HGd := zRB HGd hb; replace HHd := zRB HHd hb; replace HB := zLB HB.out hb; clear hb; (try clear hz1_); have hz1_ := zc4 BK1.out; (try clear hz4_); have hz4_ := zc4 BK4.out; (try clear hz6_); have hz6_ := zc4 BK6.out; (try clear hz7_); have hz7_ := zc4 BK7.out; (try clear hz12_); have hz12_ := zc4 BK12.out;))
    go_ret
    exact ⟨rfl, HB.out⟩

end Go.Proofs.Ytggenhomnbnodaa.QFnExactTickOn
