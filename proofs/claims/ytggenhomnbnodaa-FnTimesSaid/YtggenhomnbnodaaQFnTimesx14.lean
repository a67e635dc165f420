/- What the Go functions that the law FnTimes reaches answer: each as a Lean function, with its walk. Written by a program of this session. Conditions: those that each theorem names. -/
import Derived.Test.YtggenhomnbnodaaQFnTimesx0
import Derived.Test.YtggenhomnbnodaaQFnTimesx2
import Derived.Test.YtggenhomnbnodaaQFnTimesx3
import Derived.Test.YtggenhomnbnodaaQFnTimesx6
import Derived.Test.YtggenhomnbnodaaQFnTimesx8
import Derived.Test.YtggenhomnbnodaaQFnTimesx10
import Derived.Test.YtggenhomnbnodaaQFnTimesx11
import Derived.Test.YtggenhomnbnodaaQFnTimesx12
import Derived.Test.YtggenhomnbnodaaQFnTimesx13
namespace Go.Proofs.Ytggenhomnbnodaa.QFnTimes
open Go.RowKit Go.Proofs.YtggenhomnbnodaaW.PrintWords Go.Proofs.YtggenhomnbnodaaW.PrintLast Go.Proofs.YtggenhomnbnodaaW.PrintMore
attribute [local go_sem] max2_int min2_int max_two min_two max_three min_three max_four min_four   -- for this text's walks alone
set_option linter.unusedVariables false
set_option linter.unusedSimpArgs false

def WVc (A1 : Option Addr) (c1 : Nat) (l1 : List (List S46)) (A2 : Option Addr) (c2 : Nat) (l2 : List (List S46)) (A3 : Option Addr) (c3 : Nat) (l3 : List S46) (w : World) : Prop :=
 (l1.length ≤ c1 ∧ l2.length ≤ c2 ∧ l3.length ≤ c3) ∧ (Kd.slice 46 k46).C w A1 l1.length l1 ∧ (Kd.slice 46 k46).C w A2 l2.length l2 ∧ k46.C w A3 l3.length l3
def TVc (A : Option Addr) (c : Nat) (l : List S46) (w : World) : Prop := l.length ≤ c ∧ k46.C w A l.length l
def IVc (A : Option Addr) (c : Nat) (l : List Int) (w : World) : Prop := l.length ≤ c ∧ (Kd.int .i64).C w A l.length l
def BVc (A : Option Addr) (c : Nat) (l : List Int) (w : World) : Prop := l.length ≤ c ∧ (Kd.int .u8).C w A l.length l
section
variable {w w1 : World} {b n : Nat} {o1 o2 o3 : Nat → Prop} {A A1 A2 A3 : Option Addr} {c c1 c2 c3 : Nat} {l l3 : List S46} {l1 l2 : List (List S46)} {xs : List Int} {v v1 v2 v3 : Value}
theorem zVW (h : Aside0 (WVc A1 c1 l1 A2 c2 l2 A3 c3 l3 w)) (hb : Below w.heap.size w w1) : Aside0 (WVc A1 c1 l1 A2 c2 l2 A3 c3 l3 w1) := ⟨h.out.1, Kd.C_below h.out.2.1 hb, Kd.C_below h.out.2.2.1 hb, Kd.C_below h.out.2.2.2 hb⟩
theorem zVT (h : Aside0 (TVc A c l w)) (hb : Below w.heap.size w w1) : Aside0 (TVc A c l w1) := ⟨h.out.1, Kd.C_below h.out.2 hb⟩
theorem zVI (h : Aside0 (IVc A c xs w)) (hb : Below w.heap.size w w1) : Aside0 (IVc A c xs w1) := ⟨h.out.1, Kd.C_below h.out.2 hb⟩
theorem zVC (h : Aside0 (BVc A c xs w)) (hb : Below w.heap.size w w1) : BVc A c xs w1 := ⟨h.out.1, Kd.C_below h.out.2 hb⟩
theorem zVd : Below w.heap.size w w.drew := below_drew (Below.refl _ _)
theorem qvW (s1 : Kd.N (Kd.slice 46 k46) 23 w b o1 v1 l1) (s2 : Kd.N (Kd.slice 46 k46) 23 w b o2 v2 l2) (s3 : Kd.R k46 46 w b o3 v3 l3) : ∃ A1 c1 A2 c2 A3 c3, v1 = .slice A1 l1.length c1 ∧ v2 = .slice A2 l2.length c2 ∧ v3 = .slice A3 l3.length c3 ∧ WVc A1 c1 l1 A2 c2 l2 A3 c3 l3 w := by
 obtain ⟨A1, c1, e1, b1, r1⟩ := Kd.N_reads s1
 obtain ⟨A2, c2, e2, b2, r2⟩ := Kd.N_reads s2
 obtain ⟨A3, c3, e3, b3, r3⟩ := Kd.R_reads s3
 exact ⟨A1, c1, A2, c2, A3, c3, e1, e2, e3, ⟨b1, b2, b3⟩, r1, r2, r3⟩
theorem qvT (s : Kd.R k46 46 w b o1 v l) : ∃ A c, v = .slice A l.length c ∧ TVc A c l w := by
 obtain ⟨A, c, e, h1, h2⟩ := Kd.R_reads s
 exact ⟨A, c, e, h1, h2⟩
theorem qvI (s : Kd.R (Kd.int .i64) 3 w b o1 v xs) : ∃ A c, v = .slice A xs.length c ∧ IVc A c xs w := by
 obtain ⟨A, c, e, h1, h2⟩ := Kd.R_reads s
 exact ⟨A, c, e, h1, h2⟩
end
theorem laws_big.callsF {w : World} {A0 : Option Addr} {c0 : Nat} {l0 : List Int} {r0 : Bool} (h0 : BVc A0 c0 l0 w) (h : laws_big.f l0 = some r0) :
  Calls Try.prog 45 #[.slice A0 l0.length c0] w fun e w' => e = .returned (.bool r0) ∧ Below w.heap.size w w' := by
 refine (laws_big.calls A0 c0 l0 r0 w h0.2 h0.1 h).mono ?_
 rintro e w' ⟨rfl, hb⟩
 exact ⟨rfl, hb.below⟩
theorem spec_DrawWheel.callsF {w : World} {k : Nat} {A0 : Option Addr} {c0 : Nat} {l0 : List Int} {r0 : Int} {m01 m02 : List (List S46)} {m03 : List S46} {r1 : Int} (h0 : BVc A0 c0 l0 w) (h : spec_DrawWheel.f k l0 = some (r0, m01, m02, m03, r1)) :
  Calls Try.prog 52 #[.slice A0 l0.length c0] w fun e w' => ∃ B01 d01 B02 d02 B03 d03, e = .returned (.tuple #[.agg #[.int .i64 r0, .slice B01 m01.length d01, .slice B02 m02.length d02, .slice B03 m03.length d03], .int .i64 r1]) ∧ WVc B01 d01 m01 B02 d02 m02 B03 d03 m03 w' ∧ Below w.heap.size w w' := by
 refine (spec_DrawWheel.calls k A0 c0 l0 r0 m01 m02 m03 r1 w h0.2 h0.1 h).mono ?_
 rintro e w' ⟨v01, v02, v03, rfl, s01, s02, s03, hb⟩
 obtain ⟨B01, d01, B02, d02, B03, d03, rfl, rfl, rfl, hw0⟩ := qvW (Kd.S_N s01) (Kd.S_N s02) s03
 exact ⟨B01, d01, B02, d02, B03, d03, rfl, hw0, hb⟩
theorem impl_Advance.callsF {w : World} {k : Nat} {a0 : Int} {A01 : Option Addr} {c01 : Nat} {A02 : Option Addr} {c02 : Nat} {A03 : Option Addr} {c03 : Nat} {l01 l02 : List (List S46)} {l03 : List S46} {x1 : Int} {r0 : Int} {m01 m02 : List (List S46)} {m03 : List S46} {m1 : List S46} (h0 : WVc A01 c01 l01 A02 c02 l02 A03 c03 l03 w) (h : impl_Advance.f k a0 l01 l02 l03 x1 = some (r0, m01, m02, m03, m1)) :
  Calls Try.prog 39 #[.agg #[.int .i64 a0, .slice A01 l01.length c01, .slice A02 l02.length c02, .slice A03 l03.length c03], .int .i64 x1] w fun e w' => ∃ B01 d01 B02 d02 B03 d03 B1 d1, e = .returned (.tuple #[.agg #[.int .i64 r0, .slice B01 m01.length d01, .slice B02 m02.length d02, .slice B03 m03.length d03], .slice B1 m1.length d1]) ∧ WVc B01 d01 m01 B02 d02 m02 B03 d03 m03 w' ∧ TVc B1 d1 m1 w' ∧ Below w.heap.size w w' := by
 refine (impl_Advance.calls k a0 A01 c01 l01 A02 c02 l02 A03 c03 l03 x1 r0 m01 m02 m03 m1 w h0.2.1 h0.1.1 h0.2.2.1 h0.1.2.1 h0.2.2.2 h0.1.2.2 h).mono ?_
 rintro e w' ⟨v01, v02, v03, v1, rfl, s01, s02, s03, s1, hb⟩
 obtain ⟨B01, d01, B02, d02, B03, d03, rfl, rfl, rfl, hw0⟩ := qvW (Kd.S_N s01) (Kd.S_N s02) s03
 obtain ⟨B1, d1, rfl, hw1⟩ := qvT s1
 exact ⟨B01, d01, B02, d02, B03, d03, B1, d1, rfl, hw0, hw1, hb⟩
theorem laws_at.callsF {w : World} {A0 : Option Addr} {c0 : Nat} {l0 : List Int} {x1 : Int} {r0 : Int} (h0 : BVc A0 c0 l0 w) (h : laws_at.f l0 x1 = some r0) :
  Calls Try.prog 53 #[.slice A0 l0.length c0, .int .i64 x1] w fun e w' => e = .returned (.int .i64 r0) ∧ Below w.heap.size w w' := by
 refine (laws_at.calls A0 c0 l0 x1 r0 w h0.2 h0.1 h).mono ?_
 rintro e w' ⟨rfl, hb⟩
 exact ⟨rfl, hb.below⟩
theorem impl_DueBy.callsF {w : World} {k : Nat} {a0 : Int} {A01 : Option Addr} {c01 : Nat} {A02 : Option Addr} {c02 : Nat} {A03 : Option Addr} {c03 : Nat} {l01 l02 : List (List S46)} {l03 : List S46} {x1 : Int} {m0 : List Int} (h0 : WVc A01 c01 l01 A02 c02 l02 A03 c03 l03 w) (h : impl_DueBy.f k a0 l01 l02 l03 x1 = some m0) :
  Calls Try.prog 41 #[.agg #[.int .i64 a0, .slice A01 l01.length c01, .slice A02 l02.length c02, .slice A03 l03.length c03], .int .i64 x1] w fun e w' => ∃ B0 d0, e = .returned (.slice B0 m0.length d0) ∧ IVc B0 d0 m0 w' ∧ Below w.heap.size w w' := by
 refine (impl_DueBy.calls k a0 A01 c01 l01 A02 c02 l02 A03 c03 l03 x1 m0 w h0.2.1 h0.1.1 h0.2.2.1 h0.1.2.1 h0.2.2.2 h0.1.2.2 h).mono ?_
 rintro e w' ⟨v0, rfl, s0, hb⟩
 obtain ⟨B0, d0, rfl, hw0⟩ := qvI s0
 exact ⟨B0, d0, rfl, hw0, hb⟩
theorem spec_DrawAdvance.callsF {w : World} {k : Nat} {A0 : Option Addr} {c0 : Nat} {l0 : List Int} {r0 : Int} {m01 m02 : List (List S46)} {m03 : List S46} {r1 : Int} (h0 : BVc A0 c0 l0 w) (h : spec_DrawAdvance.f k l0 = some (r0, m01, m02, m03, r1)) :
  Calls Try.prog 54 #[.slice A0 l0.length c0] w fun e w' => ∃ B01 d01 B02 d02 B03 d03, e = .returned (.tuple #[.agg #[.int .i64 r0, .slice B01 m01.length d01, .slice B02 m02.length d02, .slice B03 m03.length d03], .int .i64 r1]) ∧ WVc B01 d01 m01 B02 d02 m02 B03 d03 m03 w' ∧ Below w.heap.size w w' := by
 refine (spec_DrawAdvance.calls k A0 c0 l0 r0 m01 m02 m03 r1 w h0.2 h0.1 h).mono ?_
 rintro e w' ⟨v01, v02, v03, rfl, s01, s02, s03, hb⟩
 obtain ⟨B01, d01, B02, d02, B03, d03, rfl, rfl, rfl, hw0⟩ := qvW s01 s02 s03
 exact ⟨B01, d01, B02, d02, B03, d03, rfl, hw0, hb⟩
theorem spec_Advance.callsF {w : World} {k : Nat} {a0 : Int} {A01 : Option Addr} {c01 : Nat} {A02 : Option Addr} {c02 : Nat} {A03 : Option Addr} {c03 : Nat} {l01 l02 : List (List S46)} {l03 : List S46} {x1 : Int} {r0 : Int} {m01 m02 : List (List S46)} {m03 : List S46} {m1 : List S46} (h0 : WVc A01 c01 l01 A02 c02 l02 A03 c03 l03 w) (h : spec_Advance.f k a0 l01 l02 l03 x1 = some (r0, m01, m02, m03, m1)) :
  Calls Try.prog 38 #[.agg #[.int .i64 a0, .slice A01 l01.length c01, .slice A02 l02.length c02, .slice A03 l03.length c03], .int .i64 x1] w fun e w' => ∃ B01 d01 B02 d02 B03 d03 B1 d1, e = .returned (.tuple #[.agg #[.int .i64 r0, .slice B01 m01.length d01, .slice B02 m02.length d02, .slice B03 m03.length d03], .slice B1 m1.length d1]) ∧ WVc B01 d01 m01 B02 d02 m02 B03 d03 m03 w' ∧ TVc B1 d1 m1 w' ∧ Below w.heap.size w w' := by
 refine (spec_Advance.calls k a0 A01 c01 l01 A02 c02 l02 A03 c03 l03 x1 r0 m01 m02 m03 m1 w h0.2.1 h0.1.1 h0.2.2.1 h0.1.2.1 h0.2.2.2 h0.1.2.2 h).mono ?_
 rintro e w' ⟨v01, v02, v03, v1, rfl, s01, s02, s03, s1, hb⟩
 obtain ⟨B01, d01, B02, d02, B03, d03, rfl, rfl, rfl, hw0⟩ := qvW (Kd.S_N s01) (Kd.S_N s02) s03
 obtain ⟨B1, d1, rfl, hw1⟩ := qvT s1
 exact ⟨B01, d01, B02, d02, B03, d03, B1, d1, rfl, hw0, hw1, hb⟩
theorem laws_sameWheel.callsF {w : World} {k : Nat} {a0 : Int} {A01 : Option Addr} {c01 : Nat} {A02 : Option Addr} {c02 : Nat} {A03 : Option Addr} {c03 : Nat} {l01 l02 : List (List S46)} {l03 : List S46} {a1 : Int} {A11 : Option Addr} {c11 : Nat} {A12 : Option Addr} {c12 : Nat} {A13 : Option Addr} {c13 : Nat} {l11 l12 : List (List S46)} {l13 : List S46} {r0 : Bool} (h0 : WVc A01 c01 l01 A02 c02 l02 A03 c03 l03 w) (h1 : WVc A11 c11 l11 A12 c12 l12 A13 c13 l13 w) (h : laws_sameWheel.f k a0 l01 l02 l03 a1 l11 l12 l13 = some r0) :
  Calls Try.prog 50 #[.agg #[.int .i64 a0, .slice A01 l01.length c01, .slice A02 l02.length c02, .slice A03 l03.length c03], .agg #[.int .i64 a1, .slice A11 l11.length c11, .slice A12 l12.length c12, .slice A13 l13.length c13]] w fun e w' => e = .returned (.bool r0) ∧ Below w.heap.size w w' := by
 refine (laws_sameWheel.calls k a0 A01 c01 l01 A02 c02 l02 A03 c03 l03 a1 A11 c11 l11 A12 c12 l12 A13 c13 l13 r0 w h0.2.1 h0.1.1 h0.2.2.1 h0.1.2.1 h0.2.2.2 h0.1.2.2 h1.2.1 h1.1.1 h1.2.2.1 h1.1.2.1 h1.2.2.2 h1.1.2.2 h).mono ?_
 rintro e w' ⟨rfl, hb⟩
 exact ⟨rfl, hb⟩
theorem laws_sameTimers.callsF {w : World} {k : Nat} {A0 : Option Addr} {c0 : Nat} {l0 : List S46} {A1 : Option Addr} {c1 : Nat} {l1 : List S46} {r0 : Bool} (h0 : TVc A0 c0 l0 w) (h1 : TVc A1 c1 l1 w) (h : laws_sameTimers.f k l0 l1 = some r0) :
  Calls Try.prog 51 #[.slice A0 l0.length c0, .slice A1 l1.length c1] w fun e w' => e = .returned (.bool r0) ∧ Below w.heap.size w w' := by
 refine (laws_sameTimers.calls k A0 c0 l0 A1 c1 l1 r0 w h0.2 h0.1 h1.2 h1.1 h).mono ?_
 rintro e w' ⟨rfl, hb⟩
 exact ⟨rfl, hb.below⟩
theorem impl_WheelOk.callsF {w : World} {k : Nat} {a0 : Int} {A01 : Option Addr} {c01 : Nat} {A02 : Option Addr} {c02 : Nat} {A03 : Option Addr} {c03 : Nat} {l01 l02 : List (List S46)} {l03 : List S46} {r0 : Bool} (h0 : WVc A01 c01 l01 A02 c02 l02 A03 c03 l03 w) (h : impl_WheelOk.f k a0 l01 l02 l03 = some r0) :
  Calls Try.prog 30 #[.agg #[.int .i64 a0, .slice A01 l01.length c01, .slice A02 l02.length c02, .slice A03 l03.length c03]] w fun e w' => e = .returned (.bool r0) ∧ Below w.heap.size w w' := by
 refine (impl_WheelOk.calls k a0 A01 c01 l01 A02 c02 l02 A03 c03 l03 r0 w h0.2.1 h0.1.1 h0.2.2.1 h0.1.2.1 h0.2.2.2 h0.1.2.2 h).mono ?_
 rintro e w' ⟨rfl, hb⟩
 exact ⟨rfl, hb⟩
theorem impl_Timers.callsF {w : World} {k : Nat} {a0 : Int} {A01 : Option Addr} {c01 : Nat} {A02 : Option Addr} {c02 : Nat} {A03 : Option Addr} {c03 : Nat} {l01 l02 : List (List S46)} {l03 : List S46} {m0 : List S46} (h0 : WVc A01 c01 l01 A02 c02 l02 A03 c03 l03 w) (h : impl_Timers.f k a0 l01 l02 l03 = some m0) :
  Calls Try.prog 25 #[.agg #[.int .i64 a0, .slice A01 l01.length c01, .slice A02 l02.length c02, .slice A03 l03.length c03]] w fun e w' => ∃ B0 d0, e = .returned (.slice B0 m0.length d0) ∧ TVc B0 d0 m0 w' ∧ Below w.heap.size w w' := by
 refine (impl_Timers.calls k a0 A01 c01 l01 A02 c02 l02 A03 c03 l03 m0 w h0.2.1 h0.1.1 h0.2.2.1 h0.1.2.1 h0.2.2.2 h0.1.2.2 h).mono ?_
 rintro e w' ⟨v0, rfl, s0, hb⟩
 obtain ⟨B0, d0, rfl, hw0⟩ := qvT s0
 exact ⟨B0, d0, rfl, hw0, hb⟩
def dueOk (want : List Int) (hi : Int) : List S46 → Int → Bool
 | [], _ => true
 | t :: d, last => want.contains t.f0 && (decide (last ≤ t.f2) && (decide (t.f2 ≤ hi) && dueOk want hi d t.f2))
def lastI (a : Int) (d : List S46) (x : Int) : Int := if x = 0 then a else (rd_T46 d (x - 1)).f2
theorem lastI_next (a : Int) (d : List S46) (x : Int) (h : 0 ≤ x) : lastI a d (x + 1) = (rd_T46 d x).f2 := by
 unfold lastI
 rw [if_neg (by omega), show x + 1 - 1 = x by omega]
def fndI (u : List Int) (i j : Int) : Bool := (u.take j.toNat).contains i
theorem fndI_next (u : List Int) (i j : Int) (h0 : 0 ≤ j) (h1 : j < (u.length : Int)) : fndI u i (j + 1) = (fndI u i j || (rd u j == i)) := by
 obtain ⟨n, rfl⟩ : ∃ n : Nat, j = (n : Int) := ⟨j.toNat, by omega⟩
 have hn : n < u.length := by omega
 have e : rd u (n : Int) = u[n] := by simp [rd, List.getD_eq_getElem?_getD, hn]
 unfold fndI
 rw [show ((n : Int) + 1).toNat = n + 1 by omega, Int.toNat_natCast, e, List.take_succ_eq_append_getElem hn, List.contains_eq_any_beq, List.any_append, ← List.contains_eq_any_beq]
 congr 1
 simp only [List.any_cons, List.any_nil, Bool.or_false]
 exact Bool.beq_comm
theorem fndI_all {u : List Int} {i : Int} (h : u.contains i = true) : fndI u i (u.length : Int) = true := by
 unfold fndI
 rw [Int.toNat_natCast, List.take_length]
 exact h
theorem wrap_len {n : Nat} (x : Int) (h0 : 0 ≤ x) (h1 : x < (n : Int)) (h : n ≤ 9223372036854775807) : wrap64 (x + 1) = x + 1 := by
 unfold wrap64
 omega
theorem due_nat (u : List Int) (hi : Int) : ∀ (d : List S46) (a : Int), dueOk u hi d a = true → ∀ (i : Nat) (h : i < d.length), u.contains d[i].f0 = true ∧ (if i = 0 then a else (d.getD (i - 1) z46).f2) ≤ d[i].f2 ∧ d[i].f2 ≤ hi := by
 intro d
 induction d with
 | nil => exact fun a _ i h => absurd h (by simp)
 | cons t d ih =>
  intro a h i hi_
  simp only [dueOk, Bool.and_eq_true, decide_eq_true_eq] at h
  obtain ⟨h1, h2, h3, h4⟩ := h
  cases i with
  | zero => exact ⟨h1, h2, h3⟩
  | succ i =>
   obtain ⟨g1, g2, g3⟩ := ih t.f2 h4 i (by simpa using hi_)
   refine ⟨g1, ?_, g3⟩
   rw [if_neg (by omega), Nat.add_sub_cancel]
   cases i with
   | zero => simpa using g2
   | succ i =>
    rw [if_neg (by omega), Nat.add_sub_cancel] at g2
    simpa using g2
theorem due_at {u : List Int} {hi a : Int} {d : List S46} (h : dueOk u hi d a = true) : ∀ x : Int, 0 ≤ x → x < (d.length : Int) → u.contains (rd_T46 d x).f0 = true ∧ lastI a d x ≤ (rd_T46 d x).f2 ∧ (rd_T46 d x).f2 ≤ hi := by
 intro x h0 h1
 obtain ⟨n, rfl⟩ : ∃ n : Nat, x = (n : Int) := ⟨x.toNat, by omega⟩
 have hn : n < d.length := by omega
 have e : rd_T46 d (n : Int) = d[n] := by simp [rd_T46, List.getD_eq_getElem?_getD, hn]
 obtain ⟨g1, g2, g3⟩ := due_nat u hi d a h n hn
 rw [e]
 refine ⟨g1, ?_, g3⟩
 unfold lastI
 by_cases c : n = 0
 ·subst c
  exact g2
 ·rw [if_neg c] at g2
  rw [if_neg (by omega)]
  have e2 : rd_T46 d ((n : Int) - 1) = d.getD (n - 1) z46 := by
   unfold rd_T46
   rw [show ((n : Int) - 1).toNat = n - 1 by omega]
  rw [e2]
  exact g2
def laws_FnTimes.f (k : Nat) (l0 : List Int) : Option Bool :=
 (laws_big.f l0).bind fun b => (if b = true then some true else (spec_DrawWheel.f k l0).bind fun W => (impl_Advance.f k W.1 W.2.1 W.2.2.1 W.2.2.2.1 W.2.2.2.2).bind fun X => (laws_at.f l0 2).bind fun c => (if wrap64 (W.2.2.2.2 + 1) = 0 then none else
  (impl_Advance.f k W.1 W.2.1 W.2.2.1 W.2.2.2.1 (Int.tmod c (wrap64 (W.2.2.2.2 + 1)))).bind fun A => (impl_Advance.f k A.1 A.2.1 A.2.2.1 A.2.2.2.1 (wrap64 (W.2.2.2.2 - (Int.tmod c (wrap64 (W.2.2.2.2 + 1)))))).bind fun B => (impl_DueBy.f k W.1 W.2.1 W.2.2.1 W.2.2.2.1 (wrap64 (W.1 + W.2.2.2.2))).bind fun u =>
  (spec_DrawAdvance.f k l0).bind fun V => (impl_Advance.f k V.1 V.2.1 V.2.2.1 V.2.2.2.1 V.2.2.2.2).bind fun Y => (spec_Advance.f k V.1 V.2.1 V.2.2.1 V.2.2.2.1 V.2.2.2.2).bind fun Z => (laws_sameWheel.f k Y.1 Y.2.1 Y.2.2.1 Y.2.2.2.1 Z.1 Z.2.1 Z.2.2.1 Z.2.2.2.1).bind fun e1 => (if e1 = true then (laws_sameTimers.f k Y.2.2.2.2 Z.2.2.2.2).bind fun e2 => (if e2 = true then
  (impl_WheelOk.f k X.1 X.2.1 X.2.2.1 X.2.2.2.1).bind fun o => (if o = true then (laws_sameWheel.f k X.1 X.2.1 X.2.2.1 X.2.2.2.1 B.1 B.2.1 B.2.2.1 B.2.2.2.1).bind fun e3 => (if e3 = true then (if (X.2.2.2.2.length : Int) = wrap64 ((A.2.2.2.2.length : Int) + (B.2.2.2.2.length : Int)) then (if (X.2.2.2.2.length : Int) = (u.length : Int) then (if X.1 = wrap64 (W.1 + W.2.2.2.2) then (if dueOk u X.1 X.2.2.2.2 W.1 = true then
  (impl_Timers.f k X.1 X.2.1 X.2.2.1 X.2.2.2.1).bind fun tx => (impl_Timers.f k W.1 W.2.1 W.2.2.1 W.2.2.2.1).bind fun tw => (if wrap64 ((tx.length : Int) + (X.2.2.2.2.length : Int)) = (tw.length : Int) then some true else none) else none) else none) else none) else none) else none) else none) else none) else none)))
def laws_FnTimes.T22 : Bool × List (List Nat × List Nat) := (true, [([], []), ([0], [0]), ([1], [1]), ([1], [1]), ([2, 3, 1], [1, 2, 3]), ([4, 1], [1, 4]), ([1], [1]), ([1], [1]), ([6, 7, 1], [1, 6, 7]), ([8, 1], [1, 8]), ([9, 1], [1, 9]), ([5, 10, 1], [1, 5, 10]), ([1, 11], [1, 11]), ([12, 1, 0, 1, 2, 3, 4, 5, 6, 7, 8, 9, 10, 11, 12], [0, 12])])
def laws_FnTimes.B22 : List Nat := [0, 1, 3, 3, 15, 31, 3, 3, 195, 451, 963, 2047, 4095, 8191]
theorem laws_FnTimes.tab22 : rtab .any (opsOf Try.f13 22) = laws_FnTimes.T22 := by kernel_rfl
theorem laws_FnTimes.bits22 : waitsOk laws_FnTimes.T22.2 laws_FnTimes.B22 = true := by kernel_rfl
def laws_FnTimes.T23 : Bool × List (List Nat × List Nat) := (true, [([], []), ([0], [0]), ([1], [1]), ([2], [2]), ([2], [2]), ([3, 4, 2], [2, 3, 4]), ([5, 2], [2, 5]), ([6, 2], [2, 6]), ([2], [2]), ([7, 8, 2], [2, 7, 8]), ([2, 9], [2, 9]), ([10, 2], [10]), ([11], [11]), ([11], [11]), ([12, 13, 11], [11, 12, 13]), ([14, 11], [11, 14]), ([15, 11], [11, 15]), ([11], [11]), ([17, 11], [11, 17]), ([16, 18, 11], [11, 16, 18]), ([11, 19], [11, 19])])
def laws_FnTimes.B23 : List Nat := [0, 1, 3, 7, 7, 31, 63, 127, 7, 511, 1023, 2047, 4095, 4095, 16383, 32767, 65535, 4095, 135167, 524287, 1048575]
theorem laws_FnTimes.tab23 : rtab .any (opsOf Try.f13 23) = laws_FnTimes.T23 := by kernel_rfl
theorem laws_FnTimes.bits23 : waitsOk laws_FnTimes.T23.2 laws_FnTimes.B23 = true := by kernel_rfl
def laws_FnTimes.T26 : Bool × List (List Nat × List Nat) := (true, [([], []), ([0], [0]), ([1], [1]), ([], []), ([3], [3]), ([2, 4], [2, 4]), ([], []), ([6, 1], [6]), ([7], [7]), ([5, 8], [5, 8]), ([9, 7, 0, 1, 2, 3, 4, 5, 6, 7, 8, 9], [9])])
def laws_FnTimes.B26 : List Nat := [0, 1, 3, 0, 8, 31, 0, 67, 195, 511, 1023]
theorem laws_FnTimes.tab26 : rtab .any (opsOf Try.f13 26) = laws_FnTimes.T26 := by kernel_rfl
theorem laws_FnTimes.bits26 : waitsOk laws_FnTimes.T26.2 laws_FnTimes.B26 = true := by kernel_rfl
set_option maxHeartbeats 8000000 in
set_option maxRecDepth 100000 in
theorem laws_FnTimes.calls (k : Nat) (A0 : Option Addr) (c0 : Nat) (l0 : List Int) (r : Bool) (w : World) (hr0 : Kd.C (Kd.int .u8) w A0 l0.length l0) (hc0 : l0.length ≤ c0) (hrt_ : Aside0 (r = true)) (h : laws_FnTimes.f k l0 = some r) :
  Calls Try.prog 13 #[.slice A0 l0.length c0] w fun e w' => e = .returned (.bool r) ∧ Below w.heap.size w w' := by
 have hu25 := Try.underlying25
 have hu46 := Try.underlying46
 have HC : Aside0 (BVc A0 c0 l0 w) := ⟨hc0, hr0⟩
 clear hr0 hc0
 have HB := aM (Below.refl w.heap.size w)
 obtain rfl := hrt_.out
 clear hrt_
 unfold laws_FnTimes.f at h
 replace h := zO h
 obtain ⟨bg, AB, h⟩ := h
 (try dsimp only at h)
 by_cases c0_ : bg = true
 ·subst c0_
  clear h
  go_enter Try.func13, Try.ntmps13
  go_wp2_with (first | ((with_reducible refine gC 45 rfl ?_); refine gL 24 Try.func45 #[.slice A0 l0.length c0] ?_; (refine (laws_big.callsF (zVC HC HB.out) AB.out).mono ?_); rintro e w0_ ⟨rfl, hb⟩; refine ⟨_, rfl, ?_⟩;   replace HB := zLB HB.out hb; clear hb;  ))
  go_ret
  exact ⟨rfl, HB.out⟩
 obtain rfl := Bool.eq_false_iff.mpr c0_
 rw [if_neg zn] at h
 replace h := zO h
 obtain ⟨⟨w0, w1, w2, w3, n⟩, AW, h⟩ := h
 (try dsimp only at h)
 replace h := zO h
 obtain ⟨⟨x0, x1, x2, x3, d⟩, AX, h⟩ := h
 (try dsimp only at h)
 replace h := zO h
 obtain ⟨c, AC, h⟩ := h
 (try dsimp only at h)
 by_cases cz : wrap64 (n + 1) = 0
 ·rw [if_pos cz] at h; exact absurd h (by simp)
 rw [if_neg cz] at h
 obtain ⟨czb0, czb1⟩ := zf cz
 replace h := zO h
 obtain ⟨⟨s0, s1, s2, s3, f⟩, AA, h⟩ := h
 (try dsimp only at h)
 replace h := zO h
 obtain ⟨⟨r0, r1, r2, r3, g⟩, AB_, h⟩ := h
 (try dsimp only at h)
 replace h := zO h
 obtain ⟨u, AU, h⟩ := h
 (try dsimp only at h)
 replace h := zO h
 obtain ⟨⟨v0, v1, v2, v3, m⟩, AV, h⟩ := h
 (try dsimp only at h)
 replace h := zO h
 obtain ⟨⟨y0, y1, y2, y3, j⟩, AY, h⟩ := h
 (try dsimp only at h)
 replace h := zO h
 obtain ⟨⟨z0, z1, z2, z3, q⟩, AZ, h⟩ := h
 (try dsimp only at h)
 replace h := zO h
 obtain ⟨e1, E1, h⟩ := h
 (try dsimp only at h)
 by_cases c1 : e1 = true
 rotate_left
 ·rw [if_neg c1] at h
  exact absurd h (by simp)
 rw [if_pos c1] at h
 subst c1
 replace h := zO h
 obtain ⟨e2, E2, h⟩ := h
 (try dsimp only at h)
 by_cases c2 : e2 = true
 rotate_left
 ·rw [if_neg c2] at h
  exact absurd h (by simp)
 rw [if_pos c2] at h
 subst c2
 replace h := zO h
 obtain ⟨o, AO, h⟩ := h
 (try dsimp only at h)
 by_cases c3 : o = true
 rotate_left
 ·rw [if_neg c3] at h
  exact absurd h (by simp)
 rw [if_pos c3] at h
 subst c3
 replace h := zO h
 obtain ⟨e3, E3, h⟩ := h
 (try dsimp only at h)
 by_cases c4 : e3 = true
 rotate_left
 ·rw [if_neg c4] at h
  exact absurd h (by simp)
 rw [if_pos c4] at h
 subst c4
 by_cases c5 : (d.length : Int) = wrap64 ((f.length : Int) + (g.length : Int))
 rotate_left
 ·rw [if_neg c5] at h
  exact absurd h (by simp)
 rw [if_pos c5] at h
 by_cases c6 : (d.length : Int) = (u.length : Int)
 rotate_left
 ·rw [if_neg c6] at h
  exact absurd h (by simp)
 rw [if_pos c6] at h
 by_cases c7 : x0 = wrap64 (w0 + n)
 rotate_left
 ·rw [if_neg c7] at h
  exact absurd h (by simp)
 rw [if_pos c7] at h
 by_cases c8 : dueOk u x0 d w0 = true
 rotate_left
 ·rw [if_neg c8] at h
  exact absurd h (by simp)
 rw [if_pos c8] at h
 replace h := zO h
 obtain ⟨tx, AT, h⟩ := h
 (try dsimp only at h)
 replace h := zO h
 obtain ⟨tw, AT2, h⟩ := h
 (try dsimp only at h)
 by_cases c9 : wrap64 ((tx.length : Int) + (d.length : Int)) = (tw.length : Int)
 rotate_left
 ·rw [if_neg c9] at h
  exact absurd h (by simp)
 rw [if_pos c9] at h
 obtain ⟨c5a, c5b⟩ := zt c5
 obtain ⟨c6a, c6b⟩ := zt c6
 have c6c : (d.length != u.length) = false := by first | simpa using c6 | (simp at c6 ⊢; omega)
 obtain ⟨c7a, c7b⟩ := zt c7
 obtain ⟨c9a, c9b⟩ := zt c9
 have HA := aM (due_at c8)
 clear h c5 c6 c7 c8 c9
 go_enter Try.func13, Try.ntmps13
 go_wp2_with (first | ((with_reducible refine gC 45 rfl ?_); refine gL 24 Try.func45 #[.slice A0 l0.length c0] ?_; (refine (laws_big.callsF (zVC HC HB.out) AB.out).mono ?_); rintro e w0_ ⟨rfl, hb⟩; refine ⟨_, rfl, ?_⟩;   replace HB := zLB HB.out hb; clear hb;  ) | ((with_reducible refine gC 52 rfl ?_); refine gL 27 Try.func52 #[.slice A0 l0.length c0] ?_; (refine (spec_DrawWheel.callsF (zVC HC HB.out) AW.out).mono ?_); rintro e w1_ ⟨WA, wka, WB, wkb, WC, wkc, rfl, hnW, hb⟩; refine ⟨_, rfl, ?_⟩;   replace HB := zLB HB.out hb; clear hb; have HW := aM hnW; clear hnW; ) | ((with_reducible refine gD 3 rfl ?_); refine bE 3 #[.int .i64 0, .slice none 0 0, .slice none 0 0, .slice none 0 0] 25 ?_; intro g3 hg w2_ hbox hb; have GE3 := aM (Nat.le_of_eq hg.symm); have HP := aM hb; have BK3 := aM hbox; clear hbox hg hb; (try clear hz3_); have hz3_ := zc4 BK3.out;) | ((with_reducible refine gate_store (t := 25) (p := 3) rfl ?_); have hs0_ := (blk_cell BK3.out 0).trans rfl; have hf0_ := blk_frozen BK3.out 0; have hs1_ := (blk_cell BK3.out 1).trans rfl; have hf1_ := blk_frozen BK3.out 1; have hs2_ := (blk_cell BK3.out 2).trans rfl; have hf2_ := blk_frozen BK3.out 2; have hs3_ := (blk_cell BK3.out 3).trans rfl; have hf3_ := blk_frozen BK3.out 3; refine store_event (t := 25) (p := 3) (v := ?vlx3_) (w1 := ((((w2_.setCell ⟨g3, 0, none⟩ (.int .i64 w0)).setCell ⟨g3, 1, none⟩ (.slice WA w1.length wka)).setCell ⟨g3, 2, none⟩ (.slice WB w2.length wkb)).setCell ⟨g3, 3, none⟩ (.slice WC w3.length wkc))) ?hg ?ho ?hn ?hr ?_; (case ho => rfl); (case hg => rfl); (case hn => rfl); (case hr => first | (go_simp; done) | (go_simp; rfl)); intro w4_ hw_; have HK_ := set4_kept hw_; have BKn := aM (set4_blk hw_ BK3.out rfl); replace HP := aM (set4_below hw_ HP.out GE3.out);  clear BK3; have BK3 := BKn; clear BKn hw_ HK_ hs0_ hf0_ hs1_ hf1_ hs2_ hf2_ hs3_ hf3_; have hb := HP.out; replace HW := zVW HW hb;  replace HB := zLB HB.out hb; clear hb HP GE3; (try clear hz3_); have hz3_ := zc4 BK3.out;) | ((with_reducible refine gC 39 rfl ?_); refine gL 33 Try.func39 #[.agg #[.int .i64 w0, .slice WA w1.length wka, .slice WB w2.length wkb, .slice WC w3.length wkc], .int .i64 n] ?_; (refine (impl_Advance.callsF HW.out AX.out).mono ?_); rintro e w5_ ⟨XA, xka, XB, xkb, XC, xkc, DD, dd, rfl, hnX, hnD, hb⟩; refine ⟨_, rfl, ?_⟩; replace HW := zVW HW hb; replace BK3 := zBB BK3 hb; replace HB := zLB HB.out hb; clear hb; have HX := aM hnX; have HD := aM hnD; clear hnX hnD; (try clear hz3_); have hz3_ := zc4 BK3.out;) | ((with_reducible refine gD 5 rfl ?_); refine bE 5 #[.int .i64 0, .slice none 0 0, .slice none 0 0, .slice none 0 0] 25 ?_; intro g5 hg w6_ hbox hb; have GE5 := aM (Nat.le_of_eq hg.symm); have HP := aM hb; have BK5 := aM hbox; clear hbox hg hb; (try clear hz5_); have hz5_ := zc4 BK5.out;) | ((with_reducible refine gate_store (t := 25) (p := 5) rfl ?_); have hs0_ := (blk_cell BK5.out 0).trans rfl; have hf0_ := blk_frozen BK5.out 0; have hs1_ := (blk_cell BK5.out 1).trans rfl; have hf1_ := blk_frozen BK5.out 1; have hs2_ := (blk_cell BK5.out 2).trans rfl; have hf2_ := blk_frozen BK5.out 2; have hs3_ := (blk_cell BK5.out 3).trans rfl; have hf3_ := blk_frozen BK5.out 3; refine store_event (t := 25) (p := 5) (v := ?vlx7_) (w1 := ((((w6_.setCell ⟨g5, 0, none⟩ (.int .i64 x0)).setCell ⟨g5, 1, none⟩ (.slice XA x1.length xka)).setCell ⟨g5, 2, none⟩ (.slice XB x2.length xkb)).setCell ⟨g5, 3, none⟩ (.slice XC x3.length xkc))) ?hg ?ho ?hn ?hr ?_; (case ho => rfl); (case hg => rfl); (case hn => rfl); (case hr => first | (go_simp; done) | (go_simp; rfl)); intro w8_ hw_; have HK_ := set4_kept hw_; have BKn := aM (set4_blk hw_ BK5.out rfl); replace HP := aM (set4_below hw_ HP.out GE5.out);  clear BK5; have BK5 := BKn; clear BKn hw_ HK_ hs0_ hf0_ hs1_ hf1_ hs2_ hf2_ hs3_ hf3_; have hb := HP.out; replace HW := zVW HW hb; replace HX := zVW HX hb; replace HD := zVT HD hb; replace BK3 := zBB BK3 hb; replace HB := zLB HB.out hb; clear hb HP GE5; (try clear hz3_); have hz3_ := zc4 BK3.out; (try clear hz5_); have hz5_ := zc4 BK5.out;) | ((with_reducible refine gC 53 rfl ?_); refine gL 37 Try.func53 #[.slice A0 l0.length c0, .int .i64 2] ?_; (refine (laws_at.callsF (zVC HC HB.out) AC.out).mono ?_); rintro e w9_ ⟨rfl, hb⟩; refine ⟨_, rfl, ?_⟩; replace HW := zVW HW hb; replace HX := zVW HX hb; replace HD := zVT HD hb; replace BK3 := zBB BK3 hb; replace BK5 := zBB BK5 hb; replace HB := zLB HB.out hb; clear hb;  (try clear hz3_); have hz3_ := zc4 BK3.out; (try clear hz5_); have hz5_ := zc4 BK5.out;) | ((with_reducible refine gC 39 rfl ?_); refine gL 44 Try.func39 #[.agg #[.int .i64 w0, .slice WA w1.length wka, .slice WB w2.length wkb, .slice WC w3.length wkc], .int .i64 (Int.tmod c (wrap64 (n + 1)))] ?_; (refine (impl_Advance.callsF HW.out AA.out).mono ?_); rintro e w10_ ⟨SA, ska, SB, skb, SC, skc, FD, fd, rfl, hnS, hnF, hb⟩; refine ⟨_, rfl, ?_⟩; replace HW := zVW HW hb; replace HX := zVW HX hb; replace HD := zVT HD hb; replace BK3 := zBB BK3 hb; replace BK5 := zBB BK5 hb; replace HB := zLB HB.out hb; clear hb; have HS := aM hnS; have HF := aM hnF; clear hnS hnF; (try clear hz3_); have hz3_ := zc4 BK3.out; (try clear hz5_); have hz5_ := zc4 BK5.out;) | ((with_reducible refine gD 8 rfl ?_); refine bE 8 #[.int .i64 0, .slice none 0 0, .slice none 0 0, .slice none 0 0] 25 ?_; intro g8 hg w11_ hbox hb; have GE8 := aM (Nat.le_of_eq hg.symm); have HP := aM hb; have BK8 := aM hbox; clear hbox hg hb; (try clear hz8_); have hz8_ := zc4 BK8.out;) | ((with_reducible refine gate_store (t := 25) (p := 8) rfl ?_); have hs0_ := (blk_cell BK8.out 0).trans rfl; have hf0_ := blk_frozen BK8.out 0; have hs1_ := (blk_cell BK8.out 1).trans rfl; have hf1_ := blk_frozen BK8.out 1; have hs2_ := (blk_cell BK8.out 2).trans rfl; have hf2_ := blk_frozen BK8.out 2; have hs3_ := (blk_cell BK8.out 3).trans rfl; have hf3_ := blk_frozen BK8.out 3; refine store_event (t := 25) (p := 8) (v := ?vlx12_) (w1 := ((((w11_.setCell ⟨g8, 0, none⟩ (.int .i64 s0)).setCell ⟨g8, 1, none⟩ (.slice SA s1.length ska)).setCell ⟨g8, 2, none⟩ (.slice SB s2.length skb)).setCell ⟨g8, 3, none⟩ (.slice SC s3.length skc))) ?hg ?ho ?hn ?hr ?_; (case ho => rfl); (case hg => rfl); (case hn => rfl); (case hr => first | (go_simp; done) | (go_simp; rfl)); intro w13_ hw_; have HK_ := set4_kept hw_; have BKn := aM (set4_blk hw_ BK8.out rfl); replace HP := aM (set4_below hw_ HP.out GE8.out);  clear BK8; have BK8 := BKn; clear BKn hw_ HK_ hs0_ hf0_ hs1_ hf1_ hs2_ hf2_ hs3_ hf3_; have hb := HP.out; replace HW := zVW HW hb; replace HX := zVW HX hb; replace HD := zVT HD hb; replace HS := zVW HS hb; replace HF := zVT HF hb; replace BK3 := zBB BK3 hb; replace BK5 := zBB BK5 hb; replace HB := zLB HB.out hb; clear hb HP GE8; (try clear hz3_); have hz3_ := zc4 BK3.out; (try clear hz5_); have hz5_ := zc4 BK5.out; (try clear hz8_); have hz8_ := zc4 BK8.out;) | ((with_reducible refine gC 39 rfl ?_); refine gL 52 Try.func39 #[.agg #[.int .i64 s0, .slice SA s1.length ska, .slice SB s2.length skb, .slice SC s3.length skc], .int .i64 (wrap64 (n - (Int.tmod c (wrap64 (n + 1)))))] ?_; (refine (impl_Advance.callsF HS.out AB_.out).mono ?_); rintro e w14_ ⟨RA, rka, RB, rkb, RC, rkc, GD, gd, rfl, hnR, hnG, hb⟩; refine ⟨_, rfl, ?_⟩; replace HW := zVW HW hb; replace HX := zVW HX hb; replace HD := zVT HD hb; replace HS := zVW HS hb; replace HF := zVT HF hb; replace BK3 := zBB BK3 hb; replace BK5 := zBB BK5 hb; replace BK8 := zBB BK8 hb; replace HB := zLB HB.out hb; clear hb; have HR := aM hnR; have HG := aM hnG; clear hnR hnG; (try clear hz3_); have hz3_ := zc4 BK3.out; (try clear hz5_); have hz5_ := zc4 BK5.out; (try clear hz8_); have hz8_ := zc4 BK8.out;) | ((with_reducible refine gD 10 rfl ?_); refine bE 10 #[.int .i64 0, .slice none 0 0, .slice none 0 0, .slice none 0 0] 25 ?_; intro g10 hg w15_ hbox hb; have GE10 := aM (Nat.le_of_eq hg.symm); have HP := aM hb; have BK10 := aM hbox; clear hbox hg hb; (try clear hz10_); have hz10_ := zc4 BK10.out;) | ((with_reducible refine gate_store (t := 25) (p := 10) rfl ?_); have hs0_ := (blk_cell BK10.out 0).trans rfl; have hf0_ := blk_frozen BK10.out 0; have hs1_ := (blk_cell BK10.out 1).trans rfl; have hf1_ := blk_frozen BK10.out 1; have hs2_ := (blk_cell BK10.out 2).trans rfl; have hf2_ := blk_frozen BK10.out 2; have hs3_ := (blk_cell BK10.out 3).trans rfl; have hf3_ := blk_frozen BK10.out 3; refine store_event (t := 25) (p := 10) (v := ?vlx16_) (w1 := ((((w15_.setCell ⟨g10, 0, none⟩ (.int .i64 r0)).setCell ⟨g10, 1, none⟩ (.slice RA r1.length rka)).setCell ⟨g10, 2, none⟩ (.slice RB r2.length rkb)).setCell ⟨g10, 3, none⟩ (.slice RC r3.length rkc))) ?hg ?ho ?hn ?hr ?_; (case ho => rfl); (case hg => rfl); (case hn => rfl); (case hr => first | (go_simp; done) | (go_simp; rfl)); intro w17_ hw_; have HK_ := set4_kept hw_; have BKn := aM (set4_blk hw_ BK10.out rfl); replace HP := aM (set4_below hw_ HP.out GE10.out);  clear BK10; have BK10 := BKn; clear BKn hw_ HK_ hs0_ hf0_ hs1_ hf1_ hs2_ hf2_ hs3_ hf3_; have hb := HP.out; replace HW := zVW HW hb; replace HX := zVW HX hb; replace HD := zVT HD hb; replace HS := zVW HS hb; replace HF := zVT HF hb; replace HR := zVW HR hb; replace HG := zVT HG hb; replace BK3 := zBB BK3 hb; replace BK5 := zBB BK5 hb; replace BK8 := zBB BK8 hb; replace HB := zLB HB.out hb; clear hb HP GE10; (try clear hz3_); have hz3_ := zc4 BK3.out; (try clear hz5_); have hz5_ := zc4 BK5.out; (try clear hz8_); have hz8_ := zc4 BK8.out; (try clear hz10_); have hz10_ := zc4 BK10.out;) | ((with_reducible refine gC 41 rfl ?_); refine gL 60 Try.func41 #[.agg #[.int .i64 w0, .slice WA w1.length wka, .slice WB w2.length wkb, .slice WC w3.length wkc], .int .i64 (wrap64 (w0 + n))] ?_; (refine (impl_DueBy.callsF HW.out AU.out).mono ?_); rintro e w18_ ⟨UD, ud, rfl, hnU, hb⟩; refine ⟨_, rfl, ?_⟩; replace HW := zVW HW hb; replace HX := zVW HX hb; replace HD := zVT HD hb; replace HS := zVW HS hb; replace HF := zVT HF hb; replace HR := zVW HR hb; replace HG := zVT HG hb; replace BK3 := zBB BK3 hb; replace BK5 := zBB BK5 hb; replace BK8 := zBB BK8 hb; replace BK10 := zBB BK10 hb; replace HB := zLB HB.out hb; clear hb; have HU := aM hnU; clear hnU; (try clear hz3_); have hz3_ := zc4 BK3.out; (try clear hz5_); have hz5_ := zc4 BK5.out; (try clear hz8_); have hz8_ := zc4 BK8.out; (try clear hz10_); have hz10_ := zc4 BK10.out;) | ((with_reducible refine gC 54 rfl ?_); refine gL 63 Try.func54 #[.slice A0 l0.length c0] ?_; (refine (spec_DrawAdvance.callsF (zVC HC HB.out) AV.out).mono ?_); rintro e w19_ ⟨VA, vka, VB, vkb, VC, vkc, rfl, hnV, hb⟩; refine ⟨_, rfl, ?_⟩; replace HW := zVW HW hb; replace HX := zVW HX hb; replace HD := zVT HD hb; replace HS := zVW HS hb; replace HF := zVT HF hb; replace HR := zVW HR hb; replace HG := zVT HG hb; replace HU := zVI HU hb; replace BK3 := zBB BK3 hb; replace BK5 := zBB BK5 hb; replace BK8 := zBB BK8 hb; replace BK10 := zBB BK10 hb; replace HB := zLB HB.out hb; clear hb; have HV := aM hnV; clear hnV; (try clear hz3_); have hz3_ := zc4 BK3.out; (try clear hz5_); have hz5_ := zc4 BK5.out; (try clear hz8_); have hz8_ := zc4 BK8.out; (try clear hz10_); have hz10_ := zc4 BK10.out;) | ((with_reducible refine gD 13 rfl ?_); refine bE 13 #[.int .i64 0, .slice none 0 0, .slice none 0 0, .slice none 0 0] 25 ?_; intro g13 hg w20_ hbox hb; have GE13 := aM (Nat.le_of_eq hg.symm); have HP := aM hb; have BK13 := aM hbox; clear hbox hg hb; (try clear hz13_); have hz13_ := zc4 BK13.out;) | ((with_reducible refine gate_store (t := 25) (p := 13) rfl ?_); have hs0_ := (blk_cell BK13.out 0).trans rfl; have hf0_ := blk_frozen BK13.out 0; have hs1_ := (blk_cell BK13.out 1).trans rfl; have hf1_ := blk_frozen BK13.out 1; have hs2_ := (blk_cell BK13.out 2).trans rfl; have hf2_ := blk_frozen BK13.out 2; have hs3_ := (blk_cell BK13.out 3).trans rfl; have hf3_ := blk_frozen BK13.out 3; refine store_event (t := 25) (p := 13) (v := ?vlx21_) (w1 := ((((w20_.setCell ⟨g13, 0, none⟩ (.int .i64 v0)).setCell ⟨g13, 1, none⟩ (.slice VA v1.length vka)).setCell ⟨g13, 2, none⟩ (.slice VB v2.length vkb)).setCell ⟨g13, 3, none⟩ (.slice VC v3.length vkc))) ?hg ?ho ?hn ?hr ?_; (case ho => rfl); (case hg => rfl); (case hn => rfl); (case hr => first | (go_simp; done) | (go_simp; rfl)); intro w22_ hw_; have HK_ := set4_kept hw_; have BKn := aM (set4_blk hw_ BK13.out rfl); replace HP := aM (set4_below hw_ HP.out GE13.out);  clear BK13; have BK13 := BKn; clear BKn hw_ HK_ hs0_ hf0_ hs1_ hf1_ hs2_ hf2_ hs3_ hf3_; have hb := HP.out; replace HW := zVW HW hb; replace HX := zVW HX hb; replace HD := zVT HD hb; replace HS := zVW HS hb; replace HF := zVT HF hb; replace HR := zVW HR hb; replace HG := zVT HG hb; replace HU := zVI HU hb; replace HV := zVW HV hb; replace BK3 := zBB BK3 hb; replace BK5 := zBB BK5 hb; replace BK8 := zBB BK8 hb; replace BK10 := zBB BK10 hb; replace HB := zLB HB.out hb; clear hb HP GE13; (try clear hz3_); have hz3_ := zc4 BK3.out; (try clear hz5_); have hz5_ := zc4 BK5.out; (try clear hz8_); have hz8_ := zc4 BK8.out; (try clear hz10_); have hz10_ := zc4 BK10.out; (try clear hz13_); have hz13_ := zc4 BK13.out;) | ((with_reducible refine gC 39 rfl ?_); refine gL 69 Try.func39 #[.agg #[.int .i64 v0, .slice VA v1.length vka, .slice VB v2.length vkb, .slice VC v3.length vkc], .int .i64 m] ?_; (refine (impl_Advance.callsF HV.out AY.out).mono ?_); rintro e w23_ ⟨YA, yka, YB, ykb, YC, ykc, JD, jd, rfl, hnY, hnJ, hb⟩; refine ⟨_, rfl, ?_⟩; replace HW := zVW HW hb; replace HX := zVW HX hb; replace HD := zVT HD hb; replace HS := zVW HS hb; replace HF := zVT HF hb; replace HR := zVW HR hb; replace HG := zVT HG hb; replace HU := zVI HU hb; replace HV := zVW HV hb; replace BK3 := zBB BK3 hb; replace BK5 := zBB BK5 hb; replace BK8 := zBB BK8 hb; replace BK10 := zBB BK10 hb; replace BK13 := zBB BK13 hb; replace HB := zLB HB.out hb; clear hb; have HY := aM hnY; have HJ := aM hnJ; clear hnY hnJ; (try clear hz3_); have hz3_ := zc4 BK3.out; (try clear hz5_); have hz5_ := zc4 BK5.out; (try clear hz8_); have hz8_ := zc4 BK8.out; (try clear hz10_); have hz10_ := zc4 BK10.out; (try clear hz13_); have hz13_ := zc4 BK13.out;) | ((with_reducible refine gD 15 rfl ?_); refine bE 15 #[.int .i64 0, .slice none 0 0, .slice none 0 0, .slice none 0 0] 25 ?_; intro g15 hg w24_ hbox hb; have GE15 := aM (Nat.le_of_eq hg.symm); have HP := aM hb; have BK15 := aM hbox; clear hbox hg hb; (try clear hz15_); have hz15_ := zc4 BK15.out;) | ((with_reducible refine gate_store (t := 25) (p := 15) rfl ?_); have hs0_ := (blk_cell BK15.out 0).trans rfl; have hf0_ := blk_frozen BK15.out 0; have hs1_ := (blk_cell BK15.out 1).trans rfl; have hf1_ := blk_frozen BK15.out 1; have hs2_ := (blk_cell BK15.out 2).trans rfl; have hf2_ := blk_frozen BK15.out 2; have hs3_ := (blk_cell BK15.out 3).trans rfl; have hf3_ := blk_frozen BK15.out 3; refine store_event (t := 25) (p := 15) (v := ?vlx25_) (w1 := ((((w24_.setCell ⟨g15, 0, none⟩ (.int .i64 y0)).setCell ⟨g15, 1, none⟩ (.slice YA y1.length yka)).setCell ⟨g15, 2, none⟩ (.slice YB y2.length ykb)).setCell ⟨g15, 3, none⟩ (.slice YC y3.length ykc))) ?hg ?ho ?hn ?hr ?_; (case ho => rfl); (case hg => rfl); (case hn => rfl); (case hr => first | (go_simp; done) | (go_simp; rfl)); intro w26_ hw_; have HK_ := set4_kept hw_; have BKn := aM (set4_blk hw_ BK15.out rfl); replace HP := aM (set4_below hw_ HP.out GE15.out);  clear BK15; have BK15 := BKn; clear BKn hw_ HK_ hs0_ hf0_ hs1_ hf1_ hs2_ hf2_ hs3_ hf3_; have hb := HP.out; replace HW := zVW HW hb; replace HX := zVW HX hb; replace HD := zVT HD hb; replace HS := zVW HS hb; replace HF := zVT HF hb; replace HR := zVW HR hb; replace HG := zVT HG hb; replace HU := zVI HU hb; replace HV := zVW HV hb; replace HY := zVW HY hb; replace HJ := zVT HJ hb; replace BK3 := zBB BK3 hb; replace BK5 := zBB BK5 hb; replace BK8 := zBB BK8 hb; replace BK10 := zBB BK10 hb; replace BK13 := zBB BK13 hb; replace HB := zLB HB.out hb; clear hb HP GE15; (try clear hz3_); have hz3_ := zc4 BK3.out; (try clear hz5_); have hz5_ := zc4 BK5.out; (try clear hz8_); have hz8_ := zc4 BK8.out; (try clear hz10_); have hz10_ := zc4 BK10.out; (try clear hz13_); have hz13_ := zc4 BK13.out; (try clear hz15_); have hz15_ := zc4 BK15.out;) | ((with_reducible refine gC 38 rfl ?_); refine gL 75 Try.func38 #[.agg #[.int .i64 v0, .slice VA v1.length vka, .slice VB v2.length vkb, .slice VC v3.length vkc], .int .i64 m] ?_; (refine (spec_Advance.callsF HV.out AZ.out).mono ?_); rintro e w27_ ⟨ZA, zka, ZB, zkb, ZC, zkc, QD, qd, rfl, hnZ, hnQ, hb⟩; refine ⟨_, rfl, ?_⟩; replace HW := zVW HW hb; replace HX := zVW HX hb; replace HD := zVT HD hb; replace HS := zVW HS hb; replace HF := zVT HF hb; replace HR := zVW HR hb; replace HG := zVT HG hb; replace HU := zVI HU hb; replace HV := zVW HV hb; replace HY := zVW HY hb; replace HJ := zVT HJ hb; replace BK3 := zBB BK3 hb; replace BK5 := zBB BK5 hb; replace BK8 := zBB BK8 hb; replace BK10 := zBB BK10 hb; replace BK13 := zBB BK13 hb; replace BK15 := zBB BK15 hb; replace HB := zLB HB.out hb; clear hb; have HZ := aM hnZ; have HQ := aM hnQ; clear hnZ hnQ; (try clear hz3_); have hz3_ := zc4 BK3.out; (try clear hz5_); have hz5_ := zc4 BK5.out; (try clear hz8_); have hz8_ := zc4 BK8.out; (try clear hz10_); have hz10_ := zc4 BK10.out; (try clear hz13_); have hz13_ := zc4 BK13.out; (try clear hz15_); have hz15_ := zc4 BK15.out;) | ((with_reducible refine gD 17 rfl ?_); refine bE 17 #[.int .i64 0, .slice none 0 0, .slice none 0 0, .slice none 0 0] 25 ?_; intro g17 hg w28_ hbox hb; have GE17 := aM (Nat.le_of_eq hg.symm); have HP := aM hb; have BK17 := aM hbox; clear hbox hg hb; (try clear hz17_); have hz17_ := zc4 BK17.out;) | ((with_reducible refine gate_store (t := 25) (p := 17) rfl ?_); have hs0_ := (blk_cell BK17.out 0).trans rfl; have hf0_ := blk_frozen BK17.out 0; have hs1_ := (blk_cell BK17.out 1).trans rfl; have hf1_ := blk_frozen BK17.out 1; have hs2_ := (blk_cell BK17.out 2).trans rfl; have hf2_ := blk_frozen BK17.out 2; have hs3_ := (blk_cell BK17.out 3).trans rfl; have hf3_ := blk_frozen BK17.out 3; refine store_event (t := 25) (p := 17) (v := ?vlx29_) (w1 := ((((w28_.setCell ⟨g17, 0, none⟩ (.int .i64 z0)).setCell ⟨g17, 1, none⟩ (.slice ZA z1.length zka)).setCell ⟨g17, 2, none⟩ (.slice ZB z2.length zkb)).setCell ⟨g17, 3, none⟩ (.slice ZC z3.length zkc))) ?hg ?ho ?hn ?hr ?_; (case ho => rfl); (case hg => rfl); (case hn => rfl); (case hr => first | (go_simp; done) | (go_simp; rfl)); intro w30_ hw_; have HK_ := set4_kept hw_; have BKn := aM (set4_blk hw_ BK17.out rfl); replace HP := aM (set4_below hw_ HP.out GE17.out);  clear BK17; have BK17 := BKn; clear BKn hw_ HK_ hs0_ hf0_ hs1_ hf1_ hs2_ hf2_ hs3_ hf3_; have hb := HP.out; replace HW := zVW HW hb; replace HX := zVW HX hb; replace HD := zVT HD hb; replace HS := zVW HS hb; replace HF := zVT HF hb; replace HR := zVW HR hb; replace HG := zVT HG hb; replace HU := zVI HU hb; replace HV := zVW HV hb; replace HY := zVW HY hb; replace HJ := zVT HJ hb; replace HZ := zVW HZ hb; replace HQ := zVT HQ hb; replace BK3 := zBB BK3 hb; replace BK5 := zBB BK5 hb; replace BK8 := zBB BK8 hb; replace BK10 := zBB BK10 hb; replace BK13 := zBB BK13 hb; replace BK15 := zBB BK15 hb; replace HB := zLB HB.out hb; clear hb HP GE17; (try clear hz3_); have hz3_ := zc4 BK3.out; (try clear hz5_); have hz5_ := zc4 BK5.out; (try clear hz8_); have hz8_ := zc4 BK8.out; (try clear hz10_); have hz10_ := zc4 BK10.out; (try clear hz13_); have hz13_ := zc4 BK13.out; (try clear hz15_); have hz15_ := zc4 BK15.out; (try clear hz17_); have hz17_ := zc4 BK17.out;) | ((with_reducible refine gC 50 rfl ?_); refine gL 80 Try.func50 #[.agg #[.int .i64 y0, .slice YA y1.length yka, .slice YB y2.length ykb, .slice YC y3.length ykc], .agg #[.int .i64 z0, .slice ZA z1.length zka, .slice ZB z2.length zkb, .slice ZC z3.length zkc]] ?_; (refine (laws_sameWheel.callsF HY.out HZ.out E1.out).mono ?_); rintro e w31_ ⟨rfl, hb⟩; refine ⟨_, rfl, ?_⟩; replace HW := zVW HW hb; replace HX := zVW HX hb; replace HD := zVT HD hb; replace HS := zVW HS hb; replace HF := zVT HF hb; replace HR := zVW HR hb; replace HG := zVT HG hb; replace HU := zVI HU hb; replace HV := zVW HV hb; replace HY := zVW HY hb; replace HJ := zVT HJ hb; replace HZ := zVW HZ hb; replace HQ := zVT HQ hb; replace BK3 := zBB BK3 hb; replace BK5 := zBB BK5 hb; replace BK8 := zBB BK8 hb; replace BK10 := zBB BK10 hb; replace BK13 := zBB BK13 hb; replace BK15 := zBB BK15 hb; replace BK17 := zBB BK17 hb; replace HB := zLB HB.out hb; clear hb;  (try clear hz3_); have hz3_ := zc4 BK3.out; (try clear hz5_); have hz5_ := zc4 BK5.out; (try clear hz8_); have hz8_ := zc4 BK8.out; (try clear hz10_); have hz10_ := zc4 BK10.out; (try clear hz13_); have hz13_ := zc4 BK13.out; (try clear hz15_); have hz15_ := zc4 BK15.out; (try clear hz17_); have hz17_ := zc4 BK17.out;) | (go_at_call 51; (refine (laws_sameTimers.callsF HJ.out HQ.out E2.out).mono ?_); rintro e w32_ ⟨rfl, hb⟩; replace HW := zVW HW hb; replace HX := zVW HX hb; replace HD := zVT HD hb; replace HS := zVW HS hb; replace HF := zVT HF hb; replace HR := zVW HR hb; replace HG := zVT HG hb; replace HU := zVI HU hb; replace HV := zVW HV hb; replace HY := zVW HY hb; replace HJ := zVT HJ hb; replace HZ := zVW HZ hb; replace HQ := zVT HQ hb; replace BK3 := zBB BK3 hb; replace BK5 := zBB BK5 hb; replace BK8 := zBB BK8 hb; replace BK10 := zBB BK10 hb; replace BK13 := zBB BK13 hb; replace BK15 := zBB BK15 hb; replace BK17 := zBB BK17 hb; replace HB := zLB HB.out hb; clear hb;  (try clear hz3_); have hz3_ := zc4 BK3.out; (try clear hz5_); have hz5_ := zc4 BK5.out; (try clear hz8_); have hz8_ := zc4 BK8.out; (try clear hz10_); have hz10_ := zc4 BK10.out; (try clear hz13_); have hz13_ := zc4 BK13.out; (try clear hz15_); have hz15_ := zc4 BK15.out; (try clear hz17_); have hz17_ := zc4 BK17.out;) | (go_at_call 30; (refine (impl_WheelOk.callsF HX.out AO.out).mono ?_); rintro e w33_ ⟨rfl, hb⟩; replace HW := zVW HW hb; replace HX := zVW HX hb; replace HD := zVT HD hb; replace HS := zVW HS hb; replace HF := zVT HF hb; replace HR := zVW HR hb; replace HG := zVT HG hb; replace HU := zVI HU hb; replace HV := zVW HV hb; replace HY := zVW HY hb; replace HJ := zVT HJ hb; replace HZ := zVW HZ hb; replace HQ := zVT HQ hb; replace BK3 := zBB BK3 hb; replace BK5 := zBB BK5 hb; replace BK8 := zBB BK8 hb; replace BK10 := zBB BK10 hb; replace BK13 := zBB BK13 hb; replace BK15 := zBB BK15 hb; replace BK17 := zBB BK17 hb; replace HB := zLB HB.out hb; clear hb;  (try clear hz3_); have hz3_ := zc4 BK3.out; (try clear hz5_); have hz5_ := zc4 BK5.out; (try clear hz8_); have hz8_ := zc4 BK8.out; (try clear hz10_); have hz10_ := zc4 BK10.out; (try clear hz13_); have hz13_ := zc4 BK13.out; (try clear hz15_); have hz15_ := zc4 BK15.out; (try clear hz17_); have hz17_ := zc4 BK17.out;) | (go_at_call 50; (refine (laws_sameWheel.callsF HX.out HR.out E3.out).mono ?_); rintro e w34_ ⟨rfl, hb⟩; replace HW := zVW HW hb; replace HX := zVW HX hb; replace HD := zVT HD hb; replace HS := zVW HS hb; replace HF := zVT HF hb; replace HR := zVW HR hb; replace HG := zVT HG hb; replace HU := zVI HU hb; replace HV := zVW HV hb; replace HY := zVW HY hb; replace HJ := zVT HJ hb; replace HZ := zVW HZ hb; replace HQ := zVT HQ hb; replace BK3 := zBB BK3 hb; replace BK5 := zBB BK5 hb; replace BK8 := zBB BK8 hb; replace BK10 := zBB BK10 hb; replace BK13 := zBB BK13 hb; replace BK15 := zBB BK15 hb; replace BK17 := zBB BK17 hb; replace HB := zLB HB.out hb; clear hb;  (try clear hz3_); have hz3_ := zc4 BK3.out; (try clear hz5_); have hz5_ := zc4 BK5.out; (try clear hz8_); have hz8_ := zc4 BK8.out; (try clear hz10_); have hz10_ := zc4 BK10.out; (try clear hz13_); have hz13_ := zc4 BK13.out; (try clear hz15_); have hz15_ := zc4 BK15.out; (try clear hz17_); have hz17_ := zc4 BK17.out;))
 clear HS HF HR HG HV HY HJ HZ HQ BK8 BK10 BK13 BK15 BK17 hz3_ hz5_ hz8_ hz10_ hz13_ hz15_ hz17_
 go_loopg [19, 20] d.length (fun kq v19 v20 w' => ∃ x : Int, v19 = .int .i64 (lastI w0 d x) ∧ v20 = .int .i64 x ∧ Aside0 (0 ≤ x ∧ x ≤ (d.length : Int) ∧ (kq : Int) + x = (d.length : Int)) ∧ Aside0 (WVc WA wka w1 WB wkb w2 WC wkc w3 w') ∧ Aside0 (WVc XA xka x1 XB xkb x2 XC xkc x3 w') ∧ Aside0 (TVc DD dd d w') ∧ Aside0 (IVc UD ud u w') ∧ Aside0 (w'.heap[g3]? = some (.cells #[.int .i64 w0, .slice WA w1.length wka, .slice WB w2.length wkb, .slice WC w3.length wkc] 25 (0, 0))) ∧ Aside0 (w'.heap[g5]? = some (.cells #[.int .i64 x0, .slice XA x1.length xka, .slice XB x2.length xkb, .slice XC x3.length xkc] 25 (0, 0))) ∧ Aside0 (Below w.heap.size w w'))
 case atStart => exact ⟨0, zV, zV, ⟨by omega⟩, HW, HX, HD, HU, BK3, BK5, HB⟩
 case round =>
  clear HW HX HD HU BK3 BK5 HB
  obtain ⟨x, rfl, rfl, HK, HW, HX, HD, HU, BK3, BK5, HB⟩ := hrel
  by_cases cx : x < (d.length : Int)
  ·have cxb := dT cx
   have p_ : 0 ≤ x := HK.out.1
   have q_ : x < (d.length : Int) := cx
   have f_ := HA.out x p_ q_
   have hw_ : wrap64 (x + 1) = x + 1 := wrap_len x p_ cx HD.out.2.2.1
   obtain ⟨k2, hk2⟩ : ∃ k2 : Nat, gk = k2 + 1 ∧ (k2 : Int) + (x + 1) = (d.length : Int) := ⟨gk - 1, by have a_ := HK.out.2.2; omega, by have a_ := HK.out.2.2; omega⟩
   have HK2 : Aside0 (0 ≤ wrap64 (x + 1) ∧ wrap64 (x + 1) ≤ (d.length : Int) ∧ (k2 : Int) + wrap64 (x + 1) = (d.length : Int)) := ⟨by rw [hw_]; have a_ := hk2.2; omega⟩
   have HG := aM hk2.1
   have HL : Aside0 (lastI w0 d (wrap64 (x + 1)) = (rd_T46 d x).f2) := ⟨by rw [hw_]; exact lastI_next w0 d x p_⟩
   have l1_ : decide ((rd_T46 d x).f2 < lastI w0 d x) = false := dF (by have a_ := f_.2.1; omega)
   have l2_ : decide ((rd_T46 d x).f2 > x0) = false := dF (by have a_ := f_.2.2; omega)
   have l3_ : decide (x0 < (rd_T46 d x).f2) = false := l2_
   have HFc := aM f_.1
   clear hw_ cx f_ hk2
   go_wp2
   go_loopg [21, 22] u.length (fun kq v21 v22 w' => ∃ (f : Bool) (j : Int), v21 = .bool f ∧ v22 = .int .i64 j ∧ Aside0 (0 ≤ j ∧ j ≤ (u.length : Int) ∧ (kq : Int) + j = (u.length : Int)) ∧ Aside0 (fndI u (rd_T46 d x).f0 j = f) ∧ Aside0 (WVc WA wka w1 WB wkb w2 WC wkc w3 w') ∧ Aside0 (WVc XA xka x1 XB xkb x2 XC xkc x3 w') ∧ Aside0 (TVc DD dd d w') ∧ Aside0 (IVc UD ud u w') ∧ Aside0 (w'.heap[g3]? = some (.cells #[.int .i64 w0, .slice WA w1.length wka, .slice WB w2.length wkb, .slice WC w3.length wkc] 25 (0, 0))) ∧ Aside0 (w'.heap[g5]? = some (.cells #[.int .i64 x0, .slice XA x1.length xka, .slice XB x2.length xkb, .slice XC x3.length xkc] 25 (0, 0))) ∧ Aside0 (Below w.heap.size w w'))
   case atStart => exact ⟨false, 0, zV, zV, ⟨by omega⟩, ⟨rfl⟩, HW, HX, HD, HU, BK3, BK5, HB⟩
   case round =>
    clear HW HX HD HU BK3 BK5 HB
    obtain ⟨fb, jx, rfl, rfl, HJ, HF2, HW, HX, HD, HU, BK3, BK5, HB⟩ := hrel
    by_cases cj : jx < (u.length : Int)
    ·have cjb := dT cj
     have pj_ : 0 ≤ jx := HJ.out.1
     have qj_ : jx < (u.length : Int) := cj
     have hw_ : wrap64 (jx + 1) = jx + 1 := wrap_len jx pj_ cj HU.out.2.2.1
     have HF3 := aM (fndI_next u (rd_T46 d x).f0 jx pj_ qj_)
     obtain ⟨k3, hk3⟩ : ∃ k3 : Nat, gk = k3 + 1 ∧ (k3 : Int) + (jx + 1) = (u.length : Int) := ⟨gk - 1, by have a_ := HJ.out.2.2; omega, by have a_ := HJ.out.2.2; omega⟩
     have HJ2 : Aside0 (0 ≤ wrap64 (jx + 1) ∧ wrap64 (jx + 1) ≤ (u.length : Int) ∧ (k3 : Int) + wrap64 (jx + 1) = (u.length : Int)) := ⟨by rw [hw_]; have a_ := hk3.2; omega⟩
     have HG3 := aM hk3.1
     have HW3 := aM hw_
     clear hw_ cj hk3
     by_cases cf : fb = true
     ·subst cf
      try go_wp2
      replace HW := zVW HW zVd
      replace HX := zVW HX zVd
      replace HD := zVT HD zVd
      replace HU := zVI HU zVd
      replace BK3 := zBD BK3
      replace BK5 := zBD BK5
      replace HB := zLD HB
      refine start_ (n := 14) (S := fun w' => True) (ds := []) (fB 14 0) (by kernel_rfl) rfl rfl trivial (fun hHeld => ?_); refine with_tabW laws_FnTimes.tab22 laws_FnTimes.bits22 (fun HT_ HW_ => ?_)
      generalize wr.drew = w35_ at HW HX HD HU BK3 BK5 HB hHeld ⊢
      refine pY 0 139 (fB 14 1) HT_.out ?_
      refine pY 1 140 (fB 14 3) HT_.out ?_
      refine pN 2 141 (fB 14 7) HT_.out ?_
      refine pN 3 142 (fB 14 15) HT_.out ?_
      refine pN 4 143 (fB 14 31) HT_.out ?_
      refine pN 5 144 (fB 14 63) HT_.out ?_
      refine pN 6 145 (fB 14 127) HT_.out ?_
      refine pN 7 146 (fB 14 255) HT_.out ?_
      refine pN 8 147 (fB 14 511) HT_.out ?_
      refine pN 9 148 (fB 14 1023) HT_.out ?_
      refine pN 10 149 (fB 14 2047) HT_.out ?_
      refine pN 11 150 (fB 14 4095) HT_.out ?_
      refine pY 12 151 (fB 14 8191) HT_.out ?_
      refine pY 13 21 (fB 14 16383) HT_.out ?_
      refine done_ (done_of HT_.out (by kernel_rfl)) ?_
      clear hHeld HT_ HW_
      try go_wp2
      go_roundg k3
      case measure => rw [HG3.out]; exact Nat.lt_succ_self _
      case rel => exact ⟨true, wrap64 (jx + 1), zV, zV, HJ2, ⟨by rw [HW3.out, HF3.out, HF2.out]; rfl⟩, HW, HX, HD, HU, BK3, BK5, HB⟩
     ·obtain rfl := Bool.eq_false_iff.mpr cf
      try go_wp2
      obtain ⟨ad, e_, hx0_, hx1_, hx2_⟩ := at_T46 HD.out.2 x p_ q_
      obtain ⟨au, eu_, hu0_⟩ := Kd.at_int HU.out.2 jx pj_ qj_
      cases e_
      cases eu_
      replace p_ := eq_true p_
      replace q_ := eq_true q_
      replace pj_ := eq_true pj_
      replace qj_ := eq_true qj_
      replace HW := zVW HW zVd
      replace HX := zVW HX zVd
      replace HD := zVT HD zVd
      replace HU := zVI HU zVd
      replace BK3 := zBD BK3
      replace BK5 := zBD BK5
      replace HB := zLD HB
      refine start_ (n := 14) (S := fun w' => w'.cell? (ad.add (x.toNat * 3)) = some (.int .i64 ((rd_T46 d x).f0)) ∧ w'.cell? ⟨(ad.add (x.toNat * 3)).block, (ad.add (x.toNat * 3)).off + 1, none⟩ = some (.int .i64 ((rd_T46 d x).f1)) ∧ w'.cell? ⟨(ad.add (x.toNat * 3)).block, (ad.add (x.toNat * 3)).off + 2, none⟩ = some (.int .i64 ((rd_T46 d x).f2)) ∧ w'.cell? (au.add jx.toNat) = some (.int .i64 (rd u jx))) (ds := []) (fB 14 0) (by kernel_rfl) rfl rfl ⟨hx0_, hx1_, hx2_, hu0_⟩ (fun hHeld => ?_); refine with_tabW laws_FnTimes.tab22 laws_FnTimes.bits22 (fun HT_ HW_ => ?_)
      generalize wr.drew = w36_ at HW HX HD HU BK3 BK5 hx0_ hx1_ hx2_ hu0_ HB hHeld ⊢
      refine pY 0 139 (fB 14 1) HT_.out ?_
      refine pY 1 140 (fB 14 3) HT_.out ?_
      refine pY 2 141 (fB 14 7) HT_.out ?_
      refine pY 3 142 (fB 14 15) HT_.out ?_
      refine pY 4 143 (fB 14 31) HT_.out ?_
      refine pY 6 145 (fB 14 95) HT_.out ?_
      refine pY 7 146 (fB 14 223) HT_.out ?_
      refine pY 8 147 (fB 14 479) HT_.out ?_
      refine pY 9 148 (fB 14 991) HT_.out ?_
      refine tY 5 144 (fB 14 1023) HT_.out HW_.out hHeld ?_
      refine tY 10 149 (fB 14 2047) HT_.out HW_.out hHeld ?_
      refine pY 11 150 (fB 14 4095) HT_.out ?_
      refine pY 12 151 (fB 14 8191) HT_.out ?_
      refine pY 13 21 (fB 14 16383) HT_.out ?_
      refine done_ (done_of HT_.out (by kernel_rfl)) ?_
      clear hHeld HT_ HW_
      try go_wp2
      go_roundg k3
      case measure => rw [HG3.out]; exact Nat.lt_succ_self _
      case rel => exact ⟨(rd u jx == (rd_T46 d x).f0), wrap64 (jx + 1), zV, zV, HJ2, ⟨by rw [HW3.out, HF3.out, HF2.out]; rfl⟩, HW, HX, HD, HU, BK3, BK5, HB⟩
    ·have cjb := dF cj
     have f1_ : fb = true := by rw [← HF2.out, show jx = (u.length : Int) by have a_ := HJ.out.2.1; omega]; exact fndI_all HFc.out
     subst f1_
     clear cj HFc HF2
     try go_wp2
     replace HW := zVW HW zVd
     replace HX := zVW HX zVd
     replace HD := zVT HD zVd
     replace HU := zVI HU zVd
     replace BK3 := zBD BK3
     replace BK5 := zBD BK5
     replace HB := zLD HB
     obtain ⟨ad, e_, hx0_, hx1_, hx2_⟩ := at_T46 HD.out.2 x p_ q_
     cases e_
     replace p_ := eq_true p_
     replace q_ := eq_true q_
     refine start_ (n := 21) (S := fun w' => zt4 w' g5 (.int .i64 x0) (.slice XA x1.length xka) (.slice XB x2.length xkb) (.slice XC x3.length xkc) (w'.cell? (ad.add (x.toNat * 3)) = some (.int .i64 ((rd_T46 d x).f0)) ∧ w'.cell? ⟨(ad.add (x.toNat * 3)).block, (ad.add (x.toNat * 3)).off + 1, none⟩ = some (.int .i64 ((rd_T46 d x).f1)) ∧ w'.cell? ⟨(ad.add (x.toNat * 3)).block, (ad.add (x.toNat * 3)).off + 2, none⟩ = some (.int .i64 ((rd_T46 d x).f2)))) (ds := []) (fB 21 0) (by kernel_rfl) rfl rfl (zk4 BK5.out ⟨hx0_, hx1_, hx2_⟩) (fun hHeld => ?_); refine with_tabW laws_FnTimes.tab23 laws_FnTimes.bits23 (fun HT_ HW_ => ?_)
     generalize wr.drew = w37_ at HW HX HD HU BK3 BK5 hx0_ hx1_ hx2_ HB hHeld ⊢
     refine pY 0 152 (fB 21 1) HT_.out ?_
     refine pY 1 153 (fB 21 3) HT_.out ?_
     refine pY 2 154 (fB 21 7) HT_.out ?_
     refine pY 3 155 (fB 21 15) HT_.out ?_
     refine pY 4 156 (fB 21 31) HT_.out ?_
     refine pY 5 157 (fB 21 63) HT_.out ?_
     refine pY 6 158 (fB 21 127) HT_.out ?_
     refine pY 8 160 (fB 21 383) HT_.out ?_
     refine tY 7 159 (fB 21 511) HT_.out HW_.out hHeld ?_
     refine pY 9 161 (fB 21 1023) HT_.out ?_
     refine pY 10 162 (fB 21 2047) HT_.out ?_
     refine pY 11 163 (fB 21 4095) HT_.out ?_
     refine pY 12 164 (fB 21 8191) HT_.out ?_
     refine pY 13 165 (fB 21 16383) HT_.out ?_
     refine pY 14 166 (fB 21 32767) HT_.out ?_
     refine pY 15 167 (fB 21 65535) HT_.out ?_
     refine pY 17 169 (fB 21 196607) HT_.out ?_
     refine tY 16 168 (fB 21 262143) HT_.out HW_.out hHeld ?_
     refine tY 18 170 (fB 21 524287) HT_.out HW_.out hHeld ?_
     refine pY 19 171 (fB 21 1048575) HT_.out ?_
     refine pY 20 172 (fB 21 2097151) HT_.out ?_
     refine done_ (done_of HT_.out (by kernel_rfl)) ?_
     clear hHeld HT_ HW_
     try go_wp2
     go_roundg k2
     case measure => rw [HG.out]; exact Nat.lt_succ_self _
     case rel => exact ⟨wrap64 (x + 1), (by rw [HL.out]), zV, HK2, HW, HX, HD, HU, BK3, BK5, HB⟩
  ·have cxb := dF cx
   clear cx HA HK
   try go_wp2
   replace HW := zVW HW zVd
   replace HX := zVW HX zVd
   replace HD := zVT HD zVd
   replace HU := zVI HU zVd
   replace BK3 := zBD BK3
   replace BK5 := zBD BK5
   replace HB := zLD HB
   refine start_ (n := 11) (S := fun w' => zt4 w' g5 (.int .i64 x0) (.slice XA x1.length xka) (.slice XB x2.length xkb) (.slice XC x3.length xkc) (zs4 w' g3 (.int .i64 w0) (.slice WA w1.length wka) (.slice WB w2.length wkb) (.slice WC w3.length wkc))) (ds := []) (fB 11 0) (by kernel_rfl) rfl rfl (zk4 BK5.out (zc4 BK3.out)) (fun hHeld => ?_); refine with_tabW laws_FnTimes.tab26 laws_FnTimes.bits26 (fun HT_ HW_ => ?_)
   generalize wr.drew = w38_ at HW HX HD HU BK3 BK5 HB hHeld ⊢
   refine pY 3 181 (fB 11 8) HT_.out ?_
   refine pY 4 182 (fB 11 24) HT_.out ?_
   refine tY 0 178 (fB 11 25) HT_.out HW_.out hHeld ?_
   refine tY 6 184 (fB 11 89) HT_.out HW_.out hHeld ?_
   refine oN 1 179 (fB 11 91) HT_.out fun K hK => ?_
   refine gS Try.func25 #[.agg #[.int .i64 x0, .slice XA x1.length xka, .slice XB x2.length xkb, .slice XC x3.length xkc]] ?_
   refine (impl_Timers.callsF HX.out AT.out).mono ?_
   rintro e w39_ ⟨TXD, txd, rfl, hnTX, hb⟩
   refine ⟨_, rfl, ?_⟩
   replace HW := zVW HW hb; replace HX := zVW HX hb; replace HD := zVT HD hb; replace HU := zVI HU hb; replace BK3 := zBB BK3 hb; replace BK5 := zBB BK5 hb; replace HB := zLB HB.out hb; clear hb; have HTX := aM hnTX; clear hnTX
   refine hK.out _ _ (zk4 BK5.out (zc4 BK3.out)) fun hHeld => ?_; clear hK K
   refine nZ 179 ?_
   refine pY 2 180 (fB 11 95) HT_.out ?_
   refine pY 5 183 (fB 11 127) HT_.out ?_
   refine oN 7 185 (fB 11 255) HT_.out fun K hK => ?_
   refine gS Try.func25 #[.agg #[.int .i64 w0, .slice WA w1.length wka, .slice WB w2.length wkb, .slice WC w3.length wkc]] ?_
   refine (impl_Timers.callsF HW.out AT2.out).mono ?_
   rintro e w40_ ⟨TWD, twd, rfl, hnTW, hb⟩
   refine ⟨_, rfl, ?_⟩
   replace HW := zVW HW hb; replace HX := zVW HX hb; replace HD := zVT HD hb; replace HU := zVI HU hb; replace HTX := zVT HTX hb; replace BK3 := zBB BK3 hb; replace BK5 := zBB BK5 hb; replace HB := zLB HB.out hb; clear hb; have HTW := aM hnTW; clear hnTW
   refine hK.out _ _ (zk4 BK5.out (zc4 BK3.out)) fun hHeld => ?_; clear hK K
   refine nZ 185 ?_
   refine pY 8 186 (fB 11 511) HT_.out ?_
   refine pY 9 187 (fB 11 1023) HT_.out ?_
   refine pY 10 2 (fB 11 2047) HT_.out ?_
   refine done_ (done_of HT_.out (by kernel_rfl)) ?_
   clear hHeld HT_ HW_
   try go_wp2
   go_ret
   exact ⟨rfl, HB.out⟩

end Go.Proofs.Ytggenhomnbnodaa.QFnTimes
