/- What the Go functions that the law FnTicks reaches answer: each as a Lean function, with its walk. Written by a program of this session. Conditions: those that each theorem names. -/
import Derived.Test.YtggenhomnbnodaaQFnTicksx0
import Derived.Test.YtggenhomnbnodaaQFnTicksx2
import Derived.Test.YtggenhomnbnodaaQFnTicksx4
import Derived.Test.YtggenhomnbnodaaQFnTicksx6
import Derived.Test.YtggenhomnbnodaaQFnTicksx8
import Derived.Test.YtggenhomnbnodaaQFnTicksx9
import Derived.Test.YtggenhomnbnodaaQFnTicksx10
import Derived.Test.YtggenhomnbnodaaQFnTicksx11
import Derived.Test.YtggenhomnbnodaaQFnTicksx13
import Derived.Test.YtggenhomnbnodaaQFnTicksx14
namespace Go.Proofs.Ytggenhomnbnodaa.QFnTicks
open Go.RowKit Go.Proofs.YtggenhomnbnodaaW.PrintWords Go.Proofs.YtggenhomnbnodaaW.PrintLast Go.Proofs.YtggenhomnbnodaaW.PrintMore
attribute [local go_sem] max2_int min2_int max_two min_two max_three min_three max_four min_four   -- for this text's walks alone
set_option linter.unusedVariables false
set_option linter.unusedSimpArgs false

def WVc (A1 : Option Addr) (c1 : Nat) (l1 : List (List S46)) (A2 : Option Addr) (c2 : Nat) (l2 : List (List S46)) (A3 : Option Addr) (c3 : Nat) (l3 : List S46) (w : World) : Prop :=
 (l1.length ≤ c1 ∧ l2.length ≤ c2 ∧ l3.length ≤ c3) ∧ (Kd.slice 46 k46).C w A1 l1.length l1 ∧ (Kd.slice 46 k46).C w A2 l2.length l2 ∧ k46.C w A3 l3.length l3
def TVc (A : Option Addr) (c : Nat) (l : List S46) (w : World) : Prop := l.length ≤ c ∧ k46.C w A l.length l
def IVc (A : Option Addr) (c : Nat) (l : List Int) (w : World) : Prop := l.length ≤ c ∧ (Kd.int .i64).C w A l.length l
def BVc (A : Option Addr) (c : Nat) (l : List Int) (w : World) : Prop := l.length ≤ c ∧ (Kd.int .u8).C w A l.length l
section
variable {w w1 : World} {b n : Nat} {o1 o2 o3 : Nat → Prop} {A A1 A2 A3 : Option Addr} {c c1 c2 c3 : Nat} {l l3 : List S46} {l1 l2 : List (List S46)} {xs : List Int} {v v1 v2 v3 : Value}
theorem zVW (h : Aside0 (WVc A1 c1 l1 A2 c2 l2 A3 c3 l3 w)) (hb : Below w.heap.size w w1) : Aside0 (WVc A1 c1 l1 A2 c2 l2 A3 c3 l3 w1) := ⟨h.out.1, Kd.C_below h.out.2.1 hb, Kd.C_below h.out.2.2.1 hb, Kd.C_below h.out.2.2.2 hb⟩
theorem zVT (h : Aside0 (TVc A c l w)) (hb : Below w.heap.size w w1) : Aside0 (TVc A c l w1) := ⟨h.out.1, Kd.C_below h.out.2 hb⟩
theorem zVI (h : Aside0 (IVc A c xs w)) (hb : Below w.heap.size w w1) : Aside0 (IVc A c xs w1) := ⟨h.out.1, Kd.C_below h.out.2 hb⟩
theorem zVC (h : Aside0 (BVc A c xs w)) (hb : Below w.heap.size w w1) : BVc A c xs w1 := ⟨h.out.1, Kd.C_below h.out.2 hb⟩
theorem zVd : Below w.heap.size w w.drew := below_drew (Below.refl _ _)
theorem qvW (s1 : Kd.N (Kd.slice 46 k46) 23 w b o1 v1 l1) (s2 : Kd.N (Kd.slice 46 k46) 23 w b o2 v2 l2) (s3 : Kd.R k46 46 w b o3 v3 l3) : ∃ A1 c1 A2 c2 A3 c3, v1 = .slice A1 l1.length c1 ∧ v2 = .slice A2 l2.length c2 ∧ v3 = .slice A3 l3.length c3 ∧ WVc A1 c1 l1 A2 c2 l2 A3 c3 l3 w := by
 obtain ⟨A1, c1, e1, b1, r1⟩ := Kd.N_reads s1
 obtain ⟨A2, c2, e2, b2, r2⟩ := Kd.N_reads s2
 obtain ⟨A3, c3, e3, b3, r3⟩ := Kd.R_reads s3
 exact ⟨A1, c1, A2, c2, A3, c3, e1, e2, e3, ⟨b1, b2, b3⟩, r1, r2, r3⟩
theorem qvT (s : Kd.R k46 46 w b o1 v l) : ∃ A c, v = .slice A l.length c ∧ TVc A c l w := by
 obtain ⟨A, c, e, h1, h2⟩ := Kd.R_reads s
 exact ⟨A, c, e, h1, h2⟩
theorem qvI (s : Kd.R (Kd.int .i64) 3 w b o1 v xs) : ∃ A c, v = .slice A xs.length c ∧ IVc A c xs w := by
 obtain ⟨A, c, e, h1, h2⟩ := Kd.R_reads s
 exact ⟨A, c, e, h1, h2⟩
end
theorem laws_big.callsF {w : World} {A0 : Option Addr} {c0 : Nat} {l0 : List Int} {r0 : Bool} (h0 : BVc A0 c0 l0 w) (h : laws_big.f l0 = some r0) :
  Calls Try.prog 45 #[.slice A0 l0.length c0] w fun e w' => e = .returned (.bool r0) ∧ Below w.heap.size w w' := by
 refine (laws_big.calls A0 c0 l0 r0 w h0.2 h0.1 h).mono ?_
 rintro e w' ⟨rfl, hb⟩
 exact ⟨rfl, hb.below⟩
theorem spec_DrawTickOn.callsF {w : World} {k : Nat} {A0 : Option Addr} {c0 : Nat} {l0 : List Int} {r0 : Int} {m01 m02 : List (List S46)} {m03 : List S46} (h0 : BVc A0 c0 l0 w) (h : spec_DrawTickOn.f k l0 = some (r0, m01, m02, m03)) :
  Calls Try.prog 55 #[.slice A0 l0.length c0] w fun e w' => ∃ B01 d01 B02 d02 B03 d03, e = .returned (.agg #[.int .i64 r0, .slice B01 m01.length d01, .slice B02 m02.length d02, .slice B03 m03.length d03]) ∧ WVc B01 d01 m01 B02 d02 m02 B03 d03 m03 w' ∧ Below w.heap.size w w' := by
 refine (spec_DrawTickOn.calls k A0 c0 l0 r0 m01 m02 m03 w h0.2 h0.1 h).mono ?_
 rintro e w' ⟨v01, v02, v03, rfl, s01, s02, s03, hb⟩
 obtain ⟨B01, d01, B02, d02, B03, d03, rfl, rfl, rfl, hw0⟩ := qvW s01 s02 s03
 exact ⟨B01, d01, B02, d02, B03, d03, rfl, hw0, hb⟩
theorem impl_TickOn.callsF {w : World} {k : Nat} {a0 : Int} {A01 : Option Addr} {c01 : Nat} {A02 : Option Addr} {c02 : Nat} {A03 : Option Addr} {c03 : Nat} {l01 l02 : List (List S46)} {l03 : List S46} {r0 : Int} {m01 m02 : List (List S46)} {m03 : List S46} {m1 : List S46} (h0 : WVc A01 c01 l01 A02 c02 l02 A03 c03 l03 w) (h : impl_TickOn.f k a0 l01 l02 l03 = some (r0, m01, m02, m03, m1)) :
  Calls Try.prog 37 #[.agg #[.int .i64 a0, .slice A01 l01.length c01, .slice A02 l02.length c02, .slice A03 l03.length c03]] w fun e w' => ∃ B01 d01 B02 d02 B03 d03 B1 d1, e = .returned (.tuple #[.agg #[.int .i64 r0, .slice B01 m01.length d01, .slice B02 m02.length d02, .slice B03 m03.length d03], .slice B1 m1.length d1]) ∧ WVc B01 d01 m01 B02 d02 m02 B03 d03 m03 w' ∧ TVc B1 d1 m1 w' ∧ Below w.heap.size w w' := by
 refine (impl_TickOn.calls k a0 A01 c01 l01 A02 c02 l02 A03 c03 l03 r0 m01 m02 m03 m1 w h0.2.1 h0.1.1 h0.2.2.1 h0.1.2.1 h0.2.2.2 h0.1.2.2 h).mono ?_
 rintro e w' ⟨v01, v02, v03, v1, rfl, s01, s02, s03, s1, hb⟩
 obtain ⟨B01, d01, B02, d02, B03, d03, rfl, rfl, rfl, hw0⟩ := qvW (Kd.S_N s01) (Kd.S_N s02) s03
 obtain ⟨B1, d1, rfl, hw1⟩ := qvT s1
 exact ⟨B01, d01, B02, d02, B03, d03, B1, d1, rfl, hw0, hw1, hb⟩
theorem spec_TickOn.callsF {w : World} {k : Nat} {a0 : Int} {A01 : Option Addr} {c01 : Nat} {A02 : Option Addr} {c02 : Nat} {A03 : Option Addr} {c03 : Nat} {l01 l02 : List (List S46)} {l03 : List S46} {r0 : Int} {m01 m02 : List (List S46)} {m03 : List S46} {m1 : List S46} (h0 : WVc A01 c01 l01 A02 c02 l02 A03 c03 l03 w) (h : spec_TickOn.f k a0 l01 l02 l03 = some (r0, m01, m02, m03, m1)) :
  Calls Try.prog 36 #[.agg #[.int .i64 a0, .slice A01 l01.length c01, .slice A02 l02.length c02, .slice A03 l03.length c03]] w fun e w' => ∃ B01 d01 B02 d02 B03 d03 B1 d1, e = .returned (.tuple #[.agg #[.int .i64 r0, .slice B01 m01.length d01, .slice B02 m02.length d02, .slice B03 m03.length d03], .slice B1 m1.length d1]) ∧ WVc B01 d01 m01 B02 d02 m02 B03 d03 m03 w' ∧ TVc B1 d1 m1 w' ∧ Below w.heap.size w w' := by
 refine (spec_TickOn.calls k a0 A01 c01 l01 A02 c02 l02 A03 c03 l03 r0 m01 m02 m03 m1 w h0.2.1 h0.1.1 h0.2.2.1 h0.1.2.1 h0.2.2.2 h0.1.2.2 h).mono ?_
 rintro e w' ⟨v01, v02, v03, v1, rfl, s01, s02, s03, s1, hb⟩
 obtain ⟨B01, d01, B02, d02, B03, d03, rfl, rfl, rfl, hw0⟩ := qvW (Kd.S_N s01) (Kd.S_N s02) s03
 obtain ⟨B1, d1, rfl, hw1⟩ := qvT s1
 exact ⟨B01, d01, B02, d02, B03, d03, B1, d1, rfl, hw0, hw1, hb⟩
theorem spec_DrawNextDue.callsF {w : World} {k : Nat} {A0 : Option Addr} {c0 : Nat} {l0 : List Int} {r0 : Int} {m01 m02 : List (List S46)} {m03 : List S46} (h0 : BVc A0 c0 l0 w) (h : spec_DrawNextDue.f k l0 = some (r0, m01, m02, m03)) :
  Calls Try.prog 56 #[.slice A0 l0.length c0] w fun e w' => ∃ B01 d01 B02 d02 B03 d03, e = .returned (.agg #[.int .i64 r0, .slice B01 m01.length d01, .slice B02 m02.length d02, .slice B03 m03.length d03]) ∧ WVc B01 d01 m01 B02 d02 m02 B03 d03 m03 w' ∧ Below w.heap.size w w' := by
 refine (spec_DrawNextDue.calls k A0 c0 l0 r0 m01 m02 m03 w h0.2 h0.1 h).mono ?_
 rintro e w' ⟨v01, v02, v03, rfl, s01, s02, s03, hb⟩
 obtain ⟨B01, d01, B02, d02, B03, d03, rfl, rfl, rfl, hw0⟩ := qvW s01 s02 s03
 exact ⟨B01, d01, B02, d02, B03, d03, rfl, hw0, hb⟩
theorem spec_DrawDueBy.callsF {w : World} {k : Nat} {A0 : Option Addr} {c0 : Nat} {l0 : List Int} {r0 : Int} {m01 m02 : List (List S46)} {m03 : List S46} {r1 : Int} (h0 : BVc A0 c0 l0 w) (h : spec_DrawDueBy.f k l0 = some (r0, m01, m02, m03, r1)) :
  Calls Try.prog 57 #[.slice A0 l0.length c0] w fun e w' => ∃ B01 d01 B02 d02 B03 d03, e = .returned (.tuple #[.agg #[.int .i64 r0, .slice B01 m01.length d01, .slice B02 m02.length d02, .slice B03 m03.length d03], .int .i64 r1]) ∧ WVc B01 d01 m01 B02 d02 m02 B03 d03 m03 w' ∧ Below w.heap.size w w' := by
 refine (spec_DrawDueBy.calls k A0 c0 l0 r0 m01 m02 m03 r1 w h0.2 h0.1 h).mono ?_
 rintro e w' ⟨v01, v02, v03, rfl, s01, s02, s03, hb⟩
 obtain ⟨B01, d01, B02, d02, B03, d03, rfl, rfl, rfl, hw0⟩ := qvW s01 s02 s03
 exact ⟨B01, d01, B02, d02, B03, d03, rfl, hw0, hb⟩
theorem impl_NextDue.callsF {w : World} {k : Nat} {a0 : Int} {A01 : Option Addr} {c01 : Nat} {A02 : Option Addr} {c02 : Nat} {A03 : Option Addr} {c03 : Nat} {l01 l02 : List (List S46)} {l03 : List S46} {r0 : Int} (h0 : WVc A01 c01 l01 A02 c02 l02 A03 c03 l03 w) (h : impl_NextDue.f k a0 l01 l02 l03 = some r0) :
  Calls Try.prog 23 #[.agg #[.int .i64 a0, .slice A01 l01.length c01, .slice A02 l02.length c02, .slice A03 l03.length c03]] w fun e w' => e = .returned (.int .i64 r0) ∧ Below w.heap.size w w' := by
 refine (impl_NextDue.calls k a0 A01 c01 l01 A02 c02 l02 A03 c03 l03 r0 w h0.2.1 h0.1.1 h0.2.2.1 h0.1.2.1 h0.2.2.2 h0.1.2.2 h).mono ?_
 rintro e w' ⟨rfl, hb⟩
 exact ⟨rfl, hb⟩
theorem laws_sameWheel.callsF {w : World} {k : Nat} {a0 : Int} {A01 : Option Addr} {c01 : Nat} {A02 : Option Addr} {c02 : Nat} {A03 : Option Addr} {c03 : Nat} {l01 l02 : List (List S46)} {l03 : List S46} {a1 : Int} {A11 : Option Addr} {c11 : Nat} {A12 : Option Addr} {c12 : Nat} {A13 : Option Addr} {c13 : Nat} {l11 l12 : List (List S46)} {l13 : List S46} {r0 : Bool} (h0 : WVc A01 c01 l01 A02 c02 l02 A03 c03 l03 w) (h1 : WVc A11 c11 l11 A12 c12 l12 A13 c13 l13 w) (h : laws_sameWheel.f k a0 l01 l02 l03 a1 l11 l12 l13 = some r0) :
  Calls Try.prog 50 #[.agg #[.int .i64 a0, .slice A01 l01.length c01, .slice A02 l02.length c02, .slice A03 l03.length c03], .agg #[.int .i64 a1, .slice A11 l11.length c11, .slice A12 l12.length c12, .slice A13 l13.length c13]] w fun e w' => e = .returned (.bool r0) ∧ Below w.heap.size w w' := by
 refine (laws_sameWheel.calls k a0 A01 c01 l01 A02 c02 l02 A03 c03 l03 a1 A11 c11 l11 A12 c12 l12 A13 c13 l13 r0 w h0.2.1 h0.1.1 h0.2.2.1 h0.1.2.1 h0.2.2.2 h0.1.2.2 h1.2.1 h1.1.1 h1.2.2.1 h1.1.2.1 h1.2.2.2 h1.1.2.2 h).mono ?_
 rintro e w' ⟨rfl, hb⟩
 exact ⟨rfl, hb⟩
theorem laws_sameTimers.callsF {w : World} {k : Nat} {A0 : Option Addr} {c0 : Nat} {l0 : List S46} {A1 : Option Addr} {c1 : Nat} {l1 : List S46} {r0 : Bool} (h0 : TVc A0 c0 l0 w) (h1 : TVc A1 c1 l1 w) (h : laws_sameTimers.f k l0 l1 = some r0) :
  Calls Try.prog 51 #[.slice A0 l0.length c0, .slice A1 l1.length c1] w fun e w' => e = .returned (.bool r0) ∧ Below w.heap.size w w' := by
 refine (laws_sameTimers.calls k A0 c0 l0 A1 c1 l1 r0 w h0.2 h0.1 h1.2 h1.1 h).mono ?_
 rintro e w' ⟨rfl, hb⟩
 exact ⟨rfl, hb.below⟩
theorem spec_NextDue.callsF {w : World} {k : Nat} {a0 : Int} {A01 : Option Addr} {c01 : Nat} {A02 : Option Addr} {c02 : Nat} {A03 : Option Addr} {c03 : Nat} {l01 l02 : List (List S46)} {l03 : List S46} {r0 : Int} (h0 : WVc A01 c01 l01 A02 c02 l02 A03 c03 l03 w) (h : spec_NextDue.f k a0 l01 l02 l03 = some r0) :
  Calls Try.prog 21 #[.agg #[.int .i64 a0, .slice A01 l01.length c01, .slice A02 l02.length c02, .slice A03 l03.length c03]] w fun e w' => e = .returned (.int .i64 r0) ∧ Below w.heap.size w w' := by
 refine (spec_NextDue.calls k a0 A01 c01 l01 A02 c02 l02 A03 c03 l03 r0 w h0.2.1 h0.1.1 h0.2.2.1 h0.1.2.1 h0.2.2.2 h0.1.2.2 h).mono ?_
 rintro e w' ⟨rfl, hb⟩
 exact ⟨rfl, hb⟩
theorem impl_DueBy.callsF {w : World} {k : Nat} {a0 : Int} {A01 : Option Addr} {c01 : Nat} {A02 : Option Addr} {c02 : Nat} {A03 : Option Addr} {c03 : Nat} {l01 l02 : List (List S46)} {l03 : List S46} {x1 : Int} {m0 : List Int} (h0 : WVc A01 c01 l01 A02 c02 l02 A03 c03 l03 w) (h : impl_DueBy.f k a0 l01 l02 l03 x1 = some m0) :
  Calls Try.prog 41 #[.agg #[.int .i64 a0, .slice A01 l01.length c01, .slice A02 l02.length c02, .slice A03 l03.length c03], .int .i64 x1] w fun e w' => ∃ B0 d0, e = .returned (.slice B0 m0.length d0) ∧ IVc B0 d0 m0 w' ∧ Below w.heap.size w w' := by
 refine (impl_DueBy.calls k a0 A01 c01 l01 A02 c02 l02 A03 c03 l03 x1 m0 w h0.2.1 h0.1.1 h0.2.2.1 h0.1.2.1 h0.2.2.2 h0.1.2.2 h).mono ?_
 rintro e w' ⟨v0, rfl, s0, hb⟩
 obtain ⟨B0, d0, rfl, hw0⟩ := qvI s0
 exact ⟨B0, d0, rfl, hw0, hb⟩
theorem spec_DueBy.callsF {w : World} {k : Nat} {a0 : Int} {A01 : Option Addr} {c01 : Nat} {A02 : Option Addr} {c02 : Nat} {A03 : Option Addr} {c03 : Nat} {l01 l02 : List (List S46)} {l03 : List S46} {x1 : Int} {m0 : List Int} (h0 : WVc A01 c01 l01 A02 c02 l02 A03 c03 l03 w) (h : spec_DueBy.f k a0 l01 l02 l03 x1 = some m0) :
  Calls Try.prog 40 #[.agg #[.int .i64 a0, .slice A01 l01.length c01, .slice A02 l02.length c02, .slice A03 l03.length c03], .int .i64 x1] w fun e w' => ∃ B0 d0, e = .returned (.slice B0 m0.length d0) ∧ IVc B0 d0 m0 w' ∧ Below w.heap.size w w' := by
 refine (spec_DueBy.calls k a0 A01 c01 l01 A02 c02 l02 A03 c03 l03 x1 m0 w h0.2.1 h0.1.1 h0.2.2.1 h0.1.2.1 h0.2.2.2 h0.1.2.2 h).mono ?_
 rintro e w' ⟨v0, rfl, s0, hb⟩
 obtain ⟨B0, d0, rfl, hw0⟩ := qvI s0
 exact ⟨B0, d0, rfl, hw0, hb⟩
theorem laws_sameInts.callsF {w : World} {k : Nat} {A0 : Option Addr} {c0 : Nat} {l0 : List Int} {A1 : Option Addr} {c1 : Nat} {l1 : List Int} {r0 : Bool} (h0 : IVc A0 c0 l0 w) (h1 : IVc A1 c1 l1 w) (h : laws_sameInts.f k l0 l1 = some r0) :
  Calls Try.prog 58 #[.slice A0 l0.length c0, .slice A1 l1.length c1] w fun e w' => e = .returned (.bool r0) ∧ Below w.heap.size w w' := by
 refine (laws_sameInts.calls k A0 c0 l0 A1 c1 l1 r0 w h0.2 h0.1 h1.2 h1.1 h).mono ?_
 rintro e w' ⟨rfl, hb⟩
 exact ⟨rfl, hb.below⟩
theorem impl_Timers.callsF {w : World} {k : Nat} {a0 : Int} {A01 : Option Addr} {c01 : Nat} {A02 : Option Addr} {c02 : Nat} {A03 : Option Addr} {c03 : Nat} {l01 l02 : List (List S46)} {l03 : List S46} {m0 : List S46} (h0 : WVc A01 c01 l01 A02 c02 l02 A03 c03 l03 w) (h : impl_Timers.f k a0 l01 l02 l03 = some m0) :
  Calls Try.prog 25 #[.agg #[.int .i64 a0, .slice A01 l01.length c01, .slice A02 l02.length c02, .slice A03 l03.length c03]] w fun e w' => ∃ B0 d0, e = .returned (.slice B0 m0.length d0) ∧ TVc B0 d0 m0 w' ∧ Below w.heap.size w w' := by
 refine (impl_Timers.calls k a0 A01 c01 l01 A02 c02 l02 A03 c03 l03 m0 w h0.2.1 h0.1.1 h0.2.2.1 h0.1.2.1 h0.2.2.2 h0.1.2.2 h).mono ?_
 rintro e w' ⟨v0, rfl, s0, hb⟩
 obtain ⟨B0, d0, rfl, hw0⟩ := qvT s0
 exact ⟨B0, d0, rfl, hw0, hb⟩
theorem impl_WheelOk.callsF {w : World} {k : Nat} {a0 : Int} {A01 : Option Addr} {c01 : Nat} {A02 : Option Addr} {c02 : Nat} {A03 : Option Addr} {c03 : Nat} {l01 l02 : List (List S46)} {l03 : List S46} {r0 : Bool} (h0 : WVc A01 c01 l01 A02 c02 l02 A03 c03 l03 w) (h : impl_WheelOk.f k a0 l01 l02 l03 = some r0) :
  Calls Try.prog 30 #[.agg #[.int .i64 a0, .slice A01 l01.length c01, .slice A02 l02.length c02, .slice A03 l03.length c03]] w fun e w' => e = .returned (.bool r0) ∧ Below w.heap.size w w' := by
 refine (impl_WheelOk.calls k a0 A01 c01 l01 A02 c02 l02 A03 c03 l03 r0 w h0.2.1 h0.1.1 h0.2.2.1 h0.1.2.1 h0.2.2.2 h0.1.2.2 h).mono ?_
 rintro e w' ⟨rfl, hb⟩
 exact ⟨rfl, hb⟩
theorem all_due {d : List S46} {a : Int} (h : (d.all fun t => t.f2 == a) = true) : ∀ i : Int, 0 ≤ i → i < (d.length : Int) → (rd_T46 d i).f2 = a := by
 intro i h0 h1
 have hi : i.toNat < d.length := by omega
 have e : rd_T46 d i = d[i.toNat] := by simp [rd_T46, List.getD_eq_getElem?_getD, hi]
 rw [e]
 rw [List.all_eq_true] at h
 exact eq_of_beq (h _ (List.getElem_mem hi))
theorem wrap_mid {A : Option Addr} {c : Nat} {w : World} (d : List S46) (x : Int) (h0 : 0 ≤ x) (h1 : x < (d.length : Int)) (h : TVc A c d w) : wrap64 (x + 1) = x + 1 := by
 have a := h.2.2.1
 unfold wrap64
 omega
def laws_FnTicks.e (k : Nat) (V : Int × List (List S46) × List (List S46) × List S46) (n : Int) : Option Bool :=
 if n = -1 then some true else (impl_WheelOk.f k V.1 V.2.1 V.2.2.1 V.2.2.2).bind fun o => (if o = true then (impl_DueBy.f k V.1 V.2.1 V.2.2.1 V.2.2.2 n).bind fun d => (if d.length = 0 then none else (impl_DueBy.f k V.1 V.2.1 V.2.2.1 V.2.2.2 (wrap64 (n - 1))).bind fun d2 => (if d2.length = 0 then some true else none)) else some true)
def laws_FnTicks.t (k : Nat) (W : Int × List (List S46) × List (List S46) × List S46) (X : Int × List (List S46) × List (List S46) × List S46 × List S46) (V : Int × List (List S46) × List (List S46) × List S46) (n : Int) : Option Bool :=
 (impl_WheelOk.f k W.1 W.2.1 W.2.2.1 W.2.2.2).bind fun o => (if o = true then (if (X.2.2.2.2.all fun t => t.f2 == X.1) = true then (impl_WheelOk.f k X.1 X.2.1 X.2.2.1 X.2.2.2.1).bind fun o2 => (if o2 = true then (impl_NextDue.f k X.1 X.2.1 X.2.2.1 X.2.2.2.1).bind fun m => (if m = -1 then laws_FnTicks.e k V n else (if X.1 < m then laws_FnTicks.e k V n else none)) else none) else none)
  else (if X.2.2.2.2.length = 0 then (laws_sameWheel.f k X.1 X.2.1 X.2.2.1 X.2.2.2.1 W.1 W.2.1 W.2.2.1 W.2.2.2).bind fun e => (if e = true then some true else none) else none))
def laws_FnTicks.f (k : Nat) (l0 : List Int) : Option Bool :=
 (laws_big.f l0).bind fun b => (if b = true then some true else (spec_DrawTickOn.f k l0).bind fun W => (impl_TickOn.f k W.1 W.2.1 W.2.2.1 W.2.2.2).bind fun X => (spec_TickOn.f k W.1 W.2.1 W.2.2.1 W.2.2.2).bind fun Y => (spec_DrawNextDue.f k l0).bind fun V => (spec_DrawDueBy.f k l0).bind fun U => (impl_NextDue.f k V.1 V.2.1 V.2.2.1 V.2.2.2).bind fun n =>
  (laws_sameWheel.f k X.1 X.2.1 X.2.2.1 X.2.2.2.1 Y.1 Y.2.1 Y.2.2.1 Y.2.2.2.1).bind fun e1 => (if e1 = true then (laws_sameTimers.f k X.2.2.2.2 Y.2.2.2.2).bind fun e2 => (if e2 = true then (spec_NextDue.f k V.1 V.2.1 V.2.2.1 V.2.2.2).bind fun n2 => (if n2 = n then (impl_DueBy.f k U.1 U.2.1 U.2.2.1 U.2.2.2.1 U.2.2.2.2).bind fun d1 => (spec_DueBy.f k U.1 U.2.1 U.2.2.1 U.2.2.2.1 U.2.2.2.2).bind fun d2 => (laws_sameInts.f k d1 d2).bind fun e3 => (if e3 = true then (impl_Timers.f k V.1 V.2.1 V.2.2.1 V.2.2.2).bind fun tv =>
   (if ((n == (-1)) != ((tv.length : Int) == 0)) = true then (impl_WheelOk.f k V.1 V.2.1 V.2.2.1 V.2.2.2).bind fun o => (if o = true then none else laws_FnTicks.t k W X V n) else laws_FnTicks.t k W X V n) else none) else none) else none) else none))
def laws_FnTicks.T9 : Bool × List (List Nat × List Nat) := (true, [([], []), ([], []), ([0, 1], [0, 1]), ([2], [2]), ([3, 2], [3]), ([4], [4]), ([4], [4]), ([5, 6, 4, 4], [4, 5, 6]), ([7, 4], [4, 7]), ([4, 8], [4, 8]), ([9, 7], [9]), ([10], [10]), ([10], [10]), ([12, 10, 10], [10, 12]), ([11, 13, 10], [10, 11, 13]), ([10, 14], [10, 14]), ([15, 13], [15]), ([16], [16]), ([16], [16]), ([17, 18, 16, 16], [16, 17, 18]), ([16], [16]), ([16], [16]), ([20, 21, 19, 16], [16, 20, 21]), ([19, 22, 22, 16], [16, 19, 22]), ([23, 16], [16, 23]), ([16, 24], [16, 24]), ([25, 23], [25]), ([26], [26]), ([27, 26], [26, 27]), ([26], [26]), ([29, 26, 26], [26, 29]), ([30, 26], [26, 30]), ([31, 26], [26, 31]), ([28, 32, 26], [26, 28, 32]), ([33, 30, 26], [26, 33]), ([34], [34]), ([35, 34, 34], [34, 35]), ([34, 36, 26], [26, 34, 36]), ([26, 37], [26, 37])])
def laws_FnTicks.B9 : List Nat := [0, 0, 3, 7, 15, 31, 31, 127, 255, 511, 1023, 2047, 2047, 6143, 16383, 32767, 65535, 131071, 131071, 524287, 131071, 131071, 4194303, 8388607, 16777215, 33554431, 67108863, 134217727, 268435455, 134217727, 671088639, 1744830463, 3892314111, 8589934591, 17179869183, 34359738367, 68719476735, 137438953471, 274877906943]
theorem laws_FnTicks.tab9 : rtab .any (opsOf Try.f14 9) = laws_FnTicks.T9 := by kernel_rfl
theorem laws_FnTicks.bits9 : waitsOk laws_FnTicks.T9.2 laws_FnTicks.B9 = true := by kernel_rfl
def laws_FnTicks.T16 : Bool × List (List Nat × List Nat) := (true, [([], []), ([], []), ([0, 1], [0, 1]), ([2], [2]), ([3], [3]), ([], []), ([5], [5]), ([4, 6], [4, 6])])
def laws_FnTicks.B16 : List Nat := [0, 0, 3, 7, 15, 0, 32, 127]
theorem laws_FnTicks.tab16 : rtab .any (opsOf Try.f14 16) = laws_FnTicks.T16 := by kernel_rfl
theorem laws_FnTicks.bits16 : waitsOk laws_FnTicks.T16.2 laws_FnTicks.B16 = true := by kernel_rfl
def laws_FnTicks.T18 : Bool × List (List Nat × List Nat) := (true, [([], []), ([0], [0]), ([1, 1], [1]), ([2], [2]), ([3, 2, 2], [2, 3]), ([4, 2], [2, 4]), ([5, 4, 2], [2, 5]), ([6], [6]), ([7, 6, 6], [6, 7]), ([6], [6]), ([9, 6], [6, 9]), ([8, 10, 6], [6, 8, 10]), ([6, 11, 2], [2, 6, 11]), ([2, 12], [2, 12]), ([13, 8], [13]), ([14], [14]), ([15, 14], [14, 15]), ([16, 14, 14], [14, 16]), ([17], [17]), ([18, 17, 17], [17, 18]), ([19, 17], [17, 19]), ([17, 20, 14], [14, 17, 20]), ([21, 19, 14], [14, 21]), ([22], [22]), ([22], [22]), ([23, 24, 22, 22], [22, 23, 24]), ([25, 22], [22, 25]), ([26, 22], [22, 26]), ([27, 25, 22], [22, 27]), ([28], [28]), ([28], [28]), ([30, 28], [28, 30]), ([29, 31, 28, 28], [28, 29, 31]), ([32, 28], [28, 32]), ([33, 28], [28, 33]), ([28, 34, 22], [22, 28, 34]), ([22, 35, 14], [14, 22, 35]), ([14, 36], [14, 36]), ([37, 32, 0, 1, 2, 3, 4, 5, 6, 7, 8, 9, 10, 11, 12, 13, 14, 15, 16, 17, 18, 19, 20, 21, 22, 23, 24, 25, 26, 27, 28, 29, 30, 31, 32, 33, 34, 35, 36, 37], [37])])
def laws_FnTicks.B18 : List Nat := [0, 1, 3, 7, 15, 31, 63, 127, 255, 127, 639, 2047, 4095, 8191, 16383, 32767, 65535, 131071, 262143, 524287, 1048575, 2097151, 4194303, 8388607, 8388607, 33554431, 67108863, 134217727, 268435455, 536870911, 536870911, 1610612735, 4294967295, 8589934591, 17179869183, 34359738367, 68719476735, 137438953471, 274877906943]
theorem laws_FnTicks.tab18 : rtab .any (opsOf Try.f14 18) = laws_FnTicks.T18 := by kernel_rfl
theorem laws_FnTicks.bits18 : waitsOk laws_FnTicks.T18.2 laws_FnTicks.B18 = true := by kernel_rfl
set_option maxHeartbeats 8000000 in
set_option maxRecDepth 100000 in
theorem laws_FnTicks.calls (k : Nat) (A0 : Option Addr) (c0 : Nat) (l0 : List Int) (r : Bool) (w : World) (hr0 : Kd.C (Kd.int .u8) w A0 l0.length l0) (hc0 : l0.length ≤ c0) (hrt_ : Aside0 (r = true)) (h : laws_FnTicks.f k l0 = some r) :
  Calls Try.prog 14 #[.slice A0 l0.length c0] w fun e w' => e = .returned (.bool r) ∧ Below w.heap.size w w' := by
 have hu25 := Try.underlying25
 have hu46 := Try.underlying46
 have HC : Aside0 (BVc A0 c0 l0 w) := ⟨hc0, hr0⟩
 clear hr0 hc0
 have HB := aM (Below.refl w.heap.size w)
 obtain rfl := hrt_.out
 clear hrt_
 unfold laws_FnTicks.f at h
 replace h := zO h
 obtain ⟨bg, AB, h⟩ := h
 (try dsimp only at h)
 by_cases c0_ : bg = true
 ·subst c0_
  clear h
  go_enter Try.func14, Try.ntmps14
  go_wp2_with (first | ((with_reducible refine gC 45 rfl ?_); refine gL 14 Try.func45 #[.slice A0 l0.length c0] ?_; (refine (laws_big.callsF (zVC HC HB.out) AB.out).mono ?_); rintro e w0_ ⟨rfl, hb⟩; refine ⟨_, rfl, ?_⟩;   replace HB := zLB HB.out hb; clear hb;  ))
  go_ret
  exact ⟨rfl, HB.out⟩
 obtain rfl := Bool.eq_false_iff.mpr c0_
 rw [if_neg zn] at h
 replace h := zO h
 obtain ⟨⟨w0, w1, w2, w3⟩, AW, h⟩ := h
 (try dsimp only at h)
 replace h := zO h
 obtain ⟨⟨x0, x1, x2, x3, d⟩, AX, h⟩ := h
 (try dsimp only at h)
 replace h := zO h
 obtain ⟨⟨y0, y1, y2, y3, e⟩, AY, h⟩ := h
 (try dsimp only at h)
 replace h := zO h
 obtain ⟨⟨v0, v1, v2, v3⟩, AV, h⟩ := h
 (try dsimp only at h)
 replace h := zO h
 obtain ⟨⟨u0, u1, u2, u3, ut⟩, AU, h⟩ := h
 (try dsimp only at h)
 replace h := zO h
 obtain ⟨n, AN, h⟩ := h
 (try dsimp only at h)
 replace h := zO h
 obtain ⟨e1, E1, h⟩ := h
 (try dsimp only at h)
 by_cases c1 : e1 = true
 rotate_left
 ·rw [if_neg c1] at h
  exact absurd h (by simp)
 rw [if_pos c1] at h
 subst c1
 replace h := zO h
 obtain ⟨e2, E2, h⟩ := h
 (try dsimp only at h)
 by_cases c2 : e2 = true
 rotate_left
 ·rw [if_neg c2] at h
  exact absurd h (by simp)
 rw [if_pos c2] at h
 subst c2
 replace h := zO h
 obtain ⟨n2, AN2, h⟩ := h
 (try dsimp only at h)
 by_cases c3 : n2 = n
 rotate_left
 ·rw [if_neg c3] at h
  exact absurd h (by simp)
 rw [if_pos c3] at h
 subst c3
 have hnn_ : (n2 != n2) = false := by simp
 replace h := zO h
 obtain ⟨i, AI, h⟩ := h
 (try dsimp only at h)
 replace h := zO h
 obtain ⟨j, AJ, h⟩ := h
 (try dsimp only at h)
 replace h := zO h
 obtain ⟨e3, E3, h⟩ := h
 (try dsimp only at h)
 by_cases c4 : e3 = true
 rotate_left
 ·rw [if_neg c4] at h
  exact absurd h (by simp)
 rw [if_pos c4] at h
 subst c4
 replace h := zO h
 obtain ⟨tv, AT, h⟩ := h
 (try dsimp only at h)
 have hq : laws_FnTicks.t k (w0, w1, w2, w3) (x0, x1, x2, x3, d) (v0, v1, v2, v3) n2 = some true ∧ (((n2 == (-1)) != ((tv.length : Int) == 0)) = true → impl_WheelOk.f k v0 v1 v2 v3 = some false) := by
  by_cases c : ((n2 == (-1)) != ((tv.length : Int) == 0)) = true
  ·rw [if_pos c] at h
   obtain ⟨o, AO, h⟩ := zO h
   by_cases co : o = true
   ·rw [if_pos co] at h; exact absurd h (by simp)
   ·rw [if_neg co] at h; exact ⟨h, fun _ => by have a_ := AO.out; rwa [Bool.eq_false_iff.mpr co] at a_⟩
  ·rw [if_neg c] at h; exact ⟨h, fun c2 => absurd c2 c⟩
 have HT := aM hq.1
 have HV_ := aM hq.2
 clear h hq
 go_enter Try.func14, Try.ntmps14
 go_upto_region 9 with (first | ((with_reducible refine gC 45 rfl ?_); refine gL 14 Try.func45 #[.slice A0 l0.length c0] ?_; (refine (laws_big.callsF (zVC HC HB.out) AB.out).mono ?_); rintro e w0_ ⟨rfl, hb⟩; refine ⟨_, rfl, ?_⟩;   replace HB := zLB HB.out hb; clear hb;  ) | ((with_reducible refine gC 55 rfl ?_); refine gL 16 Try.func55 #[.slice A0 l0.length c0] ?_; (refine (spec_DrawTickOn.callsF (zVC HC HB.out) AW.out).mono ?_); rintro e w1_ ⟨WA, wka, WB, wkb, WC, wkc, rfl, hnW, hb⟩; refine ⟨_, rfl, ?_⟩;   replace HB := zLB HB.out hb; clear hb; have HW := aM hnW; clear hnW; ) | ((with_reducible refine gD 3 rfl ?_); refine bE 3 #[.int .i64 0, .slice none 0 0, .slice none 0 0, .slice none 0 0] 25 ?_; intro g3 hg w2_ hbox hb; have GE3 := aM (Nat.le_of_eq hg.symm); have HP := aM hb; have BK3 := aM hbox; clear hbox hg hb; (try clear hz3_); have hz3_ := zc4 BK3.out;) | ((with_reducible refine gate_store (t := 25) (p := 3) rfl ?_); have hs0_ := (blk_cell BK3.out 0).trans rfl; have hf0_ := blk_frozen BK3.out 0; have hs1_ := (blk_cell BK3.out 1).trans rfl; have hf1_ := blk_frozen BK3.out 1; have hs2_ := (blk_cell BK3.out 2).trans rfl; have hf2_ := blk_frozen BK3.out 2; have hs3_ := (blk_cell BK3.out 3).trans rfl; have hf3_ := blk_frozen BK3.out 3; refine store_event (t := 25) (p := 3) (v := ?vlx3_) (w1 := ((((w2_.setCell ⟨g3, 0, none⟩ (.int .i64 w0)).setCell ⟨g3, 1, none⟩ (.slice WA w1.length wka)).setCell ⟨g3, 2, none⟩ (.slice WB w2.length wkb)).setCell ⟨g3, 3, none⟩ (.slice WC w3.length wkc))) ?hg ?ho ?hn ?hr ?_; (case ho => rfl); (case hg => rfl); (case hn => rfl); (case hr => first | (go_simp; done) | (go_simp; rfl)); intro w4_ hw_; have HK_ := set4_kept hw_; have BKn := aM (set4_blk hw_ BK3.out rfl); replace HP := aM (set4_below hw_ HP.out GE3.out);  clear BK3; have BK3 := BKn; clear BKn hw_ HK_ hs0_ hf0_ hs1_ hf1_ hs2_ hf2_ hs3_ hf3_; have hb := HP.out; replace HW := zVW HW hb;  replace HB := zLB HB.out hb; clear hb HP GE3; (try clear hz3_); have hz3_ := zc4 BK3.out;) | ((with_reducible refine gC 37 rfl ?_); refine gL 19 Try.func37 #[.agg #[.int .i64 w0, .slice WA w1.length wka, .slice WB w2.length wkb, .slice WC w3.length wkc]] ?_; (refine (impl_TickOn.callsF HW.out AX.out).mono ?_); rintro e w5_ ⟨XA, xka, XB, xkb, XC, xkc, DD, dd, rfl, hnX, hnD, hb⟩; refine ⟨_, rfl, ?_⟩; replace HW := zVW HW hb; replace BK3 := zBB BK3 hb; replace HB := zLB HB.out hb; clear hb; have HX := aM hnX; have HD := aM hnD; clear hnX hnD; (try clear hz3_); have hz3_ := zc4 BK3.out;) | ((with_reducible refine gD 4 rfl ?_); refine bE 4 #[.int .i64 0, .slice none 0 0, .slice none 0 0, .slice none 0 0] 25 ?_; intro g4 hg w6_ hbox hb; have GE4 := aM (Nat.le_of_eq hg.symm); have HP := aM hb; have BK4 := aM hbox; clear hbox hg hb; (try clear hz4_); have hz4_ := zc4 BK4.out;) | ((with_reducible refine gate_store (t := 25) (p := 4) rfl ?_); have hs0_ := (blk_cell BK4.out 0).trans rfl; have hf0_ := blk_frozen BK4.out 0; have hs1_ := (blk_cell BK4.out 1).trans rfl; have hf1_ := blk_frozen BK4.out 1; have hs2_ := (blk_cell BK4.out 2).trans rfl; have hf2_ := blk_frozen BK4.out 2; have hs3_ := (blk_cell BK4.out 3).trans rfl; have hf3_ := blk_frozen BK4.out 3; refine store_event (t := 25) (p := 4) (v := ?vlx7_) (w1 := ((((w6_.setCell ⟨g4, 0, none⟩ (.int .i64 x0)).setCell ⟨g4, 1, none⟩ (.slice XA x1.length xka)).setCell ⟨g4, 2, none⟩ (.slice XB x2.length xkb)).setCell ⟨g4, 3, none⟩ (.slice XC x3.length xkc))) ?hg ?ho ?hn ?hr ?_; (case ho => rfl); (case hg => rfl); (case hn => rfl); (case hr => first | (go_simp; done) | (go_simp; rfl)); intro w8_ hw_; have HK_ := set4_kept hw_; have BKn := aM (set4_blk hw_ BK4.out rfl); replace HP := aM (set4_below hw_ HP.out GE4.out);  clear BK4; have BK4 := BKn; clear BKn hw_ HK_ hs0_ hf0_ hs1_ hf1_ hs2_ hf2_ hs3_ hf3_; have hb := HP.out; replace HW := zVW HW hb; replace HX := zVW HX hb; replace HD := zVT HD hb; replace BK3 := zBB BK3 hb; replace HB := zLB HB.out hb; clear hb HP GE4; (try clear hz3_); have hz3_ := zc4 BK3.out; (try clear hz4_); have hz4_ := zc4 BK4.out;) | ((with_reducible refine gC 36 rfl ?_); refine gL 24 Try.func36 #[.agg #[.int .i64 w0, .slice WA w1.length wka, .slice WB w2.length wkb, .slice WC w3.length wkc]] ?_; (refine (spec_TickOn.callsF HW.out AY.out).mono ?_); rintro e w9_ ⟨YA, yka, YB, ykb, YC, ykc, ED, ed, rfl, hnY, hnE, hb⟩; refine ⟨_, rfl, ?_⟩; replace HW := zVW HW hb; replace HX := zVW HX hb; replace HD := zVT HD hb; replace BK3 := zBB BK3 hb; replace BK4 := zBB BK4 hb; replace HB := zLB HB.out hb; clear hb; have HY := aM hnY; have HE := aM hnE; clear hnY hnE; (try clear hz3_); have hz3_ := zc4 BK3.out; (try clear hz4_); have hz4_ := zc4 BK4.out;) | ((with_reducible refine gD 6 rfl ?_); refine bE 6 #[.int .i64 0, .slice none 0 0, .slice none 0 0, .slice none 0 0] 25 ?_; intro g6 hg w10_ hbox hb; have GE6 := aM (Nat.le_of_eq hg.symm); have HP := aM hb; have BK6 := aM hbox; clear hbox hg hb; (try clear hz6_); have hz6_ := zc4 BK6.out;) | ((with_reducible refine gate_store (t := 25) (p := 6) rfl ?_); have hs0_ := (blk_cell BK6.out 0).trans rfl; have hf0_ := blk_frozen BK6.out 0; have hs1_ := (blk_cell BK6.out 1).trans rfl; have hf1_ := blk_frozen BK6.out 1; have hs2_ := (blk_cell BK6.out 2).trans rfl; have hf2_ := blk_frozen BK6.out 2; have hs3_ := (blk_cell BK6.out 3).trans rfl; have hf3_ := blk_frozen BK6.out 3; refine store_event (t := 25) (p := 6) (v := ?vlx11_) (w1 := ((((w10_.setCell ⟨g6, 0, none⟩ (.int .i64 y0)).setCell ⟨g6, 1, none⟩ (.slice YA y1.length yka)).setCell ⟨g6, 2, none⟩ (.slice YB y2.length ykb)).setCell ⟨g6, 3, none⟩ (.slice YC y3.length ykc))) ?hg ?ho ?hn ?hr ?_; (case ho => rfl); (case hg => rfl); (case hn => rfl); (case hr => first | (go_simp; done) | (go_simp; rfl)); intro w12_ hw_; have HK_ := set4_kept hw_; have BKn := aM (set4_blk hw_ BK6.out rfl); replace HP := aM (set4_below hw_ HP.out GE6.out);  clear BK6; have BK6 := BKn; clear BKn hw_ HK_ hs0_ hf0_ hs1_ hf1_ hs2_ hf2_ hs3_ hf3_; have hb := HP.out; replace HW := zVW HW hb; replace HX := zVW HX hb; replace HD := zVT HD hb; replace HY := zVW HY hb; replace HE := zVT HE hb; replace BK3 := zBB BK3 hb; replace BK4 := zBB BK4 hb; replace HB := zLB HB.out hb; clear hb HP GE6; (try clear hz3_); have hz3_ := zc4 BK3.out; (try clear hz4_); have hz4_ := zc4 BK4.out; (try clear hz6_); have hz6_ := zc4 BK6.out;) | ((with_reducible refine gC 56 rfl ?_); refine gL 28 Try.func56 #[.slice A0 l0.length c0] ?_; (refine (spec_DrawNextDue.callsF (zVC HC HB.out) AV.out).mono ?_); rintro e w13_ ⟨VA, vka, VB, vkb, VC, vkc, rfl, hnV, hb⟩; refine ⟨_, rfl, ?_⟩; replace HW := zVW HW hb; replace HX := zVW HX hb; replace HD := zVT HD hb; replace HY := zVW HY hb; replace HE := zVT HE hb; replace BK3 := zBB BK3 hb; replace BK4 := zBB BK4 hb; replace BK6 := zBB BK6 hb; replace HB := zLB HB.out hb; clear hb; have HV := aM hnV; clear hnV; (try clear hz3_); have hz3_ := zc4 BK3.out; (try clear hz4_); have hz4_ := zc4 BK4.out; (try clear hz6_); have hz6_ := zc4 BK6.out;) | ((with_reducible refine gD 8 rfl ?_); refine bE 8 #[.int .i64 0, .slice none 0 0, .slice none 0 0, .slice none 0 0] 25 ?_; intro g8 hg w14_ hbox hb; have GE8 := aM (Nat.le_of_eq hg.symm); have HP := aM hb; have BK8 := aM hbox; clear hbox hg hb; (try clear hz8_); have hz8_ := zc4 BK8.out;) | ((with_reducible refine gate_store (t := 25) (p := 8) rfl ?_); have hs0_ := (blk_cell BK8.out 0).trans rfl; have hf0_ := blk_frozen BK8.out 0; have hs1_ := (blk_cell BK8.out 1).trans rfl; have hf1_ := blk_frozen BK8.out 1; have hs2_ := (blk_cell BK8.out 2).trans rfl; have hf2_ := blk_frozen BK8.out 2; have hs3_ := (blk_cell BK8.out 3).trans rfl; have hf3_ := blk_frozen BK8.out 3; refine store_event (t := 25) (p := 8) (v := ?vlx15_) (w1 := ((((w14_.setCell ⟨g8, 0, none⟩ (.int .i64 v0)).setCell ⟨g8, 1, none⟩ (.slice VA v1.length vka)).setCell ⟨g8, 2, none⟩ (.slice VB v2.length vkb)).setCell ⟨g8, 3, none⟩ (.slice VC v3.length vkc))) ?hg ?ho ?hn ?hr ?_; (case ho => rfl); (case hg => rfl); (case hn => rfl); (case hr => first | (go_simp; done) | (go_simp; rfl)); intro w16_ hw_; have HK_ := set4_kept hw_; have BKn := aM (set4_blk hw_ BK8.out rfl); replace HP := aM (set4_below hw_ HP.out GE8.out);  clear BK8; have BK8 := BKn; clear BKn hw_ HK_ hs0_ hf0_ hs1_ hf1_ hs2_ hf2_ hs3_ hf3_; have hb := HP.out; replace HW := zVW HW hb; replace HX := zVW HX hb; replace HD := zVT HD hb; replace HY := zVW HY hb; replace HE := zVT HE hb; replace HV := zVW HV hb; replace BK3 := zBB BK3 hb; replace BK4 := zBB BK4 hb; replace BK6 := zBB BK6 hb; replace HB := zLB HB.out hb; clear hb HP GE8; (try clear hz3_); have hz3_ := zc4 BK3.out; (try clear hz4_); have hz4_ := zc4 BK4.out; (try clear hz6_); have hz6_ := zc4 BK6.out; (try clear hz8_); have hz8_ := zc4 BK8.out;) | ((with_reducible refine gC 57 rfl ?_); refine gL 31 Try.func57 #[.slice A0 l0.length c0] ?_; (refine (spec_DrawDueBy.callsF (zVC HC HB.out) AU.out).mono ?_); rintro e w17_ ⟨UA, uka, UB, ukb, UC, ukc, rfl, hnU, hb⟩; refine ⟨_, rfl, ?_⟩; replace HW := zVW HW hb; replace HX := zVW HX hb; replace HD := zVT HD hb; replace HY := zVW HY hb; replace HE := zVT HE hb; replace HV := zVW HV hb; replace BK3 := zBB BK3 hb; replace BK4 := zBB BK4 hb; replace BK6 := zBB BK6 hb; replace BK8 := zBB BK8 hb; replace HB := zLB HB.out hb; clear hb; have HU := aM hnU; clear hnU; (try clear hz3_); have hz3_ := zc4 BK3.out; (try clear hz4_); have hz4_ := zc4 BK4.out; (try clear hz6_); have hz6_ := zc4 BK6.out; (try clear hz8_); have hz8_ := zc4 BK8.out;) | ((with_reducible refine gD 9 rfl ?_); refine bE 9 #[.int .i64 0, .slice none 0 0, .slice none 0 0, .slice none 0 0] 25 ?_; intro g9 hg w18_ hbox hb; have GE9 := aM (Nat.le_of_eq hg.symm); have HP := aM hb; have BK9 := aM hbox; clear hbox hg hb; (try clear hz9_); have hz9_ := zc4 BK9.out;) | ((with_reducible refine gate_store (t := 25) (p := 9) rfl ?_); have hs0_ := (blk_cell BK9.out 0).trans rfl; have hf0_ := blk_frozen BK9.out 0; have hs1_ := (blk_cell BK9.out 1).trans rfl; have hf1_ := blk_frozen BK9.out 1; have hs2_ := (blk_cell BK9.out 2).trans rfl; have hf2_ := blk_frozen BK9.out 2; have hs3_ := (blk_cell BK9.out 3).trans rfl; have hf3_ := blk_frozen BK9.out 3; refine store_event (t := 25) (p := 9) (v := ?vlx19_) (w1 := ((((w18_.setCell ⟨g9, 0, none⟩ (.int .i64 u0)).setCell ⟨g9, 1, none⟩ (.slice UA u1.length uka)).setCell ⟨g9, 2, none⟩ (.slice UB u2.length ukb)).setCell ⟨g9, 3, none⟩ (.slice UC u3.length ukc))) ?hg ?ho ?hn ?hr ?_; (case ho => rfl); (case hg => rfl); (case hn => rfl); (case hr => first | (go_simp; done) | (go_simp; rfl)); intro w20_ hw_; have HK_ := set4_kept hw_; have BKn := aM (set4_blk hw_ BK9.out rfl); replace HP := aM (set4_below hw_ HP.out GE9.out);  clear BK9; have BK9 := BKn; clear BKn hw_ HK_ hs0_ hf0_ hs1_ hf1_ hs2_ hf2_ hs3_ hf3_; have hb := HP.out; replace HW := zVW HW hb; replace HX := zVW HX hb; replace HD := zVT HD hb; replace HY := zVW HY hb; replace HE := zVT HE hb; replace HV := zVW HV hb; replace HU := zVW HU hb; replace BK3 := zBB BK3 hb; replace BK4 := zBB BK4 hb; replace BK6 := zBB BK6 hb; replace BK8 := zBB BK8 hb; replace HB := zLB HB.out hb; clear hb HP GE9; (try clear hz3_); have hz3_ := zc4 BK3.out; (try clear hz4_); have hz4_ := zc4 BK4.out; (try clear hz6_); have hz6_ := zc4 BK6.out; (try clear hz8_); have hz8_ := zc4 BK8.out; (try clear hz9_); have hz9_ := zc4 BK9.out;) | ((with_reducible refine gC 23 rfl ?_); refine gL 35 Try.func23 #[.agg #[.int .i64 v0, .slice VA v1.length vka, .slice VB v2.length vkb, .slice VC v3.length vkc]] ?_; (refine (impl_NextDue.callsF HV.out AN.out).mono ?_); rintro e w21_ ⟨rfl, hb⟩; refine ⟨_, rfl, ?_⟩; replace HW := zVW HW hb; replace HX := zVW HX hb; replace HD := zVT HD hb; replace HY := zVW HY hb; replace HE := zVT HE hb; replace HV := zVW HV hb; replace HU := zVW HU hb; replace BK3 := zBB BK3 hb; replace BK4 := zBB BK4 hb; replace BK6 := zBB BK6 hb; replace BK8 := zBB BK8 hb; replace BK9 := zBB BK9 hb; replace HB := zLB HB.out hb; clear hb;  (try clear hz3_); have hz3_ := zc4 BK3.out; (try clear hz4_); have hz4_ := zc4 BK4.out; (try clear hz6_); have hz6_ := zc4 BK6.out; (try clear hz8_); have hz8_ := zc4 BK8.out; (try clear hz9_); have hz9_ := zc4 BK9.out;))
 (try simp only [Act.put, List.setIfInBounds_toArray, List.set_cons_zero, List.set_cons_succ])
 go_cut [74] (fun v74 wc => v74 = .bool false ∧ Aside0 (WVc WA wka w1 WB wkb w2 WC wkc w3 wc) ∧ Aside0 (WVc XA xka x1 XB xkb x2 XC xkc x3 wc) ∧ Aside0 (TVc DD dd d wc) ∧ Aside0 (WVc VA vka v1 VB vkb v2 VC vkc v3 wc) ∧ Aside0 (wc.heap[g3]? = some (.cells #[.int .i64 w0, .slice WA w1.length wka, .slice WB w2.length wkb, .slice WC w3.length wkc] 25 (0, 0))) ∧ Aside0 (wc.heap[g4]? = some (.cells #[.int .i64 x0, .slice XA x1.length xka, .slice XB x2.length xkb, .slice XC x3.length xkc] 25 (0, 0))) ∧ Aside0 (wc.heap[g8]? = some (.cells #[.int .i64 v0, .slice VA v1.length vka, .slice VB v2.length vkb, .slice VC v3.length vkc] 25 (0, 0))) ∧ Aside0 (Below w.heap.size w wc))
 case first =>
  by_cases c5 : ((n2 == (-1)) != ((tv.length : Int) == 0)) = true
  ·have AO := aM (HV_.out c5)
   have c5b0 := c5
   (try (have c5b1 : decide ((n2 == (-1)) = ((tv.length : Int) == 0)) = false := by simpa using c5))
   (try (have c5b2 : ((n2 == (-1)) == ((tv.length : Int) == 0)) = false := by simpa using c5))
   (try (have c5b3 : ¬ ((n2 == (-1)) = ((tv.length : Int) == 0)) := by simpa using c5))
   clear c5
   clear HV_ HT
   try go_wp2
   replace HW := zVW HW zVd
   replace HX := zVW HX zVd
   replace HD := zVT HD zVd
   replace HY := zVW HY zVd
   replace HE := zVT HE zVd
   replace HV := zVW HV zVd
   replace HU := zVW HU zVd
   replace BK3 := zBD BK3
   replace BK4 := zBD BK4
   replace BK6 := zBD BK6
   replace BK8 := zBD BK8
   replace BK9 := zBD BK9
   replace HB := zLD HB
   refine start_ (n := 39) (S := fun w' => zt4 w' g4 (.int .i64 x0) (.slice XA x1.length xka) (.slice XB x2.length xkb) (.slice XC x3.length xkc) (zt4 w' g6 (.int .i64 y0) (.slice YA y1.length yka) (.slice YB y2.length ykb) (.slice YC y3.length ykc) (zt4 w' g8 (.int .i64 v0) (.slice VA v1.length vka) (.slice VB v2.length vkb) (.slice VC v3.length vkc) (zs4 w' g9 (.int .i64 u0) (.slice UA u1.length uka) (.slice UB u2.length ukb) (.slice UC u3.length ukc))))) (ds := []) (fB 39 0) (by kernel_rfl) rfl rfl (zk4 BK4.out (zk4 BK6.out (zk4 BK8.out (zc4 BK9.out)))) (fun hHeld => ?_); refine with_tabW laws_FnTicks.tab9 laws_FnTicks.bits9 (fun HT_ HW_ => ?_)
   generalize w21_.drew = w22_ at HW HX HD HY HE HV HU BK3 BK4 BK6 BK8 BK9 HB hHeld ⊢
   refine tY 0 36 (fB 39 1) HT_.out HW_.out hHeld ?_
   refine tY 1 37 (fB 39 3) HT_.out HW_.out hHeld ?_
   refine oN 2 38 (fB 39 7) HT_.out fun K hK => ?_
   refine gS Try.func50 #[.agg #[.int .i64 x0, .slice XA x1.length xka, .slice XB x2.length xkb, .slice XC x3.length xkc], .agg #[.int .i64 y0, .slice YA y1.length yka, .slice YB y2.length ykb, .slice YC y3.length ykc]] ?_
   refine (laws_sameWheel.callsF HX.out HY.out E1.out).mono ?_
   rintro e w23_ ⟨rfl, hb⟩
   refine ⟨_, rfl, ?_⟩
   replace HW := zVW HW hb; replace HX := zVW HX hb; replace HD := zVT HD hb; replace HY := zVW HY hb; replace HE := zVT HE hb; replace HV := zVW HV hb; replace HU := zVW HU hb; replace BK3 := zBB BK3 hb; replace BK4 := zBB BK4 hb; replace BK6 := zBB BK6 hb; replace BK8 := zBB BK8 hb; replace BK9 := zBB BK9 hb; replace HB := zLB HB.out hb; clear hb
   refine hK.out _ _ (zk4 BK4.out (zk4 BK6.out (zk4 BK8.out (zc4 BK9.out)))) fun hHeld => ?_; clear hK K
   refine nZ 38 ?_
   refine pY 3 39 (fB 39 15) HT_.out ?_
   refine pY 4 40 (fB 39 31) HT_.out ?_
   refine pY 5 41 (fB 39 63) HT_.out ?_
   refine pY 6 42 (fB 39 127) HT_.out ?_
   refine oN 7 43 (fB 39 255) HT_.out fun K hK => ?_
   refine gS Try.func51 #[.slice DD d.length dd, .slice ED e.length ed] ?_
   refine (laws_sameTimers.callsF HD.out HE.out E2.out).mono ?_
   rintro e w24_ ⟨rfl, hb⟩
   refine ⟨_, rfl, ?_⟩
   replace HW := zVW HW hb; replace HX := zVW HX hb; replace HD := zVT HD hb; replace HY := zVW HY hb; replace HE := zVT HE hb; replace HV := zVW HV hb; replace HU := zVW HU hb; replace BK3 := zBB BK3 hb; replace BK4 := zBB BK4 hb; replace BK6 := zBB BK6 hb; replace BK8 := zBB BK8 hb; replace BK9 := zBB BK9 hb; replace HB := zLB HB.out hb; clear hb
   refine hK.out _ _ (zk4 BK4.out (zk4 BK6.out (zk4 BK8.out (zc4 BK9.out)))) fun hHeld => ?_; clear hK K
   refine nZ 43 ?_
   refine pY 8 44 (fB 39 511) HT_.out ?_
   refine pY 9 45 (fB 39 1023) HT_.out ?_
   refine pY 10 46 (fB 39 2047) HT_.out ?_
   refine pY 11 47 (fB 39 4095) HT_.out ?_
   refine tY 12 48 (fB 39 8191) HT_.out HW_.out hHeld ?_
   refine oN 13 49 (fB 39 16383) HT_.out fun K hK => ?_
   refine gS Try.func21 #[.agg #[.int .i64 v0, .slice VA v1.length vka, .slice VB v2.length vkb, .slice VC v3.length vkc]] ?_
   refine (spec_NextDue.callsF HV.out AN2.out).mono ?_
   rintro e w25_ ⟨rfl, hb⟩
   refine ⟨_, rfl, ?_⟩
   replace HW := zVW HW hb; replace HX := zVW HX hb; replace HD := zVT HD hb; replace HY := zVW HY hb; replace HE := zVT HE hb; replace HV := zVW HV hb; replace HU := zVW HU hb; replace BK3 := zBB BK3 hb; replace BK4 := zBB BK4 hb; replace BK6 := zBB BK6 hb; replace BK8 := zBB BK8 hb; replace BK9 := zBB BK9 hb; replace HB := zLB HB.out hb; clear hb
   refine hK.out _ _ (zk4 BK4.out (zk4 BK6.out (zk4 BK8.out (zc4 BK9.out)))) fun hHeld => ?_; clear hK K
   refine nZ 49 ?_
   refine pY 14 50 (fB 39 32767) HT_.out ?_
   refine pY 15 51 (fB 39 65535) HT_.out ?_
   refine pY 16 52 (fB 39 131071) HT_.out ?_
   refine pY 18 54 (fB 39 393215) HT_.out ?_
   refine pY 21 57 (fB 39 2490367) HT_.out ?_
   refine tY 17 53 (fB 39 2621439) HT_.out HW_.out hHeld ?_
   refine tY 20 56 (fB 39 3670015) HT_.out HW_.out hHeld ?_
   refine oN 19 55 (fB 39 4194303) HT_.out fun K hK => ?_
   refine gS Try.func41 #[.agg #[.int .i64 u0, .slice UA u1.length uka, .slice UB u2.length ukb, .slice UC u3.length ukc], .int .i64 ut] ?_
   refine (impl_DueBy.callsF HU.out AI.out).mono ?_
   rintro e w26_ ⟨ID, id, rfl, hnI, hb⟩
   refine ⟨_, rfl, ?_⟩
   replace HW := zVW HW hb; replace HX := zVW HX hb; replace HD := zVT HD hb; replace HY := zVW HY hb; replace HE := zVT HE hb; replace HV := zVW HV hb; replace HU := zVW HU hb; replace BK3 := zBB BK3 hb; replace BK4 := zBB BK4 hb; replace BK6 := zBB BK6 hb; replace BK8 := zBB BK8 hb; replace BK9 := zBB BK9 hb; replace HB := zLB HB.out hb; clear hb; have HI := aM hnI; clear hnI
   refine hK.out _ _ (zk4 BK4.out (zk4 BK6.out (zk4 BK8.out (zc4 BK9.out)))) fun hHeld => ?_; clear hK K
   refine nZ 55 ?_
   refine oN 22 58 (fB 39 8388607) HT_.out fun K hK => ?_
   refine gS Try.func40 #[.agg #[.int .i64 u0, .slice UA u1.length uka, .slice UB u2.length ukb, .slice UC u3.length ukc], .int .i64 ut] ?_
   refine (spec_DueBy.callsF HU.out AJ.out).mono ?_
   rintro e w27_ ⟨JD, jd, rfl, hnJ, hb⟩
   refine ⟨_, rfl, ?_⟩
   replace HW := zVW HW hb; replace HX := zVW HX hb; replace HD := zVT HD hb; replace HY := zVW HY hb; replace HE := zVT HE hb; replace HV := zVW HV hb; replace HU := zVW HU hb; replace HI := zVI HI hb; replace BK3 := zBB BK3 hb; replace BK4 := zBB BK4 hb; replace BK6 := zBB BK6 hb; replace BK8 := zBB BK8 hb; replace BK9 := zBB BK9 hb; replace HB := zLB HB.out hb; clear hb; have HJ := aM hnJ; clear hnJ
   refine hK.out _ _ (zk4 BK4.out (zk4 BK6.out (zk4 BK8.out (zc4 BK9.out)))) fun hHeld => ?_; clear hK K
   refine nZ 58 ?_
   refine oN 23 59 (fB 39 16777215) HT_.out fun K hK => ?_
   refine gS Try.func58 #[.slice ID i.length id, .slice JD j.length jd] ?_
   refine (laws_sameInts.callsF HI.out HJ.out E3.out).mono ?_
   rintro e w28_ ⟨rfl, hb⟩
   refine ⟨_, rfl, ?_⟩
   replace HW := zVW HW hb; replace HX := zVW HX hb; replace HD := zVT HD hb; replace HY := zVW HY hb; replace HE := zVT HE hb; replace HV := zVW HV hb; replace HU := zVW HU hb; replace HI := zVI HI hb; replace HJ := zVI HJ hb; replace BK3 := zBB BK3 hb; replace BK4 := zBB BK4 hb; replace BK6 := zBB BK6 hb; replace BK8 := zBB BK8 hb; replace BK9 := zBB BK9 hb; replace HB := zLB HB.out hb; clear hb
   refine hK.out _ _ (zk4 BK4.out (zk4 BK6.out (zk4 BK8.out (zc4 BK9.out)))) fun hHeld => ?_; clear hK K
   refine nZ 59 ?_
   refine pY 24 60 (fB 39 33554431) HT_.out ?_
   refine pY 25 61 (fB 39 67108863) HT_.out ?_
   refine pY 26 62 (fB 39 134217727) HT_.out ?_
   refine pY 27 63 (fB 39 268435455) HT_.out ?_
   refine pY 28 64 (fB 39 536870911) HT_.out ?_
   refine tY 29 65 (fB 39 1073741823) HT_.out HW_.out hHeld ?_
   refine oN 30 66 (fB 39 2147483647) HT_.out fun K hK => ?_
   refine gS Try.func25 #[.agg #[.int .i64 v0, .slice VA v1.length vka, .slice VB v2.length vkb, .slice VC v3.length vkc]] ?_
   refine (impl_Timers.callsF HV.out AT.out).mono ?_
   rintro e w29_ ⟨TVD, tvd, rfl, hnTV, hb⟩
   refine ⟨_, rfl, ?_⟩
   replace HW := zVW HW hb; replace HX := zVW HX hb; replace HD := zVT HD hb; replace HY := zVW HY hb; replace HE := zVT HE hb; replace HV := zVW HV hb; replace HU := zVW HU hb; replace HI := zVI HI hb; replace HJ := zVI HJ hb; replace BK3 := zBB BK3 hb; replace BK4 := zBB BK4 hb; replace BK6 := zBB BK6 hb; replace BK8 := zBB BK8 hb; replace BK9 := zBB BK9 hb; replace HB := zLB HB.out hb; clear hb; have HTV := aM hnTV; clear hnTV
   refine hK.out _ _ (zk4 BK4.out (zk4 BK6.out (zk4 BK8.out (zc4 BK9.out)))) fun hHeld => ?_; clear hK K
   refine nZ 66 ?_
   refine pY 31 67 (fB 39 4294967295) HT_.out ?_
   refine pY 32 68 (fB 39 8589934591) HT_.out ?_
   refine pY 33 69 (fB 39 17179869183) HT_.out ?_
   refine pY 34 70 (fB 39 34359738367) HT_.out ?_
   refine tY 35 71 (fB 39 68719476735) HT_.out HW_.out hHeld ?_
   refine oN 36 72 (fB 39 137438953471) HT_.out fun K hK => ?_
   refine gS Try.func30 #[.agg #[.int .i64 v0, .slice VA v1.length vka, .slice VB v2.length vkb, .slice VC v3.length vkc]] ?_
   refine (impl_WheelOk.callsF HV.out AO.out).mono ?_
   rintro e w30_ ⟨rfl, hb⟩
   refine ⟨_, rfl, ?_⟩
   replace HW := zVW HW hb; replace HX := zVW HX hb; replace HD := zVT HD hb; replace HY := zVW HY hb; replace HE := zVT HE hb; replace HV := zVW HV hb; replace HU := zVW HU hb; replace HI := zVI HI hb; replace HJ := zVI HJ hb; replace HTV := zVT HTV hb; replace BK3 := zBB BK3 hb; replace BK4 := zBB BK4 hb; replace BK6 := zBB BK6 hb; replace BK8 := zBB BK8 hb; replace BK9 := zBB BK9 hb; replace HB := zLB HB.out hb; clear hb
   refine hK.out _ _ (zk4 BK4.out (zk4 BK6.out (zk4 BK8.out (zc4 BK9.out)))) fun hHeld => ?_; clear hK K
   refine nZ 72 ?_
   refine pY 37 73 (fB 39 274877906943) HT_.out ?_
   refine pY 38 74 (fB 39 549755813887) HT_.out ?_
   refine done_ (done_of HT_.out (by kernel_rfl)) ?_
   clear hHeld HT_ HW_
   try go_wp2
   go_meet
   case rel => exact ⟨zV, HW, HX, HD, HV, BK3, BK4, BK8, HB⟩
  ·have c5b0 : ((n2 == (-1)) != ((tv.length : Int) == 0)) = false := by simpa using c5
   (try (have c5b1 : decide ((n2 == (-1)) = ((tv.length : Int) == 0)) = true := by simpa using c5))
   (try (have c5b2 : ((n2 == (-1)) == ((tv.length : Int) == 0)) = true := by simpa using c5))
   clear c5
   clear HV_ HT
   try go_wp2
   replace HW := zVW HW zVd
   replace HX := zVW HX zVd
   replace HD := zVT HD zVd
   replace HY := zVW HY zVd
   replace HE := zVT HE zVd
   replace HV := zVW HV zVd
   replace HU := zVW HU zVd
   replace BK3 := zBD BK3
   replace BK4 := zBD BK4
   replace BK6 := zBD BK6
   replace BK8 := zBD BK8
   replace BK9 := zBD BK9
   replace HB := zLD HB
   refine start_ (n := 39) (S := fun w' => zt4 w' g4 (.int .i64 x0) (.slice XA x1.length xka) (.slice XB x2.length xkb) (.slice XC x3.length xkc) (zt4 w' g6 (.int .i64 y0) (.slice YA y1.length yka) (.slice YB y2.length ykb) (.slice YC y3.length ykc) (zt4 w' g8 (.int .i64 v0) (.slice VA v1.length vka) (.slice VB v2.length vkb) (.slice VC v3.length vkc) (zs4 w' g9 (.int .i64 u0) (.slice UA u1.length uka) (.slice UB u2.length ukb) (.slice UC u3.length ukc))))) (ds := []) (fB 39 0) (by kernel_rfl) rfl rfl (zk4 BK4.out (zk4 BK6.out (zk4 BK8.out (zc4 BK9.out)))) (fun hHeld => ?_); refine with_tabW laws_FnTicks.tab9 laws_FnTicks.bits9 (fun HT_ HW_ => ?_)
   generalize w21_.drew = w31_ at HW HX HD HY HE HV HU BK3 BK4 BK6 BK8 BK9 HB hHeld ⊢
   refine tY 0 36 (fB 39 1) HT_.out HW_.out hHeld ?_
   refine tY 1 37 (fB 39 3) HT_.out HW_.out hHeld ?_
   refine oN 2 38 (fB 39 7) HT_.out fun K hK => ?_
   refine gS Try.func50 #[.agg #[.int .i64 x0, .slice XA x1.length xka, .slice XB x2.length xkb, .slice XC x3.length xkc], .agg #[.int .i64 y0, .slice YA y1.length yka, .slice YB y2.length ykb, .slice YC y3.length ykc]] ?_
   refine (laws_sameWheel.callsF HX.out HY.out E1.out).mono ?_
   rintro e w32_ ⟨rfl, hb⟩
   refine ⟨_, rfl, ?_⟩
   replace HW := zVW HW hb; replace HX := zVW HX hb; replace HD := zVT HD hb; replace HY := zVW HY hb; replace HE := zVT HE hb; replace HV := zVW HV hb; replace HU := zVW HU hb; replace BK3 := zBB BK3 hb; replace BK4 := zBB BK4 hb; replace BK6 := zBB BK6 hb; replace BK8 := zBB BK8 hb; replace BK9 := zBB BK9 hb; replace HB := zLB HB.out hb; clear hb
   refine hK.out _ _ (zk4 BK4.out (zk4 BK6.out (zk4 BK8.out (zc4 BK9.out)))) fun hHeld => ?_; clear hK K
   refine nZ 38 ?_
   refine pY 3 39 (fB 39 15) HT_.out ?_
   refine pY 4 40 (fB 39 31) HT_.out ?_
   refine pY 5 41 (fB 39 63) HT_.out ?_
   refine pY 6 42 (fB 39 127) HT_.out ?_
   refine oN 7 43 (fB 39 255) HT_.out fun K hK => ?_
   refine gS Try.func51 #[.slice DD d.length dd, .slice ED e.length ed] ?_
   refine (laws_sameTimers.callsF HD.out HE.out E2.out).mono ?_
   rintro e w33_ ⟨rfl, hb⟩
   refine ⟨_, rfl, ?_⟩
   replace HW := zVW HW hb; replace HX := zVW HX hb; replace HD := zVT HD hb; replace HY := zVW HY hb; replace HE := zVT HE hb; replace HV := zVW HV hb; replace HU := zVW HU hb; replace BK3 := zBB BK3 hb; replace BK4 := zBB BK4 hb; replace BK6 := zBB BK6 hb; replace BK8 := zBB BK8 hb; replace BK9 := zBB BK9 hb; replace HB := zLB HB.out hb; clear hb
   refine hK.out _ _ (zk4 BK4.out (zk4 BK6.out (zk4 BK8.out (zc4 BK9.out)))) fun hHeld => ?_; clear hK K
   refine nZ 43 ?_
   refine pY 8 44 (fB 39 511) HT_.out ?_
   refine pY 9 45 (fB 39 1023) HT_.out ?_
   refine pY 10 46 (fB 39 2047) HT_.out ?_
   refine pY 11 47 (fB 39 4095) HT_.out ?_
   refine tY 12 48 (fB 39 8191) HT_.out HW_.out hHeld ?_
   refine oN 13 49 (fB 39 16383) HT_.out fun K hK => ?_
   refine gS Try.func21 #[.agg #[.int .i64 v0, .slice VA v1.length vka, .slice VB v2.length vkb, .slice VC v3.length vkc]] ?_
   refine (spec_NextDue.callsF HV.out AN2.out).mono ?_
   rintro e w34_ ⟨rfl, hb⟩
   refine ⟨_, rfl, ?_⟩
   replace HW := zVW HW hb; replace HX := zVW HX hb; replace HD := zVT HD hb; replace HY := zVW HY hb; replace HE := zVT HE hb; replace HV := zVW HV hb; replace HU := zVW HU hb; replace BK3 := zBB BK3 hb; replace BK4 := zBB BK4 hb; replace BK6 := zBB BK6 hb; replace BK8 := zBB BK8 hb; replace BK9 := zBB BK9 hb; replace HB := zLB HB.out hb; clear hb
   refine hK.out _ _ (zk4 BK4.out (zk4 BK6.out (zk4 BK8.out (zc4 BK9.out)))) fun hHeld => ?_; clear hK K
   refine nZ 49 ?_
   refine pY 14 50 (fB 39 32767) HT_.out ?_
   refine pY 15 51 (fB 39 65535) HT_.out ?_
   refine pY 16 52 (fB 39 131071) HT_.out ?_
   refine pY 18 54 (fB 39 393215) HT_.out ?_
   refine pY 21 57 (fB 39 2490367) HT_.out ?_
   refine tY 17 53 (fB 39 2621439) HT_.out HW_.out hHeld ?_
   refine tY 20 56 (fB 39 3670015) HT_.out HW_.out hHeld ?_
   refine oN 19 55 (fB 39 4194303) HT_.out fun K hK => ?_
   refine gS Try.func41 #[.agg #[.int .i64 u0, .slice UA u1.length uka, .slice UB u2.length ukb, .slice UC u3.length ukc], .int .i64 ut] ?_
   refine (impl_DueBy.callsF HU.out AI.out).mono ?_
   rintro e w35_ ⟨ID, id, rfl, hnI, hb⟩
   refine ⟨_, rfl, ?_⟩
   replace HW := zVW HW hb; replace HX := zVW HX hb; replace HD := zVT HD hb; replace HY := zVW HY hb; replace HE := zVT HE hb; replace HV := zVW HV hb; replace HU := zVW HU hb; replace BK3 := zBB BK3 hb; replace BK4 := zBB BK4 hb; replace BK6 := zBB BK6 hb; replace BK8 := zBB BK8 hb; replace BK9 := zBB BK9 hb; replace HB := zLB HB.out hb; clear hb; have HI := aM hnI; clear hnI
   refine hK.out _ _ (zk4 BK4.out (zk4 BK6.out (zk4 BK8.out (zc4 BK9.out)))) fun hHeld => ?_; clear hK K
   refine nZ 55 ?_
   refine oN 22 58 (fB 39 8388607) HT_.out fun K hK => ?_
   refine gS Try.func40 #[.agg #[.int .i64 u0, .slice UA u1.length uka, .slice UB u2.length ukb, .slice UC u3.length ukc], .int .i64 ut] ?_
   refine (spec_DueBy.callsF HU.out AJ.out).mono ?_
   rintro e w36_ ⟨JD, jd, rfl, hnJ, hb⟩
   refine ⟨_, rfl, ?_⟩
   replace HW := zVW HW hb; replace HX := zVW HX hb; replace HD := zVT HD hb; replace HY := zVW HY hb; replace HE := zVT HE hb; replace HV := zVW HV hb; replace HU := zVW HU hb; replace HI := zVI HI hb; replace BK3 := zBB BK3 hb; replace BK4 := zBB BK4 hb; replace BK6 := zBB BK6 hb; replace BK8 := zBB BK8 hb; replace BK9 := zBB BK9 hb; replace HB := zLB HB.out hb; clear hb; have HJ := aM hnJ; clear hnJ
   refine hK.out _ _ (zk4 BK4.out (zk4 BK6.out (zk4 BK8.out (zc4 BK9.out)))) fun hHeld => ?_; clear hK K
   refine nZ 58 ?_
   refine oN 23 59 (fB 39 16777215) HT_.out fun K hK => ?_
   refine gS Try.func58 #[.slice ID i.length id, .slice JD j.length jd] ?_
   refine (laws_sameInts.callsF HI.out HJ.out E3.out).mono ?_
   rintro e w37_ ⟨rfl, hb⟩
   refine ⟨_, rfl, ?_⟩
   replace HW := zVW HW hb; replace HX := zVW HX hb; replace HD := zVT HD hb; replace HY := zVW HY hb; replace HE := zVT HE hb; replace HV := zVW HV hb; replace HU := zVW HU hb; replace HI := zVI HI hb; replace HJ := zVI HJ hb; replace BK3 := zBB BK3 hb; replace BK4 := zBB BK4 hb; replace BK6 := zBB BK6 hb; replace BK8 := zBB BK8 hb; replace BK9 := zBB BK9 hb; replace HB := zLB HB.out hb; clear hb
   refine hK.out _ _ (zk4 BK4.out (zk4 BK6.out (zk4 BK8.out (zc4 BK9.out)))) fun hHeld => ?_; clear hK K
   refine nZ 59 ?_
   refine pY 24 60 (fB 39 33554431) HT_.out ?_
   refine pY 25 61 (fB 39 67108863) HT_.out ?_
   refine pY 26 62 (fB 39 134217727) HT_.out ?_
   refine pY 27 63 (fB 39 268435455) HT_.out ?_
   refine pY 28 64 (fB 39 536870911) HT_.out ?_
   refine tY 29 65 (fB 39 1073741823) HT_.out HW_.out hHeld ?_
   refine oN 30 66 (fB 39 2147483647) HT_.out fun K hK => ?_
   refine gS Try.func25 #[.agg #[.int .i64 v0, .slice VA v1.length vka, .slice VB v2.length vkb, .slice VC v3.length vkc]] ?_
   refine (impl_Timers.callsF HV.out AT.out).mono ?_
   rintro e w38_ ⟨TVD, tvd, rfl, hnTV, hb⟩
   refine ⟨_, rfl, ?_⟩
   replace HW := zVW HW hb; replace HX := zVW HX hb; replace HD := zVT HD hb; replace HY := zVW HY hb; replace HE := zVT HE hb; replace HV := zVW HV hb; replace HU := zVW HU hb; replace HI := zVI HI hb; replace HJ := zVI HJ hb; replace BK3 := zBB BK3 hb; replace BK4 := zBB BK4 hb; replace BK6 := zBB BK6 hb; replace BK8 := zBB BK8 hb; replace BK9 := zBB BK9 hb; replace HB := zLB HB.out hb; clear hb; have HTV := aM hnTV; clear hnTV
   refine hK.out _ _ (zk4 BK4.out (zk4 BK6.out (zk4 BK8.out (zc4 BK9.out)))) fun hHeld => ?_; clear hK K
   refine nZ 66 ?_
   refine pY 31 67 (fB 39 4294967295) HT_.out ?_
   refine pY 32 68 (fB 39 8589934591) HT_.out ?_
   refine pY 33 69 (fB 39 17179869183) HT_.out ?_
   refine pY 34 70 (fB 39 34359738367) HT_.out ?_
   refine pN 35 71 (fB 39 68719476735) HT_.out ?_
   refine pN 36 72 (fB 39 137438953471) HT_.out ?_
   refine pY 37 73 (fB 39 274877906943) HT_.out ?_
   refine pY 38 74 (fB 39 549755813887) HT_.out ?_
   refine done_ (done_of HT_.out (by kernel_rfl)) ?_
   clear hHeld HT_ HW_
   try go_wp2
   go_meet
   case rel => exact ⟨zV, HW, HX, HD, HV, BK3, BK4, BK8, HB⟩
 case rest =>
  clear HV_ HW HX HD HY HE HV HU BK3 BK4 BK6 BK8 BK9 HB
  obtain ⟨rfl, HW, HX, HD, HV, BK3, BK4, BK8, HB⟩ := hcut
  have h := HT.out
  clear HT
  unfold laws_FnTicks.t at h
  replace h := zO h
  obtain ⟨o, AO, h⟩ := h
  (try dsimp only at h)
  (try clear hz3_); have hz3_ := zc4 BK3.out; (try clear hz4_); have hz4_ := zc4 BK4.out; (try clear hz8_); have hz8_ := zc4 BK8.out
  by_cases co : o = true
  rotate_left
  ·rw [if_neg co] at h
   obtain rfl := Bool.eq_false_iff.mpr co
   by_cases c6 : d.length = 0
   rotate_left
   ·rw [if_neg c6] at h
    exact absurd h (by simp)
   rw [if_pos c6] at h
   replace h := zO h
   obtain ⟨e4, E4, h⟩ := h
   (try dsimp only at h)
   by_cases c7 : e4 = true
   rotate_left
   ·rw [if_neg c7] at h
    exact absurd h (by simp)
   rw [if_pos c7] at h
   subst c7
   have c6b : (((d.length : Nat) : Int) == 0) = true := by rw [c6]; rfl
   have c6c : (d.length == 0) = true := by rw [c6]; rfl
   clear h c6
   go_wp2_with (first | ((with_reducible refine gC 30 rfl ?_); refine gL 76 Try.func30 #[.agg #[.int .i64 w0, .slice WA w1.length wka, .slice WB w2.length wkb, .slice WC w3.length wkc]] ?_; (refine (impl_WheelOk.callsF HW.out AO.out).mono ?_); rintro e w39_ ⟨rfl, hb⟩; refine ⟨_, rfl, ?_⟩; replace HW := zVW HW hb; replace HX := zVW HX hb; replace HD := zVT HD hb; replace HV := zVW HV hb; replace BK3 := zBB BK3 hb; replace BK4 := zBB BK4 hb; replace BK8 := zBB BK8 hb; replace HB := zLB HB.out hb; clear hb;  (try clear hz3_); have hz3_ := zc4 BK3.out; (try clear hz4_); have hz4_ := zc4 BK4.out; (try clear hz8_); have hz8_ := zc4 BK8.out;) | (go_at_call 50; (refine (laws_sameWheel.callsF HX.out HW.out E4.out).mono ?_); rintro e w40_ ⟨rfl, hb⟩; replace HW := zVW HW hb; replace HX := zVW HX hb; replace HD := zVT HD hb; replace HV := zVW HV hb; replace BK3 := zBB BK3 hb; replace BK4 := zBB BK4 hb; replace BK8 := zBB BK8 hb; replace HB := zLB HB.out hb; clear hb;  (try clear hz3_); have hz3_ := zc4 BK3.out; (try clear hz4_); have hz4_ := zc4 BK4.out; (try clear hz8_); have hz8_ := zc4 BK8.out;))
   go_ret
   exact ⟨rfl, HB.out⟩
  rw [if_pos co] at h
  subst co
  by_cases ca : (d.all fun t => t.f2 == x0) = true
  rotate_left
  ·rw [if_neg ca] at h
   exact absurd h (by simp)
  rw [if_pos ca] at h
  replace h := zO h
  obtain ⟨o2, AO2, h⟩ := h
  (try dsimp only at h)
  by_cases co2 : o2 = true
  rotate_left
  ·rw [if_neg co2] at h
   exact absurd h (by simp)
  rw [if_pos co2] at h
  subst co2
  replace h := zO h
  obtain ⟨m, AM, h⟩ := h
  (try dsimp only at h)
  have hq : laws_FnTicks.e k (v0, v1, v2, v3) n2 = some true ∧ (m ≠ -1 → x0 < m) := by
   by_cases c : m = -1
   ·rw [if_pos c] at h; exact ⟨h, fun c2 => absurd c c2⟩
   ·rw [if_neg c] at h
    by_cases c2 : x0 < m
    ·rw [if_pos c2] at h; exact ⟨h, fun _ => c2⟩
    ·rw [if_neg c2] at h; exact absurd h (by simp)
  have HT := aM hq.1
  have HM := aM hq.2
  have HA : Aside0 (∀ i : Int, 0 ≤ i → i < (d.length : Int) → (rd_T46 d i).f2 = x0) := ⟨all_due ca⟩
  clear h hq ca
  go_wp2_with (first | ((with_reducible refine gC 30 rfl ?_); refine gL 76 Try.func30 #[.agg #[.int .i64 w0, .slice WA w1.length wka, .slice WB w2.length wkb, .slice WC w3.length wkc]] ?_; (refine (impl_WheelOk.callsF HW.out AO.out).mono ?_); rintro e w41_ ⟨rfl, hb⟩; refine ⟨_, rfl, ?_⟩; replace HW := zVW HW hb; replace HX := zVW HX hb; replace HD := zVT HD hb; replace HV := zVW HV hb; replace BK3 := zBB BK3 hb; replace BK4 := zBB BK4 hb; replace BK8 := zBB BK8 hb; replace HB := zLB HB.out hb; clear hb;  (try clear hz3_); have hz3_ := zc4 BK3.out; (try clear hz4_); have hz4_ := zc4 BK4.out; (try clear hz8_); have hz8_ := zc4 BK8.out;))
  clear HW BK3 hz3_ hz4_ hz8_
  go_loopg [12] d.length (fun kq v12 w' => ∃ x : Int, v12 = .int .i64 x ∧ Aside0 (0 ≤ x ∧ x ≤ (d.length : Int) ∧ (kq : Int) + x = (d.length : Int)) ∧ Aside0 (WVc XA xka x1 XB xkb x2 XC xkc x3 w') ∧ Aside0 (TVc DD dd d w') ∧ Aside0 (WVc VA vka v1 VB vkb v2 VC vkc v3 w') ∧ Aside0 (w'.heap[g4]? = some (.cells #[.int .i64 x0, .slice XA x1.length xka, .slice XB x2.length xkb, .slice XC x3.length xkc] 25 (0, 0))) ∧ Aside0 (w'.heap[g8]? = some (.cells #[.int .i64 v0, .slice VA v1.length vka, .slice VB v2.length vkb, .slice VC v3.length vkc] 25 (0, 0))) ∧ Aside0 (Below w.heap.size w w'))
  case atStart => exact ⟨0, zV, ⟨by omega⟩, HX, HD, HV, BK4, BK8, HB⟩
  case round =>
   clear HX HD HV BK4 BK8 HB
   obtain ⟨x, rfl, HK, HX, HD, HV, BK4, BK8, HB⟩ := hrel
   by_cases cx : x < (d.length : Int)
   ·have cxb := dT cx
    have p_ : 0 ≤ x := HK.out.1
    have q_ : x < (d.length : Int) := cx
    have f_ := HA.out x p_ q_
    have fb_ : ((rd_T46 d x).f2 != x0) = false := by rw [f_]; simp
    have hw_ : wrap64 (x + 1) = x + 1 := wrap_mid d x HK.out.1 cx HD.out
    obtain ⟨k2, hk2⟩ : ∃ k2 : Nat, gk = k2 + 1 ∧ (k2 : Int) + (x + 1) = (d.length : Int) := ⟨gk - 1, by have a_ := HK.out.2.2; omega, by have a_ := HK.out.2.2; omega⟩
    have HK2 : Aside0 (0 ≤ wrap64 (x + 1) ∧ wrap64 (x + 1) ≤ (d.length : Int) ∧ (k2 : Int) + wrap64 (x + 1) = (d.length : Int)) := ⟨by rw [hw_]; have a_ := hk2.2; omega⟩
    have HG := aM hk2.1
    clear hw_ cx f_ hk2
    try go_wp2
    obtain ⟨ad, e_, hx0_, hx1_, hx2_⟩ := at_T46 HD.out.2 x p_ q_
    cases e_
    replace p_ := eq_true p_
    replace q_ := eq_true q_
    replace HX := zVW HX zVd
    replace HD := zVT HD zVd
    replace HV := zVW HV zVd
    replace BK4 := zBD BK4
    replace BK8 := zBD BK8
    replace HB := zLD HB
    refine start_ (n := 8) (S := fun w' => zt4 w' g4 (.int .i64 x0) (.slice XA x1.length xka) (.slice XB x2.length xkb) (.slice XC x3.length xkc) (w'.cell? (ad.add (x.toNat * 3)) = some (.int .i64 ((rd_T46 d x).f0)) ∧ w'.cell? ⟨(ad.add (x.toNat * 3)).block, (ad.add (x.toNat * 3)).off + 1, none⟩ = some (.int .i64 ((rd_T46 d x).f1)) ∧ w'.cell? ⟨(ad.add (x.toNat * 3)).block, (ad.add (x.toNat * 3)).off + 2, none⟩ = some (.int .i64 ((rd_T46 d x).f2)))) (ds := []) (fB 8 0) (by kernel_rfl) rfl rfl (zk4 BK4.out ⟨hx0_, hx1_, hx2_⟩) (fun hHeld => ?_); refine with_tabW laws_FnTicks.tab16 laws_FnTicks.bits16 (fun HT_ HW_ => ?_)
    generalize wr.drew = w42_ at HX HD HV BK4 BK8 hx0_ hx1_ hx2_ HB hHeld ⊢
    refine pY 0 92 (fB 8 1) HT_.out ?_
    refine pY 1 93 (fB 8 3) HT_.out ?_
    refine pY 2 94 (fB 8 7) HT_.out ?_
    refine pY 3 95 (fB 8 15) HT_.out ?_
    refine pY 5 97 (fB 8 47) HT_.out ?_
    refine tY 4 96 (fB 8 63) HT_.out HW_.out hHeld ?_
    refine tY 6 98 (fB 8 127) HT_.out HW_.out hHeld ?_
    refine pY 7 99 (fB 8 255) HT_.out ?_
    refine done_ (done_of HT_.out (by kernel_rfl)) ?_
    clear hHeld HT_ HW_
    try go_wp2
    go_roundg k2
    case measure => rw [HG.out]; exact Nat.lt_succ_self _
    case rel => exact ⟨wrap64 (x + 1), zV, HK2, HX, HD, HV, BK4, BK8, HB⟩
   ·have cxb := dF cx
    clear cx HA HK
    have h := HT.out
    clear HT
    unfold laws_FnTicks.e at h
    try go_wp2
    by_cases cn : n2 = -1
    ·by_cases cm : m = -1
     ·obtain ⟨cmb0, cmb1⟩ := zt cm
      obtain ⟨cnb0, cnb1⟩ := zt cn
      clear h cn cm HM
      replace HX := zVW HX zVd
      replace HD := zVT HD zVd
      replace HV := zVW HV zVd
      replace BK4 := zBD BK4
      replace BK8 := zBD BK8
      replace HB := zLD HB
      refine start_ (n := 39) (S := fun w' => zt4 w' g4 (.int .i64 x0) (.slice XA x1.length xka) (.slice XB x2.length xkb) (.slice XC x3.length xkc) (zs4 w' g8 (.int .i64 v0) (.slice VA v1.length vka) (.slice VB v2.length vkb) (.slice VC v3.length vkc))) (ds := []) (fB 39 0) (by kernel_rfl) rfl rfl (zk4 BK4.out (zc4 BK8.out)) (fun hHeld => ?_); refine with_tabW laws_FnTicks.tab18 laws_FnTicks.bits18 (fun HT_ HW_ => ?_)
      generalize wr.drew = w43_ at HX HD HV BK4 BK8 HB hHeld ⊢
      refine tY 0 100 (fB 39 1) HT_.out HW_.out hHeld ?_
      refine oN 1 101 (fB 39 3) HT_.out fun K hK => ?_
      refine gS Try.func30 #[.agg #[.int .i64 x0, .slice XA x1.length xka, .slice XB x2.length xkb, .slice XC x3.length xkc]] ?_
      refine (impl_WheelOk.callsF HX.out AO2.out).mono ?_
      rintro e w44_ ⟨rfl, hb⟩
      refine ⟨_, rfl, ?_⟩
      replace HX := zVW HX hb; replace HD := zVT HD hb; replace HV := zVW HV hb; replace BK4 := zBB BK4 hb; replace BK8 := zBB BK8 hb; replace HB := zLB HB.out hb; clear hb
      refine hK.out _ _ (zk4 BK4.out (zc4 BK8.out)) fun hHeld => ?_; clear hK K
      refine nZ 101 ?_
      refine pY 2 102 (fB 39 7) HT_.out ?_
      refine tY 3 103 (fB 39 15) HT_.out HW_.out hHeld ?_
      refine oN 4 104 (fB 39 31) HT_.out fun K hK => ?_
      refine gS Try.func23 #[.agg #[.int .i64 x0, .slice XA x1.length xka, .slice XB x2.length xkb, .slice XC x3.length xkc]] ?_
      refine (impl_NextDue.callsF HX.out AM.out).mono ?_
      rintro e w45_ ⟨rfl, hb⟩
      refine ⟨_, rfl, ?_⟩
      replace HX := zVW HX hb; replace HD := zVT HD hb; replace HV := zVW HV hb; replace BK4 := zBB BK4 hb; replace BK8 := zBB BK8 hb; replace HB := zLB HB.out hb; clear hb
      refine hK.out _ _ (zk4 BK4.out (zc4 BK8.out)) fun hHeld => ?_; clear hK K
      refine nZ 104 ?_
      refine pY 5 105 (fB 39 63) HT_.out ?_
      refine pY 6 106 (fB 39 127) HT_.out ?_
      refine pN 7 107 (fB 39 255) HT_.out ?_
      refine pN 8 108 (fB 39 511) HT_.out ?_
      refine pN 9 109 (fB 39 1023) HT_.out ?_
      refine pN 10 110 (fB 39 2047) HT_.out ?_
      refine pN 11 111 (fB 39 4095) HT_.out ?_
      refine pY 12 112 (fB 39 8191) HT_.out ?_
      refine pY 13 113 (fB 39 16383) HT_.out ?_
      refine pY 14 114 (fB 39 32767) HT_.out ?_
      refine pY 15 115 (fB 39 65535) HT_.out ?_
      refine pY 16 116 (fB 39 131071) HT_.out ?_
      refine pY 17 117 (fB 39 262143) HT_.out ?_
      refine pN 18 118 (fB 39 524287) HT_.out ?_
      refine pN 19 119 (fB 39 1048575) HT_.out ?_
      refine pN 20 120 (fB 39 2097151) HT_.out ?_
      refine pY 21 121 (fB 39 4194303) HT_.out ?_
      refine pY 22 122 (fB 39 8388607) HT_.out ?_
      refine pN 23 123 (fB 39 16777215) HT_.out ?_
      refine pN 24 124 (fB 39 33554431) HT_.out ?_
      refine pN 25 125 (fB 39 67108863) HT_.out ?_
      refine pN 26 126 (fB 39 134217727) HT_.out ?_
      refine pN 27 127 (fB 39 268435455) HT_.out ?_
      refine pN 28 128 (fB 39 536870911) HT_.out ?_
      refine pN 29 129 (fB 39 1073741823) HT_.out ?_
      refine pN 30 130 (fB 39 2147483647) HT_.out ?_
      refine pN 31 131 (fB 39 4294967295) HT_.out ?_
      refine pN 32 132 (fB 39 8589934591) HT_.out ?_
      refine pN 33 133 (fB 39 17179869183) HT_.out ?_
      refine pN 34 134 (fB 39 34359738367) HT_.out ?_
      refine pN 35 135 (fB 39 68719476735) HT_.out ?_
      refine pY 36 136 (fB 39 137438953471) HT_.out ?_
      refine pY 37 137 (fB 39 274877906943) HT_.out ?_
      refine pY 38 2 (fB 39 549755813887) HT_.out ?_
      refine done_ (done_of HT_.out (by kernel_rfl)) ?_
      clear hHeld HT_ HW_
      try go_wp2
      go_ret
      exact ⟨rfl, HB.out⟩
     ·obtain ⟨cmb0, cmb1⟩ := zf cm
      have cmb2 := dT (HM.out cm)
      have cmb3 : decide (m > x0) = true := cmb2
      obtain ⟨cnb0, cnb1⟩ := zt cn
      clear h cn cm HM
      replace HX := zVW HX zVd
      replace HD := zVT HD zVd
      replace HV := zVW HV zVd
      replace BK4 := zBD BK4
      replace BK8 := zBD BK8
      replace HB := zLD HB
      refine start_ (n := 39) (S := fun w' => zt4 w' g4 (.int .i64 x0) (.slice XA x1.length xka) (.slice XB x2.length xkb) (.slice XC x3.length xkc) (zs4 w' g8 (.int .i64 v0) (.slice VA v1.length vka) (.slice VB v2.length vkb) (.slice VC v3.length vkc))) (ds := []) (fB 39 0) (by kernel_rfl) rfl rfl (zk4 BK4.out (zc4 BK8.out)) (fun hHeld => ?_); refine with_tabW laws_FnTicks.tab18 laws_FnTicks.bits18 (fun HT_ HW_ => ?_)
      generalize wr.drew = w56_ at HX HD HV BK4 BK8 HB hHeld ⊢
      refine tY 0 100 (fB 39 1) HT_.out HW_.out hHeld ?_
      refine oN 1 101 (fB 39 3) HT_.out fun K hK => ?_
      refine gS Try.func30 #[.agg #[.int .i64 x0, .slice XA x1.length xka, .slice XB x2.length xkb, .slice XC x3.length xkc]] ?_
      refine (impl_WheelOk.callsF HX.out AO2.out).mono ?_
      rintro e w57_ ⟨rfl, hb⟩
      refine ⟨_, rfl, ?_⟩
      replace HX := zVW HX hb; replace HD := zVT HD hb; replace HV := zVW HV hb; replace BK4 := zBB BK4 hb; replace BK8 := zBB BK8 hb; replace HB := zLB HB.out hb; clear hb
      refine hK.out _ _ (zk4 BK4.out (zc4 BK8.out)) fun hHeld => ?_; clear hK K
      refine nZ 101 ?_
      refine pY 2 102 (fB 39 7) HT_.out ?_
      refine tY 3 103 (fB 39 15) HT_.out HW_.out hHeld ?_
      refine oN 4 104 (fB 39 31) HT_.out fun K hK => ?_
      refine gS Try.func23 #[.agg #[.int .i64 x0, .slice XA x1.length xka, .slice XB x2.length xkb, .slice XC x3.length xkc]] ?_
      refine (impl_NextDue.callsF HX.out AM.out).mono ?_
      rintro e w58_ ⟨rfl, hb⟩
      refine ⟨_, rfl, ?_⟩
      replace HX := zVW HX hb; replace HD := zVT HD hb; replace HV := zVW HV hb; replace BK4 := zBB BK4 hb; replace BK8 := zBB BK8 hb; replace HB := zLB HB.out hb; clear hb
      refine hK.out _ _ (zk4 BK4.out (zc4 BK8.out)) fun hHeld => ?_; clear hK K
      refine nZ 104 ?_
      refine pY 5 105 (fB 39 63) HT_.out ?_
      refine pY 6 106 (fB 39 127) HT_.out ?_
      refine pY 9 109 (fB 39 639) HT_.out ?_
      refine tY 7 107 (fB 39 767) HT_.out HW_.out hHeld ?_
      refine tY 10 110 (fB 39 1791) HT_.out HW_.out hHeld ?_
      refine oN 8 108 (fB 39 2047) HT_.out fun K hK => ?_
      refine gS Try.func23 #[.agg #[.int .i64 x0, .slice XA x1.length xka, .slice XB x2.length xkb, .slice XC x3.length xkc]] ?_
      refine (impl_NextDue.callsF HX.out AM.out).mono ?_
      rintro e w59_ ⟨rfl, hb⟩
      refine ⟨_, rfl, ?_⟩
      replace HX := zVW HX hb; replace HD := zVT HD hb; replace HV := zVW HV hb; replace BK4 := zBB BK4 hb; replace BK8 := zBB BK8 hb; replace HB := zLB HB.out hb; clear hb
      refine hK.out _ _ (zk4 BK4.out (zc4 BK8.out)) fun hHeld => ?_; clear hK K
      refine nZ 108 ?_
      refine pY 11 111 (fB 39 4095) HT_.out ?_
      refine pY 12 112 (fB 39 8191) HT_.out ?_
      refine pY 13 113 (fB 39 16383) HT_.out ?_
      refine pY 14 114 (fB 39 32767) HT_.out ?_
      refine pY 15 115 (fB 39 65535) HT_.out ?_
      refine pY 16 116 (fB 39 131071) HT_.out ?_
      refine pY 17 117 (fB 39 262143) HT_.out ?_
      refine pN 18 118 (fB 39 524287) HT_.out ?_
      refine pN 19 119 (fB 39 1048575) HT_.out ?_
      refine pN 20 120 (fB 39 2097151) HT_.out ?_
      refine pY 21 121 (fB 39 4194303) HT_.out ?_
      refine pY 22 122 (fB 39 8388607) HT_.out ?_
      refine pN 23 123 (fB 39 16777215) HT_.out ?_
      refine pN 24 124 (fB 39 33554431) HT_.out ?_
      refine pN 25 125 (fB 39 67108863) HT_.out ?_
      refine pN 26 126 (fB 39 134217727) HT_.out ?_
      refine pN 27 127 (fB 39 268435455) HT_.out ?_
      refine pN 28 128 (fB 39 536870911) HT_.out ?_
      refine pN 29 129 (fB 39 1073741823) HT_.out ?_
      refine pN 30 130 (fB 39 2147483647) HT_.out ?_
      refine pN 31 131 (fB 39 4294967295) HT_.out ?_
      refine pN 32 132 (fB 39 8589934591) HT_.out ?_
      refine pN 33 133 (fB 39 17179869183) HT_.out ?_
      refine pN 34 134 (fB 39 34359738367) HT_.out ?_
      refine pN 35 135 (fB 39 68719476735) HT_.out ?_
      refine pY 36 136 (fB 39 137438953471) HT_.out ?_
      refine pY 37 137 (fB 39 274877906943) HT_.out ?_
      refine pY 38 2 (fB 39 549755813887) HT_.out ?_
      refine done_ (done_of HT_.out (by kernel_rfl)) ?_
      clear hHeld HT_ HW_
      try go_wp2
      go_ret
      exact ⟨rfl, HB.out⟩
    ·rw [if_neg cn] at h
     replace h := zO h
     obtain ⟨ov, AOV, h⟩ := h
     (try dsimp only at h)
     by_cases cv : ov = true
     ·by_cases cm : m = -1
      ·obtain ⟨cmb0, cmb1⟩ := zt cm
       obtain ⟨cnb0, cnb1⟩ := zf cn
       subst cv
       rw [if_pos rfl] at h
       replace h := zO h
       obtain ⟨ma, AA, h⟩ := h
       (try dsimp only at h)
       by_cases c8 : ma.length = 0
       ·rw [if_pos c8] at h; exact absurd h (by simp)
       rw [if_neg c8] at h
       replace h := zO h
       obtain ⟨mb, AB2, h⟩ := h
       (try dsimp only at h)
       by_cases c9 : mb.length = 0
       rotate_left
       ·rw [if_neg c9] at h
        exact absurd h (by simp)
       rw [if_pos c9] at h
       have c8b : decide ((ma.length : Int) > 0) = true := dT (by omega)
       have c8c : decide (0 < ma.length) = true := dT (by omega)
       have c9b : ((mb.length : Int) == 0) = true := by rw [c9]; rfl
       have c9c : (mb.length == 0) = true := by rw [c9]; rfl
       clear h cn cm HM c8 c9
       replace HX := zVW HX zVd
       replace HD := zVT HD zVd
       replace HV := zVW HV zVd
       replace BK4 := zBD BK4
       replace BK8 := zBD BK8
       replace HB := zLD HB
       refine start_ (n := 39) (S := fun w' => zt4 w' g4 (.int .i64 x0) (.slice XA x1.length xka) (.slice XB x2.length xkb) (.slice XC x3.length xkc) (zs4 w' g8 (.int .i64 v0) (.slice VA v1.length vka) (.slice VB v2.length vkb) (.slice VC v3.length vkc))) (ds := []) (fB 39 0) (by kernel_rfl) rfl rfl (zk4 BK4.out (zc4 BK8.out)) (fun hHeld => ?_); refine with_tabW laws_FnTicks.tab18 laws_FnTicks.bits18 (fun HT_ HW_ => ?_)
       generalize wr.drew = w50_ at HX HD HV BK4 BK8 HB hHeld ⊢
       refine tY 0 100 (fB 39 1) HT_.out HW_.out hHeld ?_
       refine oN 1 101 (fB 39 3) HT_.out fun K hK => ?_
       refine gS Try.func30 #[.agg #[.int .i64 x0, .slice XA x1.length xka, .slice XB x2.length xkb, .slice XC x3.length xkc]] ?_
       refine (impl_WheelOk.callsF HX.out AO2.out).mono ?_
       rintro e w51_ ⟨rfl, hb⟩
       refine ⟨_, rfl, ?_⟩
       replace HX := zVW HX hb; replace HD := zVT HD hb; replace HV := zVW HV hb; replace BK4 := zBB BK4 hb; replace BK8 := zBB BK8 hb; replace HB := zLB HB.out hb; clear hb
       refine hK.out _ _ (zk4 BK4.out (zc4 BK8.out)) fun hHeld => ?_; clear hK K
       refine nZ 101 ?_
       refine pY 2 102 (fB 39 7) HT_.out ?_
       refine tY 3 103 (fB 39 15) HT_.out HW_.out hHeld ?_
       refine oN 4 104 (fB 39 31) HT_.out fun K hK => ?_
       refine gS Try.func23 #[.agg #[.int .i64 x0, .slice XA x1.length xka, .slice XB x2.length xkb, .slice XC x3.length xkc]] ?_
       refine (impl_NextDue.callsF HX.out AM.out).mono ?_
       rintro e w52_ ⟨rfl, hb⟩
       refine ⟨_, rfl, ?_⟩
       replace HX := zVW HX hb; replace HD := zVT HD hb; replace HV := zVW HV hb; replace BK4 := zBB BK4 hb; replace BK8 := zBB BK8 hb; replace HB := zLB HB.out hb; clear hb
       refine hK.out _ _ (zk4 BK4.out (zc4 BK8.out)) fun hHeld => ?_; clear hK K
       refine nZ 104 ?_
       refine pY 5 105 (fB 39 63) HT_.out ?_
       refine pY 6 106 (fB 39 127) HT_.out ?_
       refine pN 7 107 (fB 39 255) HT_.out ?_
       refine pN 8 108 (fB 39 511) HT_.out ?_
       refine pN 9 109 (fB 39 1023) HT_.out ?_
       refine pN 10 110 (fB 39 2047) HT_.out ?_
       refine pN 11 111 (fB 39 4095) HT_.out ?_
       refine pY 12 112 (fB 39 8191) HT_.out ?_
       refine pY 13 113 (fB 39 16383) HT_.out ?_
       refine pY 14 114 (fB 39 32767) HT_.out ?_
       refine pY 15 115 (fB 39 65535) HT_.out ?_
       refine pY 16 116 (fB 39 131071) HT_.out ?_
       refine pY 17 117 (fB 39 262143) HT_.out ?_
       refine tY 18 118 (fB 39 524287) HT_.out HW_.out hHeld ?_
       refine oN 19 119 (fB 39 1048575) HT_.out fun K hK => ?_
       refine gS Try.func30 #[.agg #[.int .i64 v0, .slice VA v1.length vka, .slice VB v2.length vkb, .slice VC v3.length vkc]] ?_
       refine (impl_WheelOk.callsF HV.out AOV.out).mono ?_
       rintro e w53_ ⟨rfl, hb⟩
       refine ⟨_, rfl, ?_⟩
       replace HX := zVW HX hb; replace HD := zVT HD hb; replace HV := zVW HV hb; replace BK4 := zBB BK4 hb; replace BK8 := zBB BK8 hb; replace HB := zLB HB.out hb; clear hb
       refine hK.out _ _ (zk4 BK4.out (zc4 BK8.out)) fun hHeld => ?_; clear hK K
       refine nZ 119 ?_
       refine pY 20 120 (fB 39 2097151) HT_.out ?_
       refine pY 21 121 (fB 39 4194303) HT_.out ?_
       refine pY 22 122 (fB 39 8388607) HT_.out ?_
       refine pY 24 124 (fB 39 25165823) HT_.out ?_
       refine tY 23 123 (fB 39 33554431) HT_.out HW_.out hHeld ?_
       refine oN 25 125 (fB 39 67108863) HT_.out fun K hK => ?_
       refine gS Try.func41 #[.agg #[.int .i64 v0, .slice VA v1.length vka, .slice VB v2.length vkb, .slice VC v3.length vkc], .int .i64 n2] ?_
       refine (impl_DueBy.callsF HV.out AA.out).mono ?_
       rintro e w54_ ⟨MAD, mad, rfl, hnMA, hb⟩
       refine ⟨_, rfl, ?_⟩
       replace HX := zVW HX hb; replace HD := zVT HD hb; replace HV := zVW HV hb; replace BK4 := zBB BK4 hb; replace BK8 := zBB BK8 hb; replace HB := zLB HB.out hb; clear hb; have HMA := aM hnMA; clear hnMA
       refine hK.out _ _ (zk4 BK4.out (zc4 BK8.out)) fun hHeld => ?_; clear hK K
       refine nZ 125 ?_
       refine pY 26 126 (fB 39 134217727) HT_.out ?_
       refine pY 27 127 (fB 39 268435455) HT_.out ?_
       refine pY 28 128 (fB 39 536870911) HT_.out ?_
       refine pY 30 130 (fB 39 1610612735) HT_.out ?_
       refine pY 31 131 (fB 39 3758096383) HT_.out ?_
       refine tY 29 129 (fB 39 4294967295) HT_.out HW_.out hHeld ?_
       refine oN 32 132 (fB 39 8589934591) HT_.out fun K hK => ?_
       refine gS Try.func41 #[.agg #[.int .i64 v0, .slice VA v1.length vka, .slice VB v2.length vkb, .slice VC v3.length vkc], .int .i64 (wrap64 (n2 - 1))] ?_
       refine (impl_DueBy.callsF HV.out AB2.out).mono ?_
       rintro e w55_ ⟨MBD, mbd, rfl, hnMB, hb⟩
       refine ⟨_, rfl, ?_⟩
       replace HX := zVW HX hb; replace HD := zVT HD hb; replace HV := zVW HV hb; replace HMA := zVI HMA hb; replace BK4 := zBB BK4 hb; replace BK8 := zBB BK8 hb; replace HB := zLB HB.out hb; clear hb; have HMB := aM hnMB; clear hnMB
       refine hK.out _ _ (zk4 BK4.out (zc4 BK8.out)) fun hHeld => ?_; clear hK K
       refine nZ 132 ?_
       refine pY 33 133 (fB 39 17179869183) HT_.out ?_
       refine pY 34 134 (fB 39 34359738367) HT_.out ?_
       refine pY 35 135 (fB 39 68719476735) HT_.out ?_
       refine pY 36 136 (fB 39 137438953471) HT_.out ?_
       refine pY 37 137 (fB 39 274877906943) HT_.out ?_
       refine pY 38 2 (fB 39 549755813887) HT_.out ?_
       refine done_ (done_of HT_.out (by kernel_rfl)) ?_
       clear hHeld HT_ HW_
       try go_wp2
       go_ret
       exact ⟨rfl, HB.out⟩
      ·obtain ⟨cmb0, cmb1⟩ := zf cm
       have cmb2 := dT (HM.out cm)
       have cmb3 : decide (m > x0) = true := cmb2
       obtain ⟨cnb0, cnb1⟩ := zf cn
       subst cv
       rw [if_pos rfl] at h
       replace h := zO h
       obtain ⟨ma, AA, h⟩ := h
       (try dsimp only at h)
       by_cases c8 : ma.length = 0
       ·rw [if_pos c8] at h; exact absurd h (by simp)
       rw [if_neg c8] at h
       replace h := zO h
       obtain ⟨mb, AB2, h⟩ := h
       (try dsimp only at h)
       by_cases c9 : mb.length = 0
       rotate_left
       ·rw [if_neg c9] at h
        exact absurd h (by simp)
       rw [if_pos c9] at h
       have c8b : decide ((ma.length : Int) > 0) = true := dT (by omega)
       have c8c : decide (0 < ma.length) = true := dT (by omega)
       have c9b : ((mb.length : Int) == 0) = true := by rw [c9]; rfl
       have c9c : (mb.length == 0) = true := by rw [c9]; rfl
       clear h cn cm HM c8 c9
       replace HX := zVW HX zVd
       replace HD := zVT HD zVd
       replace HV := zVW HV zVd
       replace BK4 := zBD BK4
       replace BK8 := zBD BK8
       replace HB := zLD HB
       refine start_ (n := 39) (S := fun w' => zt4 w' g4 (.int .i64 x0) (.slice XA x1.length xka) (.slice XB x2.length xkb) (.slice XC x3.length xkc) (zs4 w' g8 (.int .i64 v0) (.slice VA v1.length vka) (.slice VB v2.length vkb) (.slice VC v3.length vkc))) (ds := []) (fB 39 0) (by kernel_rfl) rfl rfl (zk4 BK4.out (zc4 BK8.out)) (fun hHeld => ?_); refine with_tabW laws_FnTicks.tab18 laws_FnTicks.bits18 (fun HT_ HW_ => ?_)
       generalize wr.drew = w65_ at HX HD HV BK4 BK8 HB hHeld ⊢
       refine tY 0 100 (fB 39 1) HT_.out HW_.out hHeld ?_
       refine oN 1 101 (fB 39 3) HT_.out fun K hK => ?_
       refine gS Try.func30 #[.agg #[.int .i64 x0, .slice XA x1.length xka, .slice XB x2.length xkb, .slice XC x3.length xkc]] ?_
       refine (impl_WheelOk.callsF HX.out AO2.out).mono ?_
       rintro e w66_ ⟨rfl, hb⟩
       refine ⟨_, rfl, ?_⟩
       replace HX := zVW HX hb; replace HD := zVT HD hb; replace HV := zVW HV hb; replace BK4 := zBB BK4 hb; replace BK8 := zBB BK8 hb; replace HB := zLB HB.out hb; clear hb
       refine hK.out _ _ (zk4 BK4.out (zc4 BK8.out)) fun hHeld => ?_; clear hK K
       refine nZ 101 ?_
       refine pY 2 102 (fB 39 7) HT_.out ?_
       refine tY 3 103 (fB 39 15) HT_.out HW_.out hHeld ?_
       refine oN 4 104 (fB 39 31) HT_.out fun K hK => ?_
       refine gS Try.func23 #[.agg #[.int .i64 x0, .slice XA x1.length xka, .slice XB x2.length xkb, .slice XC x3.length xkc]] ?_
       refine (impl_NextDue.callsF HX.out AM.out).mono ?_
       rintro e w67_ ⟨rfl, hb⟩
       refine ⟨_, rfl, ?_⟩
       replace HX := zVW HX hb; replace HD := zVT HD hb; replace HV := zVW HV hb; replace BK4 := zBB BK4 hb; replace BK8 := zBB BK8 hb; replace HB := zLB HB.out hb; clear hb
       refine hK.out _ _ (zk4 BK4.out (zc4 BK8.out)) fun hHeld => ?_; clear hK K
       refine nZ 104 ?_
       refine pY 5 105 (fB 39 63) HT_.out ?_
       refine pY 6 106 (fB 39 127) HT_.out ?_
       refine pY 9 109 (fB 39 639) HT_.out ?_
       refine tY 7 107 (fB 39 767) HT_.out HW_.out hHeld ?_
       refine tY 10 110 (fB 39 1791) HT_.out HW_.out hHeld ?_
       refine oN 8 108 (fB 39 2047) HT_.out fun K hK => ?_
       refine gS Try.func23 #[.agg #[.int .i64 x0, .slice XA x1.length xka, .slice XB x2.length xkb, .slice XC x3.length xkc]] ?_
       refine (impl_NextDue.callsF HX.out AM.out).mono ?_
       rintro e w68_ ⟨rfl, hb⟩
       refine ⟨_, rfl, ?_⟩
       replace HX := zVW HX hb; replace HD := zVT HD hb; replace HV := zVW HV hb; replace BK4 := zBB BK4 hb; replace BK8 := zBB BK8 hb; replace HB := zLB HB.out hb; clear hb
       refine hK.out _ _ (zk4 BK4.out (zc4 BK8.out)) fun hHeld => ?_; clear hK K
       refine nZ 108 ?_
       refine pY 11 111 (fB 39 4095) HT_.out ?_
       refine pY 12 112 (fB 39 8191) HT_.out ?_
       refine pY 13 113 (fB 39 16383) HT_.out ?_
       refine pY 14 114 (fB 39 32767) HT_.out ?_
       refine pY 15 115 (fB 39 65535) HT_.out ?_
       refine pY 16 116 (fB 39 131071) HT_.out ?_
       refine pY 17 117 (fB 39 262143) HT_.out ?_
       refine tY 18 118 (fB 39 524287) HT_.out HW_.out hHeld ?_
       refine oN 19 119 (fB 39 1048575) HT_.out fun K hK => ?_
       refine gS Try.func30 #[.agg #[.int .i64 v0, .slice VA v1.length vka, .slice VB v2.length vkb, .slice VC v3.length vkc]] ?_
       refine (impl_WheelOk.callsF HV.out AOV.out).mono ?_
       rintro e w69_ ⟨rfl, hb⟩
       refine ⟨_, rfl, ?_⟩
       replace HX := zVW HX hb; replace HD := zVT HD hb; replace HV := zVW HV hb; replace BK4 := zBB BK4 hb; replace BK8 := zBB BK8 hb; replace HB := zLB HB.out hb; clear hb
       refine hK.out _ _ (zk4 BK4.out (zc4 BK8.out)) fun hHeld => ?_; clear hK K
       refine nZ 119 ?_
       refine pY 20 120 (fB 39 2097151) HT_.out ?_
       refine pY 21 121 (fB 39 4194303) HT_.out ?_
       refine pY 22 122 (fB 39 8388607) HT_.out ?_
       refine pY 24 124 (fB 39 25165823) HT_.out ?_
       refine tY 23 123 (fB 39 33554431) HT_.out HW_.out hHeld ?_
       refine oN 25 125 (fB 39 67108863) HT_.out fun K hK => ?_
       refine gS Try.func41 #[.agg #[.int .i64 v0, .slice VA v1.length vka, .slice VB v2.length vkb, .slice VC v3.length vkc], .int .i64 n2] ?_
       refine (impl_DueBy.callsF HV.out AA.out).mono ?_
       rintro e w70_ ⟨MAD, mad, rfl, hnMA, hb⟩
       refine ⟨_, rfl, ?_⟩
       replace HX := zVW HX hb; replace HD := zVT HD hb; replace HV := zVW HV hb; replace BK4 := zBB BK4 hb; replace BK8 := zBB BK8 hb; replace HB := zLB HB.out hb; clear hb; have HMA := aM hnMA; clear hnMA
       refine hK.out _ _ (zk4 BK4.out (zc4 BK8.out)) fun hHeld => ?_; clear hK K
       refine nZ 125 ?_
       refine pY 26 126 (fB 39 134217727) HT_.out ?_
       refine pY 27 127 (fB 39 268435455) HT_.out ?_
       refine pY 28 128 (fB 39 536870911) HT_.out ?_
       refine pY 30 130 (fB 39 1610612735) HT_.out ?_
       refine pY 31 131 (fB 39 3758096383) HT_.out ?_
       refine tY 29 129 (fB 39 4294967295) HT_.out HW_.out hHeld ?_
       refine oN 32 132 (fB 39 8589934591) HT_.out fun K hK => ?_
       refine gS Try.func41 #[.agg #[.int .i64 v0, .slice VA v1.length vka, .slice VB v2.length vkb, .slice VC v3.length vkc], .int .i64 (wrap64 (n2 - 1))] ?_
       refine (impl_DueBy.callsF HV.out AB2.out).mono ?_
       rintro e w71_ ⟨MBD, mbd, rfl, hnMB, hb⟩
       refine ⟨_, rfl, ?_⟩
       replace HX := zVW HX hb; replace HD := zVT HD hb; replace HV := zVW HV hb; replace HMA := zVI HMA hb; replace BK4 := zBB BK4 hb; replace BK8 := zBB BK8 hb; replace HB := zLB HB.out hb; clear hb; have HMB := aM hnMB; clear hnMB
       refine hK.out _ _ (zk4 BK4.out (zc4 BK8.out)) fun hHeld => ?_; clear hK K
       refine nZ 132 ?_
       refine pY 33 133 (fB 39 17179869183) HT_.out ?_
       refine pY 34 134 (fB 39 34359738367) HT_.out ?_
       refine pY 35 135 (fB 39 68719476735) HT_.out ?_
       refine pY 36 136 (fB 39 137438953471) HT_.out ?_
       refine pY 37 137 (fB 39 274877906943) HT_.out ?_
       refine pY 38 2 (fB 39 549755813887) HT_.out ?_
       refine done_ (done_of HT_.out (by kernel_rfl)) ?_
       clear hHeld HT_ HW_
       try go_wp2
       go_ret
       exact ⟨rfl, HB.out⟩
     ·by_cases cm : m = -1
      ·obtain ⟨cmb0, cmb1⟩ := zt cm
       obtain ⟨cnb0, cnb1⟩ := zf cn
       obtain rfl := Bool.eq_false_iff.mpr cv
       clear h cn cm HM cv
       replace HX := zVW HX zVd
       replace HD := zVT HD zVd
       replace HV := zVW HV zVd
       replace BK4 := zBD BK4
       replace BK8 := zBD BK8
       replace HB := zLD HB
       refine start_ (n := 39) (S := fun w' => zt4 w' g4 (.int .i64 x0) (.slice XA x1.length xka) (.slice XB x2.length xkb) (.slice XC x3.length xkc) (zs4 w' g8 (.int .i64 v0) (.slice VA v1.length vka) (.slice VB v2.length vkb) (.slice VC v3.length vkc))) (ds := []) (fB 39 0) (by kernel_rfl) rfl rfl (zk4 BK4.out (zc4 BK8.out)) (fun hHeld => ?_); refine with_tabW laws_FnTicks.tab18 laws_FnTicks.bits18 (fun HT_ HW_ => ?_)
       generalize wr.drew = w46_ at HX HD HV BK4 BK8 HB hHeld ⊢
       refine tY 0 100 (fB 39 1) HT_.out HW_.out hHeld ?_
       refine oN 1 101 (fB 39 3) HT_.out fun K hK => ?_
       refine gS Try.func30 #[.agg #[.int .i64 x0, .slice XA x1.length xka, .slice XB x2.length xkb, .slice XC x3.length xkc]] ?_
       refine (impl_WheelOk.callsF HX.out AO2.out).mono ?_
       rintro e w47_ ⟨rfl, hb⟩
       refine ⟨_, rfl, ?_⟩
       replace HX := zVW HX hb; replace HD := zVT HD hb; replace HV := zVW HV hb; replace BK4 := zBB BK4 hb; replace BK8 := zBB BK8 hb; replace HB := zLB HB.out hb; clear hb
       refine hK.out _ _ (zk4 BK4.out (zc4 BK8.out)) fun hHeld => ?_; clear hK K
       refine nZ 101 ?_
       refine pY 2 102 (fB 39 7) HT_.out ?_
       refine tY 3 103 (fB 39 15) HT_.out HW_.out hHeld ?_
       refine oN 4 104 (fB 39 31) HT_.out fun K hK => ?_
       refine gS Try.func23 #[.agg #[.int .i64 x0, .slice XA x1.length xka, .slice XB x2.length xkb, .slice XC x3.length xkc]] ?_
       refine (impl_NextDue.callsF HX.out AM.out).mono ?_
       rintro e w48_ ⟨rfl, hb⟩
       refine ⟨_, rfl, ?_⟩
       replace HX := zVW HX hb; replace HD := zVT HD hb; replace HV := zVW HV hb; replace BK4 := zBB BK4 hb; replace BK8 := zBB BK8 hb; replace HB := zLB HB.out hb; clear hb
       refine hK.out _ _ (zk4 BK4.out (zc4 BK8.out)) fun hHeld => ?_; clear hK K
       refine nZ 104 ?_
       refine pY 5 105 (fB 39 63) HT_.out ?_
       refine pY 6 106 (fB 39 127) HT_.out ?_
       refine pN 7 107 (fB 39 255) HT_.out ?_
       refine pN 8 108 (fB 39 511) HT_.out ?_
       refine pN 9 109 (fB 39 1023) HT_.out ?_
       refine pN 10 110 (fB 39 2047) HT_.out ?_
       refine pN 11 111 (fB 39 4095) HT_.out ?_
       refine pY 12 112 (fB 39 8191) HT_.out ?_
       refine pY 13 113 (fB 39 16383) HT_.out ?_
       refine pY 14 114 (fB 39 32767) HT_.out ?_
       refine pY 15 115 (fB 39 65535) HT_.out ?_
       refine pY 16 116 (fB 39 131071) HT_.out ?_
       refine pY 17 117 (fB 39 262143) HT_.out ?_
       refine tY 18 118 (fB 39 524287) HT_.out HW_.out hHeld ?_
       refine oN 19 119 (fB 39 1048575) HT_.out fun K hK => ?_
       refine gS Try.func30 #[.agg #[.int .i64 v0, .slice VA v1.length vka, .slice VB v2.length vkb, .slice VC v3.length vkc]] ?_
       refine (impl_WheelOk.callsF HV.out AOV.out).mono ?_
       rintro e w49_ ⟨rfl, hb⟩
       refine ⟨_, rfl, ?_⟩
       replace HX := zVW HX hb; replace HD := zVT HD hb; replace HV := zVW HV hb; replace BK4 := zBB BK4 hb; replace BK8 := zBB BK8 hb; replace HB := zLB HB.out hb; clear hb
       refine hK.out _ _ (zk4 BK4.out (zc4 BK8.out)) fun hHeld => ?_; clear hK K
       refine nZ 119 ?_
       refine pY 20 120 (fB 39 2097151) HT_.out ?_
       refine pY 21 121 (fB 39 4194303) HT_.out ?_
       refine pY 22 122 (fB 39 8388607) HT_.out ?_
       refine pN 23 123 (fB 39 16777215) HT_.out ?_
       refine pN 24 124 (fB 39 33554431) HT_.out ?_
       refine pN 25 125 (fB 39 67108863) HT_.out ?_
       refine pN 26 126 (fB 39 134217727) HT_.out ?_
       refine pN 27 127 (fB 39 268435455) HT_.out ?_
       refine pN 28 128 (fB 39 536870911) HT_.out ?_
       refine pN 29 129 (fB 39 1073741823) HT_.out ?_
       refine pN 30 130 (fB 39 2147483647) HT_.out ?_
       refine pN 31 131 (fB 39 4294967295) HT_.out ?_
       refine pN 32 132 (fB 39 8589934591) HT_.out ?_
       refine pN 33 133 (fB 39 17179869183) HT_.out ?_
       refine pN 34 134 (fB 39 34359738367) HT_.out ?_
       refine pN 35 135 (fB 39 68719476735) HT_.out ?_
       refine pY 36 136 (fB 39 137438953471) HT_.out ?_
       refine pY 37 137 (fB 39 274877906943) HT_.out ?_
       refine pY 38 2 (fB 39 549755813887) HT_.out ?_
       refine done_ (done_of HT_.out (by kernel_rfl)) ?_
       clear hHeld HT_ HW_
       try go_wp2
       go_ret
       exact ⟨rfl, HB.out⟩
      ·obtain ⟨cmb0, cmb1⟩ := zf cm
       have cmb2 := dT (HM.out cm)
       have cmb3 : decide (m > x0) = true := cmb2
       obtain ⟨cnb0, cnb1⟩ := zf cn
       obtain rfl := Bool.eq_false_iff.mpr cv
       clear h cn cm HM cv
       replace HX := zVW HX zVd
       replace HD := zVT HD zVd
       replace HV := zVW HV zVd
       replace BK4 := zBD BK4
       replace BK8 := zBD BK8
       replace HB := zLD HB
       refine start_ (n := 39) (S := fun w' => zt4 w' g4 (.int .i64 x0) (.slice XA x1.length xka) (.slice XB x2.length xkb) (.slice XC x3.length xkc) (zs4 w' g8 (.int .i64 v0) (.slice VA v1.length vka) (.slice VB v2.length vkb) (.slice VC v3.length vkc))) (ds := []) (fB 39 0) (by kernel_rfl) rfl rfl (zk4 BK4.out (zc4 BK8.out)) (fun hHeld => ?_); refine with_tabW laws_FnTicks.tab18 laws_FnTicks.bits18 (fun HT_ HW_ => ?_)
       generalize wr.drew = w60_ at HX HD HV BK4 BK8 HB hHeld ⊢
       refine tY 0 100 (fB 39 1) HT_.out HW_.out hHeld ?_
       refine oN 1 101 (fB 39 3) HT_.out fun K hK => ?_
       refine gS Try.func30 #[.agg #[.int .i64 x0, .slice XA x1.length xka, .slice XB x2.length xkb, .slice XC x3.length xkc]] ?_
       refine (impl_WheelOk.callsF HX.out AO2.out).mono ?_
       rintro e w61_ ⟨rfl, hb⟩
       refine ⟨_, rfl, ?_⟩
       replace HX := zVW HX hb; replace HD := zVT HD hb; replace HV := zVW HV hb; replace BK4 := zBB BK4 hb; replace BK8 := zBB BK8 hb; replace HB := zLB HB.out hb; clear hb
       refine hK.out _ _ (zk4 BK4.out (zc4 BK8.out)) fun hHeld => ?_; clear hK K
       refine nZ 101 ?_
       refine pY 2 102 (fB 39 7) HT_.out ?_
       refine tY 3 103 (fB 39 15) HT_.out HW_.out hHeld ?_
       refine oN 4 104 (fB 39 31) HT_.out fun K hK => ?_
       refine gS Try.func23 #[.agg #[.int .i64 x0, .slice XA x1.length xka, .slice XB x2.length xkb, .slice XC x3.length xkc]] ?_
       refine (impl_NextDue.callsF HX.out AM.out).mono ?_
       rintro e w62_ ⟨rfl, hb⟩
       refine ⟨_, rfl, ?_⟩
       replace HX := zVW HX hb; replace HD := zVT HD hb; replace HV := zVW HV hb; replace BK4 := zBB BK4 hb; replace BK8 := zBB BK8 hb; replace HB := zLB HB.out hb; clear hb
       refine hK.out _ _ (zk4 BK4.out (zc4 BK8.out)) fun hHeld => ?_; clear hK K
       refine nZ 104 ?_
       refine pY 5 105 (fB 39 63) HT_.out ?_
       refine pY 6 106 (fB 39 127) HT_.out ?_
       refine pY 9 109 (fB 39 639) HT_.out ?_
       refine tY 7 107 (fB 39 767) HT_.out HW_.out hHeld ?_
       refine tY 10 110 (fB 39 1791) HT_.out HW_.out hHeld ?_
       refine oN 8 108 (fB 39 2047) HT_.out fun K hK => ?_
       refine gS Try.func23 #[.agg #[.int .i64 x0, .slice XA x1.length xka, .slice XB x2.length xkb, .slice XC x3.length xkc]] ?_
       refine (impl_NextDue.callsF HX.out AM.out).mono ?_
       rintro e w63_ ⟨rfl, hb⟩
       refine ⟨_, rfl, ?_⟩
       replace HX := zVW HX hb; replace HD := zVT HD hb; replace HV := zVW HV hb; replace BK4 := zBB BK4 hb; replace BK8 := zBB BK8 hb; replace HB := zLB HB.out hb; clear hb
       refine hK.out _ _ (zk4 BK4.out (zc4 BK8.out)) fun hHeld => ?_; clear hK K
       refine nZ 108 ?_
       refine pY 11 111 (fB 39 4095) HT_.out ?_
       refine pY 12 112 (fB 39 8191) HT_.out ?_
       refine pY 13 113 (fB 39 16383) HT_.out ?_
       refine pY 14 114 (fB 39 32767) HT_.out ?_
       refine pY 15 115 (fB 39 65535) HT_.out ?_
       refine pY 16 116 (fB 39 131071) HT_.out ?_
       refine pY 17 117 (fB 39 262143) HT_.out ?_
       refine tY 18 118 (fB 39 524287) HT_.out HW_.out hHeld ?_
       refine oN 19 119 (fB 39 1048575) HT_.out fun K hK => ?_
       refine gS Try.func30 #[.agg #[.int .i64 v0, .slice VA v1.length vka, .slice VB v2.length vkb, .slice VC v3.length vkc]] ?_
       refine (impl_WheelOk.callsF HV.out AOV.out).mono ?_
       rintro e w64_ ⟨rfl, hb⟩
       refine ⟨_, rfl, ?_⟩
       replace HX := zVW HX hb; replace HD := zVT HD hb; replace HV := zVW HV hb; replace BK4 := zBB BK4 hb; replace BK8 := zBB BK8 hb; replace HB := zLB HB.out hb; clear hb
       refine hK.out _ _ (zk4 BK4.out (zc4 BK8.out)) fun hHeld => ?_; clear hK K
       refine nZ 119 ?_
       refine pY 20 120 (fB 39 2097151) HT_.out ?_
       refine pY 21 121 (fB 39 4194303) HT_.out ?_
       refine pY 22 122 (fB 39 8388607) HT_.out ?_
       refine pN 23 123 (fB 39 16777215) HT_.out ?_
       refine pN 24 124 (fB 39 33554431) HT_.out ?_
       refine pN 25 125 (fB 39 67108863) HT_.out ?_
       refine pN 26 126 (fB 39 134217727) HT_.out ?_
       refine pN 27 127 (fB 39 268435455) HT_.out ?_
       refine pN 28 128 (fB 39 536870911) HT_.out ?_
       refine pN 29 129 (fB 39 1073741823) HT_.out ?_
       refine pN 30 130 (fB 39 2147483647) HT_.out ?_
       refine pN 31 131 (fB 39 4294967295) HT_.out ?_
       refine pN 32 132 (fB 39 8589934591) HT_.out ?_
       refine pN 33 133 (fB 39 17179869183) HT_.out ?_
       refine pN 34 134 (fB 39 34359738367) HT_.out ?_
       refine pN 35 135 (fB 39 68719476735) HT_.out ?_
       refine pY 36 136 (fB 39 137438953471) HT_.out ?_
       refine pY 37 137 (fB 39 274877906943) HT_.out ?_
       refine pY 38 2 (fB 39 549755813887) HT_.out ?_
       refine done_ (done_of HT_.out (by kernel_rfl)) ?_
       clear hHeld HT_ HW_
       try go_wp2
       go_ret
       exact ⟨rfl, HB.out⟩

end Go.Proofs.Ytggenhomnbnodaa.QFnTicks
