/- What functions that the law reaches answer, with their walks. Conditions: those that each theorem names. -/
import Derived.Test.YtggenhomnbnodaaQFnWheelsx0
import Derived.Test.YtggenhomnbnodaaQFnWheelsx2
import Derived.Test.YtggenhomnbnodaaQFnWheelsx4
import Derived.Test.YtggenhomnbnodaaQFnWheelsx6
import Derived.Test.YtggenhomnbnodaaQFnWheelsx7
import Derived.Test.YtggenhomnbnodaaQFnWheelsx8
import Derived.Test.YtggenhomnbnodaaQFnWheelsx9
import Derived.Test.YtggenhomnbnodaaQFnWheelsx10
import Derived.Test.YtggenhomnbnodaaQFnWheelsx11
import Derived.Test.YtggenhomnbnodaaQFnWheelsx12
import Derived.Test.YtggenhomnbnodaaQFnWheelsx14
import Derived.Test.YtggenhomnbnodaaQFnWheelsx15
namespace Go.Proofs.Ytggenhomnbnodaa.QFnWheels
open Go.RowKit Go.Proofs.YtggenhomnbnodaaW.PrintWords Go.Proofs.YtggenhomnbnodaaW.PrintLast Go.Proofs.YtggenhomnbnodaaW.PrintMore
attribute [local go_sem] max2_int min2_int max_two min_two max_three min_three max_four min_four
set_option linter.unusedVariables false
set_option linter.unusedSimpArgs false

def WVc (A1 : Option Addr) (c1 : Nat) (l1 : List (List S46)) (A2 : Option Addr) (c2 : Nat) (l2 : List (List S46)) (A3 : Option Addr) (c3 : Nat) (l3 : List S46) (w : World) : Prop :=
 (l1.length ≤ c1 ∧ l2.length ≤ c2 ∧ l3.length ≤ c3) ∧ (Kd.slice 46 k46).C w A1 l1.length l1 ∧ (Kd.slice 46 k46).C w A2 l2.length l2 ∧ k46.C w A3 l3.length l3
def TVc (A : Option Addr) (c : Nat) (l : List S46) (w : World) : Prop := l.length ≤ c ∧ k46.C w A l.length l
def BVc (A : Option Addr) (c : Nat) (l : List Int) (w : World) : Prop := l.length ≤ c ∧ (Kd.int .u8).C w A l.length l
section
variable {w w1 : World} {b n : Nat} {o1 o2 o3 : Nat → Prop} {A A1 A2 A3 : Option Addr} {c c1 c2 c3 : Nat} {l l3 : List S46} {l1 l2 : List (List S46)} {xs : List Int} {v v1 v2 v3 : Value}
theorem zVW (h : Aside0 (WVc A1 c1 l1 A2 c2 l2 A3 c3 l3 w)) (hb : Below w.heap.size w w1) : Aside0 (WVc A1 c1 l1 A2 c2 l2 A3 c3 l3 w1) := ⟨h.o.1, Kd.C_below h.o.2.1 hb, Kd.C_below h.o.2.2.1 hb, Kd.C_below h.o.2.2.2 hb⟩
theorem zVT (h : Aside0 (TVc A c l w)) (hb : Below w.heap.size w w1) : Aside0 (TVc A c l w1) := ⟨h.o.1, Kd.C_below h.o.2 hb⟩
theorem zVC (h : Aside0 (BVc A c xs w)) (hb : Below w.heap.size w w1) : BVc A c xs w1 := ⟨h.o.1, Kd.C_below h.o.2 hb⟩
theorem zVd : Below w.heap.size w w.drew := below_drew (Below.refl _ _)
theorem qvW (s1 : Kd.N (Kd.slice 46 k46) 23 w b o1 v1 l1) (s2 : Kd.N (Kd.slice 46 k46) 23 w b o2 v2 l2) (s3 : Kd.R k46 46 w b o3 v3 l3) : ∃ A1 c1 A2 c2 A3 c3, v1 = .slice A1 l1.length c1 ∧ v2 = .slice A2 l2.length c2 ∧ v3 = .slice A3 l3.length c3 ∧ WVc A1 c1 l1 A2 c2 l2 A3 c3 l3 w := by
 obtain ⟨A1, c1, e1, b1, r1⟩ := Kd.N_reads s1
 obtain ⟨A2, c2, e2, b2, r2⟩ := Kd.N_reads s2
 obtain ⟨A3, c3, e3, b3, r3⟩ := Kd.R_reads s3
 exact ⟨A1, c1, A2, c2, A3, c3, e1, e2, e3, ⟨b1, b2, b3⟩, r1, r2, r3⟩
theorem qvT (s : Kd.R k46 46 w b o1 v l) : ∃ A c, v = .slice A l.length c ∧ TVc A c l w := by
 obtain ⟨A, c, e, h1, h2⟩ := Kd.R_reads s
 exact ⟨A, c, e, h1, h2⟩
end
theorem laws_big.callsF {w : World} {A0 : Option Addr} {c0 : Nat} {l0 : List Int} {r0 : Bool} (h0 : BVc A0 c0 l0 w) (h : laws_big.f l0 = some r0) :
  Calls Try.prog 45 #[.slice A0 l0.length c0] w fun e w' => e = .returned (.bool r0) ∧ Below w.heap.size w w' := by
 refine (laws_big.calls A0 c0 l0 r0 w h0.2 h0.1 h).mono ?_
 rintro e w' ⟨rfl, hb⟩
 exact ⟨rfl, hb.below⟩
theorem spec_DrawPut.callsF {w : World} {k : Nat} {A0 : Option Addr} {c0 : Nat} {l0 : List Int} {r0 : Int} {m01 m02 : List (List S46)} {m03 : List S46} {r1 p1 q1 : Int} (h0 : BVc A0 c0 l0 w) (h : spec_DrawPut.f k l0 = some (r0, m01, m02, m03, r1, p1, q1)) :
  Calls Try.prog 46 #[.slice A0 l0.length c0] w fun e w' => ∃ B01 d01 B02 d02 B03 d03, e = .returned (.tuple #[.agg #[.int .i64 r0, .slice B01 m01.length d01, .slice B02 m02.length d02, .slice B03 m03.length d03], .agg #[.int .i64 r1, .int .i64 p1, .int .i64 q1]]) ∧ WVc B01 d01 m01 B02 d02 m02 B03 d03 m03 w' ∧ Below w.heap.size w w' := by
 refine (spec_DrawPut.calls k A0 c0 l0 r0 m01 m02 m03 r1 p1 q1 w h0.2 h0.1 h).mono ?_
 rintro e w' ⟨v01, v02, v03, rfl, s01, s02, s03, hb⟩
 obtain ⟨B01, d01, B02, d02, B03, d03, rfl, rfl, rfl, hw0⟩ := qvW s01 s02 s03
 exact ⟨B01, d01, B02, d02, B03, d03, rfl, hw0, hb⟩
theorem impl_Put.callsF {w : World} {k : Nat} {a0 : Int} {A01 : Option Addr} {c01 : Nat} {A02 : Option Addr} {c02 : Nat} {A03 : Option Addr} {c03 : Nat} {l01 l02 : List (List S46)} {l03 : List S46} {x1 y1 z1 : Int} {r0 : Int} {m01 m02 : List (List S46)} {m03 : List S46} {r1 : Bool} (h0 : WVc A01 c01 l01 A02 c02 l02 A03 c03 l03 w) (h : impl_Put.f k a0 l01 l02 l03 x1 y1 z1 = some (r0, m01, m02, m03, r1)) :
  Calls Try.prog 33 #[.agg #[.int .i64 a0, .slice A01 l01.length c01, .slice A02 l02.length c02, .slice A03 l03.length c03], .agg #[.int .i64 x1, .int .i64 y1, .int .i64 z1]] w fun e w' => ∃ B01 d01 B02 d02 B03 d03, e = .returned (.tuple #[.agg #[.int .i64 r0, .slice B01 m01.length d01, .slice B02 m02.length d02, .slice B03 m03.length d03], .bool r1]) ∧ WVc B01 d01 m01 B02 d02 m02 B03 d03 m03 w' ∧ Below w.heap.size w w' := by
 refine (impl_Put.calls k a0 A01 c01 l01 A02 c02 l02 A03 c03 l03 x1 y1 z1 r0 m01 m02 m03 r1 w h0.2.1 h0.1.1 h0.2.2.1 h0.1.2.1 h0.2.2.2 h0.1.2.2 h).mono ?_
 rintro e w' ⟨v01, v02, v03, rfl, s01, s02, s03, hb⟩
 obtain ⟨B01, d01, B02, d02, B03, d03, rfl, rfl, rfl, hw0⟩ := qvW (Kd.S_N s01) (Kd.S_N s02) s03
 exact ⟨B01, d01, B02, d02, B03, d03, rfl, hw0, hb⟩
theorem spec_Put.callsF {w : World} {k : Nat} {a0 : Int} {A01 : Option Addr} {c01 : Nat} {A02 : Option Addr} {c02 : Nat} {A03 : Option Addr} {c03 : Nat} {l01 l02 : List (List S46)} {l03 : List S46} {x1 y1 z1 : Int} {r0 : Int} {m01 m02 : List (List S46)} {m03 : List S46} {r1 : Bool} (h0 : WVc A01 c01 l01 A02 c02 l02 A03 c03 l03 w) (h : spec_Put.f k a0 l01 l02 l03 x1 y1 z1 = some (r0, m01, m02, m03, r1)) :
  Calls Try.prog 31 #[.agg #[.int .i64 a0, .slice A01 l01.length c01, .slice A02 l02.length c02, .slice A03 l03.length c03], .agg #[.int .i64 x1, .int .i64 y1, .int .i64 z1]] w fun e w' => ∃ B01 d01 B02 d02 B03 d03, e = .returned (.tuple #[.agg #[.int .i64 r0, .slice B01 m01.length d01, .slice B02 m02.length d02, .slice B03 m03.length d03], .bool r1]) ∧ WVc B01 d01 m01 B02 d02 m02 B03 d03 m03 w' ∧ Below w.heap.size w w' := by
 refine (spec_Put.calls k a0 A01 c01 l01 A02 c02 l02 A03 c03 l03 x1 y1 z1 r0 m01 m02 m03 r1 w h0.2.1 h0.1.1 h0.2.2.1 h0.1.2.1 h0.2.2.2 h0.1.2.2 h).mono ?_
 rintro e w' ⟨v01, v02, v03, rfl, s01, s02, s03, hb⟩
 obtain ⟨B01, d01, B02, d02, B03, d03, rfl, rfl, rfl, hw0⟩ := qvW (Kd.S_N s01) (Kd.S_N s02) s03
 exact ⟨B01, d01, B02, d02, B03, d03, rfl, hw0, hb⟩
theorem spec_DrawCancel.callsF {w : World} {k : Nat} {A0 : Option Addr} {c0 : Nat} {l0 : List Int} {r0 : Int} {m01 m02 : List (List S46)} {m03 : List S46} {r1 : Int} (h0 : BVc A0 c0 l0 w) (h : spec_DrawCancel.f k l0 = some (r0, m01, m02, m03, r1)) :
  Calls Try.prog 47 #[.slice A0 l0.length c0] w fun e w' => ∃ B01 d01 B02 d02 B03 d03, e = .returned (.tuple #[.agg #[.int .i64 r0, .slice B01 m01.length d01, .slice B02 m02.length d02, .slice B03 m03.length d03], .int .i64 r1]) ∧ WVc B01 d01 m01 B02 d02 m02 B03 d03 m03 w' ∧ Below w.heap.size w w' := by
 refine (spec_DrawCancel.calls k A0 c0 l0 r0 m01 m02 m03 r1 w h0.2 h0.1 h).mono ?_
 rintro e w' ⟨v01, v02, v03, rfl, s01, s02, s03, hb⟩
 obtain ⟨B01, d01, B02, d02, B03, d03, rfl, rfl, rfl, hw0⟩ := qvW s01 s02 s03
 exact ⟨B01, d01, B02, d02, B03, d03, rfl, hw0, hb⟩
theorem impl_Cancel.callsF {w : World} {k : Nat} {a0 : Int} {A01 : Option Addr} {c01 : Nat} {A02 : Option Addr} {c02 : Nat} {A03 : Option Addr} {c03 : Nat} {l01 l02 : List (List S46)} {l03 : List S46} {x1 : Int} {r0 : Int} {m01 m02 : List (List S46)} {m03 : List S46} {r1 : Bool} (h0 : WVc A01 c01 l01 A02 c02 l02 A03 c03 l03 w) (h : impl_Cancel.f k a0 l01 l02 l03 x1 = some (r0, m01, m02, m03, r1)) :
  Calls Try.prog 35 #[.agg #[.int .i64 a0, .slice A01 l01.length c01, .slice A02 l02.length c02, .slice A03 l03.length c03], .int .i64 x1] w fun e w' => ∃ B01 d01 B02 d02 B03 d03, e = .returned (.tuple #[.agg #[.int .i64 r0, .slice B01 m01.length d01, .slice B02 m02.length d02, .slice B03 m03.length d03], .bool r1]) ∧ WVc B01 d01 m01 B02 d02 m02 B03 d03 m03 w' ∧ Below w.heap.size w w' := by
 refine (impl_Cancel.callsW k a0 A01 c01 l01 A02 c02 l02 A03 c03 l03 x1 r0 m01 m02 m03 r1 w h0.2.1 h0.1.1 h0.2.2.1 h0.1.2.1 h0.2.2.2 h0.1.2.2 h).mono ?_
 rintro e w' ⟨v01, v02, v03, rfl, s0, hb⟩
 obtain ⟨B01, d01, B02, d02, B03, d03, rfl, rfl, rfl, hw0⟩ := WR.reads s0
 exact ⟨B01, d01, B02, d02, B03, d03, rfl, hw0, hb⟩
theorem spec_Cancel.callsF {w : World} {k : Nat} {a0 : Int} {A01 : Option Addr} {c01 : Nat} {A02 : Option Addr} {c02 : Nat} {A03 : Option Addr} {c03 : Nat} {l01 l02 : List (List S46)} {l03 : List S46} {x1 : Int} {r0 : Int} {m01 m02 : List (List S46)} {m03 : List S46} {r1 : Bool} (h0 : WVc A01 c01 l01 A02 c02 l02 A03 c03 l03 w) (h : spec_Cancel.f k a0 l01 l02 l03 x1 = some (r0, m01, m02, m03, r1)) :
  Calls Try.prog 34 #[.agg #[.int .i64 a0, .slice A01 l01.length c01, .slice A02 l02.length c02, .slice A03 l03.length c03], .int .i64 x1] w fun e w' => ∃ B01 d01 B02 d02 B03 d03, e = .returned (.tuple #[.agg #[.int .i64 r0, .slice B01 m01.length d01, .slice B02 m02.length d02, .slice B03 m03.length d03], .bool r1]) ∧ WVc B01 d01 m01 B02 d02 m02 B03 d03 m03 w' ∧ Below w.heap.size w w' := by
 refine (spec_Cancel.calls k a0 A01 c01 l01 A02 c02 l02 A03 c03 l03 x1 r0 m01 m02 m03 r1 w h0.2.1 h0.1.1 h0.2.2.1 h0.1.2.1 h0.2.2.2 h0.1.2.2 h).mono ?_
 rintro e w' ⟨v01, v02, v03, rfl, s01, s02, s03, hb⟩
 obtain ⟨B01, d01, B02, d02, B03, d03, rfl, rfl, rfl, hw0⟩ := qvW s01 s02 s03
 exact ⟨B01, d01, B02, d02, B03, d03, rfl, hw0, hb⟩
theorem spec_DrawWheelOk.callsF {w : World} {k : Nat} {A0 : Option Addr} {c0 : Nat} {l0 : List Int} {r0 : Int} {m01 m02 : List (List S46)} {m03 : List S46} (h0 : BVc A0 c0 l0 w) (h : spec_DrawWheelOk.f k l0 = some (r0, m01, m02, m03)) :
  Calls Try.prog 48 #[.slice A0 l0.length c0] w fun e w' => ∃ B01 d01 B02 d02 B03 d03, e = .returned (.agg #[.int .i64 r0, .slice B01 m01.length d01, .slice B02 m02.length d02, .slice B03 m03.length d03]) ∧ WVc B01 d01 m01 B02 d02 m02 B03 d03 m03 w' ∧ Below w.heap.size w w' := by
 refine (spec_DrawWheelOk.calls k A0 c0 l0 r0 m01 m02 m03 w h0.2 h0.1 h).mono ?_
 rintro e w' ⟨v01, v02, v03, rfl, s01, s02, s03, hb⟩
 obtain ⟨B01, d01, B02, d02, B03, d03, rfl, rfl, rfl, hw0⟩ := qvW s01 s02 s03
 exact ⟨B01, d01, B02, d02, B03, d03, rfl, hw0, hb⟩
theorem spec_DrawTimers.callsF {w : World} {k : Nat} {A0 : Option Addr} {c0 : Nat} {l0 : List Int} {r0 : Int} {m01 m02 : List (List S46)} {m03 : List S46} (h0 : BVc A0 c0 l0 w) (h : spec_DrawTimers.f k l0 = some (r0, m01, m02, m03)) :
  Calls Try.prog 49 #[.slice A0 l0.length c0] w fun e w' => ∃ B01 d01 B02 d02 B03 d03, e = .returned (.agg #[.int .i64 r0, .slice B01 m01.length d01, .slice B02 m02.length d02, .slice B03 m03.length d03]) ∧ WVc B01 d01 m01 B02 d02 m02 B03 d03 m03 w' ∧ Below w.heap.size w w' := by
 refine (spec_DrawTimers.calls k A0 c0 l0 r0 m01 m02 m03 w h0.2 h0.1 h).mono ?_
 rintro e w' ⟨v01, v02, v03, rfl, s01, s02, s03, hb⟩
 obtain ⟨B01, d01, B02, d02, B03, d03, rfl, rfl, rfl, hw0⟩ := qvW s01 s02 s03
 exact ⟨B01, d01, B02, d02, B03, d03, rfl, hw0, hb⟩
theorem laws_sameWheel.callsF {w : World} {k : Nat} {a0 : Int} {A01 : Option Addr} {c01 : Nat} {A02 : Option Addr} {c02 : Nat} {A03 : Option Addr} {c03 : Nat} {l01 l02 : List (List S46)} {l03 : List S46} {a1 : Int} {A11 : Option Addr} {c11 : Nat} {A12 : Option Addr} {c12 : Nat} {A13 : Option Addr} {c13 : Nat} {l11 l12 : List (List S46)} {l13 : List S46} {r0 : Bool} (h0 : WVc A01 c01 l01 A02 c02 l02 A03 c03 l03 w) (h1 : WVc A11 c11 l11 A12 c12 l12 A13 c13 l13 w) (h : laws_sameWheel.f k a0 l01 l02 l03 a1 l11 l12 l13 = some r0) :
  Calls Try.prog 50 #[.agg #[.int .i64 a0, .slice A01 l01.length c01, .slice A02 l02.length c02, .slice A03 l03.length c03], .agg #[.int .i64 a1, .slice A11 l11.length c11, .slice A12 l12.length c12, .slice A13 l13.length c13]] w fun e w' => e = .returned (.bool r0) ∧ Below w.heap.size w w' := by
 refine (laws_sameWheel.calls k a0 A01 c01 l01 A02 c02 l02 A03 c03 l03 a1 A11 c11 l11 A12 c12 l12 A13 c13 l13 r0 w h0.2.1 h0.1.1 h0.2.2.1 h0.1.2.1 h0.2.2.2 h0.1.2.2 h1.2.1 h1.1.1 h1.2.2.1 h1.1.2.1 h1.2.2.2 h1.1.2.2 h).mono ?_
 rintro e w' ⟨rfl, hb⟩
 exact ⟨rfl, hb⟩
theorem impl_WheelOk.callsF {w : World} {k : Nat} {a0 : Int} {A01 : Option Addr} {c01 : Nat} {A02 : Option Addr} {c02 : Nat} {A03 : Option Addr} {c03 : Nat} {l01 l02 : List (List S46)} {l03 : List S46} {r0 : Bool} (h0 : WVc A01 c01 l01 A02 c02 l02 A03 c03 l03 w) (h : impl_WheelOk.f k a0 l01 l02 l03 = some r0) :
  Calls Try.prog 30 #[.agg #[.int .i64 a0, .slice A01 l01.length c01, .slice A02 l02.length c02, .slice A03 l03.length c03]] w fun e w' => e = .returned (.bool r0) ∧ Below w.heap.size w w' := by
 refine (impl_WheelOk.calls k a0 A01 c01 l01 A02 c02 l02 A03 c03 l03 r0 w h0.2.1 h0.1.1 h0.2.2.1 h0.1.2.1 h0.2.2.2 h0.1.2.2 h).mono ?_
 rintro e w' ⟨rfl, hb⟩
 exact ⟨rfl, hb⟩
theorem spec_WheelOk.callsF {w : World} {k : Nat} {a0 : Int} {A01 : Option Addr} {c01 : Nat} {A02 : Option Addr} {c02 : Nat} {A03 : Option Addr} {c03 : Nat} {l01 l02 : List (List S46)} {l03 : List S46} {r0 : Bool} (h0 : WVc A01 c01 l01 A02 c02 l02 A03 c03 l03 w) (h : spec_WheelOk.f k a0 l01 l02 l03 = some r0) :
  Calls Try.prog 29 #[.agg #[.int .i64 a0, .slice A01 l01.length c01, .slice A02 l02.length c02, .slice A03 l03.length c03]] w fun e w' => e = .returned (.bool r0) ∧ Below w.heap.size w w' := by
 refine (spec_WheelOk.calls k a0 A01 c01 l01 A02 c02 l02 A03 c03 l03 r0 w h0.2.1 h0.1.1 h0.2.2.1 h0.1.2.1 h0.2.2.2 h0.1.2.2 h).mono ?_
 rintro e w' ⟨rfl, hb⟩
 exact ⟨rfl, hb⟩
theorem impl_Timers.callsF {w : World} {k : Nat} {a0 : Int} {A01 : Option Addr} {c01 : Nat} {A02 : Option Addr} {c02 : Nat} {A03 : Option Addr} {c03 : Nat} {l01 l02 : List (List S46)} {l03 : List S46} {m0 : List S46} (h0 : WVc A01 c01 l01 A02 c02 l02 A03 c03 l03 w) (h : impl_Timers.f k a0 l01 l02 l03 = some m0) :
  Calls Try.prog 25 #[.agg #[.int .i64 a0, .slice A01 l01.length c01, .slice A02 l02.length c02, .slice A03 l03.length c03]] w fun e w' => ∃ B0 d0, e = .returned (.slice B0 m0.length d0) ∧ TVc B0 d0 m0 w' ∧ Below w.heap.size w w' := by
 refine (impl_Timers.calls k a0 A01 c01 l01 A02 c02 l02 A03 c03 l03 m0 w h0.2.1 h0.1.1 h0.2.2.1 h0.1.2.1 h0.2.2.2 h0.1.2.2 h).mono ?_
 rintro e w' ⟨v0, rfl, s0, hb⟩
 obtain ⟨B0, d0, rfl, hw0⟩ := qvT s0
 exact ⟨B0, d0, rfl, hw0, hb⟩
theorem spec_Timers.callsF {w : World} {k : Nat} {a0 : Int} {A01 : Option Addr} {c01 : Nat} {A02 : Option Addr} {c02 : Nat} {A03 : Option Addr} {c03 : Nat} {l01 l02 : List (List S46)} {l03 : List S46} {m0 : List S46} (h0 : WVc A01 c01 l01 A02 c02 l02 A03 c03 l03 w) (h : spec_Timers.f k a0 l01 l02 l03 = some m0) :
  Calls Try.prog 24 #[.agg #[.int .i64 a0, .slice A01 l01.length c01, .slice A02 l02.length c02, .slice A03 l03.length c03]] w fun e w' => ∃ B0 d0, e = .returned (.slice B0 m0.length d0) ∧ TVc B0 d0 m0 w' ∧ Below w.heap.size w w' := by
 refine (spec_Timers.calls k a0 A01 c01 l01 A02 c02 l02 A03 c03 l03 m0 w h0.2.1 h0.1.1 h0.2.2.1 h0.1.2.1 h0.2.2.2 h0.1.2.2 h).mono ?_
 rintro e w' ⟨v0, rfl, s0, hb⟩
 obtain ⟨B0, d0, rfl, hw0⟩ := qvT s0
 exact ⟨B0, d0, rfl, hw0, hb⟩
theorem laws_sameTimers.callsF {w : World} {k : Nat} {A0 : Option Addr} {c0 : Nat} {l0 : List S46} {A1 : Option Addr} {c1 : Nat} {l1 : List S46} {r0 : Bool} (h0 : TVc A0 c0 l0 w) (h1 : TVc A1 c1 l1 w) (h : laws_sameTimers.f k l0 l1 = some r0) :
  Calls Try.prog 51 #[.slice A0 l0.length c0, .slice A1 l1.length c1] w fun e w' => e = .returned (.bool r0) ∧ Below w.heap.size w w' := by
 refine (laws_sameTimers.calls k A0 c0 l0 A1 c1 l1 r0 w h0.2 h0.1 h1.2 h1.1 h).mono ?_
 rintro e w' ⟨rfl, hb⟩
 exact ⟨rfl, hb.below⟩
theorem impl_WheelNew.callsF {w : World} {r0 : Int} {m01 m02 : List (List S46)} {m03 : List S46} (h : impl_WheelNew.f = some (r0, m01, m02, m03)) :
  Calls Try.prog 16 #[] w fun e w' => ∃ B01 d01 B02 d02 B03 d03, e = .returned (.agg #[.int .i64 r0, .slice B01 m01.length d01, .slice B02 m02.length d02, .slice B03 m03.length d03]) ∧ WVc B01 d01 m01 B02 d02 m02 B03 d03 m03 w' ∧ Below w.heap.size w w' := by
 refine (impl_WheelNew.calls r0 m01 m02 m03 w h).mono ?_
 rintro e w' ⟨v01, v02, v03, rfl, s01, s02, s03, hb⟩
 obtain ⟨B01, d01, B02, d02, B03, d03, rfl, rfl, rfl, hw0⟩ := qvW (Kd.S_N s01) (Kd.S_N s02) s03
 exact ⟨B01, d01, B02, d02, B03, d03, rfl, hw0, hb⟩
section
variable {w w1 w0 : World} {g b : Nat} {u0 u1 u2 : Value}
theorem tm3_kept (e : w1 = ((w.setCell ⟨g, 0, none⟩ u0).setCell ⟨g, 1, none⟩ u1).setCell ⟨g, 2, none⟩ u2) : Kept w w1 (fun k => k = g) := by
 subst e
 exact (((Kept.refl w (fun k => k = g)).setCell (p := ⟨g, 0, none⟩) (.inl rfl) _).setCell (p := ⟨g, 1, none⟩) (.inl rfl) _).setCell (p := ⟨g, 2, none⟩) (.inl rfl) _
theorem tm3_below (e : w1 = ((w.setCell ⟨g, 0, none⟩ u0).setCell ⟨g, 1, none⟩ u1).setCell ⟨g, 2, none⟩ u2) (h : Below b w0 w) (hg : b ≤ g) : Below b w0 w1 := by
 subst e
 exact ((h.setCell hg _).setCell hg _).setCell hg _
theorem tm3_blk {t : TypeId} (e : w1 = ((w.setCell ⟨g, 0, none⟩ u0).setCell ⟨g, 1, none⟩ u1).setCell ⟨g, 2, none⟩ u2) {a0 a1 a2 : Value} (h : w.heap[g]? = some (.cells #[a0, a1, a2] t (0, 0))) (_ : true = true) : w1.heap[g]? = some (.cells #[u0, u1, u2] t (0, 0)) := by
 subst e
 refine blk_put (cs := #[u0, u1, a2]) ?_ 2 _ rfl
 refine blk_put (cs := #[u0, a1, a2]) ?_ 1 _ rfl
 refine blk_put (cs := #[a0, a1, a2]) ?_ 0 _ rfl
 exact h
end
def laws_FnWheels.t (k : Nat) (W : Int × List (List S46) × List (List S46) × List S46) (t0 t1 t2 : Int) (X : Int × List (List S46) × List (List S46) × List S46 × Bool) (V : Int × List (List S46) × List (List S46) × List S46) (Z : Int × List (List S46) × List (List S46) × List S46 × Bool) : Option Bool :=
 if X.2.2.2.2 = true then (impl_Cancel.f k X.1 X.2.1 X.2.2.1 X.2.2.2.1 t0).bind fun B => (impl_Put.f k X.1 X.2.1 X.2.2.1 X.2.2.2.1 t0 t1 t2).bind fun P => (impl_WheelOk.f k X.1 X.2.1 X.2.2.1 X.2.2.2.1).bind fun o => (if o = true then (impl_Timers.f k X.1 X.2.1 X.2.2.1 X.2.2.2.1).bind fun tx => (impl_Timers.f k W.1 W.2.1 W.2.2.1 W.2.2.2).bind fun tw => (if (tx.length : Int) = wrap64 ((tw.length : Int) + 1) then (if B.2.2.2.2 = true then (laws_sameWheel.f k B.1 B.2.1 B.2.2.1 B.2.2.2.1 W.1 W.2.1 W.2.2.1 W.2.2.2).bind fun e => (if e = true then (if P.2.2.2.2 = true then none else some true) else none) else none) else none) else none)
 else (laws_sameWheel.f k X.1 X.2.1 X.2.2.1 X.2.2.2.1 W.1 W.2.1 W.2.2.1 W.2.2.2).bind fun e => (if e = true then (if Z.2.2.2.2 = true then some true else (laws_sameWheel.f k Z.1 Z.2.1 Z.2.2.1 Z.2.2.2.1 V.1 V.2.1 V.2.2.1 V.2.2.2).bind fun e2 => (if e2 = true then some true else none)) else none)
def laws_FnWheels.f (k : Nat) (l0 : List Int) : Option Bool :=
 (laws_big.f l0).bind fun b => (if b = true then some true else (spec_DrawPut.f k l0).bind fun W => (impl_Put.f k W.1 W.2.1 W.2.2.1 W.2.2.2.1 W.2.2.2.2.1 W.2.2.2.2.2.1 W.2.2.2.2.2.2).bind fun X => (spec_Put.f k W.1 W.2.1 W.2.2.1 W.2.2.2.1 W.2.2.2.2.1 W.2.2.2.2.2.1 W.2.2.2.2.2.2).bind fun Y => (spec_DrawCancel.f k l0).bind fun V => (impl_Cancel.f k V.1 V.2.1 V.2.2.1 V.2.2.2.1 V.2.2.2.2).bind fun Z => (spec_Cancel.f k V.1 V.2.1 V.2.2.1 V.2.2.2.1 V.2.2.2.2).bind fun U => (spec_DrawWheelOk.f k l0).bind fun O => (spec_DrawTimers.f k l0).bind fun M =>
  (if Y.2.2.2.2 = X.2.2.2.2 then (laws_sameWheel.f k X.1 X.2.1 X.2.2.1 X.2.2.2.1 Y.1 Y.2.1 Y.2.2.1 Y.2.2.2.1).bind fun e1 => (if e1 = true then (if U.2.2.2.2 = Z.2.2.2.2 then (laws_sameWheel.f k Z.1 Z.2.1 Z.2.2.1 Z.2.2.2.1 U.1 U.2.1 U.2.2.1 U.2.2.2.1).bind fun e2 => (if e2 = true then (impl_WheelOk.f k O.1 O.2.1 O.2.2.1 O.2.2.2).bind fun o1 => (spec_WheelOk.f k O.1 O.2.1 O.2.2.1 O.2.2.2).bind fun o2 => (if o2 = o1 then (impl_Timers.f k M.1 M.2.1 M.2.2.1 M.2.2.2).bind fun m1 => (spec_Timers.f k M.1 M.2.1 M.2.2.1 M.2.2.2).bind fun m2 => (laws_sameTimers.f k m1 m2).bind fun e3 => (if e3 = true then
   (impl_WheelNew.f).bind fun N => (impl_WheelOk.f k N.1 N.2.1 N.2.2.1 N.2.2.2).bind fun o3 => (if o3 = true then laws_FnWheels.t k (W.1, W.2.1, W.2.2.1, W.2.2.2.1) W.2.2.2.2.1 W.2.2.2.2.2.1 W.2.2.2.2.2.2 X (V.1, V.2.1, V.2.2.1, V.2.2.2.1) Z else none) else none) else none) else none) else none) else none) else none))
def laws_FnWheels.T11 : Bool × List (List Nat × List Nat) := (true, [([], []), ([], []), ([0, 1], [0, 1]), ([2], [2]), ([3], [3]), ([3], [3]), ([4, 5, 3, 3], [3, 4, 5]), ([6, 3], [3, 6]), ([3, 7], [3, 7]), ([8, 6], [8]), ([9], [9]), ([9], [9]), ([10, 11, 9], [9, 10, 11]), ([9, 12], [9, 12]), ([13, 9], [13]), ([14], [14]), ([14], [14]), ([15, 16, 14, 14], [14, 15, 16]), ([17, 14], [14, 17]), ([14, 18], [14, 18]), ([19, 17], [19]), ([20], [20]), ([21, 20, 20], [20, 21]), ([20], [20]), ([23, 22, 20], [20, 23]), ([22, 24, 20], [20, 22, 24]), ([20, 25], [20, 25]), ([26, 24], [26]), ([27], [27]), ([28, 27, 27], [27, 28]), ([27], [27]), ([30, 29, 27], [27, 30]), ([29, 31, 31, 27], [27, 29, 31]), ([32, 27], [27, 32]), ([27, 33], [27, 33]), ([34, 32], [34]), ([35, 35], [35]), ([36, 36, 35], [35, 36]), ([37, 35], [35, 37]), ([35, 38], [35, 38])])
def laws_FnWheels.B11 : List Nat := [0, 0, 3, 7, 15, 15, 63, 127, 255, 511, 1023, 1023, 4095, 8191, 16383, 32767, 32767, 131071, 262143, 524287, 1048575, 2097151, 4194303, 2097151, 16777215, 33554431, 67108863, 134217727, 268435455, 536870911, 268435455, 2147483647, 4294967295, 8589934591, 17179869183, 34359738367, 68719476735, 137438953471, 274877906943, 549755813887]
theorem laws_FnWheels.tab11 : rtab .any (opsOf Try.f12 11) = laws_FnWheels.T11 := by kernel_rfl
theorem laws_FnWheels.bits11 : waitsOk laws_FnWheels.T11.2 laws_FnWheels.B11 = true := by kernel_rfl
def laws_FnWheels.T17 : Bool × List (List Nat × List Nat) := (true, [([], []), ([0], [0]), ([1, 1], [1]), ([2], [2]), ([3, 2, 2], [2, 3]), ([4, 2], [2, 4]), ([2], [2]), ([6, 4, 2], [2, 6]), ([7, 2], [2, 7]), ([8, 2], [2, 8]), ([5, 9, 2], [2, 5, 9]), ([2, 10], [2, 10]), ([11, 7], [11]), ([12], [12]), ([12, 13], [12, 13]), ([14, 12], [14]), ([15], [15]), ([15], [15]), ([16, 17, 15, 15], [15, 16, 17]), ([15, 18], [15, 18]), ([19, 18], [19]), ([20], [20]), ([21, 20], [20, 21]), ([20, 22], [20, 22]), ([23, 20, 0, 1, 2, 3, 4, 5, 6, 7, 8, 9, 10, 11, 12, 13, 14, 15, 16, 17, 18, 19, 20, 21, 22, 23], [23])])
def laws_FnWheels.B17 : List Nat := [0, 1, 3, 7, 15, 31, 7, 95, 223, 479, 1023, 2047, 4095, 8191, 16383, 32767, 65535, 65535, 262143, 524287, 1048575, 2097151, 4194303, 8388607, 16777215]
theorem laws_FnWheels.tab17 : rtab .any (opsOf Try.f12 17) = laws_FnWheels.T17 := by kernel_rfl
theorem laws_FnWheels.bits17 : waitsOk laws_FnWheels.T17.2 laws_FnWheels.B17 = true := by kernel_rfl
set_option maxHeartbeats 8000000 in
set_option maxRecDepth 100000 in
theorem laws_FnWheels.calls (k : Nat) (A0 : Option Addr) (c0 : Nat) (l0 : List Int) (r : Bool) (w : World) (hr0 : Kd.C (Kd.int .u8) w A0 l0.length l0) (hc0 : l0.length ≤ c0) (hrt_ : Aside0 (r = true)) (h : laws_FnWheels.f k l0 = some r) :
  Calls Try.prog 12 #[.slice A0 l0.length c0] w fun e w' => e = .returned (.bool r) ∧ Below w.heap.size w w' := by
 have hu25 := Try.underlying25
 have hu46 := Try.underlying46
 have HC : Aside0 (BVc A0 c0 l0 w) := ⟨hc0, hr0⟩
 clear hr0 hc0
 have HB := aM (Below.refl w.heap.size w)
 obtain rfl := hrt_.o
 clear hrt_
 unfold laws_FnWheels.f at h
 replace h := zO h
 obtain ⟨bg, AB, h⟩ := h
 (try dsimp only at h)
 by_cases c0_ : bg = true
 ·subst c0_
  clear h
  go_enter Try.func12, Try.ntmps12
  go_wp2_with (first | ((with_reducible refine gC 45 rfl ?_); refine gL 22 Try.func45 #[.slice A0 l0.length c0] ?_; (refine (laws_big.callsF (zVC HC HB.o) AB.o).mono ?_); rintro e w0_ ⟨rfl, hb⟩; refine ⟨_, rfl, ?_⟩;   replace HB := zLB HB.o hb; clear hb;  ))
  go_ret
  exact ⟨rfl, HB.o⟩
 obtain rfl := Bool.eq_false_iff.mpr c0_
 rw [if_neg zn] at h
 replace h := zO h
 obtain ⟨⟨w0, w1, w2, w3, t0, t1, t2⟩, AW, h⟩ := h
 (try dsimp only at h)
 replace h := zO h
 obtain ⟨⟨x0, x1, x2, x3, fx⟩, AX, h⟩ := h
 (try dsimp only at h)
 replace h := zO h
 obtain ⟨⟨y0, y1, y2, y3, fy⟩, AY, h⟩ := h
 (try dsimp only at h)
 replace h := zO h
 obtain ⟨⟨v0, v1, v2, v3, id⟩, AV, h⟩ := h
 (try dsimp only at h)
 replace h := zO h
 obtain ⟨⟨z0, z1, z2, z3, fz⟩, AZ, h⟩ := h
 (try dsimp only at h)
 replace h := zO h
 obtain ⟨⟨u0, u1, u2, u3, fu⟩, AU, h⟩ := h
 (try dsimp only at h)
 replace h := zO h
 obtain ⟨⟨o0, o1, o2, o3⟩, AO, h⟩ := h
 (try dsimp only at h)
 replace h := zO h
 obtain ⟨⟨m0, m1, m2, m3⟩, AM, h⟩ := h
 (try dsimp only at h)
 by_cases c1 : fy = fx
 rotate_left
 ·rw [if_neg c1] at h
  exact absurd h (by simp)
 rw [if_pos c1] at h
 subst c1
 have f1_ : (fy != fy) = false := by simp
 replace h := zO h
 obtain ⟨e1, E1, h⟩ := h
 (try dsimp only at h)
 by_cases c2 : e1 = true
 rotate_left
 ·rw [if_neg c2] at h
  exact absurd h (by simp)
 rw [if_pos c2] at h
 subst c2
 by_cases c3 : fu = fz
 rotate_left
 ·rw [if_neg c3] at h
  exact absurd h (by simp)
 rw [if_pos c3] at h
 subst c3
 have f2_ : (fu != fu) = false := by simp
 replace h := zO h
 obtain ⟨e2, E2, h⟩ := h
 (try dsimp only at h)
 by_cases c4 : e2 = true
 rotate_left
 ·rw [if_neg c4] at h
  exact absurd h (by simp)
 rw [if_pos c4] at h
 subst c4
 replace h := zO h
 obtain ⟨p1, AP, h⟩ := h
 (try dsimp only at h)
 replace h := zO h
 obtain ⟨p2, AP2, h⟩ := h
 (try dsimp only at h)
 by_cases c5 : p2 = p1
 rotate_left
 ·rw [if_neg c5] at h
  exact absurd h (by simp)
 rw [if_pos c5] at h
 subst c5
 have f3_ : (p2 != p2) = false := by simp
 replace h := zO h
 obtain ⟨ra, AA, h⟩ := h
 (try dsimp only at h)
 replace h := zO h
 obtain ⟨rb, AB_, h⟩ := h
 (try dsimp only at h)
 replace h := zO h
 obtain ⟨e3, E3, h⟩ := h
 (try dsimp only at h)
 by_cases c6 : e3 = true
 rotate_left
 ·rw [if_neg c6] at h
  exact absurd h (by simp)
 rw [if_pos c6] at h
 subst c6
 replace h := zO h
 obtain ⟨⟨n0, n1, n2, n3⟩, AN, h⟩ := h
 (try dsimp only at h)
 replace h := zO h
 obtain ⟨o3, AO3, h⟩ := h
 (try dsimp only at h)
 by_cases c7 : o3 = true
 rotate_left
 ·rw [if_neg c7] at h
  exact absurd h (by simp)
 rw [if_pos c7] at h
 subst c7
 have HT := aM h
 clear h
 go_enter Try.func12, Try.ntmps12
 try go_wp2_with (first | ((with_reducible refine gC 45 rfl ?_); refine gL 22 Try.func45 #[.slice A0 l0.length c0] ?_; (refine (laws_big.callsF (zVC HC HB.o) AB.o).mono ?_); rintro e w0_ ⟨rfl, hb⟩; refine ⟨_, rfl, ?_⟩;   replace HB := zLB HB.o hb; clear hb;  ) | ((with_reducible refine gC 46 rfl ?_); refine gL 25 Try.func46 #[.slice A0 l0.length c0] ?_; (refine (spec_DrawPut.callsF (zVC HC HB.o) AW.o).mono ?_); rintro e w1_ ⟨WA, wka, WB, wkb, WC, wkc, rfl, hnW, hb⟩; refine ⟨_, rfl, ?_⟩;   replace HB := zLB HB.o hb; clear hb; have HW := aM hnW; clear hnW; ) | ((with_reducible refine gD 3 rfl ?_); refine bE 3 #[.int .i64 0, .slice none 0 0, .slice none 0 0, .slice none 0 0] 25 ?_; intro g3 hg w2_ hbox hb; have GE3 := aM (Nat.le_of_eq hg.symm); have HP := aM hb; have BK3 := aM hbox; clear hbox hg hb; (try clear hz3_); have hz3_ := zc4 BK3.o;) | ((with_reducible refine gD 4 rfl ?_); refine bE 4 #[.int .i64 0, .int .i64 0, .int .i64 0] 46 ?_; intro g4 hg w3_ hbox hb; have GE4 := aM (zg HP.o hg); have N3_4 := aM (zN BK3.o hg : g3 ≠ g4); replace BK3 := zBB BK3 hb; replace HP := zLB HP.o hb; have BK4 := aM hbox; clear hbox hg hb; (try clear hz3_); have hz3_ := zc4 BK3.o; (try clear hz4_); have hz4_ := zc3_ BK4.o;) | ((with_reducible refine gate_store (t := 25) (p := 3) rfl ?_); have hs0_ := (blk_cell BK3.o 0).trans rfl; have hf0_ := blk_frozen BK3.o 0; have hs1_ := (blk_cell BK3.o 1).trans rfl; have hf1_ := blk_frozen BK3.o 1; have hs2_ := (blk_cell BK3.o 2).trans rfl; have hf2_ := blk_frozen BK3.o 2; have hs3_ := (blk_cell BK3.o 3).trans rfl; have hf3_ := blk_frozen BK3.o 3; refine store_event (t := 25) (p := 3) (v := ?vlx4_) (w1 := ((((w3_.setCell ⟨g3, 0, none⟩ (.int .i64 w0)).setCell ⟨g3, 1, none⟩ (.slice WA w1.length wka)).setCell ⟨g3, 2, none⟩ (.slice WB w2.length wkb)).setCell ⟨g3, 3, none⟩ (.slice WC w3.length wkc))) ?hg ?ho ?hn ?hr ?_; (case ho => rfl); (case hg => rfl); (case hn => rfl); (case hr => first | (go_simp; done) | (go_simp; rfl)); intro w5_ hw_; have HK_ := set4_kept hw_; have BKn := aM (set4_blk hw_ BK3.o rfl); replace HP := aM (set4_below hw_ HP.o GE3.o); replace BK4 := aM (blk_kept BK4.o HK_ (fun e_ => N3_4.o (Eq.symm e_))); clear BK3; have BK3 := BKn; clear BKn hw_ HK_ hs0_ hf0_ hs1_ hf1_ hs2_ hf2_ hs3_ hf3_;) | ((with_reducible refine gate_store (t := 46) (p := 4) rfl ?_); have hs0_ := (blk_cell BK4.o 0).trans rfl; have hf0_ := blk_frozen BK4.o 0; have hs1_ := (blk_cell BK4.o 1).trans rfl; have hf1_ := blk_frozen BK4.o 1; have hs2_ := (blk_cell BK4.o 2).trans rfl; have hf2_ := blk_frozen BK4.o 2; refine store_event (t := 46) (p := 4) (v := ?vlx6_) (w1 := (((w5_.setCell ⟨g4, 0, none⟩ (.int .i64 t0)).setCell ⟨g4, 1, none⟩ (.int .i64 t1)).setCell ⟨g4, 2, none⟩ (.int .i64 t2))) ?hg ?ho ?hn ?hr ?_; (case ho => rfl); (case hg => rfl); (case hn => rfl); (case hr => first | (go_simp; done) | (go_simp; rfl)); intro w7_ hw_; have HK_ := tm3_kept hw_; have BKn := aM (tm3_blk hw_ BK4.o rfl); replace HP := aM (tm3_below hw_ HP.o GE4.o); replace BK3 := aM (blk_kept BK3.o HK_ (N3_4.o)); clear BK4; have BK4 := BKn; clear BKn hw_ HK_ hs0_ hf0_ hs1_ hf1_ hs2_ hf2_; have hb := HP.o; replace HW := zVW HW hb;  replace HB := zLB HB.o hb; clear hb HP GE3 GE4; (try clear hz3_); have hz3_ := zc4 BK3.o; (try clear hz4_); have hz4_ := zc3_ BK4.o;) | ((with_reducible refine gC 33 rfl ?_); refine gL 31 Try.func33 #[.agg #[.int .i64 w0, .slice WA w1.length wka, .slice WB w2.length wkb, .slice WC w3.length wkc], .agg #[.int .i64 t0, .int .i64 t1, .int .i64 t2]] ?_; (refine (impl_Put.callsF HW.o AX.o).mono ?_); rintro e w8_ ⟨XA, xka, XB, xkb, XC, xkc, rfl, hnX, hb⟩; refine ⟨_, rfl, ?_⟩; replace HW := zVW HW hb; replace BK3 := zBB BK3 hb; replace BK4 := zBB BK4 hb; replace HB := zLB HB.o hb; clear hb; have HX := aM hnX; clear hnX; (try clear hz3_); have hz3_ := zc4 BK3.o; (try clear hz4_); have hz4_ := zc3_ BK4.o;) | ((with_reducible refine gD 5 rfl ?_); refine bE 5 #[.int .i64 0, .slice none 0 0, .slice none 0 0, .slice none 0 0] 25 ?_; intro g5 hg w9_ hbox hb; have GE5 := aM (Nat.le_of_eq hg.symm); have HP := aM hb; have BK5 := aM hbox; clear hbox hg hb; (try clear hz5_); have hz5_ := zc4 BK5.o;) | ((with_reducible refine gate_store (t := 25) (p := 5) rfl ?_); have hs0_ := (blk_cell BK5.o 0).trans rfl; have hf0_ := blk_frozen BK5.o 0; have hs1_ := (blk_cell BK5.o 1).trans rfl; have hf1_ := blk_frozen BK5.o 1; have hs2_ := (blk_cell BK5.o 2).trans rfl; have hf2_ := blk_frozen BK5.o 2; have hs3_ := (blk_cell BK5.o 3).trans rfl; have hf3_ := blk_frozen BK5.o 3; refine store_event (t := 25) (p := 5) (v := ?vlx10_) (w1 := ((((w9_.setCell ⟨g5, 0, none⟩ (.int .i64 x0)).setCell ⟨g5, 1, none⟩ (.slice XA x1.length xka)).setCell ⟨g5, 2, none⟩ (.slice XB x2.length xkb)).setCell ⟨g5, 3, none⟩ (.slice XC x3.length xkc))) ?hg ?ho ?hn ?hr ?_; (case ho => rfl); (case hg => rfl); (case hn => rfl); (case hr => first | (go_simp; done) | (go_simp; rfl)); intro w11_ hw_; have HK_ := set4_kept hw_; have BKn := aM (set4_blk hw_ BK5.o rfl); replace HP := aM (set4_below hw_ HP.o GE5.o);  clear BK5; have BK5 := BKn; clear BKn hw_ HK_ hs0_ hf0_ hs1_ hf1_ hs2_ hf2_ hs3_ hf3_; have hb := HP.o; replace HW := zVW HW hb; replace HX := zVW HX hb; replace BK3 := zBB BK3 hb; replace BK4 := zBB BK4 hb; replace HB := zLB HB.o hb; clear hb HP GE5; (try clear hz3_); have hz3_ := zc4 BK3.o; (try clear hz4_); have hz4_ := zc3_ BK4.o; (try clear hz5_); have hz5_ := zc4 BK5.o;) | ((with_reducible refine gC 31 rfl ?_); refine gL 37 Try.func31 #[.agg #[.int .i64 w0, .slice WA w1.length wka, .slice WB w2.length wkb, .slice WC w3.length wkc], .agg #[.int .i64 t0, .int .i64 t1, .int .i64 t2]] ?_; (refine (spec_Put.callsF HW.o AY.o).mono ?_); rintro e w12_ ⟨YA, yka, YB, ykb, YC, ykc, rfl, hnY, hb⟩; refine ⟨_, rfl, ?_⟩; replace HW := zVW HW hb; replace HX := zVW HX hb; replace BK3 := zBB BK3 hb; replace BK4 := zBB BK4 hb; replace BK5 := zBB BK5 hb; replace HB := zLB HB.o hb; clear hb; have HY := aM hnY; clear hnY; (try clear hz3_); have hz3_ := zc4 BK3.o; (try clear hz4_); have hz4_ := zc3_ BK4.o; (try clear hz5_); have hz5_ := zc4 BK5.o;) | ((with_reducible refine gD 7 rfl ?_); refine bE 7 #[.int .i64 0, .slice none 0 0, .slice none 0 0, .slice none 0 0] 25 ?_; intro g7 hg w13_ hbox hb; have GE7 := aM (Nat.le_of_eq hg.symm); have HP := aM hb; have BK7 := aM hbox; clear hbox hg hb; (try clear hz7_); have hz7_ := zc4 BK7.o;) | ((with_reducible refine gate_store (t := 25) (p := 7) rfl ?_); have hs0_ := (blk_cell BK7.o 0).trans rfl; have hf0_ := blk_frozen BK7.o 0; have hs1_ := (blk_cell BK7.o 1).trans rfl; have hf1_ := blk_frozen BK7.o 1; have hs2_ := (blk_cell BK7.o 2).trans rfl; have hf2_ := blk_frozen BK7.o 2; have hs3_ := (blk_cell BK7.o 3).trans rfl; have hf3_ := blk_frozen BK7.o 3; refine store_event (t := 25) (p := 7) (v := ?vlx14_) (w1 := ((((w13_.setCell ⟨g7, 0, none⟩ (.int .i64 y0)).setCell ⟨g7, 1, none⟩ (.slice YA y1.length yka)).setCell ⟨g7, 2, none⟩ (.slice YB y2.length ykb)).setCell ⟨g7, 3, none⟩ (.slice YC y3.length ykc))) ?hg ?ho ?hn ?hr ?_; (case ho => rfl); (case hg => rfl); (case hn => rfl); (case hr => first | (go_simp; done) | (go_simp; rfl)); intro w15_ hw_; have HK_ := set4_kept hw_; have BKn := aM (set4_blk hw_ BK7.o rfl); replace HP := aM (set4_below hw_ HP.o GE7.o);  clear BK7; have BK7 := BKn; clear BKn hw_ HK_ hs0_ hf0_ hs1_ hf1_ hs2_ hf2_ hs3_ hf3_; have hb := HP.o; replace HW := zVW HW hb; replace HX := zVW HX hb; replace HY := zVW HY hb; replace BK3 := zBB BK3 hb; replace BK4 := zBB BK4 hb; replace BK5 := zBB BK5 hb; replace HB := zLB HB.o hb; clear hb HP GE7; (try clear hz3_); have hz3_ := zc4 BK3.o; (try clear hz4_); have hz4_ := zc3_ BK4.o; (try clear hz5_); have hz5_ := zc4 BK5.o; (try clear hz7_); have hz7_ := zc4 BK7.o;) | ((with_reducible refine gC 47 rfl ?_); refine gL 42 Try.func47 #[.slice A0 l0.length c0] ?_; (refine (spec_DrawCancel.callsF (zVC HC HB.o) AV.o).mono ?_); rintro e w16_ ⟨VA, vka, VB, vkb, VC, vkc, rfl, hnV, hb⟩; refine ⟨_, rfl, ?_⟩; replace HW := zVW HW hb; replace HX := zVW HX hb; replace HY := zVW HY hb; replace BK3 := zBB BK3 hb; replace BK4 := zBB BK4 hb; replace BK5 := zBB BK5 hb; replace BK7 := zBB BK7 hb; replace HB := zLB HB.o hb; clear hb; have HV := aM hnV; clear hnV; (try clear hz3_); have hz3_ := zc4 BK3.o; (try clear hz4_); have hz4_ := zc3_ BK4.o; (try clear hz5_); have hz5_ := zc4 BK5.o; (try clear hz7_); have hz7_ := zc4 BK7.o;) | ((with_reducible refine gD 9 rfl ?_); refine bE 9 #[.int .i64 0, .slice none 0 0, .slice none 0 0, .slice none 0 0] 25 ?_; intro g9 hg w17_ hbox hb; have GE9 := aM (Nat.le_of_eq hg.symm); have HP := aM hb; have BK9 := aM hbox; clear hbox hg hb; (try clear hz9_); have hz9_ := zc4 BK9.o;) | ((with_reducible refine gate_store (t := 25) (p := 9) rfl ?_); have hs0_ := (blk_cell BK9.o 0).trans rfl; have hf0_ := blk_frozen BK9.o 0; have hs1_ := (blk_cell BK9.o 1).trans rfl; have hf1_ := blk_frozen BK9.o 1; have hs2_ := (blk_cell BK9.o 2).trans rfl; have hf2_ := blk_frozen BK9.o 2; have hs3_ := (blk_cell BK9.o 3).trans rfl; have hf3_ := blk_frozen BK9.o 3; refine store_event (t := 25) (p := 9) (v := ?vlx18_) (w1 := ((((w17_.setCell ⟨g9, 0, none⟩ (.int .i64 v0)).setCell ⟨g9, 1, none⟩ (.slice VA v1.length vka)).setCell ⟨g9, 2, none⟩ (.slice VB v2.length vkb)).setCell ⟨g9, 3, none⟩ (.slice VC v3.length vkc))) ?hg ?ho ?hn ?hr ?_; (case ho => rfl); (case hg => rfl); (case hn => rfl); (case hr => first | (go_simp; done) | (go_simp; rfl)); intro w19_ hw_; have HK_ := set4_kept hw_; have BKn := aM (set4_blk hw_ BK9.o rfl); replace HP := aM (set4_below hw_ HP.o GE9.o);  clear BK9; have BK9 := BKn; clear BKn hw_ HK_ hs0_ hf0_ hs1_ hf1_ hs2_ hf2_ hs3_ hf3_; have hb := HP.o; replace HW := zVW HW hb; replace HX := zVW HX hb; replace HY := zVW HY hb; replace HV := zVW HV hb; replace BK3 := zBB BK3 hb; replace BK4 := zBB BK4 hb; replace BK5 := zBB BK5 hb; replace BK7 := zBB BK7 hb; replace HB := zLB HB.o hb; clear hb HP GE9; (try clear hz3_); have hz3_ := zc4 BK3.o; (try clear hz4_); have hz4_ := zc3_ BK4.o; (try clear hz5_); have hz5_ := zc4 BK5.o; (try clear hz7_); have hz7_ := zc4 BK7.o; (try clear hz9_); have hz9_ := zc4 BK9.o;) | ((with_reducible refine gC 35 rfl ?_); refine gL 48 Try.func35 #[.agg #[.int .i64 v0, .slice VA v1.length vka, .slice VB v2.length vkb, .slice VC v3.length vkc], .int .i64 id] ?_; (refine (impl_Cancel.callsF HV.o AZ.o).mono ?_); rintro e w20_ ⟨ZA, zka, ZB, zkb, ZC, zkc, rfl, hnZ, hb⟩; refine ⟨_, rfl, ?_⟩; replace HW := zVW HW hb; replace HX := zVW HX hb; replace HY := zVW HY hb; replace HV := zVW HV hb; replace BK3 := zBB BK3 hb; replace BK4 := zBB BK4 hb; replace BK5 := zBB BK5 hb; replace BK7 := zBB BK7 hb; replace BK9 := zBB BK9 hb; replace HB := zLB HB.o hb; clear hb; have HZ := aM hnZ; clear hnZ; (try clear hz3_); have hz3_ := zc4 BK3.o; (try clear hz4_); have hz4_ := zc3_ BK4.o; (try clear hz5_); have hz5_ := zc4 BK5.o; (try clear hz7_); have hz7_ := zc4 BK7.o; (try clear hz9_); have hz9_ := zc4 BK9.o;) | ((with_reducible refine gD 11 rfl ?_); refine bE 11 #[.int .i64 0, .slice none 0 0, .slice none 0 0, .slice none 0 0] 25 ?_; intro g11 hg w21_ hbox hb; have GE11 := aM (Nat.le_of_eq hg.symm); have HP := aM hb; have BK11 := aM hbox; clear hbox hg hb; (try clear hz11_); have hz11_ := zc4 BK11.o;) | ((with_reducible refine gate_store (t := 25) (p := 11) rfl ?_); have hs0_ := (blk_cell BK11.o 0).trans rfl; have hf0_ := blk_frozen BK11.o 0; have hs1_ := (blk_cell BK11.o 1).trans rfl; have hf1_ := blk_frozen BK11.o 1; have hs2_ := (blk_cell BK11.o 2).trans rfl; have hf2_ := blk_frozen BK11.o 2; have hs3_ := (blk_cell BK11.o 3).trans rfl; have hf3_ := blk_frozen BK11.o 3; refine store_event (t := 25) (p := 11) (v := ?vlx22_) (w1 := ((((w21_.setCell ⟨g11, 0, none⟩ (.int .i64 z0)).setCell ⟨g11, 1, none⟩ (.slice ZA z1.length zka)).setCell ⟨g11, 2, none⟩ (.slice ZB z2.length zkb)).setCell ⟨g11, 3, none⟩ (.slice ZC z3.length zkc))) ?hg ?ho ?hn ?hr ?_; (case ho => rfl); (case hg => rfl); (case hn => rfl); (case hr => first | (go_simp; done) | (go_simp; rfl)); intro w23_ hw_; have HK_ := set4_kept hw_; have BKn := aM (set4_blk hw_ BK11.o rfl); replace HP := aM (set4_below hw_ HP.o GE11.o);  clear BK11; have BK11 := BKn; clear BKn hw_ HK_ hs0_ hf0_ hs1_ hf1_ hs2_ hf2_ hs3_ hf3_; have hb := HP.o; replace HW := zVW HW hb; replace HX := zVW HX hb; replace HY := zVW HY hb; replace HV := zVW HV hb; replace HZ := zVW HZ hb; replace BK3 := zBB BK3 hb; replace BK4 := zBB BK4 hb; replace BK5 := zBB BK5 hb; replace BK7 := zBB BK7 hb; replace BK9 := zBB BK9 hb; replace HB := zLB HB.o hb; clear hb HP GE11; (try clear hz3_); have hz3_ := zc4 BK3.o; (try clear hz4_); have hz4_ := zc3_ BK4.o; (try clear hz5_); have hz5_ := zc4 BK5.o; (try clear hz7_); have hz7_ := zc4 BK7.o; (try clear hz9_); have hz9_ := zc4 BK9.o; (try clear hz11_); have hz11_ := zc4 BK11.o;) | ((with_reducible refine gC 34 rfl ?_); refine gL 54 Try.func34 #[.agg #[.int .i64 v0, .slice VA v1.length vka, .slice VB v2.length vkb, .slice VC v3.length vkc], .int .i64 id] ?_; (refine (spec_Cancel.callsF HV.o AU.o).mono ?_); rintro e w24_ ⟨UA, uka, UB, ukb, UC, ukc, rfl, hnU, hb⟩; refine ⟨_, rfl, ?_⟩; replace HW := zVW HW hb; replace HX := zVW HX hb; replace HY := zVW HY hb; replace HV := zVW HV hb; replace HZ := zVW HZ hb; replace BK3 := zBB BK3 hb; replace BK4 := zBB BK4 hb; replace BK5 := zBB BK5 hb; replace BK7 := zBB BK7 hb; replace BK9 := zBB BK9 hb; replace BK11 := zBB BK11 hb; replace HB := zLB HB.o hb; clear hb; have HU := aM hnU; clear hnU; (try clear hz3_); have hz3_ := zc4 BK3.o; (try clear hz4_); have hz4_ := zc3_ BK4.o; (try clear hz5_); have hz5_ := zc4 BK5.o; (try clear hz7_); have hz7_ := zc4 BK7.o; (try clear hz9_); have hz9_ := zc4 BK9.o; (try clear hz11_); have hz11_ := zc4 BK11.o;) | ((with_reducible refine gD 13 rfl ?_); refine bE 13 #[.int .i64 0, .slice none 0 0, .slice none 0 0, .slice none 0 0] 25 ?_; intro g13 hg w25_ hbox hb; have GE13 := aM (Nat.le_of_eq hg.symm); have HP := aM hb; have BK13 := aM hbox; clear hbox hg hb; (try clear hz13_); have hz13_ := zc4 BK13.o;) | ((with_reducible refine gate_store (t := 25) (p := 13) rfl ?_); have hs0_ := (blk_cell BK13.o 0).trans rfl; have hf0_ := blk_frozen BK13.o 0; have hs1_ := (blk_cell BK13.o 1).trans rfl; have hf1_ := blk_frozen BK13.o 1; have hs2_ := (blk_cell BK13.o 2).trans rfl; have hf2_ := blk_frozen BK13.o 2; have hs3_ := (blk_cell BK13.o 3).trans rfl; have hf3_ := blk_frozen BK13.o 3; refine store_event (t := 25) (p := 13) (v := ?vlx26_) (w1 := ((((w25_.setCell ⟨g13, 0, none⟩ (.int .i64 u0)).setCell ⟨g13, 1, none⟩ (.slice UA u1.length uka)).setCell ⟨g13, 2, none⟩ (.slice UB u2.length ukb)).setCell ⟨g13, 3, none⟩ (.slice UC u3.length ukc))) ?hg ?ho ?hn ?hr ?_; (case ho => rfl); (case hg => rfl); (case hn => rfl); (case hr => first | (go_simp; done) | (go_simp; rfl)); intro w27_ hw_; have HK_ := set4_kept hw_; have BKn := aM (set4_blk hw_ BK13.o rfl); replace HP := aM (set4_below hw_ HP.o GE13.o);  clear BK13; have BK13 := BKn; clear BKn hw_ HK_ hs0_ hf0_ hs1_ hf1_ hs2_ hf2_ hs3_ hf3_; have hb := HP.o; replace HW := zVW HW hb; replace HX := zVW HX hb; replace HY := zVW HY hb; replace HV := zVW HV hb; replace HZ := zVW HZ hb; replace HU := zVW HU hb; replace BK3 := zBB BK3 hb; replace BK4 := zBB BK4 hb; replace BK5 := zBB BK5 hb; replace BK7 := zBB BK7 hb; replace BK9 := zBB BK9 hb; replace BK11 := zBB BK11 hb; replace HB := zLB HB.o hb; clear hb HP GE13; (try clear hz3_); have hz3_ := zc4 BK3.o; (try clear hz4_); have hz4_ := zc3_ BK4.o; (try clear hz5_); have hz5_ := zc4 BK5.o; (try clear hz7_); have hz7_ := zc4 BK7.o; (try clear hz9_); have hz9_ := zc4 BK9.o; (try clear hz11_); have hz11_ := zc4 BK11.o; (try clear hz13_); have hz13_ := zc4 BK13.o;) | ((with_reducible refine gC 48 rfl ?_); refine gL 58 Try.func48 #[.slice A0 l0.length c0] ?_; (refine (spec_DrawWheelOk.callsF (zVC HC HB.o) AO.o).mono ?_); rintro e w28_ ⟨OA, oka, OB, okb, OC, okc, rfl, hnO, hb⟩; refine ⟨_, rfl, ?_⟩; replace HW := zVW HW hb; replace HX := zVW HX hb; replace HY := zVW HY hb; replace HV := zVW HV hb; replace HZ := zVW HZ hb; replace HU := zVW HU hb; replace BK3 := zBB BK3 hb; replace BK4 := zBB BK4 hb; replace BK5 := zBB BK5 hb; replace BK7 := zBB BK7 hb; replace BK9 := zBB BK9 hb; replace BK11 := zBB BK11 hb; replace BK13 := zBB BK13 hb; replace HB := zLB HB.o hb; clear hb; have HO := aM hnO; clear hnO; (try clear hz3_); have hz3_ := zc4 BK3.o; (try clear hz4_); have hz4_ := zc3_ BK4.o; (try clear hz5_); have hz5_ := zc4 BK5.o; (try clear hz7_); have hz7_ := zc4 BK7.o; (try clear hz9_); have hz9_ := zc4 BK9.o; (try clear hz11_); have hz11_ := zc4 BK11.o; (try clear hz13_); have hz13_ := zc4 BK13.o;) | ((with_reducible refine gD 15 rfl ?_); refine bE 15 #[.int .i64 0, .slice none 0 0, .slice none 0 0, .slice none 0 0] 25 ?_; intro g15 hg w29_ hbox hb; have GE15 := aM (Nat.le_of_eq hg.symm); have HP := aM hb; have BK15 := aM hbox; clear hbox hg hb; (try clear hz15_); have hz15_ := zc4 BK15.o;) | ((with_reducible refine gate_store (t := 25) (p := 15) rfl ?_); have hs0_ := (blk_cell BK15.o 0).trans rfl; have hf0_ := blk_frozen BK15.o 0; have hs1_ := (blk_cell BK15.o 1).trans rfl; have hf1_ := blk_frozen BK15.o 1; have hs2_ := (blk_cell BK15.o 2).trans rfl; have hf2_ := blk_frozen BK15.o 2; have hs3_ := (blk_cell BK15.o 3).trans rfl; have hf3_ := blk_frozen BK15.o 3; refine store_event (t := 25) (p := 15) (v := ?vlx30_) (w1 := ((((w29_.setCell ⟨g15, 0, none⟩ (.int .i64 o0)).setCell ⟨g15, 1, none⟩ (.slice OA o1.length oka)).setCell ⟨g15, 2, none⟩ (.slice OB o2.length okb)).setCell ⟨g15, 3, none⟩ (.slice OC o3.length okc))) ?hg ?ho ?hn ?hr ?_; (case ho => rfl); (case hg => rfl); (case hn => rfl); (case hr => first | (go_simp; done) | (go_simp; rfl)); intro w31_ hw_; have HK_ := set4_kept hw_; have BKn := aM (set4_blk hw_ BK15.o rfl); replace HP := aM (set4_below hw_ HP.o GE15.o);  clear BK15; have BK15 := BKn; clear BKn hw_ HK_ hs0_ hf0_ hs1_ hf1_ hs2_ hf2_ hs3_ hf3_; have hb := HP.o; replace HW := zVW HW hb; replace HX := zVW HX hb; replace HY := zVW HY hb; replace HV := zVW HV hb; replace HZ := zVW HZ hb; replace HU := zVW HU hb; replace HO := zVW HO hb; replace BK3 := zBB BK3 hb; replace BK4 := zBB BK4 hb; replace BK5 := zBB BK5 hb; replace BK7 := zBB BK7 hb; replace BK9 := zBB BK9 hb; replace BK11 := zBB BK11 hb; replace BK13 := zBB BK13 hb; replace HB := zLB HB.o hb; clear hb HP GE15; (try clear hz3_); have hz3_ := zc4 BK3.o; (try clear hz4_); have hz4_ := zc3_ BK4.o; (try clear hz5_); have hz5_ := zc4 BK5.o; (try clear hz7_); have hz7_ := zc4 BK7.o; (try clear hz9_); have hz9_ := zc4 BK9.o; (try clear hz11_); have hz11_ := zc4 BK11.o; (try clear hz13_); have hz13_ := zc4 BK13.o; (try clear hz15_); have hz15_ := zc4 BK15.o;) | ((with_reducible refine gC 49 rfl ?_); refine gL 60 Try.func49 #[.slice A0 l0.length c0] ?_; (refine (spec_DrawTimers.callsF (zVC HC HB.o) AM.o).mono ?_); rintro e w32_ ⟨MA, mka, MB, mkb, MC, mkc, rfl, hnM, hb⟩; refine ⟨_, rfl, ?_⟩; replace HW := zVW HW hb; replace HX := zVW HX hb; replace HY := zVW HY hb; replace HV := zVW HV hb; replace HZ := zVW HZ hb; replace HU := zVW HU hb; replace HO := zVW HO hb; replace BK3 := zBB BK3 hb; replace BK4 := zBB BK4 hb; replace BK5 := zBB BK5 hb; replace BK7 := zBB BK7 hb; replace BK9 := zBB BK9 hb; replace BK11 := zBB BK11 hb; replace BK13 := zBB BK13 hb; replace BK15 := zBB BK15 hb; replace HB := zLB HB.o hb; clear hb; have HM := aM hnM; clear hnM; (try clear hz3_); have hz3_ := zc4 BK3.o; (try clear hz4_); have hz4_ := zc3_ BK4.o; (try clear hz5_); have hz5_ := zc4 BK5.o; (try clear hz7_); have hz7_ := zc4 BK7.o; (try clear hz9_); have hz9_ := zc4 BK9.o; (try clear hz11_); have hz11_ := zc4 BK11.o; (try clear hz13_); have hz13_ := zc4 BK13.o; (try clear hz15_); have hz15_ := zc4 BK15.o;) | ((with_reducible refine gD 16 rfl ?_); refine bE 16 #[.int .i64 0, .slice none 0 0, .slice none 0 0, .slice none 0 0] 25 ?_; intro g16 hg w33_ hbox hb; have GE16 := aM (Nat.le_of_eq hg.symm); have HP := aM hb; have BK16 := aM hbox; clear hbox hg hb; (try clear hz16_); have hz16_ := zc4 BK16.o;) | ((with_reducible refine gate_store (t := 25) (p := 16) rfl ?_); have hs0_ := (blk_cell BK16.o 0).trans rfl; have hf0_ := blk_frozen BK16.o 0; have hs1_ := (blk_cell BK16.o 1).trans rfl; have hf1_ := blk_frozen BK16.o 1; have hs2_ := (blk_cell BK16.o 2).trans rfl; have hf2_ := blk_frozen BK16.o 2; have hs3_ := (blk_cell BK16.o 3).trans rfl; have hf3_ := blk_frozen BK16.o 3; refine store_event (t := 25) (p := 16) (v := ?vlx34_) (w1 := ((((w33_.setCell ⟨g16, 0, none⟩ (.int .i64 m0)).setCell ⟨g16, 1, none⟩ (.slice MA m1.length mka)).setCell ⟨g16, 2, none⟩ (.slice MB m2.length mkb)).setCell ⟨g16, 3, none⟩ (.slice MC m3.length mkc))) ?hg ?ho ?hn ?hr ?_; (case ho => rfl); (case hg => rfl); (case hn => rfl); (case hr => first | (go_simp; done) | (go_simp; rfl)); intro w35_ hw_; have HK_ := set4_kept hw_; have BKn := aM (set4_blk hw_ BK16.o rfl); replace HP := aM (set4_below hw_ HP.o GE16.o);  clear BK16; have BK16 := BKn; clear BKn hw_ HK_ hs0_ hf0_ hs1_ hf1_ hs2_ hf2_ hs3_ hf3_; have hb := HP.o; replace HW := zVW HW hb; replace HX := zVW HX hb; replace HY := zVW HY hb; replace HV := zVW HV hb; replace HZ := zVW HZ hb; replace HU := zVW HU hb; replace HO := zVW HO hb; replace HM := zVW HM hb; replace BK3 := zBB BK3 hb; replace BK4 := zBB BK4 hb; replace BK5 := zBB BK5 hb; replace BK7 := zBB BK7 hb; replace BK9 := zBB BK9 hb; replace BK11 := zBB BK11 hb; replace BK13 := zBB BK13 hb; replace BK15 := zBB BK15 hb; replace HB := zLB HB.o hb; clear hb HP GE16; (try clear hz3_); have hz3_ := zc4 BK3.o; (try clear hz4_); have hz4_ := zc3_ BK4.o; (try clear hz5_); have hz5_ := zc4 BK5.o; (try clear hz7_); have hz7_ := zc4 BK7.o; (try clear hz9_); have hz9_ := zc4 BK9.o; (try clear hz11_); have hz11_ := zc4 BK11.o; (try clear hz13_); have hz13_ := zc4 BK13.o; (try clear hz15_); have hz15_ := zc4 BK15.o; (try clear hz16_); have hz16_ := zc4 BK16.o;))
 replace HW := zVW HW zVd
 replace HX := zVW HX zVd
 replace HY := zVW HY zVd
 replace HV := zVW HV zVd
 replace HZ := zVW HZ zVd
 replace HU := zVW HU zVd
 replace HO := zVW HO zVd
 replace HM := zVW HM zVd
 replace BK3 := zBD BK3
 replace BK4 := zBD BK4
 replace BK5 := zBD BK5
 replace BK7 := zBD BK7
 replace BK9 := zBD BK9
 replace BK11 := zBD BK11
 replace BK13 := zBD BK13
 replace BK15 := zBD BK15
 replace BK16 := zBD BK16
 replace HB := zLD HB
 refine start_ (n := 40) (S := fun w' => zt4 w' g5 (.int .i64 x0) (.slice XA x1.length xka) (.slice XB x2.length xkb) (.slice XC x3.length xkc) (zt4 w' g7 (.int .i64 y0) (.slice YA y1.length yka) (.slice YB y2.length ykb) (.slice YC y3.length ykc) (zt4 w' g11 (.int .i64 z0) (.slice ZA z1.length zka) (.slice ZB z2.length zkb) (.slice ZC z3.length zkc) (zt4 w' g13 (.int .i64 u0) (.slice UA u1.length uka) (.slice UB u2.length ukb) (.slice UC u3.length ukc) (zt4 w' g15 (.int .i64 o0) (.slice OA o1.length oka) (.slice OB o2.length okb) (.slice OC o3.length okc) (zs4 w' g16 (.int .i64 m0) (.slice MA m1.length mka) (.slice MB m2.length mkb) (.slice MC m3.length mkc))))))) (ds := []) (fB 40 0) (by kernel_rfl) rfl rfl (zk4 BK5.o (zk4 BK7.o (zk4 BK11.o (zk4 BK13.o (zk4 BK15.o (zc4 BK16.o)))))) (fun hHeld => ?_); refine with_tabW laws_FnWheels.tab11 laws_FnWheels.bits11 (fun HT_ HW_ => ?_)
 generalize w35_.drew = w36_ at HW HX HY HV HZ HU HO HM BK3 BK4 BK5 BK7 BK9 BK11 BK13 BK15 BK16 HB hHeld ⊢
 refine pY 0 61 (fB 40 1) HT_.o ?_
 refine pY 1 62 (fB 40 3) HT_.o ?_
 refine pY 2 63 (fB 40 7) HT_.o ?_
 refine pY 3 64 (fB 40 15) HT_.o ?_
 refine tY 4 65 (fB 40 31) HT_.o HW_.o hHeld ?_
 refine tY 5 66 (fB 40 63) HT_.o HW_.o hHeld ?_
 refine oN 6 67 (fB 40 127) HT_.o fun K hK => ?_
 refine gS Try.func50 #[.agg #[.int .i64 x0, .slice XA x1.length xka, .slice XB x2.length xkb, .slice XC x3.length xkc], .agg #[.int .i64 y0, .slice YA y1.length yka, .slice YB y2.length ykb, .slice YC y3.length ykc]] ?_
 refine (laws_sameWheel.callsF HX.o HY.o E1.o).mono ?_
 rintro e w37_ ⟨rfl, hb⟩
 refine ⟨_, rfl, ?_⟩
 replace HW := zVW HW hb; replace HX := zVW HX hb; replace HY := zVW HY hb; replace HV := zVW HV hb; replace HZ := zVW HZ hb; replace HU := zVW HU hb; replace HO := zVW HO hb; replace HM := zVW HM hb; replace BK3 := zBB BK3 hb; replace BK4 := zBB BK4 hb; replace BK5 := zBB BK5 hb; replace BK7 := zBB BK7 hb; replace BK9 := zBB BK9 hb; replace BK11 := zBB BK11 hb; replace BK13 := zBB BK13 hb; replace BK15 := zBB BK15 hb; replace BK16 := zBB BK16 hb; replace HB := zLB HB.o hb; clear hb
 refine hK.out _ _ (zk4 BK5.o (zk4 BK7.o (zk4 BK11.o (zk4 BK13.o (zk4 BK15.o (zc4 BK16.o)))))) fun hHeld => ?_; clear hK K
 refine nZ 67 ?_
 refine pY 7 68 (fB 40 255) HT_.o ?_
 refine pY 8 69 (fB 40 511) HT_.o ?_
 refine pY 9 70 (fB 40 1023) HT_.o ?_
 refine pY 10 71 (fB 40 2047) HT_.o ?_
 refine pY 11 72 (fB 40 4095) HT_.o ?_
 refine pY 12 73 (fB 40 8191) HT_.o ?_
 refine pY 13 74 (fB 40 16383) HT_.o ?_
 refine pY 14 75 (fB 40 32767) HT_.o ?_
 refine tY 15 76 (fB 40 65535) HT_.o HW_.o hHeld ?_
 refine tY 16 77 (fB 40 131071) HT_.o HW_.o hHeld ?_
 refine oN 17 78 (fB 40 262143) HT_.o fun K hK => ?_
 refine gS Try.func50 #[.agg #[.int .i64 z0, .slice ZA z1.length zka, .slice ZB z2.length zkb, .slice ZC z3.length zkc], .agg #[.int .i64 u0, .slice UA u1.length uka, .slice UB u2.length ukb, .slice UC u3.length ukc]] ?_
 refine (laws_sameWheel.callsF HZ.o HU.o E2.o).mono ?_
 rintro e w38_ ⟨rfl, hb⟩
 refine ⟨_, rfl, ?_⟩
 replace HW := zVW HW hb; replace HX := zVW HX hb; replace HY := zVW HY hb; replace HV := zVW HV hb; replace HZ := zVW HZ hb; replace HU := zVW HU hb; replace HO := zVW HO hb; replace HM := zVW HM hb; replace BK3 := zBB BK3 hb; replace BK4 := zBB BK4 hb; replace BK5 := zBB BK5 hb; replace BK7 := zBB BK7 hb; replace BK9 := zBB BK9 hb; replace BK11 := zBB BK11 hb; replace BK13 := zBB BK13 hb; replace BK15 := zBB BK15 hb; replace BK16 := zBB BK16 hb; replace HB := zLB HB.o hb; clear hb
 refine hK.out _ _ (zk4 BK5.o (zk4 BK7.o (zk4 BK11.o (zk4 BK13.o (zk4 BK15.o (zc4 BK16.o)))))) fun hHeld => ?_; clear hK K
 refine nZ 78 ?_
 refine pY 18 79 (fB 40 524287) HT_.o ?_
 refine pY 19 80 (fB 40 1048575) HT_.o ?_
 refine pY 20 81 (fB 40 2097151) HT_.o ?_
 refine tY 21 82 (fB 40 4194303) HT_.o HW_.o hHeld ?_
 refine tY 23 84 (fB 40 12582911) HT_.o HW_.o hHeld ?_
 refine oN 22 83 (fB 40 16777215) HT_.o fun K hK => ?_
 refine gS Try.func30 #[.agg #[.int .i64 o0, .slice OA o1.length oka, .slice OB o2.length okb, .slice OC o3.length okc]] ?_
 refine (impl_WheelOk.callsF HO.o AP.o).mono ?_
 rintro e w39_ ⟨rfl, hb⟩
 refine ⟨_, rfl, ?_⟩
 replace HW := zVW HW hb; replace HX := zVW HX hb; replace HY := zVW HY hb; replace HV := zVW HV hb; replace HZ := zVW HZ hb; replace HU := zVW HU hb; replace HO := zVW HO hb; replace HM := zVW HM hb; replace BK3 := zBB BK3 hb; replace BK4 := zBB BK4 hb; replace BK5 := zBB BK5 hb; replace BK7 := zBB BK7 hb; replace BK9 := zBB BK9 hb; replace BK11 := zBB BK11 hb; replace BK13 := zBB BK13 hb; replace BK15 := zBB BK15 hb; replace BK16 := zBB BK16 hb; replace HB := zLB HB.o hb; clear hb
 refine hK.out _ _ (zk4 BK5.o (zk4 BK7.o (zk4 BK11.o (zk4 BK13.o (zk4 BK15.o (zc4 BK16.o)))))) fun hHeld => ?_; clear hK K
 refine nZ 83 ?_
 refine oN 24 85 (fB 40 33554431) HT_.o fun K hK => ?_
 refine gS Try.func29 #[.agg #[.int .i64 o0, .slice OA o1.length oka, .slice OB o2.length okb, .slice OC o3.length okc]] ?_
 refine (spec_WheelOk.callsF HO.o AP2.o).mono ?_
 rintro e w40_ ⟨rfl, hb⟩
 refine ⟨_, rfl, ?_⟩
 replace HW := zVW HW hb; replace HX := zVW HX hb; replace HY := zVW HY hb; replace HV := zVW HV hb; replace HZ := zVW HZ hb; replace HU := zVW HU hb; replace HO := zVW HO hb; replace HM := zVW HM hb; replace BK3 := zBB BK3 hb; replace BK4 := zBB BK4 hb; replace BK5 := zBB BK5 hb; replace BK7 := zBB BK7 hb; replace BK9 := zBB BK9 hb; replace BK11 := zBB BK11 hb; replace BK13 := zBB BK13 hb; replace BK15 := zBB BK15 hb; replace BK16 := zBB BK16 hb; replace HB := zLB HB.o hb; clear hb
 refine hK.out _ _ (zk4 BK5.o (zk4 BK7.o (zk4 BK11.o (zk4 BK13.o (zk4 BK15.o (zc4 BK16.o)))))) fun hHeld => ?_; clear hK K
 refine nZ 85 ?_
 refine pY 25 86 (fB 40 67108863) HT_.o ?_
 refine pY 26 87 (fB 40 134217727) HT_.o ?_
 refine pY 27 88 (fB 40 268435455) HT_.o ?_
 refine tY 28 89 (fB 40 536870911) HT_.o HW_.o hHeld ?_
 refine tY 30 91 (fB 40 1610612735) HT_.o HW_.o hHeld ?_
 refine oN 29 90 (fB 40 2147483647) HT_.o fun K hK => ?_
 refine gS Try.func25 #[.agg #[.int .i64 m0, .slice MA m1.length mka, .slice MB m2.length mkb, .slice MC m3.length mkc]] ?_
 refine (impl_Timers.callsF HM.o AA.o).mono ?_
 rintro e w41_ ⟨RAD, rad, rfl, hnRA, hb⟩
 refine ⟨_, rfl, ?_⟩
 replace HW := zVW HW hb; replace HX := zVW HX hb; replace HY := zVW HY hb; replace HV := zVW HV hb; replace HZ := zVW HZ hb; replace HU := zVW HU hb; replace HO := zVW HO hb; replace HM := zVW HM hb; replace BK3 := zBB BK3 hb; replace BK4 := zBB BK4 hb; replace BK5 := zBB BK5 hb; replace BK7 := zBB BK7 hb; replace BK9 := zBB BK9 hb; replace BK11 := zBB BK11 hb; replace BK13 := zBB BK13 hb; replace BK15 := zBB BK15 hb; replace BK16 := zBB BK16 hb; replace HB := zLB HB.o hb; clear hb; have HRA := aM hnRA; clear hnRA
 refine hK.out _ _ (zk4 BK5.o (zk4 BK7.o (zk4 BK11.o (zk4 BK13.o (zk4 BK15.o (zc4 BK16.o)))))) fun hHeld => ?_; clear hK K
 refine nZ 90 ?_
 refine oN 31 92 (fB 40 4294967295) HT_.o fun K hK => ?_
 refine gS Try.func24 #[.agg #[.int .i64 m0, .slice MA m1.length mka, .slice MB m2.length mkb, .slice MC m3.length mkc]] ?_
 refine (spec_Timers.callsF HM.o AB_.o).mono ?_
 rintro e w42_ ⟨RBD, rbd, rfl, hnRB, hb⟩
 refine ⟨_, rfl, ?_⟩
 replace HW := zVW HW hb; replace HX := zVW HX hb; replace HY := zVW HY hb; replace HV := zVW HV hb; replace HZ := zVW HZ hb; replace HU := zVW HU hb; replace HO := zVW HO hb; replace HM := zVW HM hb; replace HRA := zVT HRA hb; replace BK3 := zBB BK3 hb; replace BK4 := zBB BK4 hb; replace BK5 := zBB BK5 hb; replace BK7 := zBB BK7 hb; replace BK9 := zBB BK9 hb; replace BK11 := zBB BK11 hb; replace BK13 := zBB BK13 hb; replace BK15 := zBB BK15 hb; replace BK16 := zBB BK16 hb; replace HB := zLB HB.o hb; clear hb; have HRB := aM hnRB; clear hnRB
 refine hK.out _ _ (zk4 BK5.o (zk4 BK7.o (zk4 BK11.o (zk4 BK13.o (zk4 BK15.o (zc4 BK16.o)))))) fun hHeld => ?_; clear hK K
 refine nZ 92 ?_
 refine oN 32 93 (fB 40 8589934591) HT_.o fun K hK => ?_
 refine gS Try.func51 #[.slice RAD ra.length rad, .slice RBD rb.length rbd] ?_
 refine (laws_sameTimers.callsF HRA.o HRB.o E3.o).mono ?_
 rintro e w43_ ⟨rfl, hb⟩
 refine ⟨_, rfl, ?_⟩
 replace HW := zVW HW hb; replace HX := zVW HX hb; replace HY := zVW HY hb; replace HV := zVW HV hb; replace HZ := zVW HZ hb; replace HU := zVW HU hb; replace HO := zVW HO hb; replace HM := zVW HM hb; replace HRA := zVT HRA hb; replace HRB := zVT HRB hb; replace BK3 := zBB BK3 hb; replace BK4 := zBB BK4 hb; replace BK5 := zBB BK5 hb; replace BK7 := zBB BK7 hb; replace BK9 := zBB BK9 hb; replace BK11 := zBB BK11 hb; replace BK13 := zBB BK13 hb; replace BK15 := zBB BK15 hb; replace BK16 := zBB BK16 hb; replace HB := zLB HB.o hb; clear hb
 refine hK.out _ _ (zk4 BK5.o (zk4 BK7.o (zk4 BK11.o (zk4 BK13.o (zk4 BK15.o (zc4 BK16.o)))))) fun hHeld => ?_; clear hK K
 refine nZ 93 ?_
 refine pY 33 94 (fB 40 17179869183) HT_.o ?_
 refine pY 34 95 (fB 40 34359738367) HT_.o ?_
 refine pY 35 96 (fB 40 68719476735) HT_.o ?_
 refine oN 36 97 (fB 40 137438953471) HT_.o fun K hK => ?_
 refine gS Try.func16 #[] ?_
 refine (impl_WheelNew.callsF AN.o).mono ?_
 rintro e w44_ ⟨NA, nka, NB, nkb, NC, nkc, rfl, hnN, hb⟩
 refine ⟨_, rfl, ?_⟩
 replace HW := zVW HW hb; replace HX := zVW HX hb; replace HY := zVW HY hb; replace HV := zVW HV hb; replace HZ := zVW HZ hb; replace HU := zVW HU hb; replace HO := zVW HO hb; replace HM := zVW HM hb; replace HRA := zVT HRA hb; replace HRB := zVT HRB hb; replace BK3 := zBB BK3 hb; replace BK4 := zBB BK4 hb; replace BK5 := zBB BK5 hb; replace BK7 := zBB BK7 hb; replace BK9 := zBB BK9 hb; replace BK11 := zBB BK11 hb; replace BK13 := zBB BK13 hb; replace BK15 := zBB BK15 hb; replace BK16 := zBB BK16 hb; replace HB := zLB HB.o hb; clear hb; have HN := aM hnN; clear hnN
 refine hK.out _ _ (zk4 BK5.o (zk4 BK7.o (zk4 BK11.o (zk4 BK13.o (zk4 BK15.o (zc4 BK16.o)))))) fun hHeld => ?_; clear hK K
 refine nZ 97 ?_
 refine oN 37 98 (fB 40 274877906943) HT_.o fun K hK => ?_
 refine gS Try.func30 #[.agg #[.int .i64 n0, .slice NA n1.length nka, .slice NB n2.length nkb, .slice NC n3.length nkc]] ?_
 refine (impl_WheelOk.callsF HN.o AO3.o).mono ?_
 rintro e w45_ ⟨rfl, hb⟩
 refine ⟨_, rfl, ?_⟩
 replace HW := zVW HW hb; replace HX := zVW HX hb; replace HY := zVW HY hb; replace HV := zVW HV hb; replace HZ := zVW HZ hb; replace HU := zVW HU hb; replace HO := zVW HO hb; replace HM := zVW HM hb; replace HRA := zVT HRA hb; replace HRB := zVT HRB hb; replace HN := zVW HN hb; replace BK3 := zBB BK3 hb; replace BK4 := zBB BK4 hb; replace BK5 := zBB BK5 hb; replace BK7 := zBB BK7 hb; replace BK9 := zBB BK9 hb; replace BK11 := zBB BK11 hb; replace BK13 := zBB BK13 hb; replace BK15 := zBB BK15 hb; replace BK16 := zBB BK16 hb; replace HB := zLB HB.o hb; clear hb
 refine hK.out _ _ (zk4 BK5.o (zk4 BK7.o (zk4 BK11.o (zk4 BK13.o (zk4 BK15.o (zc4 BK16.o)))))) fun hHeld => ?_; clear hK K
 refine nZ 98 ?_
 refine pY 38 99 (fB 40 549755813887) HT_.o ?_
 refine pY 39 100 (fB 40 1099511627775) HT_.o ?_
 refine done_ (done_of HT_.o (by kernel_rfl)) ?_
 clear hHeld HT_ HW_
 clear HY HU HO HM HRA HRB HN BK7 BK13 BK15 BK16 hz3_ hz4_ hz5_ hz7_ hz9_ hz11_ hz13_ hz15_ hz16_
 have h := HT.o
 clear HT
 unfold laws_FnWheels.t at h
 (try dsimp only at h)
 by_cases cx : fy = true
 rotate_left
 ·rw [if_neg cx] at h
  obtain rfl := Bool.eq_false_iff.mpr cx
  replace h := zO h
  obtain ⟨e4, E4, h⟩ := h
  (try dsimp only at h)
  by_cases c8 : e4 = true
  rotate_left
  ·rw [if_neg c8] at h
   exact absurd h (by simp)
  rw [if_pos c8] at h
  subst c8
  (try clear hz3_); have hz3_ := zc4 BK3.o; (try clear hz4_); have hz4_ := zc3_ BK4.o; (try clear hz5_); have hz5_ := zc4 BK5.o; (try clear hz9_); have hz9_ := zc4 BK9.o; (try clear hz11_); have hz11_ := zc4 BK11.o
  by_cases cz : fu = true
  ·subst cz
   clear h
   go_wp2_with (first | ((with_reducible refine gC 50 rfl ?_); refine gL 105 Try.func50 #[.agg #[.int .i64 x0, .slice XA x1.length xka, .slice XB x2.length xkb, .slice XC x3.length xkc], .agg #[.int .i64 w0, .slice WA w1.length wka, .slice WB w2.length wkb, .slice WC w3.length wkc]] ?_; (refine (laws_sameWheel.callsF HX.o HW.o E4.o).mono ?_); rintro e w46_ ⟨rfl, hb⟩; refine ⟨_, rfl, ?_⟩; replace HW := zVW HW hb; replace HX := zVW HX hb; replace HV := zVW HV hb; replace HZ := zVW HZ hb; replace BK3 := zBB BK3 hb; replace BK4 := zBB BK4 hb; replace BK5 := zBB BK5 hb; replace BK9 := zBB BK9 hb; replace BK11 := zBB BK11 hb; replace HB := zLB HB.o hb; clear hb;  (try clear hz3_); have hz3_ := zc4 BK3.o; (try clear hz4_); have hz4_ := zc3_ BK4.o; (try clear hz5_); have hz5_ := zc4 BK5.o; (try clear hz9_); have hz9_ := zc4 BK9.o; (try clear hz11_); have hz11_ := zc4 BK11.o;))
   go_ret
   exact ⟨rfl, HB.o⟩
  ·rw [if_neg cz] at h
   obtain rfl := Bool.eq_false_iff.mpr cz
   replace h := zO h
   obtain ⟨e5, E5, h⟩ := h
   (try dsimp only at h)
   by_cases c9 : e5 = true
   rotate_left
   ·rw [if_neg c9] at h
    exact absurd h (by simp)
   rw [if_pos c9] at h
   subst c9
   clear h
   go_wp2_with (first | ((with_reducible refine gC 50 rfl ?_); refine gL 105 Try.func50 #[.agg #[.int .i64 x0, .slice XA x1.length xka, .slice XB x2.length xkb, .slice XC x3.length xkc], .agg #[.int .i64 w0, .slice WA w1.length wka, .slice WB w2.length wkb, .slice WC w3.length wkc]] ?_; (refine (laws_sameWheel.callsF HX.o HW.o E4.o).mono ?_); rintro e w47_ ⟨rfl, hb⟩; refine ⟨_, rfl, ?_⟩; replace HW := zVW HW hb; replace HX := zVW HX hb; replace HV := zVW HV hb; replace HZ := zVW HZ hb; replace BK3 := zBB BK3 hb; replace BK4 := zBB BK4 hb; replace BK5 := zBB BK5 hb; replace BK9 := zBB BK9 hb; replace BK11 := zBB BK11 hb; replace HB := zLB HB.o hb; clear hb;  (try clear hz3_); have hz3_ := zc4 BK3.o; (try clear hz4_); have hz4_ := zc3_ BK4.o; (try clear hz5_); have hz5_ := zc4 BK5.o; (try clear hz9_); have hz9_ := zc4 BK9.o; (try clear hz11_); have hz11_ := zc4 BK11.o;) | (go_at_call 50; (refine (laws_sameWheel.callsF HZ.o HV.o E5.o).mono ?_); rintro e w48_ ⟨rfl, hb⟩; replace HW := zVW HW hb; replace HX := zVW HX hb; replace HV := zVW HV hb; replace HZ := zVW HZ hb; replace BK3 := zBB BK3 hb; replace BK4 := zBB BK4 hb; replace BK5 := zBB BK5 hb; replace BK9 := zBB BK9 hb; replace BK11 := zBB BK11 hb; replace HB := zLB HB.o hb; clear hb;  (try clear hz3_); have hz3_ := zc4 BK3.o; (try clear hz4_); have hz4_ := zc3_ BK4.o; (try clear hz5_); have hz5_ := zc4 BK5.o; (try clear hz9_); have hz9_ := zc4 BK9.o; (try clear hz11_); have hz11_ := zc4 BK11.o;))
   go_ret
   exact ⟨rfl, HB.o⟩
 rw [if_pos cx] at h
 subst cx
 replace h := zO h
 obtain ⟨⟨a0, a1, a2, a3, fa⟩, AC, h⟩ := h
 (try dsimp only at h)
 replace h := zO h
 obtain ⟨⟨j0, j1, j2, j3, fp⟩, AD, h⟩ := h
 (try dsimp only at h)
 replace h := zO h
 obtain ⟨o4, AO4, h⟩ := h
 (try dsimp only at h)
 by_cases c8 : o4 = true
 rotate_left
 ·rw [if_neg c8] at h
  exact absurd h (by simp)
 rw [if_pos c8] at h
 subst c8
 replace h := zO h
 obtain ⟨tx, AT, h⟩ := h
 (try dsimp only at h)
 replace h := zO h
 obtain ⟨tw, AT2, h⟩ := h
 (try dsimp only at h)
 by_cases c9 : (tx.length : Int) = wrap64 ((tw.length : Int) + 1)
 rotate_left
 ·rw [if_neg c9] at h
  exact absurd h (by simp)
 rw [if_pos c9] at h
 by_cases c10 : fa = true
 rotate_left
 ·rw [if_neg c10] at h
  exact absurd h (by simp)
 rw [if_pos c10] at h
 subst c10
 replace h := zO h
 obtain ⟨e4, E4, h⟩ := h
 (try dsimp only at h)
 by_cases c11 : e4 = true
 rotate_left
 ·rw [if_neg c11] at h
  exact absurd h (by simp)
 rw [if_pos c11] at h
 subst c11
 by_cases c12 : fp = true
 ·rw [if_pos c12] at h; exact absurd h (by simp)
 obtain rfl := Bool.eq_false_iff.mpr c12
 obtain ⟨c9a, c9b⟩ := zt c9
 clear h c9
 (try clear hz3_); have hz3_ := zc4 BK3.o; (try clear hz4_); have hz4_ := zc3_ BK4.o; (try clear hz5_); have hz5_ := zc4 BK5.o; (try clear hz9_); have hz9_ := zc4 BK9.o; (try clear hz11_); have hz11_ := zc4 BK11.o
 try go_wp2_with (first | ((with_reducible refine gC 35 rfl ?_); refine gL 118 Try.func35 #[.agg #[.int .i64 x0, .slice XA x1.length xka, .slice XB x2.length xkb, .slice XC x3.length xkc], .int .i64 t0] ?_; (refine (impl_Cancel.callsF HX.o AC.o).mono ?_); rintro e w49_ ⟨AA, aka, AB, akb, AC, akc, rfl, hnA, hb⟩; refine ⟨_, rfl, ?_⟩; replace HW := zVW HW hb; replace HX := zVW HX hb; replace HV := zVW HV hb; replace HZ := zVW HZ hb; replace BK3 := zBB BK3 hb; replace BK4 := zBB BK4 hb; replace BK5 := zBB BK5 hb; replace BK9 := zBB BK9 hb; replace BK11 := zBB BK11 hb; replace HB := zLB HB.o hb; clear hb; have HA := aM hnA; clear hnA; (try clear hz3_); have hz3_ := zc4 BK3.o; (try clear hz4_); have hz4_ := zc3_ BK4.o; (try clear hz5_); have hz5_ := zc4 BK5.o; (try clear hz9_); have hz9_ := zc4 BK9.o; (try clear hz11_); have hz11_ := zc4 BK11.o;) | ((with_reducible refine gD 17 rfl ?_); refine bE 17 #[.int .i64 0, .slice none 0 0, .slice none 0 0, .slice none 0 0] 25 ?_; intro g17 hg w50_ hbox hb; have GE17 := aM (Nat.le_of_eq hg.symm); have HP := aM hb; have BK17 := aM hbox; clear hbox hg hb; (try clear hz17_); have hz17_ := zc4 BK17.o;) | ((with_reducible refine gate_store (t := 25) (p := 17) rfl ?_); have hs0_ := (blk_cell BK17.o 0).trans rfl; have hf0_ := blk_frozen BK17.o 0; have hs1_ := (blk_cell BK17.o 1).trans rfl; have hf1_ := blk_frozen BK17.o 1; have hs2_ := (blk_cell BK17.o 2).trans rfl; have hf2_ := blk_frozen BK17.o 2; have hs3_ := (blk_cell BK17.o 3).trans rfl; have hf3_ := blk_frozen BK17.o 3; refine store_event (t := 25) (p := 17) (v := ?vlx51_) (w1 := ((((w50_.setCell ⟨g17, 0, none⟩ (.int .i64 a0)).setCell ⟨g17, 1, none⟩ (.slice AA a1.length aka)).setCell ⟨g17, 2, none⟩ (.slice AB a2.length akb)).setCell ⟨g17, 3, none⟩ (.slice AC a3.length akc))) ?hg ?ho ?hn ?hr ?_; (case ho => rfl); (case hg => rfl); (case hn => rfl); (case hr => first | (go_simp; done) | (go_simp; rfl)); intro w52_ hw_; have HK_ := set4_kept hw_; have BKn := aM (set4_blk hw_ BK17.o rfl); replace HP := aM (set4_below hw_ HP.o GE17.o);  clear BK17; have BK17 := BKn; clear BKn hw_ HK_ hs0_ hf0_ hs1_ hf1_ hs2_ hf2_ hs3_ hf3_; have hb := HP.o; replace HW := zVW HW hb; replace HX := zVW HX hb; replace HV := zVW HV hb; replace HZ := zVW HZ hb; replace HA := zVW HA hb; replace BK3 := zBB BK3 hb; replace BK4 := zBB BK4 hb; replace BK5 := zBB BK5 hb; replace BK9 := zBB BK9 hb; replace BK11 := zBB BK11 hb; replace HB := zLB HB.o hb; clear hb HP GE17; (try clear hz3_); have hz3_ := zc4 BK3.o; (try clear hz4_); have hz4_ := zc3_ BK4.o; (try clear hz5_); have hz5_ := zc4 BK5.o; (try clear hz9_); have hz9_ := zc4 BK9.o; (try clear hz11_); have hz11_ := zc4 BK11.o; (try clear hz17_); have hz17_ := zc4 BK17.o;) | ((with_reducible refine gC 33 rfl ?_); refine gL 124 Try.func33 #[.agg #[.int .i64 x0, .slice XA x1.length xka, .slice XB x2.length xkb, .slice XC x3.length xkc], .agg #[.int .i64 t0, .int .i64 t1, .int .i64 t2]] ?_; (refine (impl_Put.callsF HX.o AD.o).mono ?_); rintro e w53_ ⟨JA, jka, JB, jkb, JC, jkc, rfl, hnJ, hb⟩; refine ⟨_, rfl, ?_⟩; replace HW := zVW HW hb; replace HX := zVW HX hb; replace HV := zVW HV hb; replace HZ := zVW HZ hb; replace HA := zVW HA hb; replace BK3 := zBB BK3 hb; replace BK4 := zBB BK4 hb; replace BK5 := zBB BK5 hb; replace BK9 := zBB BK9 hb; replace BK11 := zBB BK11 hb; replace BK17 := zBB BK17 hb; replace HB := zLB HB.o hb; clear hb; have HJ := aM hnJ; clear hnJ; (try clear hz3_); have hz3_ := zc4 BK3.o; (try clear hz4_); have hz4_ := zc3_ BK4.o; (try clear hz5_); have hz5_ := zc4 BK5.o; (try clear hz9_); have hz9_ := zc4 BK9.o; (try clear hz11_); have hz11_ := zc4 BK11.o; (try clear hz17_); have hz17_ := zc4 BK17.o;) | ((with_reducible refine gD 19 rfl ?_); refine bE 19 #[.int .i64 0, .slice none 0 0, .slice none 0 0, .slice none 0 0] 25 ?_; intro g19 hg w54_ hbox hb; have GE19 := aM (Nat.le_of_eq hg.symm); have HP := aM hb; have BK19 := aM hbox; clear hbox hg hb; (try clear hz19_); have hz19_ := zc4 BK19.o;) | ((with_reducible refine gate_store (t := 25) (p := 19) rfl ?_); have hs0_ := (blk_cell BK19.o 0).trans rfl; have hf0_ := blk_frozen BK19.o 0; have hs1_ := (blk_cell BK19.o 1).trans rfl; have hf1_ := blk_frozen BK19.o 1; have hs2_ := (blk_cell BK19.o 2).trans rfl; have hf2_ := blk_frozen BK19.o 2; have hs3_ := (blk_cell BK19.o 3).trans rfl; have hf3_ := blk_frozen BK19.o 3; refine store_event (t := 25) (p := 19) (v := ?vlx55_) (w1 := ((((w54_.setCell ⟨g19, 0, none⟩ (.int .i64 j0)).setCell ⟨g19, 1, none⟩ (.slice JA j1.length jka)).setCell ⟨g19, 2, none⟩ (.slice JB j2.length jkb)).setCell ⟨g19, 3, none⟩ (.slice JC j3.length jkc))) ?hg ?ho ?hn ?hr ?_; (case ho => rfl); (case hg => rfl); (case hn => rfl); (case hr => first | (go_simp; done) | (go_simp; rfl)); intro w56_ hw_; have HK_ := set4_kept hw_; have BKn := aM (set4_blk hw_ BK19.o rfl); replace HP := aM (set4_below hw_ HP.o GE19.o);  clear BK19; have BK19 := BKn; clear BKn hw_ HK_ hs0_ hf0_ hs1_ hf1_ hs2_ hf2_ hs3_ hf3_; have hb := HP.o; replace HW := zVW HW hb; replace HX := zVW HX hb; replace HV := zVW HV hb; replace HZ := zVW HZ hb; replace HA := zVW HA hb; replace HJ := zVW HJ hb; replace BK3 := zBB BK3 hb; replace BK4 := zBB BK4 hb; replace BK5 := zBB BK5 hb; replace BK9 := zBB BK9 hb; replace BK11 := zBB BK11 hb; replace BK17 := zBB BK17 hb; replace HB := zLB HB.o hb; clear hb HP GE19; (try clear hz3_); have hz3_ := zc4 BK3.o; (try clear hz4_); have hz4_ := zc3_ BK4.o; (try clear hz5_); have hz5_ := zc4 BK5.o; (try clear hz9_); have hz9_ := zc4 BK9.o; (try clear hz11_); have hz11_ := zc4 BK11.o; (try clear hz17_); have hz17_ := zc4 BK17.o; (try clear hz19_); have hz19_ := zc4 BK19.o;))
 replace HW := zVW HW zVd
 replace HX := zVW HX zVd
 replace HV := zVW HV zVd
 replace HZ := zVW HZ zVd
 replace HA := zVW HA zVd
 replace HJ := zVW HJ zVd
 replace BK3 := zBD BK3
 replace BK4 := zBD BK4
 replace BK5 := zBD BK5
 replace BK9 := zBD BK9
 replace BK11 := zBD BK11
 replace BK17 := zBD BK17
 replace BK19 := zBD BK19
 replace HB := zLD HB
 refine start_ (n := 25) (S := fun w' => zt4 w' g5 (.int .i64 x0) (.slice XA x1.length xka) (.slice XB x2.length xkb) (.slice XC x3.length xkc) (zt4 w' g3 (.int .i64 w0) (.slice WA w1.length wka) (.slice WB w2.length wkb) (.slice WC w3.length wkc) (zs4 w' g17 (.int .i64 a0) (.slice AA a1.length aka) (.slice AB a2.length akb) (.slice AC a3.length akc)))) (ds := []) (fB 25 0) (by kernel_rfl) rfl rfl (zk4 BK5.o (zk4 BK3.o (zc4 BK17.o))) (fun hHeld => ?_); refine with_tabW laws_FnWheels.tab17 laws_FnWheels.bits17 (fun HT_ HW_ => ?_)
 generalize w56_.drew = w57_ at HW HX HV HZ HA HJ BK3 BK4 BK5 BK9 BK11 BK17 BK19 HB hHeld ⊢
 refine tY 0 127 (fB 25 1) HT_.o HW_.o hHeld ?_
 refine oN 1 128 (fB 25 3) HT_.o fun K hK => ?_
 refine gS Try.func30 #[.agg #[.int .i64 x0, .slice XA x1.length xka, .slice XB x2.length xkb, .slice XC x3.length xkc]] ?_
 refine (impl_WheelOk.callsF HX.o AO4.o).mono ?_
 rintro e w58_ ⟨rfl, hb⟩
 refine ⟨_, rfl, ?_⟩
 replace HW := zVW HW hb; replace HX := zVW HX hb; replace HV := zVW HV hb; replace HZ := zVW HZ hb; replace HA := zVW HA hb; replace HJ := zVW HJ hb; replace BK3 := zBB BK3 hb; replace BK4 := zBB BK4 hb; replace BK5 := zBB BK5 hb; replace BK9 := zBB BK9 hb; replace BK11 := zBB BK11 hb; replace BK17 := zBB BK17 hb; replace BK19 := zBB BK19 hb; replace HB := zLB HB.o hb; clear hb
 refine hK.out _ _ (zk4 BK5.o (zk4 BK3.o (zc4 BK17.o))) fun hHeld => ?_; clear hK K
 refine nZ 128 ?_
 refine pY 2 129 (fB 25 7) HT_.o ?_
 refine tY 3 130 (fB 25 15) HT_.o HW_.o hHeld ?_
 refine tY 6 133 (fB 25 79) HT_.o HW_.o hHeld ?_
 refine oN 4 131 (fB 25 95) HT_.o fun K hK => ?_
 refine gS Try.func25 #[.agg #[.int .i64 x0, .slice XA x1.length xka, .slice XB x2.length xkb, .slice XC x3.length xkc]] ?_
 refine (impl_Timers.callsF HX.o AT.o).mono ?_
 rintro e w59_ ⟨TXD, txd, rfl, hnTX, hb⟩
 refine ⟨_, rfl, ?_⟩
 replace HW := zVW HW hb; replace HX := zVW HX hb; replace HV := zVW HV hb; replace HZ := zVW HZ hb; replace HA := zVW HA hb; replace HJ := zVW HJ hb; replace BK3 := zBB BK3 hb; replace BK4 := zBB BK4 hb; replace BK5 := zBB BK5 hb; replace BK9 := zBB BK9 hb; replace BK11 := zBB BK11 hb; replace BK17 := zBB BK17 hb; replace BK19 := zBB BK19 hb; replace HB := zLB HB.o hb; clear hb; have HTX := aM hnTX; clear hnTX
 refine hK.out _ _ (zk4 BK5.o (zk4 BK3.o (zc4 BK17.o))) fun hHeld => ?_; clear hK K
 refine nZ 131 ?_
 refine pY 5 132 (fB 25 127) HT_.o ?_
 refine oN 7 134 (fB 25 255) HT_.o fun K hK => ?_
 refine gS Try.func25 #[.agg #[.int .i64 w0, .slice WA w1.length wka, .slice WB w2.length wkb, .slice WC w3.length wkc]] ?_
 refine (impl_Timers.callsF HW.o AT2.o).mono ?_
 rintro e w60_ ⟨TWD, twd, rfl, hnTW, hb⟩
 refine ⟨_, rfl, ?_⟩
 replace HW := zVW HW hb; replace HX := zVW HX hb; replace HV := zVW HV hb; replace HZ := zVW HZ hb; replace HA := zVW HA hb; replace HJ := zVW HJ hb; replace HTX := zVT HTX hb; replace BK3 := zBB BK3 hb; replace BK4 := zBB BK4 hb; replace BK5 := zBB BK5 hb; replace BK9 := zBB BK9 hb; replace BK11 := zBB BK11 hb; replace BK17 := zBB BK17 hb; replace BK19 := zBB BK19 hb; replace HB := zLB HB.o hb; clear hb; have HTW := aM hnTW; clear hnTW
 refine hK.out _ _ (zk4 BK5.o (zk4 BK3.o (zc4 BK17.o))) fun hHeld => ?_; clear hK K
 refine nZ 134 ?_
 refine pY 8 135 (fB 25 511) HT_.o ?_
 refine pY 9 136 (fB 25 1023) HT_.o ?_
 refine pY 10 137 (fB 25 2047) HT_.o ?_
 refine pY 11 138 (fB 25 4095) HT_.o ?_
 refine pY 12 139 (fB 25 8191) HT_.o ?_
 refine pY 13 140 (fB 25 16383) HT_.o ?_
 refine pY 14 141 (fB 25 32767) HT_.o ?_
 refine pY 15 142 (fB 25 65535) HT_.o ?_
 refine tY 16 143 (fB 25 131071) HT_.o HW_.o hHeld ?_
 refine tY 17 144 (fB 25 262143) HT_.o HW_.o hHeld ?_
 refine oN 18 145 (fB 25 524287) HT_.o fun K hK => ?_
 refine gS Try.func50 #[.agg #[.int .i64 a0, .slice AA a1.length aka, .slice AB a2.length akb, .slice AC a3.length akc], .agg #[.int .i64 w0, .slice WA w1.length wka, .slice WB w2.length wkb, .slice WC w3.length wkc]] ?_
 refine (laws_sameWheel.callsF HA.o HW.o E4.o).mono ?_
 rintro e w61_ ⟨rfl, hb⟩
 refine ⟨_, rfl, ?_⟩
 replace HW := zVW HW hb; replace HX := zVW HX hb; replace HV := zVW HV hb; replace HZ := zVW HZ hb; replace HA := zVW HA hb; replace HJ := zVW HJ hb; replace HTX := zVT HTX hb; replace HTW := zVT HTW hb; replace BK3 := zBB BK3 hb; replace BK4 := zBB BK4 hb; replace BK5 := zBB BK5 hb; replace BK9 := zBB BK9 hb; replace BK11 := zBB BK11 hb; replace BK17 := zBB BK17 hb; replace BK19 := zBB BK19 hb; replace HB := zLB HB.o hb; clear hb
 refine hK.out _ _ (zk4 BK5.o (zk4 BK3.o (zc4 BK17.o))) fun hHeld => ?_; clear hK K
 refine nZ 145 ?_
 refine pY 19 146 (fB 25 1048575) HT_.o ?_
 refine pY 20 147 (fB 25 2097151) HT_.o ?_
 refine pY 21 148 (fB 25 4194303) HT_.o ?_
 refine pY 22 149 (fB 25 8388607) HT_.o ?_
 refine pY 23 150 (fB 25 16777215) HT_.o ?_
 refine pY 24 2 (fB 25 33554431) HT_.o ?_
 refine done_ (done_of HT_.o (by kernel_rfl)) ?_
 clear hHeld HT_ HW_
 try go_wp2
 go_ret
 exact ⟨rfl, HB.o⟩

end Go.Proofs.Ytggenhomnbnodaa.QFnWheels
