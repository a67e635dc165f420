/- What the Go functions that the law FnExactJudge reaches answer: each as a Lean function, with its walk. Written by a program of this session. Conditions: those that each theorem names. -/
import Derived.Test.YtfhblnbicnmndaaQFnExactJudgex0
import Derived.Test.YtfhblnbicnmndaaQFnExactJudgex1
import Derived.Test.YtfhblnbicnmndaaQFnExactJudgex2
import Derived.Test.YtfhblnbicnmndaaQFnExactJudgex3
import Derived.Test.YtfhblnbicnmndaaQFnExactJudgex5
import Derived.Test.YtfhblnbicnmndaaQFnExactJudgex6
namespace Go.Proofs.Ytfhblnbicnmndaa.QFnExactJudge
open Go.RowKit Go.Proofs.YtfhblnbicnmndaaW.PrintWords Go.Proofs.YtfhblnbicnmndaaW.PrintLast Go.Proofs.YtfhblnbicnmndaaW.PrintMore
attribute [local go_sem] max2_int min2_int max_two min_two max_three min_three max_four min_four   -- for this text's walks alone
set_option linter.unusedVariables false
set_option linter.unusedSimpArgs false

/-! ### impl_Wants: function 39, by hand -/
/-- What the closure over a text asks of a thing. -/
def clo3.f (k : Nat) (key text : ByteArray) (x5 : List S83) : Option Bool := (impl_FindAttr.f k x5 key).bind fun t => some (t.2.2.2.2 && (!t.2.1 && t.2.2.2.1.toList == text.toList))
set_option maxHeartbeats 8000000 in
set_option maxRecDepth 100000 in
theorem clo3.calls (k : Nat) (p0 p1 : Int) (p2 p3 : ByteArray) (pv : Value) (g : Nat) (w : World) (hg : w.heap[g]? = some (.cells #[.int .i64 p0, .int .i64 p1, .string p2, .string p3, pv] 29 (0, 0))) :
    CloS (fun _ _ _ _ _ x5 => clo3.f k p2 p3 x5) 66 #[.pointer (some ⟨g, 0, none⟩)] w := by
  intro x0 x1 x2 x3 x4 A5 c5 x5 q W hB hr hc h
  show Calls Try.prog 66 #[.agg #[.int .i64 x0, .int .i64 x1, .int .i64 x2, .int .i64 x3, .bool x4, .slice A5 x5.length c5], .pointer (some ⟨g, 0, none⟩)] W _
  unfold clo3.f at h
  obtain ⟨⟨t1, t2, t3, t4, t5⟩, ht, h⟩ := Option.bind_eq_some_iff.mp h
  simp only [Option.some.injEq] at h
  subst h
  have BK := Aside0.mk (blk_below hg hB)
  have HR := Aside0.mk hr
  have HC := Aside0.mk hc
  have A1 := Aside0.mk ht
  have HB := Aside0.mk (Below.refl W.heap.size W)
  clear hg hB hr hc ht
  have hu73 := Try.underlying73
  have hu83 := Try.underlying83
  go_enter Try.func66, Try.ntmps66
  go_wp2_with (first
    | ((with_reducible refine gD 2 rfl ?_); refine bE 2 #[.int .i64 x0, .int .i64 x1, .int .i64 x2, .int .i64 x3, .bool x4, .slice A5 x5.length c5] 73 ?_; intro gb1 hg w7 hbox hb; have BK1 := Aside0.mk hbox; have GE1 := Aside0.mk (zg (zL HB.out) hg : W.heap.size ≤ gb1); replace HB := zLB (zL HB.out) hb; replace BK := zBB BK hb; clear hb hbox hg; have hcz1 := zc6 BK1.out; have hfz1 := zf6 BK1.out; have hcz0 := zc5 BK.out)
    | ((with_reducible refine gC 67 rfl ?_); refine gL 11 Try.func67 #[.slice A5 x5.length c5, .string p2] ?_; (with_reducible refine (impl_FindAttr.calls k _ _ x5 p2 t1 t2 t3 t4 t5 _ ?side1 ?side2 A1.out).mono ?_); (case side1 => exact zC (Kd.C_below HR.out HB.out)); (case side2 => exact HC.out); rintro e w8 ⟨rfl, hb⟩; refine ⟨_, rfl, ?_⟩; replace BK := zBB BK hb; replace HB := zLB (zL1 HB.out GE1.out) hb; clear hb)
    | ((with_reducible refine gD 4 rfl ?_); refine bE 4 #[.string (⟨#[]⟩ : ByteArray), .bool false, .int .i64 0, .string (⟨#[]⟩ : ByteArray)] 83 ?_; intro gb2 hg w9 hbox hb; have BK2 := Aside0.mk hbox; have GE2 := Aside0.mk (zg (zL1 HB.out GE1.out) hg : W.heap.size ≤ gb2); have NB := Aside0.mk (zN BK.out hg : g ≠ gb2); have NB2 := Aside0.mk (zM BK.out hg : gb2 ≠ g); replace HB := zLB (zL1 HB.out GE1.out) hb; replace BK := zBB BK hb; clear hb hbox hg; have hcz2 := zc4 BK2.out; have hfz2 := zf4 BK2.out; have hcz3 := zc5 BK.out; have hne := NB.out; have hne2 := NB2.out))
  all_goals go_ret
  all_goals exact ⟨by first | rfl | (simp; done), zL2 HB.out GE1.out GE2.out⟩
/-- What the closure over a number asks of a thing. -/
def clo4.f (k : Nat) (key : ByteArray) (n : Int) (x5 : List S83) : Option Bool := (impl_FindAttr.f k x5 key).bind fun t => some (t.2.2.2.2 && (t.2.1 && decide (t.2.2.1 ≥ n)))
set_option maxHeartbeats 8000000 in
set_option maxRecDepth 100000 in
theorem clo4.calls (k : Nat) (p0 p1 : Int) (p2 p3 : ByteArray) (pv : Value) (g : Nat) (w : World) (hg : w.heap[g]? = some (.cells #[.int .i64 p0, .int .i64 p1, .string p2, .string p3, pv] 29 (0, 0))) :
    CloS (fun _ _ _ _ _ x5 => clo4.f k p2 p1 x5) 68 #[.pointer (some ⟨g, 0, none⟩)] w := by
  intro x0 x1 x2 x3 x4 A5 c5 x5 q W hB hr hc h
  show Calls Try.prog 68 #[.agg #[.int .i64 x0, .int .i64 x1, .int .i64 x2, .int .i64 x3, .bool x4, .slice A5 x5.length c5], .pointer (some ⟨g, 0, none⟩)] W _
  unfold clo4.f at h
  obtain ⟨⟨t1, t2, t3, t4, t5⟩, ht, h⟩ := Option.bind_eq_some_iff.mp h
  simp only [Option.some.injEq] at h
  subst h
  have BK := Aside0.mk (blk_below hg hB)
  have HR := Aside0.mk hr
  have HC := Aside0.mk hc
  have A1 := Aside0.mk ht
  have HB := Aside0.mk (Below.refl W.heap.size W)
  clear hg hB hr hc ht
  have hu73 := Try.underlying73
  have hu83 := Try.underlying83
  go_enter Try.func68, Try.ntmps68
  go_wp2_with (first
    | ((with_reducible refine gD 2 rfl ?_); refine bE 2 #[.int .i64 x0, .int .i64 x1, .int .i64 x2, .int .i64 x3, .bool x4, .slice A5 x5.length c5] 73 ?_; intro gb1 hg w7 hbox hb; have BK1 := Aside0.mk hbox; have GE1 := Aside0.mk (zg (zL HB.out) hg : W.heap.size ≤ gb1); replace HB := zLB (zL HB.out) hb; replace BK := zBB BK hb; clear hb hbox hg; have hcz1 := zc6 BK1.out; have hfz1 := zf6 BK1.out; have hcz0 := zc5 BK.out)
    | ((with_reducible refine gC 67 rfl ?_); refine gL 11 Try.func67 #[.slice A5 x5.length c5, .string p2] ?_; (with_reducible refine (impl_FindAttr.calls k _ _ x5 p2 t1 t2 t3 t4 t5 _ ?side1 ?side2 A1.out).mono ?_); (case side1 => exact zC (Kd.C_below HR.out HB.out)); (case side2 => exact HC.out); rintro e w8 ⟨rfl, hb⟩; refine ⟨_, rfl, ?_⟩; replace BK := zBB BK hb; replace HB := zLB (zL1 HB.out GE1.out) hb; clear hb)
    | ((with_reducible refine gD 4 rfl ?_); refine bE 4 #[.string (⟨#[]⟩ : ByteArray), .bool false, .int .i64 0, .string (⟨#[]⟩ : ByteArray)] 83 ?_; intro gb2 hg w9 hbox hb; have BK2 := Aside0.mk hbox; have GE2 := Aside0.mk (zg (zL1 HB.out GE1.out) hg : W.heap.size ≤ gb2); have NB := Aside0.mk (zN BK.out hg : g ≠ gb2); have NB2 := Aside0.mk (zM BK.out hg : gb2 ≠ g); replace HB := zLB (zL1 HB.out GE1.out) hb; replace BK := zBB BK hb; clear hb hbox hg; have hcz2 := zc4 BK2.out; have hfz2 := zf4 BK2.out; have hcz3 := zc5 BK.out; have hne := NB.out; have hne2 := NB2.out))
  all_goals go_ret
  all_goals exact ⟨by first | rfl | (simp; done), zL2 HB.out GE1.out GE2.out⟩
/-- What the closure over a length asks of a thing. -/
def clo2.f (n x0 x1 x2 x3 : Int) (x4 : Bool) (x5 : List S83) : Option Bool := (impl_LengthOf.f x0 x1 x2 x3 x4 x5).bind fun t => some (decide (t ≥ n))
set_option maxHeartbeats 8000000 in
set_option maxRecDepth 100000 in
theorem clo2.calls (p0 p1 : Int) (p2 p3 : ByteArray) (pv : Value) (g : Nat) (w : World) (hg : w.heap[g]? = some (.cells #[.int .i64 p0, .int .i64 p1, .string p2, .string p3, pv] 29 (0, 0))) :
    CloS (fun x0 x1 x2 x3 x4 x5 => clo2.f p1 x0 x1 x2 x3 x4 x5) 64 #[.pointer (some ⟨g, 0, none⟩)] w := by
  intro x0 x1 x2 x3 x4 A5 c5 x5 q W hB hr hc h
  show Calls Try.prog 64 #[.agg #[.int .i64 x0, .int .i64 x1, .int .i64 x2, .int .i64 x3, .bool x4, .slice A5 x5.length c5], .pointer (some ⟨g, 0, none⟩)] W _
  unfold clo2.f at h
  obtain ⟨t, ht, h⟩ := Option.bind_eq_some_iff.mp h
  simp only [Option.some.injEq] at h
  subst h
  have BK := Aside0.mk (blk_below hg hB)
  have HR := Aside0.mk hr
  have HC := Aside0.mk hc
  have A1 := Aside0.mk ht
  have HB := Aside0.mk (Below.refl W.heap.size W)
  clear hg hB hr hc ht
  have hu73 := Try.underlying73
  go_enter Try.func64, Try.ntmps64
  go_wp2_with (first
    | ((with_reducible refine gD 2 rfl ?_); refine bE 2 #[.int .i64 x0, .int .i64 x1, .int .i64 x2, .int .i64 x3, .bool x4, .slice A5 x5.length c5] 73 ?_; intro gb1 hg w7 hbox hb; have BK1 := Aside0.mk hbox; have GE1 := Aside0.mk (zg (zL HB.out) hg : W.heap.size ≤ gb1); replace HB := zLB (zL HB.out) hb; replace BK := zBB BK hb; clear hb hbox hg))
  replace BK := zBD BK; replace BK1 := zBD BK1; replace HB := zLD HB
  refine start_ (n := 6) (S := fun w' => zt6 w' gb1 (.int .i64 x0) (.int .i64 x1) (.int .i64 x2) (.int .i64 x3) (.bool x4) (.slice A5 x5.length c5) (w'.cell? ⟨g, 1, none⟩ = some (.int .i64 p1))) (ds := []) (fB 6 0) (by kernel_rfl) rfl rfl (zk6 BK1.out (zq51 BK.out)) (fun hHeld => ?_)
  generalize w7.drew = w8 at BK BK1 HB hHeld ⊢
  refine tY (Bw := [0, 1, 0, 4, 15, 31]) 0 4 (fB 6 1) rfl (by kernel_rfl) hHeld ?_
  refine pY 2 6 (fB 6 5) rfl ?_
  refine tY (Bw := [0, 1, 0, 4, 15, 31]) 3 7 (fB 6 13) rfl (by kernel_rfl) hHeld ?_
  refine oN 1 5 (fB 6 15) rfl fun K hK => ?_
  refine gS Try.func65 #[.agg #[.int .i64 x0, .int .i64 x1, .int .i64 x2, .int .i64 x3, .bool x4, .slice A5 x5.length c5]] ?_
  with_reducible refine (impl_LengthOf.calls x0 x1 x2 x3 x4 _ _ x5 t _ ?side1 ?side2 A1.out).mono ?_
  (case side1 => exact zC (Kd.C_below HR.out HB.out))
  (case side2 => exact HC.out)
  rintro e w9 ⟨rfl, hb⟩
  refine ⟨_, rfl, ?_⟩
  replace BK := zBB BK hb; replace BK1 := zBB BK1 hb; replace HB := zLB (zL1 HB.out GE1.out) hb
  clear hb
  refine hK.out _ _ (zk6 BK1.out (zq51 BK.out)) fun hHeld => ?_; clear hK K
  refine nZ 5 ?_
  refine pY 4 8 (fB 6 31) rfl ?_
  refine pY 5 3 (fB 6 63) rfl ?_
  refine done_ (done_of rfl (by kernel_rfl)) ?_
  try go_wp2
  go_ret
  exact ⟨rfl, zL1 HB.out GE1.out⟩
def impl_Wants.f : Nat → Int → Int → ByteArray → ByteArray → List (S29) → List (S73) → Int → Option (Bool)
  | 0, _, _, _, _, _, _, _ => none
  | k + 1, a, b, c, d, q, l, t => if a = 1 then (some true) else (if a = 2 then ((impl_Errors.f k l).bind fun n => some (decide (n > 0))) else (if a = 3 then (impl_Span_87.f (fun x0 x1 x2 x3 x4 x5 => clo2.f b x0 x1 x2 x3 x4 x5) k l) else (if a = 4 then (impl_Span_87.f (fun _ _ _ _ _ x5 => clo3.f k c d x5) k l) else (if a = 5 then (impl_Span_87.f (fun _ _ _ _ _ x5 => clo4.f k c b x5) k l) else
    (if a = 6 then (some (decide (t ≥ (l.length : Int)))) else (if a = 7 then ((impl_Pol_49.f (fun x0 x1 x2 x3 x4 => (impl_Wants.f k x0 x1 x2 x3 x4 l t).bind fun v => some (!v)) k q).bind fun v => some (!v)) else (if a = 8 then (impl_Pol_49.f (fun x0 x1 x2 x3 x4 => impl_Wants.f k x0 x1 x2 x3 x4 l t) k q) else
    (if a = 9 then (if (q.length : Int) = 0 then (some true) else ((impl_Wants.f k ((rd_T29 q 0).f0) ((rd_T29 q 0).f1) ((rd_T29 q 0).f2) ((rd_T29 q 0).f3) ((rd_T29 q 0).f4) l t).bind fun v => some (!v))) else (some false)))))))))
/-- impl.Wants answers as told, with k rounds. -/
@[reducible] def WantsAt (k : Nat) : Prop := ∀ (a0 a1 : Int) (a2 a3 : ByteArray) (A4 : Option Addr) (c4 : Nat) (l4 : List S29) (A1 : Option Addr) (c1 : Nat) (l1 : List S73) (t : Int) (r : Bool) (w : World) (_ : Kd.C k29 w A4 l4.length l4) (_ : l4.length ≤ c4) (_ : Kd.C k73 w A1 l1.length l1) (_ : l1.length ≤ c1) (_ : impl_Wants.f k a0 a1 a2 a3 l4 l1 t = some r),
  Calls Try.prog 39 #[.agg #[.int .i64 a0, .int .i64 a1, .string a2, .string a3, .slice A4 l4.length c4], .slice A1 l1.length c1, .int .i64 t] w fun e w' => e = .returned (.bool r) ∧ Below w.heap.size w w'
section
variable (k : Nat) (ih : WantsAt k) (l : List S73) (t : Int) (A : Option Addr) (c : Nat) (g1 g2 g3 : Nat) (w : World) (h1 : w.heap[g1]? = some (.cells #[.slice A l.length c] 38 (0, 0))) (h2 : w.heap[g2]? = some (.cells #[.int .i64 t] 3 (0, 0))) (hr : Kd.C k73 w A l.length l) (hc : l.length ≤ c)
include ih h1 h2 hr hc
set_option maxHeartbeats 8000000 in
set_option maxRecDepth 100000 in
theorem clo1.calls : CloP (fun x0 x1 x2 x3 x4 => impl_Wants.f k x0 x1 x2 x3 x4 l t) 62 #[.pointer (some ⟨g1, 0, none⟩), .pointer (some ⟨g2, 0, none⟩)] w := by
  intro x0 x1 x2 x3 A4 c4 x4 q W hB hrx hcx h
  show Calls Try.prog 62 #[.agg #[.int .i64 x0, .int .i64 x1, .string x2, .string x3, .slice A4 x4.length c4], .pointer (some ⟨g1, 0, none⟩), .pointer (some ⟨g2, 0, none⟩)] W _
  have BG1 := Aside0.mk (blk_below h1 hB)
  have BG2 := Aside0.mk (blk_below h2 hB)
  have HRL := Aside0.mk (Kd.C_below hr hB)
  have HR := Aside0.mk hrx
  have HC := Aside0.mk hcx
  have HCL := Aside0.mk hc
  have IH := Aside0.mk ih
  have A1 := Aside0.mk h
  have HB := Aside0.mk (Below.refl W.heap.size W)
  clear h1 h2 hr hc hB hrx hcx h ih
  have hu29 := Try.underlying29
  go_enter Try.func62, Try.ntmps62
  go_wp2_with (first
    | ((with_reducible refine gD 3 rfl ?_); refine bE 3 #[.int .i64 x0, .int .i64 x1, .string x2, .string x3, .slice A4 x4.length c4] 29 ?_; intro gb1 hg w7 hbox hb; have BK1 := Aside0.mk hbox; have GE1 := Aside0.mk (zg (zL HB.out) hg : W.heap.size ≤ gb1); replace HB := zLB (zL HB.out) hb; replace BG1 := zBB BG1 hb; replace BG2 := zBB BG2 hb; clear hb hbox hg; have hcz1 := zc5 BK1.out; have hfz1 := zf5 BK1.out; have hx1 : w7.cell? ⟨g1, 0, none⟩ = some (.slice A l.length c) := (blk_cell BG1.out 0).trans rfl; have hx2 : w7.cell? ⟨g2, 0, none⟩ = some (.int .i64 t) := (blk_cell BG2.out 0).trans rfl)
    | ((with_reducible refine gC 39 rfl ?_); refine gL 8 Try.func39 #[.agg #[.int .i64 x0, .int .i64 x1, .string x2, .string x3, .slice A4 x4.length c4], .slice A l.length c, .int .i64 t] ?_; (with_reducible refine (IH.out x0 x1 x2 x3 _ _ x4 _ _ l t q _ (Kd.C_below HR.out HB.out) HC.out (Kd.C_below HRL.out HB.out) HCL.out A1.out).mono ?_); rintro e w8 ⟨rfl, hb⟩; refine ⟨_, rfl, ?_⟩; replace HB := zLB (zL1 HB.out GE1.out) hb; clear hb))
  go_ret
  exact ⟨rfl, zL1 HB.out GE1.out⟩
set_option maxHeartbeats 8000000 in
set_option maxRecDepth 100000 in
theorem clo5.calls (h3 : w.heap[g3]? = some (.cells #[.func (.func 62) #[] #[.pointer (some ⟨g1, 0, none⟩), .pointer (some ⟨g2, 0, none⟩)]] 33 (0, 0))) :
    CloP (fun x0 x1 x2 x3 x4 => (impl_Wants.f k x0 x1 x2 x3 x4 l t).bind fun v => some (!v)) 69 #[.pointer (some ⟨g3, 0, none⟩)] w := by
  intro x0 x1 x2 x3 A4 c4 x4 q W hB hrx hcx h
  show Calls Try.prog 69 #[.agg #[.int .i64 x0, .int .i64 x1, .string x2, .string x3, .slice A4 x4.length c4], .pointer (some ⟨g3, 0, none⟩)] W _
  obtain ⟨v, hv, h⟩ := Option.bind_eq_some_iff.mp h
  simp only [Option.some.injEq] at h
  subst h
  have HX := Aside0.mk (clo1.calls k ih l t A c g1 g2 w h1 h2 hr hc)
  have BG3 := Aside0.mk (blk_below h3 hB)
  have HR := Aside0.mk hrx
  have HC := Aside0.mk hcx
  have A1 := Aside0.mk hv
  have HB0 := Aside0.mk hB
  have HB := Aside0.mk (Below.refl W.heap.size W)
  clear h1 h2 h3 hr hc hB hrx hcx hv ih
  have hu29 := Try.underlying29
  go_enter Try.func69, Try.ntmps69
  go_wp2_with (first
    | ((with_reducible refine gD 2 rfl ?_); refine bE 2 #[.int .i64 x0, .int .i64 x1, .string x2, .string x3, .slice A4 x4.length c4] 29 ?_; intro gb1 hg w7 hbox hb; have BK1 := Aside0.mk hbox; have GE1 := Aside0.mk (zg (zL HB.out) hg : W.heap.size ≤ gb1); replace HB := zLB (zL HB.out) hb; replace BG3 := zBB BG3 hb; clear hb hbox hg; have hcz1 := zc5 BK1.out; have hfz1 := zf5 BK1.out; have hx3 : w7.cell? ⟨g3, 0, none⟩ = some (.func (.func 62) #[] #[.pointer (some ⟨g1, 0, none⟩), .pointer (some ⟨g2, 0, none⟩)]) := (blk_cell BG3.out 0).trans rfl)
    | ((with_reducible refine gate_calleeC (t := 4) rfl ?_); refine goesC_ (t := 4) (f := 62) (cap := #[.pointer (some ⟨g1, 0, none⟩), .pointer (some ⟨g2, 0, none⟩)]) (by rfl) (some 6) rfl rfl Try.func62 (by kernel_rfl) rfl #[.agg #[.int .i64 x0, .int .i64 x1, .string x2, .string x3, .slice A4 x4.length c4]] rfl zE ?_; (with_reducible refine (HX.out x0 x1 x2 x3 _ _ x4 v _ (below_step HB0.out HB.out) (Kd.C_below HR.out HB.out) HC.out A1.out).mono ?_); rintro e w8 ⟨rfl, hb⟩; refine ⟨_, rfl, ?_⟩; replace HB := zLB (zL1 HB.out GE1.out) hb; clear hb))
  go_ret
  exact ⟨rfl, zL1 HB.out GE1.out⟩
end
set_option maxHeartbeats 8000000 in
set_option maxRecDepth 100000 in
theorem wants_1 (k : Nat) (ih : WantsAt k) (a b : Int) (c d : ByteArray) (Aq : Option Addr) (cq : Nat) (q : List S29) (A : Option Addr) (cl : Nat) (l : List S73) (t : Int) (r : Bool) (w : World) (hrq : Kd.C k29 w Aq q.length q) (hcq : q.length ≤ cq) (hrl : Kd.C k73 w A l.length l) (hcl : l.length ≤ cl) (ha : a = 1) (h : r = true) :
    Calls Try.prog 39 #[.agg #[.int .i64 a, .int .i64 b, .string c, .string d, .slice Aq q.length cq], .slice A l.length cl, .int .i64 t] w fun e w' => e = .returned (.bool r) ∧ Below w.heap.size w w' := by
  have IH := Aside0.mk ih
  have HRQ := Aside0.mk hrq
  have HCQ := Aside0.mk hcq
  have HRL := Aside0.mk hrl
  have HCL := Aside0.mk hcl
  have HB := Aside0.mk (Below.refl w.heap.size w)
  clear ih hrq hcq hrl hcl
  have hu29 := Try.underlying29
  have hmf : ∀ (fn : Fn) (first cap : Array Value) (w : World), (Instr.makeFunc fn first cap).run Try.prog w = .ok (.func fn first cap) w := fun _ _ _ _ => rfl
  subst ha
  subst h
  go_enter Try.func39, Try.ntmps39
  go_wp2_with (first
    | ((with_reducible refine gD 3 rfl ?_); refine bE 3 #[.int .i64 1, .int .i64 b, .string c, .string d, .slice Aq q.length cq] 29 ?_; intro gp hg w1 hbox hb; have BP := Aside0.mk hbox; have GP := Aside0.mk (zg (zL HB.out) hg : w.heap.size ≤ gp); replace HB := zLB (zL HB.out) hb; clear hb hbox hg)
    | ((with_reducible refine gD 4 rfl ?_); refine bE 4 #[.slice A l.length cl] 38 ?_; intro gl hg w2 hbox hb; have BL := Aside0.mk hbox; have GL := Aside0.mk (zg (zL1 HB.out GP.out) hg : w.heap.size ≤ gl); have NPL := Aside0.mk (zN BP.out hg : gp ≠ gl); replace HB := zLB (zL1 HB.out GP.out) hb; replace BP := zBB BP hb; clear hb hbox hg)
    | ((with_reducible refine gD 5 rfl ?_); refine bE 5 #[.int .i64 t] 3 ?_; intro gt hg w3 hbox hb; have BT := Aside0.mk hbox; have GT := Aside0.mk (zg (zL2 HB.out GP.out GL.out) hg : w.heap.size ≤ gt); replace HB := zLB (zL2 HB.out GP.out GL.out) hb; replace BP := zBB BP hb; replace BL := zBB BL hb; clear hb hbox hg)
    | ((with_reducible refine gD 7 rfl ?_); refine bE 7 #[.nilFunc] 33 ?_; intro gw hg w4 hbox hb; have BW := Aside0.mk hbox; have GW := Aside0.mk (zg (zL3 HB.out GP.out GL.out GT.out) hg : w.heap.size ≤ gw); have NP := Aside0.mk (zN BP.out hg : gp ≠ gw); have NL := Aside0.mk (zN BL.out hg : gl ≠ gw); have NT := Aside0.mk (zN BT.out hg : gt ≠ gw); replace HB := zLB (zL3 HB.out GP.out GL.out GT.out) hb; replace BP := zBB BP hb; replace BL := zBB BL hb; replace BT := zBB BT hb; clear hb hbox hg; have hcp := zc5 BP.out; have hcl_ : w4.cell? ⟨gl, 0, none⟩ = some (.slice A l.length cl) := (blk_cell BL.out 0).trans rfl; have hct_ : w4.cell? ⟨gt, 0, none⟩ = some (.int .i64 t) := (blk_cell BT.out 0).trans rfl; have hcw_ : w4.cell? ⟨gw, 0, none⟩ = some .nilFunc := (blk_cell BW.out 0).trans rfl; have hfw_ := blk_frozen BW.out 0; have hst : (store ⟨gw, 0, none⟩ (.func (.func 62) #[] #[.pointer (some ⟨gl, 0, none⟩), .pointer (some ⟨gt, 0, none⟩)])).run Try.prog w4 = .ok () (w4.setCell ⟨gw, 0, none⟩ (.func (.func 62) #[] #[.pointer (some ⟨gl, 0, none⟩), .pointer (some ⟨gt, 0, none⟩)])) := (by rw [run_store _ _ _ _ _ rfl, hcw_]; simp [hfw_]); have hn1 := NP.out; have hn2 := NL.out; have hn3 := NT.out))
  go_ret
  exact ⟨rfl, zL4 HB.out GP.out GL.out GT.out GW.out⟩

set_option maxHeartbeats 8000000 in
set_option maxRecDepth 100000 in
theorem wants_2 (k : Nat) (ih : WantsAt k) (a b : Int) (c d : ByteArray) (Aq : Option Addr) (cq : Nat) (q : List S29) (A : Option Addr) (cl : Nat) (l : List S73) (t : Int) (r : Bool) (w : World) (hrq : Kd.C k29 w Aq q.length q) (hcq : q.length ≤ cq) (hrl : Kd.C k73 w A l.length l) (hcl : l.length ≤ cl) (ha : a = 2) (h : ((impl_Errors.f k l).bind fun n => some (decide (n > 0))) = some r) :
    Calls Try.prog 39 #[.agg #[.int .i64 a, .int .i64 b, .string c, .string d, .slice Aq q.length cq], .slice A l.length cl, .int .i64 t] w fun e w' => e = .returned (.bool r) ∧ Below w.heap.size w w' := by
  have IH := Aside0.mk ih
  have HRQ := Aside0.mk hrq
  have HCQ := Aside0.mk hcq
  have HRL := Aside0.mk hrl
  have HCL := Aside0.mk hcl
  have HB := Aside0.mk (Below.refl w.heap.size w)
  clear ih hrq hcq hrl hcl
  have hu29 := Try.underlying29
  have hmf : ∀ (fn : Fn) (first cap : Array Value) (w : World), (Instr.makeFunc fn first cap).run Try.prog w = .ok (.func fn first cap) w := fun _ _ _ _ => rfl
  subst ha
  obtain ⟨v, hv, h⟩ := Option.bind_eq_some_iff.mp h
  obtain rfl := Option.some.inj h
  have H := Aside0.mk hv
  clear hv h
  go_enter Try.func39, Try.ntmps39
  go_wp2_with (first
    | ((with_reducible refine gD 3 rfl ?_); refine bE 3 #[.int .i64 2, .int .i64 b, .string c, .string d, .slice Aq q.length cq] 29 ?_; intro gp hg w1 hbox hb; have BP := Aside0.mk hbox; have GP := Aside0.mk (zg (zL HB.out) hg : w.heap.size ≤ gp); replace HB := zLB (zL HB.out) hb; clear hb hbox hg)
    | ((with_reducible refine gD 4 rfl ?_); refine bE 4 #[.slice A l.length cl] 38 ?_; intro gl hg w2 hbox hb; have BL := Aside0.mk hbox; have GL := Aside0.mk (zg (zL1 HB.out GP.out) hg : w.heap.size ≤ gl); have NPL := Aside0.mk (zN BP.out hg : gp ≠ gl); replace HB := zLB (zL1 HB.out GP.out) hb; replace BP := zBB BP hb; clear hb hbox hg)
    | ((with_reducible refine gD 5 rfl ?_); refine bE 5 #[.int .i64 t] 3 ?_; intro gt hg w3 hbox hb; have BT := Aside0.mk hbox; have GT := Aside0.mk (zg (zL2 HB.out GP.out GL.out) hg : w.heap.size ≤ gt); replace HB := zLB (zL2 HB.out GP.out GL.out) hb; replace BP := zBB BP hb; replace BL := zBB BL hb; clear hb hbox hg)
    | ((with_reducible refine gD 7 rfl ?_); refine bE 7 #[.nilFunc] 33 ?_; intro gw hg w4 hbox hb; have BW := Aside0.mk hbox; have GW := Aside0.mk (zg (zL3 HB.out GP.out GL.out GT.out) hg : w.heap.size ≤ gw); have NP := Aside0.mk (zN BP.out hg : gp ≠ gw); have NL := Aside0.mk (zN BL.out hg : gl ≠ gw); have NT := Aside0.mk (zN BT.out hg : gt ≠ gw); replace HB := zLB (zL3 HB.out GP.out GL.out GT.out) hb; replace BP := zBB BP hb; replace BL := zBB BL hb; replace BT := zBB BT hb; clear hb hbox hg; have hcp := zc5 BP.out; have hcl_ : w4.cell? ⟨gl, 0, none⟩ = some (.slice A l.length cl) := (blk_cell BL.out 0).trans rfl; have hct_ : w4.cell? ⟨gt, 0, none⟩ = some (.int .i64 t) := (blk_cell BT.out 0).trans rfl; have hcw_ : w4.cell? ⟨gw, 0, none⟩ = some .nilFunc := (blk_cell BW.out 0).trans rfl; have hfw_ := blk_frozen BW.out 0; have hst : (store ⟨gw, 0, none⟩ (.func (.func 62) #[] #[.pointer (some ⟨gl, 0, none⟩), .pointer (some ⟨gt, 0, none⟩)])).run Try.prog w4 = .ok () (w4.setCell ⟨gw, 0, none⟩ (.func (.func 62) #[] #[.pointer (some ⟨gl, 0, none⟩), .pointer (some ⟨gt, 0, none⟩)])) := (by rw [run_store _ _ _ _ _ rfl, hcw_]; simp [hfw_]); have hn1 := NP.out; have hn2 := NL.out; have hn3 := NT.out)
    | ((with_reducible refine gC 25 rfl ?_); refine gL 16 Try.func25 #[.slice A l.length cl] ?_; (with_reducible refine (impl_Errors.calls k A cl l v _ (Kd.C_below HRL.out (below_set HB.out GW.out)) HCL.out H.out).mono ?_); rintro e w5 ⟨rfl, hb⟩; refine ⟨_, rfl, ?_⟩; replace HB := zLB (below_set HB.out GW.out) hb; clear hb))
  go_ret
  exact ⟨rfl, zL4 HB.out GP.out GL.out GT.out GW.out⟩

set_option maxHeartbeats 8000000 in
set_option maxRecDepth 100000 in
theorem wants_3 (k : Nat) (ih : WantsAt k) (a b : Int) (c d : ByteArray) (Aq : Option Addr) (cq : Nat) (q : List S29) (A : Option Addr) (cl : Nat) (l : List S73) (t : Int) (r : Bool) (w : World) (hrq : Kd.C k29 w Aq q.length q) (hcq : q.length ≤ cq) (hrl : Kd.C k73 w A l.length l) (hcl : l.length ≤ cl) (ha : a = 3) (h : impl_Span_87.f (fun x0 x1 x2 x3 x4 x5 => clo2.f b x0 x1 x2 x3 x4 x5) k l = some r) :
    Calls Try.prog 39 #[.agg #[.int .i64 a, .int .i64 b, .string c, .string d, .slice Aq q.length cq], .slice A l.length cl, .int .i64 t] w fun e w' => e = .returned (.bool r) ∧ Below w.heap.size w w' := by
  have IH := Aside0.mk ih
  have HRQ := Aside0.mk hrq
  have HCQ := Aside0.mk hcq
  have HRL := Aside0.mk hrl
  have HCL := Aside0.mk hcl
  have HB := Aside0.mk (Below.refl w.heap.size w)
  clear ih hrq hcq hrl hcl
  have hu29 := Try.underlying29
  have hmf : ∀ (fn : Fn) (first cap : Array Value) (w : World), (Instr.makeFunc fn first cap).run Try.prog w = .ok (.func fn first cap) w := fun _ _ _ _ => rfl
  subst ha
  have H := Aside0.mk h
  clear h
  go_enter Try.func39, Try.ntmps39
  go_wp2_with (first
    | ((with_reducible refine gD 3 rfl ?_); refine bE 3 #[.int .i64 3, .int .i64 b, .string c, .string d, .slice Aq q.length cq] 29 ?_; intro gp hg w1 hbox hb; have BP := Aside0.mk hbox; have GP := Aside0.mk (zg (zL HB.out) hg : w.heap.size ≤ gp); replace HB := zLB (zL HB.out) hb; clear hb hbox hg)
    | ((with_reducible refine gD 4 rfl ?_); refine bE 4 #[.slice A l.length cl] 38 ?_; intro gl hg w2 hbox hb; have BL := Aside0.mk hbox; have GL := Aside0.mk (zg (zL1 HB.out GP.out) hg : w.heap.size ≤ gl); have NPL := Aside0.mk (zN BP.out hg : gp ≠ gl); replace HB := zLB (zL1 HB.out GP.out) hb; replace BP := zBB BP hb; clear hb hbox hg)
    | ((with_reducible refine gD 5 rfl ?_); refine bE 5 #[.int .i64 t] 3 ?_; intro gt hg w3 hbox hb; have BT := Aside0.mk hbox; have GT := Aside0.mk (zg (zL2 HB.out GP.out GL.out) hg : w.heap.size ≤ gt); replace HB := zLB (zL2 HB.out GP.out GL.out) hb; replace BP := zBB BP hb; replace BL := zBB BL hb; clear hb hbox hg)
    | ((with_reducible refine gD 7 rfl ?_); refine bE 7 #[.nilFunc] 33 ?_; intro gw hg w4 hbox hb; have BW := Aside0.mk hbox; have GW := Aside0.mk (zg (zL3 HB.out GP.out GL.out GT.out) hg : w.heap.size ≤ gw); have NP := Aside0.mk (zN BP.out hg : gp ≠ gw); have NL := Aside0.mk (zN BL.out hg : gl ≠ gw); have NT := Aside0.mk (zN BT.out hg : gt ≠ gw); replace HB := zLB (zL3 HB.out GP.out GL.out GT.out) hb; replace BP := zBB BP hb; replace BL := zBB BL hb; replace BT := zBB BT hb; clear hb hbox hg; have hcp := zc5 BP.out; have hcl_ : w4.cell? ⟨gl, 0, none⟩ = some (.slice A l.length cl) := (blk_cell BL.out 0).trans rfl; have hct_ : w4.cell? ⟨gt, 0, none⟩ = some (.int .i64 t) := (blk_cell BT.out 0).trans rfl; have hcw_ : w4.cell? ⟨gw, 0, none⟩ = some .nilFunc := (blk_cell BW.out 0).trans rfl; have hfw_ := blk_frozen BW.out 0; have hst : (store ⟨gw, 0, none⟩ (.func (.func 62) #[] #[.pointer (some ⟨gl, 0, none⟩), .pointer (some ⟨gt, 0, none⟩)])).run Try.prog w4 = .ok () (w4.setCell ⟨gw, 0, none⟩ (.func (.func 62) #[] #[.pointer (some ⟨gl, 0, none⟩), .pointer (some ⟨gt, 0, none⟩)])) := (by rw [run_store _ _ _ _ _ rfl, hcw_]; simp [hfw_]); have hn1 := NP.out; have hn2 := NL.out; have hn3 := NT.out)
    | ((with_reducible refine gC 63 rfl ?_); refine gL 22 Try.func63 #[.slice A l.length cl, .func (.func 64) #[] #[.pointer (some ⟨gp, 0, none⟩)]] ?_; (with_reducible refine (impl_someSpan.calls Try.func64 (by kernel_rfl) rfl k A cl l r _ (clo2.calls 3 b c d _ gp _ (blk_far BP.out NP.out _)) (Kd.C_below HRL.out (below_set HB.out GW.out)) HCL.out H.out).mono ?_); rintro e w5 ⟨rfl, hb⟩; refine ⟨_, rfl, ?_⟩; replace HB := zLB (below_set HB.out GW.out) hb; clear hb))
  go_ret
  exact ⟨rfl, zL4 HB.out GP.out GL.out GT.out GW.out⟩

set_option maxHeartbeats 8000000 in
set_option maxRecDepth 100000 in
theorem wants_4 (k : Nat) (ih : WantsAt k) (a b : Int) (c d : ByteArray) (Aq : Option Addr) (cq : Nat) (q : List S29) (A : Option Addr) (cl : Nat) (l : List S73) (t : Int) (r : Bool) (w : World) (hrq : Kd.C k29 w Aq q.length q) (hcq : q.length ≤ cq) (hrl : Kd.C k73 w A l.length l) (hcl : l.length ≤ cl) (ha : a = 4) (h : impl_Span_87.f (fun _ _ _ _ _ x5 => clo3.f k c d x5) k l = some r) :
    Calls Try.prog 39 #[.agg #[.int .i64 a, .int .i64 b, .string c, .string d, .slice Aq q.length cq], .slice A l.length cl, .int .i64 t] w fun e w' => e = .returned (.bool r) ∧ Below w.heap.size w w' := by
  have IH := Aside0.mk ih
  have HRQ := Aside0.mk hrq
  have HCQ := Aside0.mk hcq
  have HRL := Aside0.mk hrl
  have HCL := Aside0.mk hcl
  have HB := Aside0.mk (Below.refl w.heap.size w)
  clear ih hrq hcq hrl hcl
  have hu29 := Try.underlying29
  have hmf : ∀ (fn : Fn) (first cap : Array Value) (w : World), (Instr.makeFunc fn first cap).run Try.prog w = .ok (.func fn first cap) w := fun _ _ _ _ => rfl
  subst ha
  have H := Aside0.mk h
  clear h
  go_enter Try.func39, Try.ntmps39
  go_wp2_with (first
    | ((with_reducible refine gD 3 rfl ?_); refine bE 3 #[.int .i64 4, .int .i64 b, .string c, .string d, .slice Aq q.length cq] 29 ?_; intro gp hg w1 hbox hb; have BP := Aside0.mk hbox; have GP := Aside0.mk (zg (zL HB.out) hg : w.heap.size ≤ gp); replace HB := zLB (zL HB.out) hb; clear hb hbox hg)
    | ((with_reducible refine gD 4 rfl ?_); refine bE 4 #[.slice A l.length cl] 38 ?_; intro gl hg w2 hbox hb; have BL := Aside0.mk hbox; have GL := Aside0.mk (zg (zL1 HB.out GP.out) hg : w.heap.size ≤ gl); have NPL := Aside0.mk (zN BP.out hg : gp ≠ gl); replace HB := zLB (zL1 HB.out GP.out) hb; replace BP := zBB BP hb; clear hb hbox hg)
    | ((with_reducible refine gD 5 rfl ?_); refine bE 5 #[.int .i64 t] 3 ?_; intro gt hg w3 hbox hb; have BT := Aside0.mk hbox; have GT := Aside0.mk (zg (zL2 HB.out GP.out GL.out) hg : w.heap.size ≤ gt); replace HB := zLB (zL2 HB.out GP.out GL.out) hb; replace BP := zBB BP hb; replace BL := zBB BL hb; clear hb hbox hg)
    | ((with_reducible refine gD 7 rfl ?_); refine bE 7 #[.nilFunc] 33 ?_; intro gw hg w4 hbox hb; have BW := Aside0.mk hbox; have GW := Aside0.mk (zg (zL3 HB.out GP.out GL.out GT.out) hg : w.heap.size ≤ gw); have NP := Aside0.mk (zN BP.out hg : gp ≠ gw); have NL := Aside0.mk (zN BL.out hg : gl ≠ gw); have NT := Aside0.mk (zN BT.out hg : gt ≠ gw); replace HB := zLB (zL3 HB.out GP.out GL.out GT.out) hb; replace BP := zBB BP hb; replace BL := zBB BL hb; replace BT := zBB BT hb; clear hb hbox hg; have hcp := zc5 BP.out; have hcl_ : w4.cell? ⟨gl, 0, none⟩ = some (.slice A l.length cl) := (blk_cell BL.out 0).trans rfl; have hct_ : w4.cell? ⟨gt, 0, none⟩ = some (.int .i64 t) := (blk_cell BT.out 0).trans rfl; have hcw_ : w4.cell? ⟨gw, 0, none⟩ = some .nilFunc := (blk_cell BW.out 0).trans rfl; have hfw_ := blk_frozen BW.out 0; have hst : (store ⟨gw, 0, none⟩ (.func (.func 62) #[] #[.pointer (some ⟨gl, 0, none⟩), .pointer (some ⟨gt, 0, none⟩)])).run Try.prog w4 = .ok () (w4.setCell ⟨gw, 0, none⟩ (.func (.func 62) #[] #[.pointer (some ⟨gl, 0, none⟩), .pointer (some ⟨gt, 0, none⟩)])) := (by rw [run_store _ _ _ _ _ rfl, hcw_]; simp [hfw_]); have hn1 := NP.out; have hn2 := NL.out; have hn3 := NT.out)
    | ((with_reducible refine gC 63 rfl ?_); refine gL 27 Try.func63 #[.slice A l.length cl, .func (.func 66) #[] #[.pointer (some ⟨gp, 0, none⟩)]] ?_; (with_reducible refine (impl_someSpan.calls Try.func66 (by kernel_rfl) rfl k A cl l r _ (clo3.calls k 4 b c d _ gp _ (blk_far BP.out NP.out _)) (Kd.C_below HRL.out (below_set HB.out GW.out)) HCL.out H.out).mono ?_); rintro e w5 ⟨rfl, hb⟩; refine ⟨_, rfl, ?_⟩; replace HB := zLB (below_set HB.out GW.out) hb; clear hb))
  go_ret
  exact ⟨rfl, zL4 HB.out GP.out GL.out GT.out GW.out⟩

set_option maxHeartbeats 8000000 in
set_option maxRecDepth 100000 in
theorem wants_5 (k : Nat) (ih : WantsAt k) (a b : Int) (c d : ByteArray) (Aq : Option Addr) (cq : Nat) (q : List S29) (A : Option Addr) (cl : Nat) (l : List S73) (t : Int) (r : Bool) (w : World) (hrq : Kd.C k29 w Aq q.length q) (hcq : q.length ≤ cq) (hrl : Kd.C k73 w A l.length l) (hcl : l.length ≤ cl) (ha : a = 5) (h : impl_Span_87.f (fun _ _ _ _ _ x5 => clo4.f k c b x5) k l = some r) :
    Calls Try.prog 39 #[.agg #[.int .i64 a, .int .i64 b, .string c, .string d, .slice Aq q.length cq], .slice A l.length cl, .int .i64 t] w fun e w' => e = .returned (.bool r) ∧ Below w.heap.size w w' := by
  have IH := Aside0.mk ih
  have HRQ := Aside0.mk hrq
  have HCQ := Aside0.mk hcq
  have HRL := Aside0.mk hrl
  have HCL := Aside0.mk hcl
  have HB := Aside0.mk (Below.refl w.heap.size w)
  clear ih hrq hcq hrl hcl
  have hu29 := Try.underlying29
  have hmf : ∀ (fn : Fn) (first cap : Array Value) (w : World), (Instr.makeFunc fn first cap).run Try.prog w = .ok (.func fn first cap) w := fun _ _ _ _ => rfl
  subst ha
  have H := Aside0.mk h
  clear h
  go_enter Try.func39, Try.ntmps39
  go_wp2_with (first
    | ((with_reducible refine gD 3 rfl ?_); refine bE 3 #[.int .i64 5, .int .i64 b, .string c, .string d, .slice Aq q.length cq] 29 ?_; intro gp hg w1 hbox hb; have BP := Aside0.mk hbox; have GP := Aside0.mk (zg (zL HB.out) hg : w.heap.size ≤ gp); replace HB := zLB (zL HB.out) hb; clear hb hbox hg)
    | ((with_reducible refine gD 4 rfl ?_); refine bE 4 #[.slice A l.length cl] 38 ?_; intro gl hg w2 hbox hb; have BL := Aside0.mk hbox; have GL := Aside0.mk (zg (zL1 HB.out GP.out) hg : w.heap.size ≤ gl); have NPL := Aside0.mk (zN BP.out hg : gp ≠ gl); replace HB := zLB (zL1 HB.out GP.out) hb; replace BP := zBB BP hb; clear hb hbox hg)
    | ((with_reducible refine gD 5 rfl ?_); refine bE 5 #[.int .i64 t] 3 ?_; intro gt hg w3 hbox hb; have BT := Aside0.mk hbox; have GT := Aside0.mk (zg (zL2 HB.out GP.out GL.out) hg : w.heap.size ≤ gt); replace HB := zLB (zL2 HB.out GP.out GL.out) hb; replace BP := zBB BP hb; replace BL := zBB BL hb; clear hb hbox hg)
    | ((with_reducible refine gD 7 rfl ?_); refine bE 7 #[.nilFunc] 33 ?_; intro gw hg w4 hbox hb; have BW := Aside0.mk hbox; have GW := Aside0.mk (zg (zL3 HB.out GP.out GL.out GT.out) hg : w.heap.size ≤ gw); have NP := Aside0.mk (zN BP.out hg : gp ≠ gw); have NL := Aside0.mk (zN BL.out hg : gl ≠ gw); have NT := Aside0.mk (zN BT.out hg : gt ≠ gw); replace HB := zLB (zL3 HB.out GP.out GL.out GT.out) hb; replace BP := zBB BP hb; replace BL := zBB BL hb; replace BT := zBB BT hb; clear hb hbox hg; have hcp := zc5 BP.out; have hcl_ : w4.cell? ⟨gl, 0, none⟩ = some (.slice A l.length cl) := (blk_cell BL.out 0).trans rfl; have hct_ : w4.cell? ⟨gt, 0, none⟩ = some (.int .i64 t) := (blk_cell BT.out 0).trans rfl; have hcw_ : w4.cell? ⟨gw, 0, none⟩ = some .nilFunc := (blk_cell BW.out 0).trans rfl; have hfw_ := blk_frozen BW.out 0; have hst : (store ⟨gw, 0, none⟩ (.func (.func 62) #[] #[.pointer (some ⟨gl, 0, none⟩), .pointer (some ⟨gt, 0, none⟩)])).run Try.prog w4 = .ok () (w4.setCell ⟨gw, 0, none⟩ (.func (.func 62) #[] #[.pointer (some ⟨gl, 0, none⟩), .pointer (some ⟨gt, 0, none⟩)])) := (by rw [run_store _ _ _ _ _ rfl, hcw_]; simp [hfw_]); have hn1 := NP.out; have hn2 := NL.out; have hn3 := NT.out)
    | ((with_reducible refine gC 63 rfl ?_); refine gL 32 Try.func63 #[.slice A l.length cl, .func (.func 68) #[] #[.pointer (some ⟨gp, 0, none⟩)]] ?_; (with_reducible refine (impl_someSpan.calls Try.func68 (by kernel_rfl) rfl k A cl l r _ (clo4.calls k 5 b c d _ gp _ (blk_far BP.out NP.out _)) (Kd.C_below HRL.out (below_set HB.out GW.out)) HCL.out H.out).mono ?_); rintro e w5 ⟨rfl, hb⟩; refine ⟨_, rfl, ?_⟩; replace HB := zLB (below_set HB.out GW.out) hb; clear hb))
  go_ret
  exact ⟨rfl, zL4 HB.out GP.out GL.out GT.out GW.out⟩

set_option maxHeartbeats 8000000 in
set_option maxRecDepth 100000 in
theorem wants_6 (k : Nat) (ih : WantsAt k) (a b : Int) (c d : ByteArray) (Aq : Option Addr) (cq : Nat) (q : List S29) (A : Option Addr) (cl : Nat) (l : List S73) (t : Int) (r : Bool) (w : World) (hrq : Kd.C k29 w Aq q.length q) (hcq : q.length ≤ cq) (hrl : Kd.C k73 w A l.length l) (hcl : l.length ≤ cl) (ha : a = 6) (h : decide (t ≥ (l.length : Int)) = r) :
    Calls Try.prog 39 #[.agg #[.int .i64 a, .int .i64 b, .string c, .string d, .slice Aq q.length cq], .slice A l.length cl, .int .i64 t] w fun e w' => e = .returned (.bool r) ∧ Below w.heap.size w w' := by
  have IH := Aside0.mk ih
  have HRQ := Aside0.mk hrq
  have HCQ := Aside0.mk hcq
  have HRL := Aside0.mk hrl
  have HCL := Aside0.mk hcl
  have HB := Aside0.mk (Below.refl w.heap.size w)
  clear ih hrq hcq hrl hcl
  have hu29 := Try.underlying29
  have hmf : ∀ (fn : Fn) (first cap : Array Value) (w : World), (Instr.makeFunc fn first cap).run Try.prog w = .ok (.func fn first cap) w := fun _ _ _ _ => rfl
  subst ha
  subst h
  go_enter Try.func39, Try.ntmps39
  go_wp2_with (first
    | ((with_reducible refine gD 3 rfl ?_); refine bE 3 #[.int .i64 6, .int .i64 b, .string c, .string d, .slice Aq q.length cq] 29 ?_; intro gp hg w1 hbox hb; have BP := Aside0.mk hbox; have GP := Aside0.mk (zg (zL HB.out) hg : w.heap.size ≤ gp); replace HB := zLB (zL HB.out) hb; clear hb hbox hg)
    | ((with_reducible refine gD 4 rfl ?_); refine bE 4 #[.slice A l.length cl] 38 ?_; intro gl hg w2 hbox hb; have BL := Aside0.mk hbox; have GL := Aside0.mk (zg (zL1 HB.out GP.out) hg : w.heap.size ≤ gl); have NPL := Aside0.mk (zN BP.out hg : gp ≠ gl); replace HB := zLB (zL1 HB.out GP.out) hb; replace BP := zBB BP hb; clear hb hbox hg)
    | ((with_reducible refine gD 5 rfl ?_); refine bE 5 #[.int .i64 t] 3 ?_; intro gt hg w3 hbox hb; have BT := Aside0.mk hbox; have GT := Aside0.mk (zg (zL2 HB.out GP.out GL.out) hg : w.heap.size ≤ gt); replace HB := zLB (zL2 HB.out GP.out GL.out) hb; replace BP := zBB BP hb; replace BL := zBB BL hb; clear hb hbox hg)
    | ((with_reducible refine gD 7 rfl ?_); refine bE 7 #[.nilFunc] 33 ?_; intro gw hg w4 hbox hb; have BW := Aside0.mk hbox; have GW := Aside0.mk (zg (zL3 HB.out GP.out GL.out GT.out) hg : w.heap.size ≤ gw); have NP := Aside0.mk (zN BP.out hg : gp ≠ gw); have NL := Aside0.mk (zN BL.out hg : gl ≠ gw); have NT := Aside0.mk (zN BT.out hg : gt ≠ gw); replace HB := zLB (zL3 HB.out GP.out GL.out GT.out) hb; replace BP := zBB BP hb; replace BL := zBB BL hb; replace BT := zBB BT hb; clear hb hbox hg; have hcp := zc5 BP.out; have hcl_ : w4.cell? ⟨gl, 0, none⟩ = some (.slice A l.length cl) := (blk_cell BL.out 0).trans rfl; have hct_ : w4.cell? ⟨gt, 0, none⟩ = some (.int .i64 t) := (blk_cell BT.out 0).trans rfl; have hcw_ : w4.cell? ⟨gw, 0, none⟩ = some .nilFunc := (blk_cell BW.out 0).trans rfl; have hfw_ := blk_frozen BW.out 0; have hst : (store ⟨gw, 0, none⟩ (.func (.func 62) #[] #[.pointer (some ⟨gl, 0, none⟩), .pointer (some ⟨gt, 0, none⟩)])).run Try.prog w4 = .ok () (w4.setCell ⟨gw, 0, none⟩ (.func (.func 62) #[] #[.pointer (some ⟨gl, 0, none⟩), .pointer (some ⟨gt, 0, none⟩)])) := (by rw [run_store _ _ _ _ _ rfl, hcw_]; simp [hfw_]); have hn1 := NP.out; have hn2 := NL.out; have hn3 := NT.out))
  go_ret
  exact ⟨rfl, zL4 HB.out GP.out GL.out GT.out GW.out⟩

set_option maxHeartbeats 8000000 in
set_option maxRecDepth 100000 in
theorem wants_7 (k : Nat) (ih : WantsAt k) (a b : Int) (c d : ByteArray) (Aq : Option Addr) (cq : Nat) (q : List S29) (A : Option Addr) (cl : Nat) (l : List S73) (t : Int) (r : Bool) (w : World) (hrq : Kd.C k29 w Aq q.length q) (hcq : q.length ≤ cq) (hrl : Kd.C k73 w A l.length l) (hcl : l.length ≤ cl) (ha : a = 7) (h : ((impl_Pol_49.f (fun x0 x1 x2 x3 x4 => (impl_Wants.f k x0 x1 x2 x3 x4 l t).bind fun v => some (!v)) k q).bind fun v => some (!v)) = some r) :
    Calls Try.prog 39 #[.agg #[.int .i64 a, .int .i64 b, .string c, .string d, .slice Aq q.length cq], .slice A l.length cl, .int .i64 t] w fun e w' => e = .returned (.bool r) ∧ Below w.heap.size w w' := by
  have IH := Aside0.mk ih
  have HRQ := Aside0.mk hrq
  have HCQ := Aside0.mk hcq
  have HRL := Aside0.mk hrl
  have HCL := Aside0.mk hcl
  have HB := Aside0.mk (Below.refl w.heap.size w)
  clear ih hrq hcq hrl hcl
  have hu29 := Try.underlying29
  have hmf : ∀ (fn : Fn) (first cap : Array Value) (w : World), (Instr.makeFunc fn first cap).run Try.prog w = .ok (.func fn first cap) w := fun _ _ _ _ => rfl
  subst ha
  obtain ⟨v, hv, h⟩ := Option.bind_eq_some_iff.mp h
  obtain rfl := Option.some.inj h
  have H := Aside0.mk hv
  clear hv h
  go_enter Try.func39, Try.ntmps39
  go_wp2_with (first
    | ((with_reducible refine gD 3 rfl ?_); refine bE 3 #[.int .i64 7, .int .i64 b, .string c, .string d, .slice Aq q.length cq] 29 ?_; intro gp hg w1 hbox hb; have BP := Aside0.mk hbox; have GP := Aside0.mk (zg (zL HB.out) hg : w.heap.size ≤ gp); replace HB := zLB (zL HB.out) hb; clear hb hbox hg)
    | ((with_reducible refine gD 4 rfl ?_); refine bE 4 #[.slice A l.length cl] 38 ?_; intro gl hg w2 hbox hb; have BL := Aside0.mk hbox; have GL := Aside0.mk (zg (zL1 HB.out GP.out) hg : w.heap.size ≤ gl); have NPL := Aside0.mk (zN BP.out hg : gp ≠ gl); replace HB := zLB (zL1 HB.out GP.out) hb; replace BP := zBB BP hb; clear hb hbox hg)
    | ((with_reducible refine gD 5 rfl ?_); refine bE 5 #[.int .i64 t] 3 ?_; intro gt hg w3 hbox hb; have BT := Aside0.mk hbox; have GT := Aside0.mk (zg (zL2 HB.out GP.out GL.out) hg : w.heap.size ≤ gt); replace HB := zLB (zL2 HB.out GP.out GL.out) hb; replace BP := zBB BP hb; replace BL := zBB BL hb; clear hb hbox hg)
    | ((with_reducible refine gD 7 rfl ?_); refine bE 7 #[.nilFunc] 33 ?_; intro gw hg w4 hbox hb; have BW := Aside0.mk hbox; have GW := Aside0.mk (zg (zL3 HB.out GP.out GL.out GT.out) hg : w.heap.size ≤ gw); have NP := Aside0.mk (zN BP.out hg : gp ≠ gw); have NL := Aside0.mk (zN BL.out hg : gl ≠ gw); have NT := Aside0.mk (zN BT.out hg : gt ≠ gw); replace HB := zLB (zL3 HB.out GP.out GL.out GT.out) hb; replace BP := zBB BP hb; replace BL := zBB BL hb; replace BT := zBB BT hb; clear hb hbox hg; have hcp := zc5 BP.out; have hcl_ : w4.cell? ⟨gl, 0, none⟩ = some (.slice A l.length cl) := (blk_cell BL.out 0).trans rfl; have hct_ : w4.cell? ⟨gt, 0, none⟩ = some (.int .i64 t) := (blk_cell BT.out 0).trans rfl; have hcw_ : w4.cell? ⟨gw, 0, none⟩ = some .nilFunc := (blk_cell BW.out 0).trans rfl; have hfw_ := blk_frozen BW.out 0; have hst : (store ⟨gw, 0, none⟩ (.func (.func 62) #[] #[.pointer (some ⟨gl, 0, none⟩), .pointer (some ⟨gt, 0, none⟩)])).run Try.prog w4 = .ok () (w4.setCell ⟨gw, 0, none⟩ (.func (.func 62) #[] #[.pointer (some ⟨gl, 0, none⟩), .pointer (some ⟨gt, 0, none⟩)])) := (by rw [run_store _ _ _ _ _ rfl, hcw_]; simp [hfw_]); have hn1 := NP.out; have hn2 := NL.out; have hn3 := NT.out)
    | ((with_reducible refine gC 49 rfl ?_); refine gL 44 Try.func49 #[.slice Aq q.length cq, .func (.func 69) #[] #[.pointer (some ⟨gw, 0, none⟩)]] ?_; (with_reducible refine (impl_Pol_49.calls Try.func69 (by kernel_rfl) rfl k Aq cq q v _ (clo5.calls k IH.out l t A cl gl gt gw _ (blk_far BL.out NL.out _) (blk_far BT.out NT.out _) (Kd.C_below HRL.out (below_set HB.out GW.out)) HCL.out (blk_put BW.out 0 _ rfl)) (Kd.C_below HRQ.out (below_set HB.out GW.out)) HCQ.out H.out).mono ?_); rintro e w5 ⟨rfl, hb⟩; refine ⟨_, rfl, ?_⟩; replace HB := zLB (below_set HB.out GW.out) hb; clear hb))
  go_ret
  exact ⟨rfl, zL4 HB.out GP.out GL.out GT.out GW.out⟩

set_option maxHeartbeats 8000000 in
set_option maxRecDepth 100000 in
theorem wants_8 (k : Nat) (ih : WantsAt k) (a b : Int) (c d : ByteArray) (Aq : Option Addr) (cq : Nat) (q : List S29) (A : Option Addr) (cl : Nat) (l : List S73) (t : Int) (r : Bool) (w : World) (hrq : Kd.C k29 w Aq q.length q) (hcq : q.length ≤ cq) (hrl : Kd.C k73 w A l.length l) (hcl : l.length ≤ cl) (ha : a = 8) (h : impl_Pol_49.f (fun x0 x1 x2 x3 x4 => impl_Wants.f k x0 x1 x2 x3 x4 l t) k q = some r) :
    Calls Try.prog 39 #[.agg #[.int .i64 a, .int .i64 b, .string c, .string d, .slice Aq q.length cq], .slice A l.length cl, .int .i64 t] w fun e w' => e = .returned (.bool r) ∧ Below w.heap.size w w' := by
  have IH := Aside0.mk ih
  have HRQ := Aside0.mk hrq
  have HCQ := Aside0.mk hcq
  have HRL := Aside0.mk hrl
  have HCL := Aside0.mk hcl
  have HB := Aside0.mk (Below.refl w.heap.size w)
  clear ih hrq hcq hrl hcl
  have hu29 := Try.underlying29
  have hmf : ∀ (fn : Fn) (first cap : Array Value) (w : World), (Instr.makeFunc fn first cap).run Try.prog w = .ok (.func fn first cap) w := fun _ _ _ _ => rfl
  subst ha
  have H := Aside0.mk h
  clear h
  go_enter Try.func39, Try.ntmps39
  go_wp2_with (first
    | ((with_reducible refine gD 3 rfl ?_); refine bE 3 #[.int .i64 8, .int .i64 b, .string c, .string d, .slice Aq q.length cq] 29 ?_; intro gp hg w1 hbox hb; have BP := Aside0.mk hbox; have GP := Aside0.mk (zg (zL HB.out) hg : w.heap.size ≤ gp); replace HB := zLB (zL HB.out) hb; clear hb hbox hg)
    | ((with_reducible refine gD 4 rfl ?_); refine bE 4 #[.slice A l.length cl] 38 ?_; intro gl hg w2 hbox hb; have BL := Aside0.mk hbox; have GL := Aside0.mk (zg (zL1 HB.out GP.out) hg : w.heap.size ≤ gl); have NPL := Aside0.mk (zN BP.out hg : gp ≠ gl); replace HB := zLB (zL1 HB.out GP.out) hb; replace BP := zBB BP hb; clear hb hbox hg)
    | ((with_reducible refine gD 5 rfl ?_); refine bE 5 #[.int .i64 t] 3 ?_; intro gt hg w3 hbox hb; have BT := Aside0.mk hbox; have GT := Aside0.mk (zg (zL2 HB.out GP.out GL.out) hg : w.heap.size ≤ gt); replace HB := zLB (zL2 HB.out GP.out GL.out) hb; replace BP := zBB BP hb; replace BL := zBB BL hb; clear hb hbox hg)
    | ((with_reducible refine gD 7 rfl ?_); refine bE 7 #[.nilFunc] 33 ?_; intro gw hg w4 hbox hb; have BW := Aside0.mk hbox; have GW := Aside0.mk (zg (zL3 HB.out GP.out GL.out GT.out) hg : w.heap.size ≤ gw); have NP := Aside0.mk (zN BP.out hg : gp ≠ gw); have NL := Aside0.mk (zN BL.out hg : gl ≠ gw); have NT := Aside0.mk (zN BT.out hg : gt ≠ gw); replace HB := zLB (zL3 HB.out GP.out GL.out GT.out) hb; replace BP := zBB BP hb; replace BL := zBB BL hb; replace BT := zBB BT hb; clear hb hbox hg; have hcp := zc5 BP.out; have hcl_ : w4.cell? ⟨gl, 0, none⟩ = some (.slice A l.length cl) := (blk_cell BL.out 0).trans rfl; have hct_ : w4.cell? ⟨gt, 0, none⟩ = some (.int .i64 t) := (blk_cell BT.out 0).trans rfl; have hcw_ : w4.cell? ⟨gw, 0, none⟩ = some .nilFunc := (blk_cell BW.out 0).trans rfl; have hfw_ := blk_frozen BW.out 0; have hst : (store ⟨gw, 0, none⟩ (.func (.func 62) #[] #[.pointer (some ⟨gl, 0, none⟩), .pointer (some ⟨gt, 0, none⟩)])).run Try.prog w4 = .ok () (w4.setCell ⟨gw, 0, none⟩ (.func (.func 62) #[] #[.pointer (some ⟨gl, 0, none⟩), .pointer (some ⟨gt, 0, none⟩)])) := (by rw [run_store _ _ _ _ _ rfl, hcw_]; simp [hfw_]); have hn1 := NP.out; have hn2 := NL.out; have hn3 := NT.out)
    | ((with_reducible refine gC 49 rfl ?_); refine gL 51 Try.func49 #[.slice Aq q.length cq, .func (.func 62) #[] #[.pointer (some ⟨gl, 0, none⟩), .pointer (some ⟨gt, 0, none⟩)]] ?_; (with_reducible refine (impl_Pol_49.calls Try.func62 (by kernel_rfl) rfl k Aq cq q r _ (clo1.calls k IH.out l t A cl gl gt _ (blk_far BL.out NL.out _) (blk_far BT.out NT.out _) (Kd.C_below HRL.out (below_set HB.out GW.out)) HCL.out) (Kd.C_below HRQ.out (below_set HB.out GW.out)) HCQ.out H.out).mono ?_); rintro e w5 ⟨rfl, hb⟩; refine ⟨_, rfl, ?_⟩; replace HB := zLB (below_set HB.out GW.out) hb; clear hb))
  go_ret
  exact ⟨rfl, zL4 HB.out GP.out GL.out GT.out GW.out⟩

set_option maxHeartbeats 8000000 in
set_option maxRecDepth 100000 in
theorem wants_0 (k : Nat) (ih : WantsAt k) (a b : Int) (c d : ByteArray) (Aq : Option Addr) (cq : Nat) (q : List S29) (A : Option Addr) (cl : Nat) (l : List S73) (t : Int) (r : Bool) (w : World) (hrq : Kd.C k29 w Aq q.length q) (hcq : q.length ≤ cq) (hrl : Kd.C k73 w A l.length l) (hcl : l.length ≤ cl) (h1 : a ≠ 1) (h2 : a ≠ 2) (h3 : a ≠ 3) (h4 : a ≠ 4) (h5 : a ≠ 5) (h6 : a ≠ 6) (h7 : a ≠ 7) (h8 : a ≠ 8) (h9 : a ≠ 9) (h : r = false) :
    Calls Try.prog 39 #[.agg #[.int .i64 a, .int .i64 b, .string c, .string d, .slice Aq q.length cq], .slice A l.length cl, .int .i64 t] w fun e w' => e = .returned (.bool r) ∧ Below w.heap.size w w' := by
  have IH := Aside0.mk ih
  have HRQ := Aside0.mk hrq
  have HCQ := Aside0.mk hcq
  have HRL := Aside0.mk hrl
  have HCL := Aside0.mk hcl
  have HB := Aside0.mk (Below.refl w.heap.size w)
  clear ih hrq hcq hrl hcl
  have hu29 := Try.underlying29
  have hmf : ∀ (fn : Fn) (first cap : Array Value) (w : World), (Instr.makeFunc fn first cap).run Try.prog w = .ok (.func fn first cap) w := fun _ _ _ _ => rfl
  subst h
  have b1 : (a == 1) = false := by simpa using h1
  have b2 : (a == 2) = false := by simpa using h2
  have b3 : (a == 3) = false := by simpa using h3
  have b4 : (a == 4) = false := by simpa using h4
  have b5 : (a == 5) = false := by simpa using h5
  have b6 : (a == 6) = false := by simpa using h6
  have b7 : (a == 7) = false := by simpa using h7
  have b8 : (a == 8) = false := by simpa using h8
  have b9 : (a == 9) = false := by simpa using h9
  go_enter Try.func39, Try.ntmps39
  go_wp2_with (first
    | ((with_reducible refine gD 3 rfl ?_); refine bE 3 #[.int .i64 a, .int .i64 b, .string c, .string d, .slice Aq q.length cq] 29 ?_; intro gp hg w1 hbox hb; have BP := Aside0.mk hbox; have GP := Aside0.mk (zg (zL HB.out) hg : w.heap.size ≤ gp); replace HB := zLB (zL HB.out) hb; clear hb hbox hg)
    | ((with_reducible refine gD 4 rfl ?_); refine bE 4 #[.slice A l.length cl] 38 ?_; intro gl hg w2 hbox hb; have BL := Aside0.mk hbox; have GL := Aside0.mk (zg (zL1 HB.out GP.out) hg : w.heap.size ≤ gl); have NPL := Aside0.mk (zN BP.out hg : gp ≠ gl); replace HB := zLB (zL1 HB.out GP.out) hb; replace BP := zBB BP hb; clear hb hbox hg)
    | ((with_reducible refine gD 5 rfl ?_); refine bE 5 #[.int .i64 t] 3 ?_; intro gt hg w3 hbox hb; have BT := Aside0.mk hbox; have GT := Aside0.mk (zg (zL2 HB.out GP.out GL.out) hg : w.heap.size ≤ gt); replace HB := zLB (zL2 HB.out GP.out GL.out) hb; replace BP := zBB BP hb; replace BL := zBB BL hb; clear hb hbox hg)
    | ((with_reducible refine gD 7 rfl ?_); refine bE 7 #[.nilFunc] 33 ?_; intro gw hg w4 hbox hb; have BW := Aside0.mk hbox; have GW := Aside0.mk (zg (zL3 HB.out GP.out GL.out GT.out) hg : w.heap.size ≤ gw); have NP := Aside0.mk (zN BP.out hg : gp ≠ gw); have NL := Aside0.mk (zN BL.out hg : gl ≠ gw); have NT := Aside0.mk (zN BT.out hg : gt ≠ gw); replace HB := zLB (zL3 HB.out GP.out GL.out GT.out) hb; replace BP := zBB BP hb; replace BL := zBB BL hb; replace BT := zBB BT hb; clear hb hbox hg; have hcp := zc5 BP.out; have hcl_ : w4.cell? ⟨gl, 0, none⟩ = some (.slice A l.length cl) := (blk_cell BL.out 0).trans rfl; have hct_ : w4.cell? ⟨gt, 0, none⟩ = some (.int .i64 t) := (blk_cell BT.out 0).trans rfl; have hcw_ : w4.cell? ⟨gw, 0, none⟩ = some .nilFunc := (blk_cell BW.out 0).trans rfl; have hfw_ := blk_frozen BW.out 0; have hst : (store ⟨gw, 0, none⟩ (.func (.func 62) #[] #[.pointer (some ⟨gl, 0, none⟩), .pointer (some ⟨gt, 0, none⟩)])).run Try.prog w4 = .ok () (w4.setCell ⟨gw, 0, none⟩ (.func (.func 62) #[] #[.pointer (some ⟨gl, 0, none⟩), .pointer (some ⟨gt, 0, none⟩)])) := (by rw [run_store _ _ _ _ _ rfl, hcw_]; simp [hfw_]); have hn1 := NP.out; have hn2 := NL.out; have hn3 := NT.out))
  go_ret
  exact ⟨rfl, zL4 HB.out GP.out GL.out GT.out GW.out⟩

section
variable {P : Program} {ops : Array Oper} {Q : Exit → Act → World → Prop}
/-- A call of a closure, in a region whose operations may come up in any order. -/
theorem gSC {oi : Oper} {N : Option Tmp} {a : Act} {w : World} {K : Act → World → Prop} {t : Tmp} {f : FuncId} {cap : Array Value} (hv : a.eval (.tmp t) = .func (.func f) #[] cap) {fn : Func} {us : Array Operand} {ts : Array TypeId} (hf : P.funcs[f]? = some fn) (args : Array Value)
    (h : Calls P f (args ++ cap) w fun e w' => ∃ v, e = .returned v ∧ K (a.put N v) w') (hname : (fn.name == "runtime.NumGoroutine") = false := by kernel_rfl) (hb : fn.body.isSome = true := by exact rfl)
    (hw : Region.wanted oi (yielded ops a.tmps) = true := by rfl) (hN : oi.dst = N := by exact rfl) (hop : oi.op = .call { callee := .value (.tmp t), args := us, argTypes := ts } := by exact rfl)
    (hargs : us.map a.eval = args := by (try simp only [List.map_toArray, List.map_cons, List.map_nil]); first | done | rfl) :
    if Region.wanted oi (yielded ops a.tmps) = true then Oper.wp P oi a w K Q else K (a.put N undef) w := by
  refine call_ f (args ++ cap) hw hN ?_ h
  have he := enters_ hf hname hb (args ++ cap) w
  unfold execOp
  simp [hop, resolve, Deferred.ofValue, invoke, hv, hargs, he]
end

set_option maxHeartbeats 8000000 in
set_option maxRecDepth 100000 in
theorem wants_9 (k : Nat) (ih : WantsAt k) (a b : Int) (c d : ByteArray) (Aq : Option Addr) (cq : Nat) (q : List S29) (A : Option Addr) (cl : Nat) (l : List S73) (t : Int) (r : Bool) (w : World) (hrq : Kd.C k29 w Aq q.length q) (hcq : q.length ≤ cq) (hrl : Kd.C k73 w A l.length l) (hcl : l.length ≤ cl) (ha : a = 9) (h : (if (q.length : Int) = 0 then (some true) else ((impl_Wants.f k ((rd_T29 q 0).f0) ((rd_T29 q 0).f1) ((rd_T29 q 0).f2) ((rd_T29 q 0).f3) ((rd_T29 q 0).f4) l t).bind fun v => some (!v))) = some r) :
    Calls Try.prog 39 #[.agg #[.int .i64 a, .int .i64 b, .string c, .string d, .slice Aq q.length cq], .slice A l.length cl, .int .i64 t] w fun e w' => e = .returned (.bool r) ∧ Below w.heap.size w w' := by
  have IH := Aside0.mk ih
  have HRQ := Aside0.mk hrq
  have HCQ := Aside0.mk hcq
  have HRL := Aside0.mk hrl
  have HCL := Aside0.mk hcl
  have HB := Aside0.mk (Below.refl w.heap.size w)
  clear ih hrq hcq hrl hcl
  have hu29 := Try.underlying29
  have hmf : ∀ (fn : Fn) (first cap : Array Value) (w : World), (Instr.makeFunc fn first cap).run Try.prog w = .ok (.func fn first cap) w := fun _ _ _ _ => rfl
  subst ha
  have H := Aside0.mk h
  clear h
  go_enter Try.func39, Try.ntmps39
  go_wp2_with (first
    | ((with_reducible refine gD 3 rfl ?_); refine bE 3 #[.int .i64 9, .int .i64 b, .string c, .string d, .slice Aq q.length cq] 29 ?_; intro gp hg w1 hbox hb; have BP := Aside0.mk hbox; have GP := Aside0.mk (zg (zL HB.out) hg : w.heap.size ≤ gp); replace HB := zLB (zL HB.out) hb; clear hb hbox hg)
    | ((with_reducible refine gD 4 rfl ?_); refine bE 4 #[.slice A l.length cl] 38 ?_; intro gl hg w2 hbox hb; have BL := Aside0.mk hbox; have GL := Aside0.mk (zg (zL1 HB.out GP.out) hg : w.heap.size ≤ gl); have NPL := Aside0.mk (zN BP.out hg : gp ≠ gl); replace HB := zLB (zL1 HB.out GP.out) hb; replace BP := zBB BP hb; clear hb hbox hg)
    | ((with_reducible refine gD 5 rfl ?_); refine bE 5 #[.int .i64 t] 3 ?_; intro gt hg w3 hbox hb; have BT := Aside0.mk hbox; have GT := Aside0.mk (zg (zL2 HB.out GP.out GL.out) hg : w.heap.size ≤ gt); replace HB := zLB (zL2 HB.out GP.out GL.out) hb; replace BP := zBB BP hb; replace BL := zBB BL hb; clear hb hbox hg)
    | ((with_reducible refine gD 7 rfl ?_); refine bE 7 #[.nilFunc] 33 ?_; intro gw hg w4 hbox hb; have BW := Aside0.mk hbox; have GW := Aside0.mk (zg (zL3 HB.out GP.out GL.out GT.out) hg : w.heap.size ≤ gw); have NP := Aside0.mk (zN BP.out hg : gp ≠ gw); have NL := Aside0.mk (zN BL.out hg : gl ≠ gw); have NT := Aside0.mk (zN BT.out hg : gt ≠ gw); replace HB := zLB (zL3 HB.out GP.out GL.out GT.out) hb; replace BP := zBB BP hb; replace BL := zBB BL hb; replace BT := zBB BT hb; clear hb hbox hg; have hcp := zc5 BP.out; have hcl_ : w4.cell? ⟨gl, 0, none⟩ = some (.slice A l.length cl) := (blk_cell BL.out 0).trans rfl; have hct_ : w4.cell? ⟨gt, 0, none⟩ = some (.int .i64 t) := (blk_cell BT.out 0).trans rfl; have hcw_ : w4.cell? ⟨gw, 0, none⟩ = some .nilFunc := (blk_cell BW.out 0).trans rfl; have hfw_ := blk_frozen BW.out 0; have hst : (store ⟨gw, 0, none⟩ (.func (.func 62) #[] #[.pointer (some ⟨gl, 0, none⟩), .pointer (some ⟨gt, 0, none⟩)])).run Try.prog w4 = .ok () (w4.setCell ⟨gw, 0, none⟩ (.func (.func 62) #[] #[.pointer (some ⟨gl, 0, none⟩), .pointer (some ⟨gt, 0, none⟩)])) := (by rw [run_store _ _ _ _ _ rfl, hcw_]; simp [hfw_]); have hn1 := NP.out; have hn2 := NL.out; have hn3 := NT.out))
  have HB' : Aside0 (Below w.heap.size w (w4.setCell ⟨gw, 0, none⟩ (.func (.func 62) #[] #[.pointer (some ⟨gl, 0, none⟩), .pointer (some ⟨gt, 0, none⟩)]))) := ⟨(below_set HB.out GW.out)⟩
  have BP' : Aside0 ((w4.setCell ⟨gw, 0, none⟩ (.func (.func 62) #[] #[.pointer (some ⟨gl, 0, none⟩), .pointer (some ⟨gt, 0, none⟩)])).heap[gp]? = some (.cells #[.int .i64 9, .int .i64 b, .string c, .string d, .slice Aq q.length cq] 29 (0, 0))) := ⟨(blk_far BP.out NP.out _)⟩
  have BL' : Aside0 ((w4.setCell ⟨gw, 0, none⟩ (.func (.func 62) #[] #[.pointer (some ⟨gl, 0, none⟩), .pointer (some ⟨gt, 0, none⟩)])).heap[gl]? = some (.cells #[.slice A l.length cl] 38 (0, 0))) := ⟨(blk_far BL.out NL.out _)⟩
  have BT' : Aside0 ((w4.setCell ⟨gw, 0, none⟩ (.func (.func 62) #[] #[.pointer (some ⟨gl, 0, none⟩), .pointer (some ⟨gt, 0, none⟩)])).heap[gt]? = some (.cells #[.int .i64 t] 3 (0, 0))) := ⟨(blk_far BT.out NT.out _)⟩
  have BW' : Aside0 ((w4.setCell ⟨gw, 0, none⟩ (.func (.func 62) #[] #[.pointer (some ⟨gl, 0, none⟩), .pointer (some ⟨gt, 0, none⟩)])).heap[gw]? = some (.cells #[.func (.func 62) #[] #[.pointer (some ⟨gl, 0, none⟩), .pointer (some ⟨gt, 0, none⟩)]] 33 (0, 0))) := ⟨(blk_put BW.out 0 _ rfl)⟩
  clear hst hcp hcl_ hct_ hcw_ hfw_ HB BP BL BT BW
  generalize (w4.setCell ⟨gw, 0, none⟩ (.func (.func 62) #[] #[.pointer (some ⟨gl, 0, none⟩), .pointer (some ⟨gt, 0, none⟩)])) = w5 at HB' BP' BL' BT' BW' ⊢
  replace BP' := zBD BP'; replace BL' := zBD BL'; replace BT' := zBD BT'; replace BW' := zBD BW'; replace HB' := zLD HB'
  have hw7 : w5.drew.cell? ⟨gw, 0, none⟩ = some (.func (.func 62) #[] #[.pointer (some ⟨gl, 0, none⟩), .pointer (some ⟨gt, 0, none⟩)]) := (blk_cell BW'.out 0).trans rfl
  by_cases c0 : (q.length : Int) = 0
  · have H := H.out
    rw [if_pos c0] at H
    obtain rfl := Option.some.inj H
    obtain ⟨c0b0, c0b1⟩ := zt c0
    refine start_ (n := 14) (S := fun w' => zt5 w' gp (.int .i64 9) (.int .i64 b) (.string c) (.string d) (.slice Aq q.length cq) (w'.cell? ⟨gw, 0, none⟩ = some (.func (.func 62) #[] #[.pointer (some ⟨gl, 0, none⟩), .pointer (some ⟨gt, 0, none⟩)]))) (ds := []) (fB 14 0) (by kernel_rfl) rfl rfl (zk5 BP'.out hw7) (fun hHeld => ?_)
    generalize w5.drew = w6 at BP' BL' BT' BW' HB' hHeld hw7 ⊢
    refine pY 0 54 (fB 14 1) rfl ?_
    refine tY (Bw := [0,1,3,7,15,31,31,95,223,479,1023,2047,4095,8191]) 1 55 (fB 14 3) rfl (by kernel_rfl) hHeld ?_
    refine pY 2 56 (fB 14 7) rfl ?_
    refine pY 3 57 (fB 14 15) rfl ?_
    refine pY 4 58 (fB 14 31) rfl ?_
    refine pN 5 59 (fB 14 63) rfl ?_
    refine pN 6 60 (fB 14 127) rfl ?_
    refine pN 7 61 (fB 14 255) rfl ?_
    refine pN 8 62 (fB 14 511) rfl ?_
    refine pN 9 63 (fB 14 1023) rfl ?_
    refine pN 10 64 (fB 14 2047) rfl ?_
    refine pN 11 65 (fB 14 4095) rfl ?_
    refine pY 12 66 (fB 14 8191) rfl ?_
    refine pY 13 6 (fB 14 16383) rfl ?_
    refine done_ (done_of rfl (by kernel_rfl)) ?_
    try go_wp2
    go_ret
    exact ⟨rfl, zL4 HB'.out GP.out GL.out GT.out GW.out⟩
  · have H := H.out
    rw [if_neg c0] at H
    obtain ⟨v, A1, H⟩ := zO H; try dsimp only at H
    obtain rfl := Option.some.inj H
    obtain ⟨c0b0, c0b1⟩ := zf c0
    have p207 : 0 ≤ (0 : Int) := (by omega)
    have q207 : 0 < (q.length : Int) := (by omega)
    obtain ⟨ad, A4, c4, e207, hx0, hx1, hx2, hx3, hx4, hl4, hi4⟩ := at_T29 HRQ.out 0 p207 q207
    cases e207
    have qi207 : (0 < q.length) = True := eq_true (by omega)
    rw [show ((0 : Int)).toNat = 0 from rfl, show 0 * 5 = 0 from rfl, Addr.add_zero'] at hx0 hx1 hx2 hx3 hx4
    replace hx0 := zh HB'.out hx0
    replace hx1 := zh HB'.out hx1
    replace hx2 := zh HB'.out hx2
    replace hx3 := zh HB'.out hx3
    replace hx4 := zh HB'.out hx4
    have HR4 := Aside0.mk hi4
    have HC4 := Aside0.mk hl4
    clear hi4 hl4
    replace p207 := eq_true p207
    replace q207 := eq_true q207
    refine start_ (n := 14) (S := fun w' => zt5 w' gp (.int .i64 9) (.int .i64 b) (.string c) (.string d) (.slice (some ad) q.length cq) (w'.cell? ⟨gw, 0, none⟩ = some (.func (.func 62) #[] #[.pointer (some ⟨gl, 0, none⟩), .pointer (some ⟨gt, 0, none⟩)]) ∧ w'.cell? ad = some (.int .i64 (rd_T29 q 0).f0) ∧ w'.cell? ⟨ad.block, ad.off + 1, none⟩ = some (.int .i64 (rd_T29 q 0).f1) ∧ w'.cell? ⟨ad.block, ad.off + 2, none⟩ = some (.string (rd_T29 q 0).f2) ∧ w'.cell? ⟨ad.block, ad.off + 3, none⟩ = some (.string (rd_T29 q 0).f3) ∧ w'.cell? ⟨ad.block, ad.off + 4, none⟩ = some (.slice A4 (rd_T29 q 0).f4.length c4))) (ds := []) (fB 14 0) (by kernel_rfl) rfl rfl (zk5 BP'.out ⟨hw7, hx0, hx1, hx2, hx3, hx4⟩) (fun hHeld => ?_)
    have HX := Aside0.mk (clo1.calls k IH.out l t A cl gl gt _ BL'.out BT'.out (Kd.C_below HRL.out HB'.out) HCL.out)
    generalize w5.drew = w6 at BP' BL' BT' BW' HB' hHeld hw7 hx0 hx1 hx2 hx3 hx4 HX ⊢
    refine pY 0 54 (fB 14 1) rfl ?_
    refine tY (Bw := [0,1,3,7,15,31,31,95,223,479,1023,2047,4095,8191]) 1 55 (fB 14 3) rfl (by kernel_rfl) hHeld ?_
    refine pY 2 56 (fB 14 7) rfl ?_
    refine pY 3 57 (fB 14 15) rfl ?_
    refine pY 4 58 (fB 14 31) rfl ?_
    refine tY (Bw := [0,1,3,7,15,31,31,95,223,479,1023,2047,4095,8191]) 5 59 (fB 14 63) rfl (by kernel_rfl) hHeld ?_
    refine pY 6 60 (fB 14 127) rfl ?_
    refine tY (Bw := [0,1,3,7,15,31,31,95,223,479,1023,2047,4095,8191]) 7 61 (fB 14 255) rfl (by kernel_rfl) hHeld ?_
    refine pY 8 62 (fB 14 511) rfl ?_
    refine tY (Bw := [0,1,3,7,15,31,31,95,223,479,1023,2047,4095,8191]) 9 63 (fB 14 1023) rfl (by kernel_rfl) hHeld ?_
    refine oN 10 64 (fB 14 2047) rfl fun K hK => ?_
    refine gSC (t := 59) (f := 62) (cap := #[.pointer (some ⟨gl, 0, none⟩), .pointer (some ⟨gt, 0, none⟩)]) rfl Try.func62 #[.agg #[.int .i64 (rd_T29 q 0).f0, .int .i64 (rd_T29 q 0).f1, .string (rd_T29 q 0).f2, .string (rd_T29 q 0).f3, .slice A4 (rd_T29 q 0).f4.length c4]] ?_
    with_reducible refine (HX.out _ _ _ _ _ _ (rd_T29 q 0).f4 v _ (Below.refl _ _) ?side1 HC4.out A1.out).mono ?_
    (case side1 => exact Kd.C_below HR4.out HB'.out)
    rintro e w9 ⟨rfl, hb⟩
    refine ⟨_, rfl, ?_⟩
    have HBn := Aside0.mk (below_step HB'.out hb)
    have S9 := zk5 (zBB BP' hb).out (And.intro ((blk_cell (zBB BW' hb).out 0).trans rfl : w9.cell? ⟨gw, 0, none⟩ = some (.func (.func 62) #[] #[.pointer (some ⟨gl, 0, none⟩), .pointer (some ⟨gt, 0, none⟩)])) (And.intro (zh hb hx0) (And.intro (zh hb hx1) (And.intro (zh hb hx2) (And.intro (zh hb hx3) (zh hb hx4))))))
    refine hK.out _ _ S9 fun hHeld => ?_; clear hK K
    refine nZ 64 ?_
    refine pY 11 65 (fB 14 4095) rfl ?_
    refine pY 12 66 (fB 14 8191) rfl ?_
    refine pY 13 6 (fB 14 16383) rfl ?_
    refine done_ (done_of rfl (by kernel_rfl)) ?_
    try go_wp2
    go_ret
    exact ⟨rfl, zL4 HBn.out GP.out GL.out GT.out GW.out⟩


set_option maxHeartbeats 8000000 in
set_option maxRecDepth 100000 in
theorem impl_Wants.at : ∀ k, WantsAt k
  | 0 => by
    intro a b c d Aq q0 cq A cl l t r w h1 h2 h3 h4 h
    simp [impl_Wants.f] at h
  | k + 1 => by
    intro a b c d Aq cq q A cl l t r w h1 h2 h3 h4 h
    have ih := impl_Wants.at k
    rw [impl_Wants.f] at h
    by_cases e1 : a = 1
    · rw [if_pos e1] at h; exact wants_1 k ih a b c d Aq cq q A cl l t r w h1 h2 h3 h4 e1 (Option.some.inj h).symm
    rw [if_neg e1] at h
    by_cases e2 : a = 2
    · rw [if_pos e2] at h; exact wants_2 k ih a b c d Aq cq q A cl l t r w h1 h2 h3 h4 e2 h
    rw [if_neg e2] at h
    by_cases e3 : a = 3
    · rw [if_pos e3] at h; exact wants_3 k ih a b c d Aq cq q A cl l t r w h1 h2 h3 h4 e3 h
    rw [if_neg e3] at h
    by_cases e4 : a = 4
    · rw [if_pos e4] at h; exact wants_4 k ih a b c d Aq cq q A cl l t r w h1 h2 h3 h4 e4 h
    rw [if_neg e4] at h
    by_cases e5 : a = 5
    · rw [if_pos e5] at h; exact wants_5 k ih a b c d Aq cq q A cl l t r w h1 h2 h3 h4 e5 h
    rw [if_neg e5] at h
    by_cases e6 : a = 6
    · rw [if_pos e6] at h; exact wants_6 k ih a b c d Aq cq q A cl l t r w h1 h2 h3 h4 e6 (Option.some.inj h)
    rw [if_neg e6] at h
    by_cases e7 : a = 7
    · rw [if_pos e7] at h; exact wants_7 k ih a b c d Aq cq q A cl l t r w h1 h2 h3 h4 e7 h
    rw [if_neg e7] at h
    by_cases e8 : a = 8
    · rw [if_pos e8] at h; exact wants_8 k ih a b c d Aq cq q A cl l t r w h1 h2 h3 h4 e8 h
    rw [if_neg e8] at h
    by_cases e9 : a = 9
    · rw [if_pos e9] at h; exact wants_9 k ih a b c d Aq cq q A cl l t r w h1 h2 h3 h4 e9 h
    rw [if_neg e9] at h
    exact wants_0 k ih a b c d Aq cq q A cl l t r w h1 h2 h3 h4 e1 e2 e3 e4 e5 e6 e7 e8 e9 (Option.some.inj h).symm
/-- impl.Wants answers as told. -/
theorem impl_Wants.calls (k : Nat) (a0 a1 : Int) (a2 a3 : ByteArray) (A0 : Option Addr) (c0 : Nat) (l0 : List S29) (A1 : Option Addr) (c1 : Nat) (l1 : List S73) (a4 : Int) (r : Bool) (w : World) (hr0 : Kd.C k29 w A0 l0.length l0) (hc0 : l0.length ≤ c0) (hr1 : Kd.C k73 w A1 l1.length l1) (hc1 : l1.length ≤ c1) (h : impl_Wants.f k a0 a1 a2 a3 l0 l1 a4 = some r) :
    Calls Try.prog 39 #[.agg #[.int .i64 a0, .int .i64 a1, .string a2, .string a3, .slice A0 l0.length c0], .slice A1 l1.length c1, .int .i64 a4] w fun e w' => e = .returned (.bool r) ∧ Below w.heap.size w w' := impl_Wants.at k a0 a1 a2 a3 A0 c0 l0 A1 c1 l1 a4 r w hr0 hc0 hr1 hc1 h

open Go.Proofs.YtfhblnbicnmndaaW.PrintWords renaming blk_drewN → bN, blk_drew → bD, blk_alloc → bA, blk_cell → bC, blk_below → bB, below_set → bS
/-! ### impl_Judge: function 41 -/
def impl_Judge.f (k : Nat) (a0_0 : Int) (a0_1 : Int) (a0_2 : ByteArray) (a0_3 : ByteArray) (l0_4 : List (S29)) (l1 : List (S73)) (a2 : Int) : Option (Bool × Int) := (impl_Wants.f k a0_0 a0_1 a0_2 a0_3 l0_4 l1 a2).bind fun t232 => (if t232 = true then ((impl_HasRate.f k a0_0 a0_1 a0_2 a0_3 l0_4).bind fun t233 => (if t233 = true then ((impl_Cap.f a2).bind fun t234 => (some (true, mn (l1.length : Int) t234))) else (some (true, 0)))) else (some (false, 0)))
set_option maxHeartbeats 8000000 in
set_option maxRecDepth 100000 in
theorem impl_Judge.calls (k : Nat) (a0_0 : Int) (a0_1 : Int) (a0_2 : ByteArray) (a0_3 : ByteArray) (A0_4 : Option Addr) (c0_4 : Nat) (l0_4 : List (S29)) (A1 : Option Addr) (c1 : Nat) (l1 : List (S73)) (a2 : Int) (r1 : Bool) (r2 : Int) (w : World) (hr0_4 : Kd.C k29 w A0_4 l0_4.length l0_4) (hc0_4 : l0_4.length ≤ c0_4) (hr1 : Kd.C k73 w A1 l1.length l1) (hc1 : l1.length ≤ c1) (h : impl_Judge.f k a0_0 a0_1 a0_2 a0_3 l0_4 l1 a2 = some (r1, r2)) :
  Calls Try.prog 41 #[.agg #[.int .i64 a0_0, .int .i64 a0_1, .string a0_2, .string a0_3, .slice A0_4 l0_4.length c0_4], .slice A1 l1.length c1, .int .i64 a2] w fun e w' => e = .returned (.tuple #[.bool r1, .int .i64 r2]) ∧ Below w.heap.size w w' := by
 have hu29 := Try.underlying29
 have HR0_4 := Aside0.mk hr0_4
 have HC0_4 := Aside0.mk hc0_4
 clear hr0_4 hc0_4
 have HR1 := Aside0.mk hr1
 have HC1 := Aside0.mk hc1
 clear hr1 hc1
 have HB := Aside0.mk (Below.refl w.heap.size w)
 unfold impl_Judge.f at h; have H := h
 clear h
 obtain ⟨t232, A4, H⟩ := zO H; try dsimp only at H
 by_cases c5 : t232 = true
 ·subst c5
  rw [if_pos rfl] at H
  obtain ⟨t233, A6, H⟩ := zO H; try dsimp only at H
  by_cases c7 : t233 = true
  ·subst c7
   rw [if_pos rfl] at H
   obtain ⟨t234, A8, H⟩ := zO H; try dsimp only at H
   obtain ⟨ji9, hji9⟩ : ∃ j_ : Int, (mn (l1.length : Int) t234) = j_ := ⟨_, rfl⟩
   replace H : (some (true, ji9)) = some (r1, r2) := by first | (rw [hji9] at H; exact H) | (simp only [hji9] at H ⊢; exact H)
   (try rw [hji9] at A4)
   (try rw [hji9] at A6)
   (try rw [hji9] at A8)
   have hji9_ : (if t234 < (l1.length : Int) then t234 else (l1.length : Int)) = ji9 := hji9
   simp only [Option.some.injEq, Prod.mk.injEq] at H
   obtain ⟨rfl, rfl⟩ := H
   go_enter Try.func41, Try.ntmps41
   go_wp2_with (first | ((with_reducible refine gD 3 rfl ?_); refine bE 3 #[.int .i64 a0_0, .int .i64 a0_1, .string a0_2, .string a0_3, .slice A0_4 l0_4.length c0_4] 29 ?_; intro gb231 hg w10 hbox hb; have BK231 := Aside0.mk hbox; have GW231 := Aside0.mk (zg (zL HB.out) hg : w.heap.size ≤ gb231); have GE231 := GW231; replace HB := zLB (zL HB.out) hb; clear hb hbox hg; have hcz11 := zc5 BK231.out; have hfz11 := zf5 BK231.out) | ((with_reducible refine gC 39 rfl ?_); refine gL 11 Try.func39 #[.agg #[.int .i64 a0_0, .int .i64 a0_1, .string a0_2, .string a0_3, .slice A0_4 l0_4.length c0_4], .slice A1 l1.length c1, .int .i64 a2] ?_; (with_reducible refine (impl_Wants.calls k a0_0 a0_1 a0_2 a0_3 _ _ l0_4 _ _ l1 a2 true _ ?side1 ?side2 ?side3 ?side4 A4.out).mono ?_); (case side1 => exact zC (Kd.C_below HR0_4.out HB.out)); (case side2 => exact HC0_4.out); (case side3 => exact zC (Kd.C_below HR1.out HB.out)); (case side4 => exact HC1.out); rintro e w12 ⟨rfl, hb⟩; refine ⟨_, rfl, ?_⟩; replace BK231 := zBB BK231 hb; replace HB := zLB (zL1 HB.out GE231.out) hb; clear hb; have hcz13 := zc5 BK231.out; have hfz13 := zf5 BK231.out) | ((with_reducible refine gC 19 rfl ?_); refine gL 14 Try.func19 #[.agg #[.int .i64 a0_0, .int .i64 a0_1, .string a0_2, .string a0_3, .slice A0_4 l0_4.length c0_4]] ?_; (with_reducible refine (impl_HasRate.calls k a0_0 a0_1 a0_2 a0_3 _ _ l0_4 true _ ?side1 ?side2 A6.out).mono ?_); (case side1 => exact zC (Kd.C_below HR0_4.out HB.out)); (case side2 => exact HC0_4.out); rintro e w14 ⟨rfl, hb⟩; refine ⟨_, rfl, ?_⟩; replace BK231 := zBB BK231 hb; replace HB := zLB (zL1 HB.out GE231.out) hb; clear hb) | ((with_reducible refine gC 45 rfl ?_); refine gL 19 Try.func45 #[.int .i64 a2] ?_; (with_reducible refine (impl_Cap.calls a2 t234 _ A8.out).mono ?_); rintro e w15 ⟨rfl, hb⟩; refine ⟨_, rfl, ?_⟩; replace BK231 := zBB BK231 hb; replace HB := zLB (zL1 HB.out GE231.out) hb; clear hb))
   go_ret2
   exact ⟨by first | rfl | (simp [errW_none, errW_some] <;> rfl) | (simp only [← hji9]; first | rfl | (simp [errW_none, errW_some] <;> rfl)) | (simp [*, errW_none, errW_some] <;> rfl), zL1 HB.out GE231.out⟩
  ·obtain rfl := Bool.eq_false_iff.mpr c7
   rw [if_neg zn] at H
   simp only [Option.some.injEq, Prod.mk.injEq] at H
   obtain ⟨rfl, rfl⟩ := H
   go_enter Try.func41, Try.ntmps41
   go_wp2_with (first | ((with_reducible refine gD 3 rfl ?_); refine bE 3 #[.int .i64 a0_0, .int .i64 a0_1, .string a0_2, .string a0_3, .slice A0_4 l0_4.length c0_4] 29 ?_; intro gb231 hg w16 hbox hb; have BK231 := Aside0.mk hbox; have GW231 := Aside0.mk (zg (zL HB.out) hg : w.heap.size ≤ gb231); have GE231 := GW231; replace HB := zLB (zL HB.out) hb; clear hb hbox hg; have hcz17 := zc5 BK231.out; have hfz17 := zf5 BK231.out) | ((with_reducible refine gC 39 rfl ?_); refine gL 11 Try.func39 #[.agg #[.int .i64 a0_0, .int .i64 a0_1, .string a0_2, .string a0_3, .slice A0_4 l0_4.length c0_4], .slice A1 l1.length c1, .int .i64 a2] ?_; (with_reducible refine (impl_Wants.calls k a0_0 a0_1 a0_2 a0_3 _ _ l0_4 _ _ l1 a2 true _ ?side1 ?side2 ?side3 ?side4 A4.out).mono ?_); (case side1 => exact zC (Kd.C_below HR0_4.out HB.out)); (case side2 => exact HC0_4.out); (case side3 => exact zC (Kd.C_below HR1.out HB.out)); (case side4 => exact HC1.out); rintro e w18 ⟨rfl, hb⟩; refine ⟨_, rfl, ?_⟩; replace BK231 := zBB BK231 hb; replace HB := zLB (zL1 HB.out GE231.out) hb; clear hb; have hcz19 := zc5 BK231.out; have hfz19 := zf5 BK231.out) | ((with_reducible refine gC 19 rfl ?_); refine gL 14 Try.func19 #[.agg #[.int .i64 a0_0, .int .i64 a0_1, .string a0_2, .string a0_3, .slice A0_4 l0_4.length c0_4]] ?_; (with_reducible refine (impl_HasRate.calls k a0_0 a0_1 a0_2 a0_3 _ _ l0_4 false _ ?side1 ?side2 A6.out).mono ?_); (case side1 => exact zC (Kd.C_below HR0_4.out HB.out)); (case side2 => exact HC0_4.out); rintro e w20 ⟨rfl, hb⟩; refine ⟨_, rfl, ?_⟩; replace BK231 := zBB BK231 hb; replace HB := zLB (zL1 HB.out GE231.out) hb; clear hb))
   go_ret2
   exact ⟨zW, zL1 HB.out GE231.out⟩
 ·obtain rfl := Bool.eq_false_iff.mpr c5
  rw [if_neg zn] at H
  simp only [Option.some.injEq, Prod.mk.injEq] at H
  obtain ⟨rfl, rfl⟩ := H
  go_enter Try.func41, Try.ntmps41
  go_wp2_with (first | ((with_reducible refine gD 3 rfl ?_); refine bE 3 #[.int .i64 a0_0, .int .i64 a0_1, .string a0_2, .string a0_3, .slice A0_4 l0_4.length c0_4] 29 ?_; intro gb231 hg w21 hbox hb; have BK231 := Aside0.mk hbox; have GW231 := Aside0.mk (zg (zL HB.out) hg : w.heap.size ≤ gb231); have GE231 := GW231; replace HB := zLB (zL HB.out) hb; clear hb hbox hg; have hcz22 := zc5 BK231.out; have hfz22 := zf5 BK231.out) | ((with_reducible refine gC 39 rfl ?_); refine gL 11 Try.func39 #[.agg #[.int .i64 a0_0, .int .i64 a0_1, .string a0_2, .string a0_3, .slice A0_4 l0_4.length c0_4], .slice A1 l1.length c1, .int .i64 a2] ?_; (with_reducible refine (impl_Wants.calls k a0_0 a0_1 a0_2 a0_3 _ _ l0_4 _ _ l1 a2 false _ ?side1 ?side2 ?side3 ?side4 A4.out).mono ?_); (case side1 => exact zC (Kd.C_below HR0_4.out HB.out)); (case side2 => exact HC0_4.out); (case side3 => exact zC (Kd.C_below HR1.out HB.out)); (case side4 => exact HC1.out); rintro e w23 ⟨rfl, hb⟩; refine ⟨_, rfl, ?_⟩; replace BK231 := zBB BK231 hb; replace HB := zLB (zL1 HB.out GE231.out) hb; clear hb))
  go_ret2
  exact ⟨zW, zL1 HB.out GE231.out⟩

open Go.Proofs.YtfhblnbicnmndaaW.PrintWords renaming blk_drewN → bN, blk_drew → bD, blk_alloc → bA, blk_cell → bC, blk_below → bB, below_set → bS
/-! ### laws_FnExactJudge: function 11 -/
def laws_FnExactJudge.j0 : Nat → List (S70) → List (S73) → Bool → Int → Int → ByteArray → ByteArray → List (S24) → Int → Int → ByteArray → ByteArray → List (S29) → Option (Bool)
 | 0, _, _, _, _, _, _, _, _, _, _, _, _, _ => none
 | k + 1, x1, x11, x51, x236000, x236001, x236002, x236003, x236004, x258000, x258001, x258002, x258003, x258004 => if x51 = true then (some false) else ((laws_toPol.f k x236000 x236001 x236002 x236003 x236004).bind fun bt263 => ((laws_eqPol.f k x258000 x258001 x258002 x258003 x258004 bt263.1 bt263.2.1 bt263.2.2.1 bt263.2.2.2.1 bt263.2.2.2.2).bind fun t270 => (if t270 = true then ((laws_toSpanS.f k x1).bind fun t271 => ((laws_eqSpanS.f k x11 t271).bind fun t274 => (if t274 = true then (some true) else (some false)))) else (some false))))
def laws_FnExactJudge.f (k : Nat) (a0_0 : Int) (a0_1 : Int) (a0_2 : ByteArray) (a0_3 : ByteArray) (l0_4 : List (S24)) (l1 : List (S70)) (a2 : Int) : Option (Bool) := (laws_szPol.f k a0_0 a0_1 a0_2 a0_3 l0_4 1048576).bind fun t236 => (if t236 < 0 then (some true) else ((laws_szSpanS.f k l1 t236).bind fun t237 => (if t237 < 0 then (some true) else ((laws_toPol.f k a0_0 a0_1 a0_2 a0_3 l0_4).bind fun bt238 => ((laws_toSpanS.f k l1).bind fun t245 => ((spec_Judge.f k bt238.1 bt238.2.1 bt238.2.2.1 bt238.2.2.2.1 bt238.2.2.2.2 t245 a2).bind fun bt248 => ((laws_toPol.f k a0_0 a0_1 a0_2 a0_3 l0_4).bind fun bt250 => ((laws_toSpanS.f k l1).bind fun t258 => ((impl_Judge.f k bt250.1 bt250.2.1 bt250.2.2.1 bt250.2.2.2.1 bt250.2.2.2.2 t258 a2).bind fun bt261 => (if (bt261.1 != bt248.1) = true then (laws_FnExactJudge.j0 k l1 t258 true a0_0 a0_1 a0_2 a0_3 l0_4 bt250.1 bt250.2.1 bt250.2.2.1 bt250.2.2.2.1 bt250.2.2.2.2) else (laws_FnExactJudge.j0 k l1 t258 (bt261.2 != bt248.2) a0_0 a0_1 a0_2 a0_3 l0_4 bt250.1 bt250.2.1 bt250.2.2.1 bt250.2.2.2.1 bt250.2.2.2.2)))))))))))
theorem laws_FnExactJudge.j0_bad {k : Nat} {y0 : List (S70)} {y1 : List (S73)} {y3 : Int} {y4 : Int} {y5 : ByteArray} {y6 : ByteArray} {y7 : List (S24)} {y8 : Int} {y9 : Int} {y10 : ByteArray} {y11 : ByteArray} {y12 : List (S29)} {r : Bool} (h : laws_FnExactJudge.j0 k y0 y1 true y3 y4 y5 y6 y7 y8 y9 y10 y11 y12 = some r) (hr : r = true) : False := by
 cases k with
 | zero => simp [laws_FnExactJudge.j0] at h
 | succ k =>
  simp only [laws_FnExactJudge.j0, if_true] at h
  subst hr
  simp at h
set_option maxHeartbeats 8000000 in
set_option maxRecDepth 100000 in
theorem laws_FnExactJudge.calls (k : Nat) (a0_0 : Int) (a0_1 : Int) (a0_2 : ByteArray) (a0_3 : ByteArray) (A0_4 : Option Addr) (c0_4 : Nat) (l0_4 : List (S24)) (A1 : Option Addr) (c1 : Nat) (l1 : List (S70)) (a2 : Int) (r : Bool) (w : World) (hr0_4 : Kd.C k24 w A0_4 l0_4.length l0_4) (hc0_4 : l0_4.length ≤ c0_4) (hr1 : Kd.C k70 w A1 l1.length l1) (hc1 : l1.length ≤ c1) (hrt_ : Aside0 (r = true)) (h : laws_FnExactJudge.f k a0_0 a0_1 a0_2 a0_3 l0_4 l1 a2 = some r) :
  Calls Try.prog 11 #[.agg #[.int .i64 a0_0, .int .i64 a0_1, .string a0_2, .string a0_3, .slice A0_4 l0_4.length c0_4], .slice A1 l1.length c1, .int .i64 a2] w fun e w' => e = .returned (.bool r) ∧ Below w.heap.size w w' := by
 have hu24 := Try.underlying24
 have hu29 := Try.underlying29
 have HR0_4 := Aside0.mk hr0_4
 have HC0_4 := Aside0.mk hc0_4
 clear hr0_4 hc0_4
 have HR1 := Aside0.mk hr1
 have HC1 := Aside0.mk hc1
 clear hr1 hc1
 have HB := Aside0.mk (Below.refl w.heap.size w)
 unfold laws_FnExactJudge.f at h; have H := h
 clear h
 obtain ⟨t236, A4, H⟩ := zO H; try dsimp only at H
 by_cases c5 : t236 < 0
 ·rw [if_pos c5] at H
  have c5b0 := decide_eq_true c5
  clear c5
  obtain rfl := Option.some.inj H
  go_enter Try.func11, Try.ntmps11
  go_wp2_with (first | ((with_reducible refine gD 3 rfl ?_); refine bE 3 #[.int .i64 a0_0, .int .i64 a0_1, .string a0_2, .string a0_3, .slice A0_4 l0_4.length c0_4] 24 ?_; intro gb235 hg w6 hbox hb; have BK235 := Aside0.mk hbox; have GW235 := Aside0.mk (zg (zL HB.out) hg : w.heap.size ≤ gb235); have GE235 := GW235; replace HB := zLB (zL HB.out) hb; clear hb hbox hg; have hcz7 := zc5 BK235.out; have hfz7 := zf5 BK235.out) | ((with_reducible refine gC 13 rfl ?_); refine gL 16 Try.func13 #[.agg #[.int .i64 a0_0, .int .i64 a0_1, .string a0_2, .string a0_3, .slice A0_4 l0_4.length c0_4], .int .i64 1048576] ?_; (with_reducible refine (laws_szPol.calls k a0_0 a0_1 a0_2 a0_3 _ _ l0_4 1048576 t236 _ ?side1 ?side2 A4.out).mono ?_); (case side1 => exact zC (Kd.C_below HR0_4.out HB.out)); (case side2 => exact HC0_4.out); rintro e w8 ⟨rfl, hb⟩; refine ⟨_, rfl, ?_⟩; replace BK235 := zBB BK235 hb; replace HB := zLB (zL1 HB.out GE235.out) hb; clear hb))
  go_ret
  exact ⟨zW, zL1 HB.out GE235.out⟩
 ·rw [if_neg c5] at H
  have c5b0 := decide_eq_false c5
  clear c5
  obtain ⟨t237, A9, H⟩ := zO H; try dsimp only at H
  by_cases c10 : t237 < 0
  ·rw [if_pos c10] at H
   have c10b0 := decide_eq_true c10
   clear c10
   obtain rfl := Option.some.inj H
   go_enter Try.func11, Try.ntmps11
   go_wp2_with (first | ((with_reducible refine gD 3 rfl ?_); refine bE 3 #[.int .i64 a0_0, .int .i64 a0_1, .string a0_2, .string a0_3, .slice A0_4 l0_4.length c0_4] 24 ?_; intro gb235 hg w11 hbox hb; have BK235 := Aside0.mk hbox; have GW235 := Aside0.mk (zg (zL HB.out) hg : w.heap.size ≤ gb235); have GE235 := GW235; replace HB := zLB (zL HB.out) hb; clear hb hbox hg; have hcz12 := zc5 BK235.out; have hfz12 := zf5 BK235.out) | ((with_reducible refine gC 13 rfl ?_); refine gL 16 Try.func13 #[.agg #[.int .i64 a0_0, .int .i64 a0_1, .string a0_2, .string a0_3, .slice A0_4 l0_4.length c0_4], .int .i64 1048576] ?_; (with_reducible refine (laws_szPol.calls k a0_0 a0_1 a0_2 a0_3 _ _ l0_4 1048576 t236 _ ?side1 ?side2 A4.out).mono ?_); (case side1 => exact zC (Kd.C_below HR0_4.out HB.out)); (case side2 => exact HC0_4.out); rintro e w13 ⟨rfl, hb⟩; refine ⟨_, rfl, ?_⟩; replace BK235 := zBB BK235 hb; replace HB := zLB (zL1 HB.out GE235.out) hb; clear hb) | ((with_reducible refine gC 22 rfl ?_); refine gL 21 Try.func22 #[.slice A1 l1.length c1, .int .i64 t236] ?_; (with_reducible refine (laws_szSpanS.calls k _ _ l1 t236 t237 _ ?side1 ?side2 A9.out).mono ?_); (case side1 => exact zC (Kd.C_below HR1.out HB.out)); (case side2 => exact HC1.out); rintro e w14 ⟨rfl, hb⟩; refine ⟨_, rfl, ?_⟩; replace BK235 := zBB BK235 hb; replace HB := zLB (zL1 HB.out GE235.out) hb; clear hb))
   go_ret
   exact ⟨zW, zL1 HB.out GE235.out⟩
  ·rw [if_neg c10] at H
   have c10b0 := decide_eq_false c10
   clear c10
   obtain ⟨⟨t238, t239, t240, t241, t242⟩, A15, H⟩ := zO H; try dsimp only at H
   obtain ⟨t245, A16, H⟩ := zO H; try dsimp only at H
   obtain ⟨⟨t248, t249⟩, A17, H⟩ := zO H; try dsimp only at H
   obtain ⟨⟨t250, t251, t252, t253, t254⟩, A18, H⟩ := zO H; try dsimp only at H
   obtain ⟨t258, A19, H⟩ := zO H; try dsimp only at H
   obtain rfl : t245 = t258 := Option.some.inj (A16.out.symm.trans A19.out)
   clear A19
   obtain ⟨⟨t261, t262⟩, A20, H⟩ := zO H; try dsimp only at H
   have HC21 := Aside0.mk H
   clear H
   go_enter Try.func11, Try.ntmps11
   go_upto_region 12 with (first | ((with_reducible refine gD 3 rfl ?_); refine bE 3 #[.int .i64 a0_0, .int .i64 a0_1, .string a0_2, .string a0_3, .slice A0_4 l0_4.length c0_4] 24 ?_; intro gb235 hg w22 hbox hb; have BK235 := Aside0.mk hbox; have GW235 := Aside0.mk (zg (zL HB.out) hg : w.heap.size ≤ gb235); have GE235 := GW235; replace HB := zLB (zL HB.out) hb; clear hb hbox hg; have hcz23 := zc5 BK235.out; have hfz23 := zf5 BK235.out) | ((with_reducible refine gC 13 rfl ?_); refine gL 16 Try.func13 #[.agg #[.int .i64 a0_0, .int .i64 a0_1, .string a0_2, .string a0_3, .slice A0_4 l0_4.length c0_4], .int .i64 1048576] ?_; (with_reducible refine (laws_szPol.calls k a0_0 a0_1 a0_2 a0_3 _ _ l0_4 1048576 t236 _ ?side1 ?side2 A4.out).mono ?_); (case side1 => exact zC (Kd.C_below HR0_4.out HB.out)); (case side2 => exact HC0_4.out); rintro e w24 ⟨rfl, hb⟩; refine ⟨_, rfl, ?_⟩; replace BK235 := zBB BK235 hb; replace HB := zLB (zL1 HB.out GE235.out) hb; clear hb) | ((with_reducible refine gC 22 rfl ?_); refine gL 21 Try.func22 #[.slice A1 l1.length c1, .int .i64 t236] ?_; (with_reducible refine (laws_szSpanS.calls k _ _ l1 t236 t237 _ ?side1 ?side2 A9.out).mono ?_); (case side1 => exact zC (Kd.C_below HR1.out HB.out)); (case side2 => exact HC1.out); rintro e w25 ⟨rfl, hb⟩; refine ⟨_, rfl, ?_⟩; replace BK235 := zBB BK235 hb; replace HB := zLB (zL1 HB.out GE235.out) hb; clear hb; have hcz26 := zc5 BK235.out; have hfz26 := zf5 BK235.out) | ((with_reducible refine gC 15 rfl ?_); refine gL 26 Try.func15 #[.agg #[.int .i64 a0_0, .int .i64 a0_1, .string a0_2, .string a0_3, .slice A0_4 l0_4.length c0_4]] ?_; (with_reducible refine (laws_toPol.calls k a0_0 a0_1 a0_2 a0_3 _ _ l0_4 t238 t239 t240 t241 t242 _ ?side1 ?side2 A15.out).mono ?_); (case side1 => exact zC (Kd.C_below HR0_4.out HB.out)); (case side2 => exact HC0_4.out); rintro e w27 ⟨v243, rfl, ho0, hb⟩; refine ⟨_, rfl, ?_⟩; have HO244 := Aside0.mk (Kd.R_lower ho0 (below_size (zL1 HB.out GE235.out))); replace BK235 := zBB BK235 hb; replace HB := zLB (zL1 HB.out GE235.out) hb; clear ho0 hb) | ((with_reducible refine gC 24 rfl ?_); refine gL 28 Try.func24 #[.slice A1 l1.length c1] ?_; (with_reducible refine (laws_toSpanS.calls k _ _ l1 t245 _ ?side1 ?side2 A16.out).mono ?_); (case side1 => exact zC (Kd.C_below HR1.out HB.out)); (case side2 => exact HC1.out); rintro e w28 ⟨v246, rfl, ho0, hb⟩; refine ⟨_, rfl, ?_⟩; replace HO244 := zRB HO244 hb; have HO247 := Aside0.mk (Kd.S_lower ho0 (below_size (zL1 HB.out GE235.out))); replace BK235 := zBB BK235 hb; replace HB := zLB (zL1 HB.out GE235.out) hb; clear ho0 hb; obtain ⟨Ao29, co29, eo29⟩ := Kd.R_slice HO244.out; subst eo29; obtain ⟨Ao30, co30, eo30⟩ := Kd.S_slice HO247.out; subst eo30) | ((with_reducible refine gC 40 rfl ?_); refine gL 30 Try.func40 #[.agg #[.int .i64 t238, .int .i64 t239, .string t240, .string t241, .slice Ao29 t242.length co29], .slice Ao30 t245.length co30, .int .i64 a2] ?_; (with_reducible refine (spec_Judge.calls k t238 t239 t240 t241 _ _ t242 _ _ t245 a2 t248 t249 _ ?side1 ?side2 ?side3 ?side4 A17.out).mono ?_); (case side1 => exact zC (Kd.R_reads' HO244.out).2.2); (case side2 => exact (Kd.R_reads' HO244.out).2.1); (case side3 => exact zC (Kd.S_reads' HO247.out).2.2); (case side4 => exact (Kd.S_reads' HO247.out).2.1); rintro e w31 ⟨rfl, hb⟩; refine ⟨_, rfl, ?_⟩; replace HO244 := zRB HO244 hb; replace HO247 := zSB HO247 hb; replace BK235 := zBB BK235 hb; replace HB := zLB (zL1 HB.out GE235.out) hb; clear hb; have hcz32 := zc5 BK235.out; have hfz32 := zf5 BK235.out) | ((with_reducible refine gC 15 rfl ?_); refine gL 34 Try.func15 #[.agg #[.int .i64 a0_0, .int .i64 a0_1, .string a0_2, .string a0_3, .slice A0_4 l0_4.length c0_4]] ?_; (with_reducible refine (laws_toPol.calls k a0_0 a0_1 a0_2 a0_3 _ _ l0_4 t250 t251 t252 t253 t254 _ ?side1 ?side2 A18.out).mono ?_); (case side1 => exact zC (Kd.C_below HR0_4.out HB.out)); (case side2 => exact HC0_4.out); rintro e w33 ⟨v255, rfl, ho0, hb⟩; refine ⟨_, rfl, ?_⟩; replace HO247 := zSB HO247 hb; have HO256 := Aside0.mk (Kd.R_lower (Kd.R_new' ho0 (Kd.R_lt (zR HO244.out))) (below_size (zL1 HB.out GE235.out))); replace HO244 := Aside0.mk (Kd.R_elder' (zR HO244.out) (Kd.R_base ho0) hb); replace BK235 := zBB BK235 hb; replace HB := zLB (zL1 HB.out GE235.out) hb; clear ho0 hb) | ((with_reducible refine gD 10 rfl ?_); refine bE 10 #[.int .i64 0, .int .i64 0, .string (⟨#[]⟩ : ByteArray), .string (⟨#[]⟩ : ByteArray), .slice none 0 0] 29 ?_; intro gb257 hg w34 hbox hb; replace HO244 := Aside0.mk (Kd.R_below (Kd.R_elderB (zR HO244.out) gb257 (Nat.le_of_eq hg.symm)) hb); replace HO247 := zSB HO247 hb; replace HO256 := Aside0.mk (Kd.R_below (Kd.R_elderB (zR HO256.out) gb257 (Nat.le_of_eq hg.symm)) hb); have BK257 := Aside0.mk hbox; have GW257 := Aside0.mk (zg (zL1 HB.out GE235.out) hg : w.heap.size ≤ gb257); have GE257 := GW257; replace HB := zLB (zL1 HB.out GE235.out) hb; have NB235_257 := Aside0.mk (zN BK235.out hg : gb235 ≠ gb257); have NB257_235 := Aside0.mk (zM BK235.out hg : gb257 ≠ gb235); replace BK235 := zBB BK235 hb; clear hb hbox hg; have hnb35 := NB257_235.out; have hnc35 := NB235_257.out; have hcz36 := zc5 BK257.out; have hfz36 := zf5 BK257.out; obtain ⟨Ao37, co37, eo37⟩ := Kd.R_slice HO256.out; subst eo37) | ((with_reducible refine gC 24 rfl ?_); refine gL 36 Try.func24 #[.slice A1 l1.length c1] ?_; (with_reducible refine (laws_toSpanS.calls k _ _ l1 t245 _ ?side1 ?side2 A16.out).mono ?_); (case side1 => exact Kd.C_below HR1.out (zL2 HB.out GE235.out GE257.out)); (case side2 => exact HC1.out); rintro e w38 ⟨v259, rfl, ho0, hb⟩; refine ⟨_, rfl, ?_⟩; replace HO244 := Aside0.mk (Kd.R_below (by (with_reducible repeat (first | apply Kd.R_alloc | apply Kd.R_drewN | apply Kd.R_drew)); exact (Kd.R_mono (zRF5 (Kd.R_mono HO244.out (fun k_ hk => (⟨hk, hk.2⟩ : _ ∧ k_ ≠ gb257))) gb257 (fun _ hk => hk.2) (.int .i64 t250) (.int .i64 t251) (.string t252) (.string t253) (.slice Ao37 t254.length co37)) (fun _ h_ => h_.1))) hb); replace HO256 := Aside0.mk (Kd.R_below (by (with_reducible repeat (first | apply Kd.R_alloc | apply Kd.R_drewN | apply Kd.R_drew)); exact (Kd.R_mono (zRF5 (Kd.R_mono HO256.out (fun k_ hk => (⟨hk, hk.2⟩ : _ ∧ k_ ≠ gb257))) gb257 (fun _ hk => hk.2) (.int .i64 t250) (.int .i64 t251) (.string t252) (.string t253) (.slice Ao37 t254.length co37)) (fun _ h_ => h_.1))) hb); have HO260 := Aside0.mk (Kd.S_lower (Kd.S_new' ho0 (Kd.S_lt (by (with_reducible repeat (first | apply Kd.S_alloc | apply Kd.S_drewN | apply Kd.S_drew)); exact (Kd.S_mono (zSF5 (Kd.S_types HO247.out BK257.out (by decide)) gb257 (fun _ hk => hk.2) (.int .i64 t250) (.int .i64 t251) (.string t252) (.string t253) (.slice Ao37 t254.length co37)) (fun _ h_ => h_.1))))) (below_size (zL2 HB.out GE235.out GE257.out))); replace HO247 := Aside0.mk (Kd.S_elder' (by (with_reducible repeat (first | apply Kd.S_alloc | apply Kd.S_drewN | apply Kd.S_drew)); exact (Kd.S_mono (zSF5 (Kd.S_types HO247.out BK257.out (by decide)) gb257 (fun _ hk => hk.2) (.int .i64 t250) (.int .i64 t251) (.string t252) (.string t253) (.slice Ao37 t254.length co37)) (fun _ h_ => h_.1))) (Kd.S_base ho0) hb); replace BK235 := Aside0.mk (bB (g := gb235) (o := .cells #[.int .i64 a0_0, .int .i64 a0_1, .string a0_2, .string a0_3, .slice A0_4 l0_4.length c0_4] 24 (0, 0)) (by refine zB ?_; refine zr5 ?_ NB235_257.out; exact zB BK235.out) hb); replace BK257 := Aside0.mk (bB (g := gb257) (o := .cells #[.int .i64 t250, .int .i64 t251, .string t252, .string t253, .slice Ao37 t254.length co37] 29 (0, 0)) (by refine zB ?_; refine zp5 (cs := #[.int .i64 0, .int .i64 0, .string (⟨#[]⟩ : ByteArray), .string (⟨#[]⟩ : ByteArray), .slice none 0 0]) ?_; exact zB BK257.out) hb); replace HB := zLB (zL2 HB.out GE235.out GE257.out) hb; clear ho0 hb; have hcz39 := zc5 BK257.out; have hfz39 := zf5 BK257.out; obtain ⟨Ao40, co40, eo40⟩ := Kd.S_slice HO260.out; subst eo40) | ((with_reducible refine gC 41 rfl ?_); refine gL 41 Try.func41 #[.agg #[.int .i64 t250, .int .i64 t251, .string t252, .string t253, .slice Ao37 t254.length co37], .slice Ao40 t245.length co40, .int .i64 a2] ?_; (with_reducible refine (impl_Judge.calls k t250 t251 t252 t253 _ _ t254 _ _ t245 a2 t261 t262 _ ?side1 ?side2 ?side3 ?side4 A20.out).mono ?_); (case side1 => exact zC (Kd.R_reads' HO256.out).2.2); (case side2 => exact (Kd.R_reads' HO256.out).2.1); (case side3 => exact zC (Kd.S_reads' HO260.out).2.2); (case side4 => exact (Kd.S_reads' HO260.out).2.1); rintro e w41 ⟨rfl, hb⟩; refine ⟨_, rfl, ?_⟩; replace HO244 := zRB HO244 hb; replace HO247 := zSB HO247 hb; replace HO256 := zRB HO256 hb; replace HO260 := zSB HO260 hb; replace BK235 := zBB BK235 hb; replace BK257 := zBB BK257 hb; replace HB := zLB (zL2 HB.out GE235.out GE257.out) hb; clear hb))
   (try simp only [Act.put, List.setIfInBounds_toArray, List.set_cons_zero, List.set_cons_succ])
   go_cut [51] (fun v51 wc => ∃ (kq : Nat) (x51_20 : Bool), v51 = .bool x51_20 ∧ Aside0 (laws_FnExactJudge.j0 kq l1 t245 x51_20 a0_0 a0_1 a0_2 a0_3 l0_4 t250 t251 t252 t253 t254 = some r) ∧ Aside0 (kq ≤ k) ∧ Aside0 (Kd.S k73 73 wc w.heap.size (fun _ => True) (.slice Ao40 t245.length co40) t245) ∧ Aside0 (Kd.R k29 29 wc w.heap.size (fun k_ => k_ ≠ gb257) (.slice Ao37 t254.length co37) t254) ∧ Aside0 (wc.heap[gb235]? = some (.cells #[.int .i64 a0_0, .int .i64 a0_1, .string a0_2, .string a0_3, (.slice A0_4 l0_4.length c0_4)] 24 (0, 0))) ∧ Aside0 (wc.heap[gb257]? = some (.cells #[.int .i64 t250, .int .i64 t251, .string t252, .string t253, (.slice Ao37 t254.length co37)] 29 (0, 0))) ∧ Aside0 (Below w.heap.size w wc))
   case first =>
    have H := HC21.out
    clear HC21
    by_cases c42 : (t261 != t248) = true
    ·rw [if_pos c42] at H
     exact (laws_FnExactJudge.j0_bad H hrt_.out).elim
    ·rw [if_neg c42] at H
     have c42b0 : (t261 != t248) = false := by simpa using c42
     (try (have c42b1 : decide (t261 = t248) = true := by simpa using c42))
     (try (have c42b2 : (t261 == t248) = true := by simpa using c42))
     clear c42
     (first | rw [c42b0] | (simp only [i64_w, i32_w]; rw [c42b0]) | skip)
     have H' := Aside0.mk H
     clear H
     go_wp2
     go_meet
     case rel => exact ⟨_, ((t262 != t249)), zV, H', ⟨by first | omega | exact Nat.le_refl _⟩, ⟨zSm HO260.out (fun _ hk => trivial)⟩, ⟨zRm HO256.out (fun _ hk => hk.2)⟩, ⟨zB BK235.out⟩, ⟨zB BK257.out⟩, ⟨zL2 HB.out GE235.out GE257.out⟩⟩
   case rest =>
    clear HC21
    try clear c1
    try clear c2
    try clear p2
    try clear c3
    try clear c4
    try clear c5
    try clear c5b0
    try clear c10
    try clear c10b0
    try clear c11
    try clear c13
    try clear c15
    try clear c22
    try clear c24
    try clear c35
    try clear c40
    try clear c41
    try clear c42
    try clear c42b0
    try clear c42b1
    try clear c42b2
    try clear hcz12; try clear hcz23; try clear hcz26; try clear hcz32; try clear hcz36; try clear hcz39; try clear hcz7; try clear hfz12; try clear hfz23; try clear hfz26; try clear hfz32; try clear hfz36; try clear hfz39; try clear hfz7
    obtain ⟨kq, x51_20, rfl, HA, HJ20, HO_11, HO_258004, BK235, BK257, HB⟩ := hcut
    cases kq with
    | zero => exact absurd HA.out (by simp [laws_FnExactJudge.j0])
    | succ kj20 =>
     have H := HA.out
     clear HA
     simp only [laws_FnExactJudge.j0] at H
     by_cases c43 : x51_20 = true
     ·subst c43
      rw [if_pos rfl] at H
      exact absurd ((Option.some.inj H).trans hrt_.out) (by decide)
     ·obtain rfl := Bool.eq_false_iff.mpr c43
      rw [if_neg zn] at H
      obtain ⟨⟨t263, t264, t265, t266, t267⟩, A44, H⟩ := zO H; try dsimp only at H
      obtain ⟨t270, A45, H⟩ := zO H; try dsimp only at H
      by_cases c46 : t270 = true
      ·subst c46
       rw [if_pos rfl] at H
       obtain ⟨t271, A47, H⟩ := zO H; try dsimp only at H
       obtain ⟨t274, A48, H⟩ := zO H; try dsimp only at H
       by_cases c49 : t274 = true
       ·subst c49
        rw [if_pos rfl] at H
        obtain rfl := Option.some.inj H
        try go_wp2
        replace HO_11 := zSD HO_11; replace HO_258004 := zRD HO_258004; replace BK235 := zBD BK235; replace BK257 := zBD BK257; replace HB := zLD HB
        refine start_ (n := 5) (S := fun w' => zt5 w' gb257 (.int .i64 t250) (.int .i64 t251) (.string t252) (.string t253) (.slice Ao37 t254.length co37) (zs5 w' gb235 (.int .i64 a0_0) (.int .i64 a0_1) (.string a0_2) (.string a0_3) (.slice A0_4 l0_4.length c0_4))) (ds := []) (fB 5 0) (by kernel_rfl) rfl rfl (zk5 BK257.out (zc5 BK235.out)) (fun hHeld => ?_)
        generalize wc.drew = w50 at HO_11 HO_258004 BK235 BK257 HB hHeld ⊢
        refine take_ (i := 0) (N := some 52) (v := ?_) (a' := ?_) (fB 5 1) rfl rfl (by kernel_rfl) (fun _ _ _ h => h) (Or.inl ⟨by rfl, ?_⟩) hHeld ?_ ?_
        rotate_left
        ·rintro w' ⟨s0, s1, s2, s3, s4, s5, s6, s7, s8, s9⟩; go_simp; with_reducible rfl
        rotate_left
        ·exact zP
        refine take_ (i := 1) (N := some 53) (v := ?_) (a' := ?_) (fB 5 3) rfl rfl (by kernel_rfl) (fun _ _ _ h => h) (Or.inl ⟨by rfl, ?_⟩) hHeld ?_ ?_
        rotate_left
        ·rintro w' ⟨s0, s1, s2, s3, s4, s5, s6, s7, s8, s9⟩; go_simp; with_reducible rfl
        rotate_left
        ·exact zP
        refine one_ (i := 2) (N := some 54) (fB 5 7) rfl rfl (by kernel_rfl) (by decide) (fun K hK => ?_)
        refine gS Try.func15 #[.agg #[.int .i64 a0_0, .int .i64 a0_1, .string a0_2, .string a0_3, .slice A0_4 l0_4.length c0_4]] ?_
        with_reducible refine (laws_toPol.calls kj20 a0_0 a0_1 a0_2 a0_3 _ _ l0_4 t263 t264 t265 t266 t267 _ ?side1 ?side2 A44.out).mono ?_
        (case side1 => exact zC (Kd.C_below HR0_4.out HB.out))
        (case side2 => exact HC0_4.out)
        rintro e w51 ⟨v268, rfl, ho0, hb⟩
        refine ⟨_, rfl, ?_⟩
        replace HO_11 := zSB HO_11 hb; have HO269 := Aside0.mk (Kd.R_lower (Kd.R_newB (Kd.R_new' ho0 (Kd.R_lt (zR HO_258004.out))) (g := gb257) (o := .cells #[.int .i64 t250, .int .i64 t251, .string t252, .string t253, .slice Ao37 t254.length co37] 29 (0, 0)) (zB BK257.out)) (below_size (zL2 HB.out GE235.out GE257.out))); replace HO_258004 := Aside0.mk (Kd.R_elder' (zR HO_258004.out) (Kd.R_base ho0) hb); replace BK235 := zBB BK235 hb; replace BK257 := zBB BK257 hb; replace HB := zLB (zL2 HB.out GE235.out GE257.out) hb
        clear ho0 hb
        (try clear ho0)
        obtain ⟨Ao52, co52, eo52⟩ := Kd.R_slice HO269.out
        (first | subst eo52 | (injection eo52 with f1_ f2_ f3_; have f4_ := f1_.symm; have f5_ := f3_.symm; clear f1_ f2_ f3_; subst f4_; subst f5_))
        refine hK.out _ _ (zk5 BK257.out (zc5 BK235.out)) fun hHeld => ?_; clear hK K
        refine nZ 54 ?_
        refine one_ (i := 3) (N := some 55) (fB 5 15) rfl rfl (by kernel_rfl) (by decide) (fun K hK => ?_)
        refine gS Try.func17 #[.agg #[.int .i64 t250, .int .i64 t251, .string t252, .string t253, .slice Ao37 t254.length co37], .agg #[.int .i64 t263, .int .i64 t264, .string t265, .string t266, .slice Ao52 t267.length co52]] ?_
        with_reducible refine (laws_eqPol.calls kj20 t250 t251 t252 t253 _ _ t254 t263 t264 t265 t266 _ _ t267 true _ ?side1 ?side2 ?side3 ?side4 A45.out).mono ?_
        (case side1 => exact zC (Kd.R_reads' HO_258004.out).2.2)
        (case side2 => exact (Kd.R_reads' HO_258004.out).2.1)
        (case side3 => exact zC (Kd.R_reads' HO269.out).2.2)
        (case side4 => exact (Kd.R_reads' HO269.out).2.1)
        rintro e w53 ⟨rfl, hb⟩
        refine ⟨_, rfl, ?_⟩
        replace HO_11 := zSB HO_11 hb; replace HO_258004 := zRB HO_258004 hb; replace HO269 := zRB HO269 hb; replace BK235 := zBB BK235 hb; replace BK257 := zBB BK257 hb; replace HB := zLB (zL2 HB.out GE235.out GE257.out) hb
        clear hb
        refine hK.out _ _ (zk5 BK257.out (zc5 BK235.out)) fun hHeld => ?_; clear hK K
        refine nZ 55 ?_
        refine pure_ (i := 4) (N := some 56) (v := ?_) (a' := ?_) (fB 5 31) rfl rfl (by kernel_rfl) (fun _ _ _ h => h) (Or.inl ⟨by rfl, ?_⟩) ?_ ?_
        rotate_left
        ·intro w'; go_simp; with_reducible rfl
        rotate_left
        ·exact zP
        refine done_ (by kernel_rfl) ?_
        try go_wp2_with (first | ((with_reducible refine gC 24 rfl ?_); refine gL 59 Try.func24 #[.slice A1 l1.length c1] ?_; (with_reducible refine (laws_toSpanS.calls kj20 _ _ l1 t271 _ ?side1 ?side2 A47.out).mono ?_); (case side1 => exact zC (Kd.C_below HR1.out HB.out)); (case side2 => exact HC1.out); rintro e w54 ⟨v272, rfl, ho0, hb⟩; refine ⟨_, rfl, ?_⟩; replace HO_258004 := zRB HO_258004 hb; replace HO269 := zRB HO269 hb; have HO273 := Aside0.mk (Kd.S_lower (Kd.S_new' ho0 (Kd.S_lt (zS HO_11.out))) (below_size (zL2 HB.out GE235.out GE257.out))); replace HO_11 := Aside0.mk (Kd.S_elder' (zS HO_11.out) (Kd.S_base ho0) hb); replace BK235 := zBB BK235 hb; replace BK257 := zBB BK257 hb; replace HB := zLB (zL2 HB.out GE235.out GE257.out) hb; clear ho0 hb; obtain ⟨Ao55, co55, eo55⟩ := Kd.S_slice HO273.out; subst eo55) | ((with_reducible refine gC 26 rfl ?_); refine gL 60 Try.func26 #[.slice Ao40 t245.length co40, .slice Ao55 t271.length co55] ?_; (with_reducible refine (laws_eqSpanS.calls kj20 _ _ t245 _ _ t271 true _ ?side1 ?side2 ?side3 ?side4 A48.out).mono ?_); (case side1 => exact zC (Kd.S_reads' HO_11.out).2.2); (case side2 => exact (Kd.S_reads' HO_11.out).2.1); (case side3 => exact zC (Kd.S_reads' HO273.out).2.2); (case side4 => exact (Kd.S_reads' HO273.out).2.1); rintro e w56 ⟨rfl, hb⟩; refine ⟨_, rfl, ?_⟩; replace HO_11 := zSB HO_11 hb; replace HO_258004 := zRB HO_258004 hb; replace HO269 := zRB HO269 hb; replace HO273 := zSB HO273 hb; replace BK235 := zBB BK235 hb; replace BK257 := zBB BK257 hb; replace HB := zLB (zL2 HB.out GE235.out GE257.out) hb; clear hb))
        go_ret
        exact ⟨zW, zL2 HB.out GE235.out GE257.out⟩
       ·obtain rfl := Bool.eq_false_iff.mpr c49
        rw [if_neg zn] at H
        exact absurd ((Option.some.inj H).trans hrt_.out) (by decide)
      ·obtain rfl := Bool.eq_false_iff.mpr c46
       rw [if_neg zn] at H
       exact absurd ((Option.some.inj H).trans hrt_.out) (by decide)

end Go.Proofs.Ytfhblnbicnmndaa.QFnExactJudge
