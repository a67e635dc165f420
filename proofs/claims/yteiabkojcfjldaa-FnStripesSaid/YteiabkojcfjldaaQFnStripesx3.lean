/- What the Go functions that the law FnStripes reaches answer: each as a Lean function, with its walk. Written by a program of this session. Conditions: those that each theorem names. -/
import Derived.Test.YteiabkojcfjldaaQFnStripesx0
import Derived.Test.YteiabkojcfjldaaQFnStripesx1
import Derived.Test.YteiabkojcfjldaaQFnStripesx2
namespace Go.Proofs.Yteiabkojcfjldaa.QFnStripes
open Go.RowKit Go.Proofs.YteiabkojcfjldaaW.PrintWords Go.Proofs.YteiabkojcfjldaaW.PrintLast Go.Proofs.YteiabkojcfjldaaW.PrintMore
attribute [local go_sem] max2_int min2_int max_two min_two max_three min_three max_four min_four   -- for this text's walks alone
set_option linter.unusedVariables false
set_option linter.unusedSimpArgs false

/-! ### laws_FnStripes: function 11 -/
mutual
def laws_FnStripes.j0 : Nat → List Int → Int → Int → Int → Int → List Int → List Int → Bool → Option (Bool)
  | 0, _, _, _, _, _, _, _, _ => none
  | k + 1, x0, x3, x4, x6, x7, x8, x10, x69 => if x69 = true then (some false) else (laws_FnStripes.l0 k x0 x3 x4 x6 x7 x8 x10 0 0)
def laws_FnStripes.l0 : Nat → List Int → Int → Int → Int → Int → List Int → List Int → Int → Int → Option (Bool)
  | 0, _, _, _, _, _, _, _, _, _ => none
  | k + 1, x0, x3, x4, x6, x7, x8, x10, x11, x12 => if x12 < (x10.length : Int) then (if 0 ≤ x12 then (laws_FnStripes.l0 k x0 x3 x4 x6 x7 x8 x10 (wrap64 (x11 + (rd x10 x12))) (wrap64 (x12 + 1))) else (none)) else ((laws_at.f x0 2).bind fun t227 => (if (x10.length : Int) = 0 then (if x7 ≥ 0 then (if x6 < 1 then (if (Go.bits .and .i64 (Go.bits .xor .i64 x3 (wrap64 (1 + (wrap64 (t227 * 257))))) 65535) = (Go.bits .and .i64 x3 65535) then (some true) else ((impl_Mix.f (Go.bits .and .i64 (Go.bits .xor .i64 x3 (wrap64 (1 + (wrap64 (t227 * 257))))) 65535)).bind fun t228 => (some (t228 != x4)))) else (if x7 < x6 then (if (Go.bits .and .i64 (Go.bits .xor .i64 x3 (wrap64 (1 + (wrap64 (t227 * 257))))) 65535) = (Go.bits .and .i64 x3 65535) then (some true) else ((impl_Mix.f (Go.bits .and .i64 (Go.bits .xor .i64 x3 (wrap64 (1 + (wrap64 (t227 * 257))))) 65535)).bind fun t229 => (some (t229 != x4)))) else (some false))) else (some false)) else (if x11 = (x8.length : Int) then (if x7 ≥ 0 then (if x6 < 1 then (if (Go.bits .and .i64 (Go.bits .xor .i64 x3 (wrap64 (1 + (wrap64 (t227 * 257))))) 65535) = (Go.bits .and .i64 x3 65535) then (some true) else ((impl_Mix.f (Go.bits .and .i64 (Go.bits .xor .i64 x3 (wrap64 (1 + (wrap64 (t227 * 257))))) 65535)).bind fun t230 => (some (t230 != x4)))) else (if x7 < x6 then (if (Go.bits .and .i64 (Go.bits .xor .i64 x3 (wrap64 (1 + (wrap64 (t227 * 257))))) 65535) = (Go.bits .and .i64 x3 65535) then (some true) else ((impl_Mix.f (Go.bits .and .i64 (Go.bits .xor .i64 x3 (wrap64 (1 + (wrap64 (t227 * 257))))) 65535)).bind fun t231 => (some (t231 != x4)))) else (some false))) else (some false)) else (some false))))
end
def laws_FnStripes.f (k : Nat) (l0 : List Int) : Option (Bool) := (laws_big.f l0).bind fun t206 => (if t206 = true then (some true) else ((spec_DrawMix.f k l0).bind fun t207 => ((impl_Mix.f t207).bind fun t208 => ((spec_DrawStripeOf.f k l0).bind fun bt209 => ((impl_StripeOf.f bt209.1 bt209.2).bind fun t211 => ((spec_DrawSpread.f k l0).bind fun bt212 => ((impl_Spread.f k bt212.1 bt212.2).bind fun t216 => ((spec_Mix.f t207).bind fun t219 => (if t208 = t219 then ((spec_StripeOf.f bt209.1 bt209.2).bind fun t220 => (if t211 = t220 then ((spec_Spread.f k bt212.1 bt212.2).bind fun t221 => ((laws_sameInts.f k t216 t221).bind fun t224 => (if t224 = true then (if t208 < 0 then (laws_FnStripes.j0 k l0 t207 t208 bt209.2 t211 bt212.1 t216 true) else (if t208 > 65535 then (laws_FnStripes.j0 k l0 t207 t208 bt209.2 t211 bt212.1 t216 true) else ((impl_Mix.f (Go.bits .and .i64 t207 65535)).bind fun t225 => (laws_FnStripes.j0 k l0 t207 t208 bt209.2 t211 bt212.1 t216 (t225 != t208))))) else (laws_FnStripes.j0 k l0 t207 t208 bt209.2 t211 bt212.1 t216 true)))) else (laws_FnStripes.j0 k l0 t207 t208 bt209.2 t211 bt212.1 t216 true))) else (laws_FnStripes.j0 k l0 t207 t208 bt209.2 t211 bt212.1 t216 true))))))))))
theorem laws_FnStripes.mono_l : ∀ k, (∀ y0 y1 y2 y3 y4 y5 y6 y7, LeO (laws_FnStripes.j0 k y0 y1 y2 y3 y4 y5 y6 y7) (laws_FnStripes.j0 (k + 1) y0 y1 y2 y3 y4 y5 y6 y7)) ∧ (∀ y0 y1 y2 y3 y4 y5 y6 y7 y8, LeO (laws_FnStripes.l0 k y0 y1 y2 y3 y4 y5 y6 y7 y8) (laws_FnStripes.l0 (k + 1) y0 y1 y2 y3 y4 y5 y6 y7 y8))
  | 0 => ⟨fun _ _ _ _ _ _ _ _ r h => by simp [laws_FnStripes.j0] at h, fun _ _ _ _ _ _ _ _ _ r h => by simp [laws_FnStripes.l0] at h⟩
  | k + 1 => by
    obtain ⟨ih0, ih1⟩ := laws_FnStripes.mono_l k
    refine ⟨?_, ?_⟩
    · intro y0 y1 y2 y3 y4 y5 y6 y7
      unfold laws_FnStripes.j0
      repeat' first
      | (with_reducible exact ih0 _ _ _ _ _ _ _ _)
      | (with_reducible exact ih1 _ _ _ _ _ _ _ _ _)
      | (with_reducible exact impl_Spread.mono _ _ _)
      | (with_reducible exact laws_sameInts.mono _ _ _)
      | (with_reducible exact spec_DrawMix.mono _ _)
      | (with_reducible exact spec_DrawSpread.mono _ _)
      | (with_reducible exact spec_DrawStripeOf.mono _ _)
      | (with_reducible exact spec_Spread.mono _ _ _)
      | (with_reducible exact LeO.refl _)
      | (with_reducible exact LeO.none _)
      | (with_reducible refine LeO.ite ?_ ?_)
      | (with_reducible refine LeO.bind ?_ (fun _ => ?_))
      | exact ih0 _ _ _ _ _ _ _ _
      | exact ih1 _ _ _ _ _ _ _ _ _
      | exact impl_Spread.mono _ _ _
      | exact laws_sameInts.mono _ _ _
      | exact spec_DrawMix.mono _ _
      | exact spec_DrawSpread.mono _ _
      | exact spec_DrawStripeOf.mono _ _
      | exact spec_Spread.mono _ _ _
      | exact LeO.none _
      | refine LeO.ite ?_ ?_
      | refine LeO.bind ?_ (fun _ => ?_)
    · intro y0 y1 y2 y3 y4 y5 y6 y7 y8
      unfold laws_FnStripes.l0
      repeat' first
      | (with_reducible exact ih0 _ _ _ _ _ _ _ _)
      | (with_reducible exact ih1 _ _ _ _ _ _ _ _ _)
      | (with_reducible exact impl_Spread.mono _ _ _)
      | (with_reducible exact laws_sameInts.mono _ _ _)
      | (with_reducible exact spec_DrawMix.mono _ _)
      | (with_reducible exact spec_DrawSpread.mono _ _)
      | (with_reducible exact spec_DrawStripeOf.mono _ _)
      | (with_reducible exact spec_Spread.mono _ _ _)
      | (with_reducible exact LeO.refl _)
      | (with_reducible exact LeO.none _)
      | (with_reducible refine LeO.ite ?_ ?_)
      | (with_reducible refine LeO.bind ?_ (fun _ => ?_))
      | exact ih0 _ _ _ _ _ _ _ _
      | exact ih1 _ _ _ _ _ _ _ _ _
      | exact impl_Spread.mono _ _ _
      | exact laws_sameInts.mono _ _ _
      | exact spec_DrawMix.mono _ _
      | exact spec_DrawSpread.mono _ _
      | exact spec_DrawStripeOf.mono _ _
      | exact spec_Spread.mono _ _ _
      | exact LeO.none _
      | refine LeO.ite ?_ ?_
      | refine LeO.bind ?_ (fun _ => ?_)
theorem laws_FnStripes.mono : ∀ a0 k, LeO (laws_FnStripes.f k a0) (laws_FnStripes.f (k + 1) a0) := by
  intro a0 k
  obtain ⟨ih0, ih1⟩ := laws_FnStripes.mono_l k
  unfold laws_FnStripes.f
  repeat' first
      | (with_reducible exact ih0 _ _ _ _ _ _ _ _)
      | (with_reducible exact ih1 _ _ _ _ _ _ _ _ _)
      | (with_reducible exact impl_Spread.mono _ _ _)
      | (with_reducible exact laws_sameInts.mono _ _ _)
      | (with_reducible exact spec_DrawMix.mono _ _)
      | (with_reducible exact spec_DrawSpread.mono _ _)
      | (with_reducible exact spec_DrawStripeOf.mono _ _)
      | (with_reducible exact spec_Spread.mono _ _ _)
      | (with_reducible exact LeO.refl _)
      | (with_reducible exact LeO.none _)
      | (with_reducible refine LeO.ite ?_ ?_)
      | (with_reducible refine LeO.bind ?_ (fun _ => ?_))
      | exact ih0 _ _ _ _ _ _ _ _
      | exact ih1 _ _ _ _ _ _ _ _ _
      | exact impl_Spread.mono _ _ _
      | exact laws_sameInts.mono _ _ _
      | exact spec_DrawMix.mono _ _
      | exact spec_DrawSpread.mono _ _
      | exact spec_DrawStripeOf.mono _ _
      | exact spec_Spread.mono _ _ _
      | exact LeO.none _
      | refine LeO.ite ?_ ?_
      | refine LeO.bind ?_ (fun _ => ?_)
set_option maxHeartbeats 8000000 in
set_option maxRecDepth 100000 in
theorem laws_FnStripes.calls (k : Nat) (A0 : Option Addr) (c0 : Nat) (l0 : List Int) (r : Bool) (w : World) (hr0 : Kd.C (Kd.int .u8) w A0 l0.length l0) (hc0 : l0.length ≤ c0) (hrt_ : Aside0 (r = true)) (h : laws_FnStripes.f k l0 = some r) :
    Calls Try.prog 11 #[.slice A0 l0.length c0] w fun e w' => e = .returned (.bool r) ∧ Below w.heap.size w w' := by
  have HR0 := Aside0.mk hr0
  have HC0 := Aside0.mk hc0
  clear hr0 hc0
  have HB := Aside0.mk (Below.refl w.heap.size w)
  have H : ((laws_big.f l0).bind fun t206 => (if t206 = true then (some true) else ((spec_DrawMix.f k l0).bind fun t207 => ((impl_Mix.f t207).bind fun t208 => ((spec_DrawStripeOf.f k l0).bind fun bt209 => ((impl_StripeOf.f bt209.1 bt209.2).bind fun t211 => ((spec_DrawSpread.f k l0).bind fun bt212 => ((impl_Spread.f k bt212.1 bt212.2).bind fun t216 => ((spec_Mix.f t207).bind fun t219 => (if t208 = t219 then ((spec_StripeOf.f bt209.1 bt209.2).bind fun t220 => (if t211 = t220 then ((spec_Spread.f k bt212.1 bt212.2).bind fun t221 => ((laws_sameInts.f k t216 t221).bind fun t224 => (if t224 = true then (if t208 < 0 then (laws_FnStripes.j0 k l0 t207 t208 bt209.2 t211 bt212.1 t216 true) else (if t208 > 65535 then (laws_FnStripes.j0 k l0 t207 t208 bt209.2 t211 bt212.1 t216 true) else ((impl_Mix.f (Go.bits .and .i64 t207 65535)).bind fun t225 => (laws_FnStripes.j0 k l0 t207 t208 bt209.2 t211 bt212.1 t216 (t225 != t208))))) else (laws_FnStripes.j0 k l0 t207 t208 bt209.2 t211 bt212.1 t216 true)))) else (laws_FnStripes.j0 k l0 t207 t208 bt209.2 t211 bt212.1 t216 true))) else (laws_FnStripes.j0 k l0 t207 t208 bt209.2 t211 bt212.1 t216 true))))))))))) = some r := h
  clear h
  replace H := Option.bind_eq_some_iff.mp H
  obtain ⟨t206, A20, H⟩ := H
  replace H : (if t206 = true then (some true) else ((spec_DrawMix.f k l0).bind fun t207 => ((impl_Mix.f t207).bind fun t208 => ((spec_DrawStripeOf.f k l0).bind fun bt209 => ((impl_StripeOf.f bt209.1 bt209.2).bind fun t211 => ((spec_DrawSpread.f k l0).bind fun bt212 => ((impl_Spread.f k bt212.1 bt212.2).bind fun t216 => ((spec_Mix.f t207).bind fun t219 => (if t208 = t219 then ((spec_StripeOf.f bt209.1 bt209.2).bind fun t220 => (if t211 = t220 then ((spec_Spread.f k bt212.1 bt212.2).bind fun t221 => ((laws_sameInts.f k t216 t221).bind fun t224 => (if t224 = true then (if t208 < 0 then (laws_FnStripes.j0 k l0 t207 t208 bt209.2 t211 bt212.1 t216 true) else (if t208 > 65535 then (laws_FnStripes.j0 k l0 t207 t208 bt209.2 t211 bt212.1 t216 true) else ((impl_Mix.f (Go.bits .and .i64 t207 65535)).bind fun t225 => (laws_FnStripes.j0 k l0 t207 t208 bt209.2 t211 bt212.1 t216 (t225 != t208))))) else (laws_FnStripes.j0 k l0 t207 t208 bt209.2 t211 bt212.1 t216 true)))) else (laws_FnStripes.j0 k l0 t207 t208 bt209.2 t211 bt212.1 t216 true))) else (laws_FnStripes.j0 k l0 t207 t208 bt209.2 t211 bt212.1 t216 true)))))))))) = some r := H
  have A2 := Aside0.mk A20
  clear A20
  by_cases c3 : t206 = true
  · subst c3
    have H1 : (some true) = some r := by rw [if_pos rfl] at H; exact H
    clear H
    have H := H1
    clear H1
    obtain rfl := Option.some.inj H
    go_enter Try.func11, Try.ntmps11
    go_wp2_with (first | ((with_reducible refine gate_callee (f := 27) rfl ?_); refine goesL_ (some 15) rfl rfl Try.func27 (by kernel_rfl) rfl #[.slice A0 l0.length c0] rfl (by (try simp only [List.map_toArray, List.map_cons, List.map_nil]); first | done | rfl | (simp only [List.length_drop, List.length_take]; rfl)) ?_; (with_reducible refine (laws_big.calls _ _ l0 true _ ?side1 ?side2 A2.out).mono ?_); (case side1 => repeat (first | exact HR0.out | (with_reducible refine Kd.C_alloc ?_ _) | (with_reducible refine Kd.C_drewN ?_ _) | (with_reducible refine Kd.C_drew ?_))); (case side2 => exact HC0.out); rintro e w' ⟨rfl, ⟨nd, rfl⟩⟩; refine ⟨_, rfl, ?_⟩))
    go_ret
    exact ⟨by first | rfl | (simp [errW_none, errW_some] <;> rfl) | (simp [*, errW_none, errW_some] <;> rfl), by repeat (first | (with_reducible first | exact HB.out | apply below_alloc | apply pw_below_drewN | apply below_drew1) | exact HB.out)⟩
  · replace c3 := Bool.eq_false_iff.mpr c3
    subst c3
    have H1 : ((spec_DrawMix.f k l0).bind fun t207 => ((impl_Mix.f t207).bind fun t208 => ((spec_DrawStripeOf.f k l0).bind fun bt209 => ((impl_StripeOf.f bt209.1 bt209.2).bind fun t211 => ((spec_DrawSpread.f k l0).bind fun bt212 => ((impl_Spread.f k bt212.1 bt212.2).bind fun t216 => ((spec_Mix.f t207).bind fun t219 => (if t208 = t219 then ((spec_StripeOf.f bt209.1 bt209.2).bind fun t220 => (if t211 = t220 then ((spec_Spread.f k bt212.1 bt212.2).bind fun t221 => ((laws_sameInts.f k t216 t221).bind fun t224 => (if t224 = true then (if t208 < 0 then (laws_FnStripes.j0 k l0 t207 t208 bt209.2 t211 bt212.1 t216 true) else (if t208 > 65535 then (laws_FnStripes.j0 k l0 t207 t208 bt209.2 t211 bt212.1 t216 true) else ((impl_Mix.f (Go.bits .and .i64 t207 65535)).bind fun t225 => (laws_FnStripes.j0 k l0 t207 t208 bt209.2 t211 bt212.1 t216 (t225 != t208))))) else (laws_FnStripes.j0 k l0 t207 t208 bt209.2 t211 bt212.1 t216 true)))) else (laws_FnStripes.j0 k l0 t207 t208 bt209.2 t211 bt212.1 t216 true))) else (laws_FnStripes.j0 k l0 t207 t208 bt209.2 t211 bt212.1 t216 true))))))))) = some r := by rw [if_neg (show ¬ (false = true) by decide)] at H; exact H
    clear H
    have H := H1
    clear H1
    replace H := Option.bind_eq_some_iff.mp H
    obtain ⟨t207, A40, H⟩ := H
    replace H : ((impl_Mix.f t207).bind fun t208 => ((spec_DrawStripeOf.f k l0).bind fun bt209 => ((impl_StripeOf.f bt209.1 bt209.2).bind fun t211 => ((spec_DrawSpread.f k l0).bind fun bt212 => ((impl_Spread.f k bt212.1 bt212.2).bind fun t216 => ((spec_Mix.f t207).bind fun t219 => (if t208 = t219 then ((spec_StripeOf.f bt209.1 bt209.2).bind fun t220 => (if t211 = t220 then ((spec_Spread.f k bt212.1 bt212.2).bind fun t221 => ((laws_sameInts.f k t216 t221).bind fun t224 => (if t224 = true then (if t208 < 0 then (laws_FnStripes.j0 k l0 t207 t208 bt209.2 t211 bt212.1 t216 true) else (if t208 > 65535 then (laws_FnStripes.j0 k l0 t207 t208 bt209.2 t211 bt212.1 t216 true) else ((impl_Mix.f (Go.bits .and .i64 t207 65535)).bind fun t225 => (laws_FnStripes.j0 k l0 t207 t208 bt209.2 t211 bt212.1 t216 (t225 != t208))))) else (laws_FnStripes.j0 k l0 t207 t208 bt209.2 t211 bt212.1 t216 true)))) else (laws_FnStripes.j0 k l0 t207 t208 bt209.2 t211 bt212.1 t216 true))) else (laws_FnStripes.j0 k l0 t207 t208 bt209.2 t211 bt212.1 t216 true)))))))) = some r := H
    have A4 := Aside0.mk A40
    clear A40
    replace H := Option.bind_eq_some_iff.mp H
    obtain ⟨t208, A50, H⟩ := H
    replace H : ((spec_DrawStripeOf.f k l0).bind fun bt209 => ((impl_StripeOf.f bt209.1 bt209.2).bind fun t211 => ((spec_DrawSpread.f k l0).bind fun bt212 => ((impl_Spread.f k bt212.1 bt212.2).bind fun t216 => ((spec_Mix.f t207).bind fun t219 => (if t208 = t219 then ((spec_StripeOf.f bt209.1 bt209.2).bind fun t220 => (if t211 = t220 then ((spec_Spread.f k bt212.1 bt212.2).bind fun t221 => ((laws_sameInts.f k t216 t221).bind fun t224 => (if t224 = true then (if t208 < 0 then (laws_FnStripes.j0 k l0 t207 t208 bt209.2 t211 bt212.1 t216 true) else (if t208 > 65535 then (laws_FnStripes.j0 k l0 t207 t208 bt209.2 t211 bt212.1 t216 true) else ((impl_Mix.f (Go.bits .and .i64 t207 65535)).bind fun t225 => (laws_FnStripes.j0 k l0 t207 t208 bt209.2 t211 bt212.1 t216 (t225 != t208))))) else (laws_FnStripes.j0 k l0 t207 t208 bt209.2 t211 bt212.1 t216 true)))) else (laws_FnStripes.j0 k l0 t207 t208 bt209.2 t211 bt212.1 t216 true))) else (laws_FnStripes.j0 k l0 t207 t208 bt209.2 t211 bt212.1 t216 true))))))) = some r := H
    have A5 := Aside0.mk A50
    clear A50
    replace H := Option.bind_eq_some_iff.mp H
    obtain ⟨⟨t209, t210⟩, A60, H⟩ := H
    replace H : ((impl_StripeOf.f t209 t210).bind fun t211 => ((spec_DrawSpread.f k l0).bind fun bt212 => ((impl_Spread.f k bt212.1 bt212.2).bind fun t216 => ((spec_Mix.f t207).bind fun t219 => (if t208 = t219 then ((spec_StripeOf.f t209 t210).bind fun t220 => (if t211 = t220 then ((spec_Spread.f k bt212.1 bt212.2).bind fun t221 => ((laws_sameInts.f k t216 t221).bind fun t224 => (if t224 = true then (if t208 < 0 then (laws_FnStripes.j0 k l0 t207 t208 t210 t211 bt212.1 t216 true) else (if t208 > 65535 then (laws_FnStripes.j0 k l0 t207 t208 t210 t211 bt212.1 t216 true) else ((impl_Mix.f (Go.bits .and .i64 t207 65535)).bind fun t225 => (laws_FnStripes.j0 k l0 t207 t208 t210 t211 bt212.1 t216 (t225 != t208))))) else (laws_FnStripes.j0 k l0 t207 t208 t210 t211 bt212.1 t216 true)))) else (laws_FnStripes.j0 k l0 t207 t208 t210 t211 bt212.1 t216 true))) else (laws_FnStripes.j0 k l0 t207 t208 t210 t211 bt212.1 t216 true)))))) = some r := H
    have A6 := Aside0.mk A60
    clear A60
    replace H := Option.bind_eq_some_iff.mp H
    obtain ⟨t211, A70, H⟩ := H
    replace H : ((spec_DrawSpread.f k l0).bind fun bt212 => ((impl_Spread.f k bt212.1 bt212.2).bind fun t216 => ((spec_Mix.f t207).bind fun t219 => (if t208 = t219 then ((spec_StripeOf.f t209 t210).bind fun t220 => (if t211 = t220 then ((spec_Spread.f k bt212.1 bt212.2).bind fun t221 => ((laws_sameInts.f k t216 t221).bind fun t224 => (if t224 = true then (if t208 < 0 then (laws_FnStripes.j0 k l0 t207 t208 t210 t211 bt212.1 t216 true) else (if t208 > 65535 then (laws_FnStripes.j0 k l0 t207 t208 t210 t211 bt212.1 t216 true) else ((impl_Mix.f (Go.bits .and .i64 t207 65535)).bind fun t225 => (laws_FnStripes.j0 k l0 t207 t208 t210 t211 bt212.1 t216 (t225 != t208))))) else (laws_FnStripes.j0 k l0 t207 t208 t210 t211 bt212.1 t216 true)))) else (laws_FnStripes.j0 k l0 t207 t208 t210 t211 bt212.1 t216 true))) else (laws_FnStripes.j0 k l0 t207 t208 t210 t211 bt212.1 t216 true))))) = some r := H
    have A7 := Aside0.mk A70
    clear A70
    replace H := Option.bind_eq_some_iff.mp H
    obtain ⟨⟨t212, t213⟩, A80, H⟩ := H
    replace H : ((impl_Spread.f k t212 t213).bind fun t216 => ((spec_Mix.f t207).bind fun t219 => (if t208 = t219 then ((spec_StripeOf.f t209 t210).bind fun t220 => (if t211 = t220 then ((spec_Spread.f k t212 t213).bind fun t221 => ((laws_sameInts.f k t216 t221).bind fun t224 => (if t224 = true then (if t208 < 0 then (laws_FnStripes.j0 k l0 t207 t208 t210 t211 t212 t216 true) else (if t208 > 65535 then (laws_FnStripes.j0 k l0 t207 t208 t210 t211 t212 t216 true) else ((impl_Mix.f (Go.bits .and .i64 t207 65535)).bind fun t225 => (laws_FnStripes.j0 k l0 t207 t208 t210 t211 t212 t216 (t225 != t208))))) else (laws_FnStripes.j0 k l0 t207 t208 t210 t211 t212 t216 true)))) else (laws_FnStripes.j0 k l0 t207 t208 t210 t211 t212 t216 true))) else (laws_FnStripes.j0 k l0 t207 t208 t210 t211 t212 t216 true)))) = some r := H
    have A8 := Aside0.mk A80
    clear A80
    replace H := Option.bind_eq_some_iff.mp H
    obtain ⟨t216, A90, H⟩ := H
    replace H : ((spec_Mix.f t207).bind fun t219 => (if t208 = t219 then ((spec_StripeOf.f t209 t210).bind fun t220 => (if t211 = t220 then ((spec_Spread.f k t212 t213).bind fun t221 => ((laws_sameInts.f k t216 t221).bind fun t224 => (if t224 = true then (if t208 < 0 then (laws_FnStripes.j0 k l0 t207 t208 t210 t211 t212 t216 true) else (if t208 > 65535 then (laws_FnStripes.j0 k l0 t207 t208 t210 t211 t212 t216 true) else ((impl_Mix.f (Go.bits .and .i64 t207 65535)).bind fun t225 => (laws_FnStripes.j0 k l0 t207 t208 t210 t211 t212 t216 (t225 != t208))))) else (laws_FnStripes.j0 k l0 t207 t208 t210 t211 t212 t216 true)))) else (laws_FnStripes.j0 k l0 t207 t208 t210 t211 t212 t216 true))) else (laws_FnStripes.j0 k l0 t207 t208 t210 t211 t212 t216 true))) = some r := H
    have A9 := Aside0.mk A90
    clear A90
    have HC10 := Aside0.mk H
    clear H
    go_enter Try.func11, Try.ntmps11
    go_upto_region 9 with (first | ((with_reducible refine gate_callee (f := 27) rfl ?_); refine goesL_ (some 15) rfl rfl Try.func27 (by kernel_rfl) rfl #[.slice A0 l0.length c0] rfl (by (try simp only [List.map_toArray, List.map_cons, List.map_nil]); first | done | rfl | (simp only [List.length_drop, List.length_take]; rfl)) ?_; (with_reducible refine (laws_big.calls _ _ l0 false _ ?side1 ?side2 A2.out).mono ?_); (case side1 => repeat (first | exact HR0.out | (with_reducible refine Kd.C_alloc ?_ _) | (with_reducible refine Kd.C_drewN ?_ _) | (with_reducible refine Kd.C_drew ?_))); (case side2 => exact HC0.out); rintro e w' ⟨rfl, ⟨nd, rfl⟩⟩; refine ⟨_, rfl, ?_⟩) | ((with_reducible refine gate_callee (f := 53) rfl ?_); refine goesL_ (some 17) rfl rfl Try.func53 (by kernel_rfl) rfl #[.slice A0 l0.length c0] rfl (by (try simp only [List.map_toArray, List.map_cons, List.map_nil]); first | done | rfl | (simp only [List.length_drop, List.length_take]; rfl)) ?_; (with_reducible refine (spec_DrawMix.calls k _ _ l0 t207 _ ?side1 ?side2 A4.out).mono ?_); (case side1 => repeat (first | exact HR0.out | (with_reducible refine Kd.C_alloc ?_ _) | (with_reducible refine Kd.C_drewN ?_ _) | (with_reducible refine Kd.C_drew ?_))); (case side2 => exact HC0.out); rintro e w11 ⟨rfl, hb⟩; refine ⟨_, rfl, ?_⟩; have n0_ := Aside0.mk (below_step (by repeat (first | (with_reducible first | exact HB.out | apply below_alloc | apply pw_below_drewN | apply below_drew1) | exact HB.out)) hb); clear HB; have HB := n0_; clear n0_; (try clear hb); (try clear hb2); (try clear hk); (try clear hi)) | ((with_reducible refine gate_callee (f := 54) rfl ?_); refine goesL_ (some 19) rfl rfl Try.func54 (by kernel_rfl) rfl #[.int .i64 t207] rfl (by (try simp only [List.map_toArray, List.map_cons, List.map_nil]); first | done | rfl | (simp only [List.length_drop, List.length_take]; rfl)) ?_; (with_reducible refine (impl_Mix.calls t207 t208 _ A5.out).mono ?_); rintro e w' ⟨rfl, ⟨nd, rfl⟩⟩; refine ⟨_, rfl, ?_⟩) | ((with_reducible refine gate_callee (f := 55) rfl ?_); refine goesL_ (some 22) rfl rfl Try.func55 (by kernel_rfl) rfl #[.slice A0 l0.length c0] rfl (by (try simp only [List.map_toArray, List.map_cons, List.map_nil]); first | done | rfl | (simp only [List.length_drop, List.length_take]; rfl)) ?_; (with_reducible refine (spec_DrawStripeOf.calls k _ _ l0 t209 t210 _ ?side1 ?side2 A6.out).mono ?_); (case side1 => repeat (first | exact (Kd.C_below HR0.out (by repeat (first | (with_reducible first | exact HB.out | apply below_alloc | apply pw_below_drewN | apply below_drew1) | exact HB.out))) | (with_reducible refine Kd.C_alloc ?_ _) | (with_reducible refine Kd.C_drewN ?_ _) | (with_reducible refine Kd.C_drew ?_))); (case side2 => exact HC0.out); rintro e w12 ⟨rfl, hb⟩; refine ⟨_, rfl, ?_⟩; have n0_ := Aside0.mk (below_step (by repeat (first | (with_reducible first | exact HB.out | apply below_alloc | apply pw_below_drewN | apply below_drew1) | exact HB.out)) hb); clear HB; have HB := n0_; clear n0_; (try clear hb); (try clear hb2); (try clear hk); (try clear hi)) | ((with_reducible refine gate_callee (f := 56) rfl ?_); refine goesL_ (some 27) rfl rfl Try.func56 (by kernel_rfl) rfl #[.int .i64 t209, .int .i64 t210] rfl (by (try simp only [List.map_toArray, List.map_cons, List.map_nil]); first | done | rfl | (simp only [List.length_drop, List.length_take]; rfl)) ?_; (with_reducible refine (impl_StripeOf.calls t209 t210 t211 _ A7.out).mono ?_); rintro e w' ⟨rfl, ⟨nd, rfl⟩⟩; refine ⟨_, rfl, ?_⟩) | ((with_reducible refine gate_callee (f := 57) rfl ?_); refine goesL_ (some 30) rfl rfl Try.func57 (by kernel_rfl) rfl #[.slice A0 l0.length c0] rfl (by (try simp only [List.map_toArray, List.map_cons, List.map_nil]); first | done | rfl | (simp only [List.length_drop, List.length_take]; rfl)) ?_; (with_reducible refine (spec_DrawSpread.calls k _ _ l0 t212 t213 _ ?side1 ?side2 A8.out).mono ?_); (case side1 => repeat (first | exact (Kd.C_below HR0.out (by repeat (first | (with_reducible first | exact HB.out | apply below_alloc | apply pw_below_drewN | apply below_drew1) | exact HB.out))) | (with_reducible refine Kd.C_alloc ?_ _) | (with_reducible refine Kd.C_drewN ?_ _) | (with_reducible refine Kd.C_drew ?_))); (case side2 => exact HC0.out); rintro e w13 ⟨v214, rfl, ho0, hb⟩; refine ⟨_, rfl, ?_⟩; have n0_ := Aside0.mk (Kd.R_lower ho0 (below_size (by repeat (first | (with_reducible first | exact HB.out | apply below_alloc | apply pw_below_drewN | apply below_drew1) | exact HB.out)))); have n1_ := Aside0.mk (below_step (by repeat (first | (with_reducible first | exact HB.out | apply below_alloc | apply pw_below_drewN | apply below_drew1) | exact HB.out)) hb); clear HB; have HO215 := n0_; have HB := n1_; clear n0_ n1_; (try clear hb); (try clear hb2); (try clear hk); (try clear hi); (try clear ho0); obtain ⟨Ao14, co14, eo14⟩ := Kd.R_slice HO215.out; subst eo14) | ((with_reducible refine gate_callee (f := 47) rfl ?_); refine goesL_ (some 35) rfl rfl Try.func47 (by kernel_rfl) rfl #[.slice Ao14 t212.length co14, .int .i64 t213] rfl (by (try simp only [List.map_toArray, List.map_cons, List.map_nil]); first | done | rfl | (simp only [List.length_drop, List.length_take]; rfl)) ?_; (with_reducible refine (impl_Spread.calls k _ _ t212 t213 t216 _ ?side1 ?side2 A9.out).mono ?_); (case side1 => repeat (first | exact (Kd.R_reads' HO215.out).2.2 | (with_reducible refine Kd.C_alloc ?_ _) | (with_reducible refine Kd.C_drewN ?_ _) | (with_reducible refine Kd.C_drew ?_))); (case side2 => exact (Kd.R_reads' HO215.out).2.1); rintro e w15 ⟨v217, rfl, ho0, hb⟩; refine ⟨_, rfl, ?_⟩; have n0_ := Aside0.mk (Kd.R_elder' (by (with_reducible repeat (first | apply Kd.R_alloc | apply Kd.R_drewN | apply Kd.R_drew)); exact HO215.out) (Kd.R_base ho0) hb); have n1_ := Aside0.mk (Kd.R_lower (Kd.R_new' ho0 (Kd.R_lt (by (with_reducible repeat (first | apply Kd.R_alloc | apply Kd.R_drewN | apply Kd.R_drew)); exact HO215.out))) (below_size (by repeat (first | (with_reducible first | exact HB.out | apply below_alloc | apply pw_below_drewN | apply below_drew1) | exact HB.out)))); have n2_ := Aside0.mk (below_step (by repeat (first | (with_reducible first | exact HB.out | apply below_alloc | apply pw_below_drewN | apply below_drew1) | exact HB.out)) hb); clear HO215; clear HB; have HO215 := n0_; have HO218 := n1_; have HB := n2_; clear n0_ n1_ n2_; (try clear hb); (try clear hb2); (try clear hk); (try clear hi); (try clear ho0)))
    (try simp only [Act.put, List.setIfInBounds_toArray, List.set_cons_zero, List.set_cons_succ])
    go_cut [69] (fun v69 wc => ∃ (kq : Nat) (x69_9 : Bool), v69 = .bool x69_9 ∧ Aside0 (laws_FnStripes.j0 kq l0 t207 t208 t210 t211 t212 t216 x69_9 = some r) ∧ Aside0 (kq ≤ k) ∧ Aside0 (Kd.R (Kd.int .i64) 3 wc w.heap.size (fun k_ => some k_ ≠ (v217 : Value).ownBlock) (.slice Ao14 t212.length co14) t212) ∧ Aside0 (Kd.R (Kd.int .i64) 3 wc w.heap.size (fun k_ => some k_ ≠ ((.slice Ao14 t212.length co14) : Value).ownBlock) v217 t216) ∧ Aside0 (Below w.heap.size w wc))
    case first =>
      have H := HC10.out
      clear HC10
      replace H := Option.bind_eq_some_iff.mp H
      obtain ⟨t219, A160, H⟩ := H
      replace H : (if t208 = t219 then ((spec_StripeOf.f t209 t210).bind fun t220 => (if t211 = t220 then ((spec_Spread.f k t212 t213).bind fun t221 => ((laws_sameInts.f k t216 t221).bind fun t224 => (if t224 = true then (if t208 < 0 then (laws_FnStripes.j0 k l0 t207 t208 t210 t211 t212 t216 true) else (if t208 > 65535 then (laws_FnStripes.j0 k l0 t207 t208 t210 t211 t212 t216 true) else ((impl_Mix.f (Go.bits .and .i64 t207 65535)).bind fun t225 => (laws_FnStripes.j0 k l0 t207 t208 t210 t211 t212 t216 (t225 != t208))))) else (laws_FnStripes.j0 k l0 t207 t208 t210 t211 t212 t216 true)))) else (laws_FnStripes.j0 k l0 t207 t208 t210 t211 t212 t216 true))) else (laws_FnStripes.j0 k l0 t207 t208 t210 t211 t212 t216 true)) = some r := H
      have A16 := Aside0.mk A160
      clear A160
      by_cases c17 : t208 = t219
      · rw [if_pos c17] at H
        have c17b0 : (t208 == t219) = true := beq_iff_eq.mpr c17
        have c17b1 : (t208 != t219) = false := bne_eq_false_iff_eq.mpr c17
        clear c17
        (first | rw [c17b0] | (simp only [i64_w, i32_w]; rw [c17b0]) | skip)
        replace H := Option.bind_eq_some_iff.mp H
        obtain ⟨t220, A180, H⟩ := H
        replace H : (if t211 = t220 then ((spec_Spread.f k t212 t213).bind fun t221 => ((laws_sameInts.f k t216 t221).bind fun t224 => (if t224 = true then (if t208 < 0 then (laws_FnStripes.j0 k l0 t207 t208 t210 t211 t212 t216 true) else (if t208 > 65535 then (laws_FnStripes.j0 k l0 t207 t208 t210 t211 t212 t216 true) else ((impl_Mix.f (Go.bits .and .i64 t207 65535)).bind fun t225 => (laws_FnStripes.j0 k l0 t207 t208 t210 t211 t212 t216 (t225 != t208))))) else (laws_FnStripes.j0 k l0 t207 t208 t210 t211 t212 t216 true)))) else (laws_FnStripes.j0 k l0 t207 t208 t210 t211 t212 t216 true)) = some r := H
        have A18 := Aside0.mk A180
        clear A180
        by_cases c19 : t211 = t220
        · rw [if_pos c19] at H
          have c19b0 : (t211 == t220) = true := beq_iff_eq.mpr c19
          have c19b1 : (t211 != t220) = false := bne_eq_false_iff_eq.mpr c19
          clear c19
          replace H := Option.bind_eq_some_iff.mp H
          obtain ⟨t221, A200, H⟩ := H
          replace H : ((laws_sameInts.f k t216 t221).bind fun t224 => (if t224 = true then (if t208 < 0 then (laws_FnStripes.j0 k l0 t207 t208 t210 t211 t212 t216 true) else (if t208 > 65535 then (laws_FnStripes.j0 k l0 t207 t208 t210 t211 t212 t216 true) else ((impl_Mix.f (Go.bits .and .i64 t207 65535)).bind fun t225 => (laws_FnStripes.j0 k l0 t207 t208 t210 t211 t212 t216 (t225 != t208))))) else (laws_FnStripes.j0 k l0 t207 t208 t210 t211 t212 t216 true))) = some r := H
          have A20 := Aside0.mk A200
          clear A200
          replace H := Option.bind_eq_some_iff.mp H
          obtain ⟨t224, A210, H⟩ := H
          replace H : (if t224 = true then (if t208 < 0 then (laws_FnStripes.j0 k l0 t207 t208 t210 t211 t212 t216 true) else (if t208 > 65535 then (laws_FnStripes.j0 k l0 t207 t208 t210 t211 t212 t216 true) else ((impl_Mix.f (Go.bits .and .i64 t207 65535)).bind fun t225 => (laws_FnStripes.j0 k l0 t207 t208 t210 t211 t212 t216 (t225 != t208))))) else (laws_FnStripes.j0 k l0 t207 t208 t210 t211 t212 t216 true)) = some r := H
          have A21 := Aside0.mk A210
          clear A210
          by_cases c22 : t224 = true
          · subst c22
            have H1 : (if t208 < 0 then (laws_FnStripes.j0 k l0 t207 t208 t210 t211 t212 t216 true) else (if t208 > 65535 then (laws_FnStripes.j0 k l0 t207 t208 t210 t211 t212 t216 true) else ((impl_Mix.f (Go.bits .and .i64 t207 65535)).bind fun t225 => (laws_FnStripes.j0 k l0 t207 t208 t210 t211 t212 t216 (t225 != t208))))) = some r := by rw [if_pos rfl] at H; exact H
            clear H
            have H := H1
            clear H1
            by_cases c23 : t208 < 0
            · rw [if_pos c23] at H
              have c23b0 : decide (t208 < 0) = true := decide_eq_true c23
              clear c23
              have H' := Aside0.mk H
              clear H
              go_wp2_with (first | ((with_reducible refine gate_callee (f := 58) rfl ?_); refine goesL_ (some 38) rfl rfl Try.func58 (by kernel_rfl) rfl #[.int .i64 t207] rfl (by (try simp only [List.map_toArray, List.map_cons, List.map_nil]); first | done | rfl | (simp only [List.length_drop, List.length_take]; rfl)) ?_; (with_reducible refine (spec_Mix.calls t207 t219 _ A16.out).mono ?_); rintro e w' ⟨rfl, ⟨nd, rfl⟩⟩; refine ⟨_, rfl, ?_⟩) | (go_at_call 59; (with_reducible refine (spec_StripeOf.calls t209 t210 t220 _ A18.out).mono ?_); rintro e w' ⟨rfl, ⟨nd, rfl⟩⟩) | (go_at_call 45; (with_reducible refine (spec_Spread.calls k _ _ t212 t213 t221 _ ?side1 ?side2 A20.out).mono ?_); (case side1 => repeat (first | exact (Kd.R_reads' HO215.out).2.2 | (with_reducible refine Kd.C_alloc ?_ _) | (with_reducible refine Kd.C_drewN ?_ _) | (with_reducible refine Kd.C_drew ?_))); (case side2 => exact (Kd.R_reads' HO215.out).2.1); rintro e w24 ⟨v222, rfl, ho0, hb⟩; have n0_ := Aside0.mk (Kd.R_elder' (by (with_reducible repeat (first | apply Kd.R_alloc | apply Kd.R_drewN | apply Kd.R_drew)); exact HO215.out) (Kd.R_base ho0) hb); have n1_ := Aside0.mk (Kd.R_elder' (by (with_reducible repeat (first | apply Kd.R_alloc | apply Kd.R_drewN | apply Kd.R_drew)); exact HO218.out) (Kd.R_base ho0) hb); have n2_ := Aside0.mk (Kd.R_lower (Kd.R_new' (Kd.R_new' ho0 (Kd.R_lt (by (with_reducible repeat (first | apply Kd.R_alloc | apply Kd.R_drewN | apply Kd.R_drew)); exact HO215.out))) (Kd.R_lt (by (with_reducible repeat (first | apply Kd.R_alloc | apply Kd.R_drewN | apply Kd.R_drew)); exact HO218.out))) (below_size (by repeat (first | (with_reducible first | exact HB.out | apply below_alloc | apply pw_below_drewN | apply below_drew1) | exact HB.out)))); have n3_ := Aside0.mk (below_step (by repeat (first | (with_reducible first | exact HB.out | apply below_alloc | apply pw_below_drewN | apply below_drew1) | exact HB.out)) hb); clear HO215; clear HO218; clear HB; have HO215 := n0_; have HO218 := n1_; have HO223 := n2_; have HB := n3_; clear n0_ n1_ n2_ n3_; (try clear hb); (try clear hb2); (try clear hk); (try clear hi); (try clear ho0); obtain ⟨Ao25, co25, eo25⟩ := Kd.R_slice HO218.out; subst eo25; obtain ⟨Ao26, co26, eo26⟩ := Kd.R_slice HO223.out; subst eo26) | (go_at_call 60; (with_reducible refine (laws_sameInts.calls k _ _ t216 _ _ t221 true _ ?side1 ?side2 ?side3 ?side4 A21.out).mono ?_); (case side1 => repeat (first | exact (Kd.R_reads' HO218.out).2.2 | (with_reducible refine Kd.C_alloc ?_ _) | (with_reducible refine Kd.C_drewN ?_ _) | (with_reducible refine Kd.C_drew ?_))); (case side2 => exact (Kd.R_reads' HO218.out).2.1); (case side3 => repeat (first | exact (Kd.R_reads' HO223.out).2.2 | (with_reducible refine Kd.C_alloc ?_ _) | (with_reducible refine Kd.C_drewN ?_ _) | (with_reducible refine Kd.C_drew ?_))); (case side4 => exact (Kd.R_reads' HO223.out).2.1); rintro e w' ⟨rfl, ⟨nd, rfl⟩⟩))
              go_meet
              case rel => exact ⟨_, (true), (by first | rfl | (simp; done) | (simp [*]; done)), H', ⟨by first | omega | exact Nat.le_refl _⟩, ⟨by (with_reducible repeat (first | apply Kd.R_alloc | apply Kd.R_drewN | apply Kd.R_drew)); exact Kd.R_mono HO215.out (fun _ hk => hk.1.2)⟩, ⟨by (with_reducible repeat (first | apply Kd.R_alloc | apply Kd.R_drewN | apply Kd.R_drew)); exact Kd.R_mono HO218.out (fun _ hk => hk.1.2)⟩, ⟨by repeat (first | (with_reducible first | exact HB.out | apply below_alloc | apply pw_below_drewN | apply below_drew1) | exact HB.out)⟩⟩
            · rw [if_neg c23] at H
              have c23b0 : decide (t208 < 0) = false := decide_eq_false c23
              clear c23
              by_cases c27 : t208 > 65535
              · rw [if_pos c27] at H
                have c27b0 : decide (65535 < t208) = true := decide_eq_true c27
                clear c27
                have H' := Aside0.mk H
                clear H
                go_wp2_with (first | ((with_reducible refine gate_callee (f := 58) rfl ?_); refine goesL_ (some 38) rfl rfl Try.func58 (by kernel_rfl) rfl #[.int .i64 t207] rfl (by (try simp only [List.map_toArray, List.map_cons, List.map_nil]); first | done | rfl | (simp only [List.length_drop, List.length_take]; rfl)) ?_; (with_reducible refine (spec_Mix.calls t207 t219 _ A16.out).mono ?_); rintro e w' ⟨rfl, ⟨nd, rfl⟩⟩; refine ⟨_, rfl, ?_⟩) | (go_at_call 59; (with_reducible refine (spec_StripeOf.calls t209 t210 t220 _ A18.out).mono ?_); rintro e w' ⟨rfl, ⟨nd, rfl⟩⟩) | (go_at_call 45; (with_reducible refine (spec_Spread.calls k _ _ t212 t213 t221 _ ?side1 ?side2 A20.out).mono ?_); (case side1 => repeat (first | exact (Kd.R_reads' HO215.out).2.2 | (with_reducible refine Kd.C_alloc ?_ _) | (with_reducible refine Kd.C_drewN ?_ _) | (with_reducible refine Kd.C_drew ?_))); (case side2 => exact (Kd.R_reads' HO215.out).2.1); rintro e w28 ⟨v222, rfl, ho0, hb⟩; have n0_ := Aside0.mk (Kd.R_elder' (by (with_reducible repeat (first | apply Kd.R_alloc | apply Kd.R_drewN | apply Kd.R_drew)); exact HO215.out) (Kd.R_base ho0) hb); have n1_ := Aside0.mk (Kd.R_elder' (by (with_reducible repeat (first | apply Kd.R_alloc | apply Kd.R_drewN | apply Kd.R_drew)); exact HO218.out) (Kd.R_base ho0) hb); have n2_ := Aside0.mk (Kd.R_lower (Kd.R_new' (Kd.R_new' ho0 (Kd.R_lt (by (with_reducible repeat (first | apply Kd.R_alloc | apply Kd.R_drewN | apply Kd.R_drew)); exact HO215.out))) (Kd.R_lt (by (with_reducible repeat (first | apply Kd.R_alloc | apply Kd.R_drewN | apply Kd.R_drew)); exact HO218.out))) (below_size (by repeat (first | (with_reducible first | exact HB.out | apply below_alloc | apply pw_below_drewN | apply below_drew1) | exact HB.out)))); have n3_ := Aside0.mk (below_step (by repeat (first | (with_reducible first | exact HB.out | apply below_alloc | apply pw_below_drewN | apply below_drew1) | exact HB.out)) hb); clear HO215; clear HO218; clear HB; have HO215 := n0_; have HO218 := n1_; have HO223 := n2_; have HB := n3_; clear n0_ n1_ n2_ n3_; (try clear hb); (try clear hb2); (try clear hk); (try clear hi); (try clear ho0); obtain ⟨Ao29, co29, eo29⟩ := Kd.R_slice HO218.out; subst eo29; obtain ⟨Ao30, co30, eo30⟩ := Kd.R_slice HO223.out; subst eo30) | (go_at_call 60; (with_reducible refine (laws_sameInts.calls k _ _ t216 _ _ t221 true _ ?side1 ?side2 ?side3 ?side4 A21.out).mono ?_); (case side1 => repeat (first | exact (Kd.R_reads' HO218.out).2.2 | (with_reducible refine Kd.C_alloc ?_ _) | (with_reducible refine Kd.C_drewN ?_ _) | (with_reducible refine Kd.C_drew ?_))); (case side2 => exact (Kd.R_reads' HO218.out).2.1); (case side3 => repeat (first | exact (Kd.R_reads' HO223.out).2.2 | (with_reducible refine Kd.C_alloc ?_ _) | (with_reducible refine Kd.C_drewN ?_ _) | (with_reducible refine Kd.C_drew ?_))); (case side4 => exact (Kd.R_reads' HO223.out).2.1); rintro e w' ⟨rfl, ⟨nd, rfl⟩⟩))
                go_meet
                case rel => exact ⟨_, (true), (by first | rfl | (simp; done) | (simp [*]; done)), H', ⟨by first | omega | exact Nat.le_refl _⟩, ⟨by (with_reducible repeat (first | apply Kd.R_alloc | apply Kd.R_drewN | apply Kd.R_drew)); exact Kd.R_mono HO215.out (fun _ hk => hk.1.2)⟩, ⟨by (with_reducible repeat (first | apply Kd.R_alloc | apply Kd.R_drewN | apply Kd.R_drew)); exact Kd.R_mono HO218.out (fun _ hk => hk.1.2)⟩, ⟨by repeat (first | (with_reducible first | exact HB.out | apply below_alloc | apply pw_below_drewN | apply below_drew1) | exact HB.out)⟩⟩
              · rw [if_neg c27] at H
                have c27b0 : decide (65535 < t208) = false := decide_eq_false c27
                clear c27
                replace H := Option.bind_eq_some_iff.mp H
                obtain ⟨t225, A310, H⟩ := H
                replace H : (laws_FnStripes.j0 k l0 t207 t208 t210 t211 t212 t216 (t225 != t208)) = some r := H
                have A31 := Aside0.mk A310
                clear A310
                have H' := Aside0.mk H
                clear H
                go_wp2_with (first | ((with_reducible refine gate_callee (f := 58) rfl ?_); refine goesL_ (some 38) rfl rfl Try.func58 (by kernel_rfl) rfl #[.int .i64 t207] rfl (by (try simp only [List.map_toArray, List.map_cons, List.map_nil]); first | done | rfl | (simp only [List.length_drop, List.length_take]; rfl)) ?_; (with_reducible refine (spec_Mix.calls t207 t219 _ A16.out).mono ?_); rintro e w' ⟨rfl, ⟨nd, rfl⟩⟩; refine ⟨_, rfl, ?_⟩) | (go_at_call 59; (with_reducible refine (spec_StripeOf.calls t209 t210 t220 _ A18.out).mono ?_); rintro e w' ⟨rfl, ⟨nd, rfl⟩⟩) | (go_at_call 45; (with_reducible refine (spec_Spread.calls k _ _ t212 t213 t221 _ ?side1 ?side2 A20.out).mono ?_); (case side1 => repeat (first | exact (Kd.R_reads' HO215.out).2.2 | (with_reducible refine Kd.C_alloc ?_ _) | (with_reducible refine Kd.C_drewN ?_ _) | (with_reducible refine Kd.C_drew ?_))); (case side2 => exact (Kd.R_reads' HO215.out).2.1); rintro e w32 ⟨v222, rfl, ho0, hb⟩; have n0_ := Aside0.mk (Kd.R_elder' (by (with_reducible repeat (first | apply Kd.R_alloc | apply Kd.R_drewN | apply Kd.R_drew)); exact HO215.out) (Kd.R_base ho0) hb); have n1_ := Aside0.mk (Kd.R_elder' (by (with_reducible repeat (first | apply Kd.R_alloc | apply Kd.R_drewN | apply Kd.R_drew)); exact HO218.out) (Kd.R_base ho0) hb); have n2_ := Aside0.mk (Kd.R_lower (Kd.R_new' (Kd.R_new' ho0 (Kd.R_lt (by (with_reducible repeat (first | apply Kd.R_alloc | apply Kd.R_drewN | apply Kd.R_drew)); exact HO215.out))) (Kd.R_lt (by (with_reducible repeat (first | apply Kd.R_alloc | apply Kd.R_drewN | apply Kd.R_drew)); exact HO218.out))) (below_size (by repeat (first | (with_reducible first | exact HB.out | apply below_alloc | apply pw_below_drewN | apply below_drew1) | exact HB.out)))); have n3_ := Aside0.mk (below_step (by repeat (first | (with_reducible first | exact HB.out | apply below_alloc | apply pw_below_drewN | apply below_drew1) | exact HB.out)) hb); clear HO215; clear HO218; clear HB; have HO215 := n0_; have HO218 := n1_; have HO223 := n2_; have HB := n3_; clear n0_ n1_ n2_ n3_; (try clear hb); (try clear hb2); (try clear hk); (try clear hi); (try clear ho0); obtain ⟨Ao33, co33, eo33⟩ := Kd.R_slice HO218.out; subst eo33; obtain ⟨Ao34, co34, eo34⟩ := Kd.R_slice HO223.out; subst eo34) | (go_at_call 60; (with_reducible refine (laws_sameInts.calls k _ _ t216 _ _ t221 true _ ?side1 ?side2 ?side3 ?side4 A21.out).mono ?_); (case side1 => repeat (first | exact (Kd.R_reads' HO218.out).2.2 | (with_reducible refine Kd.C_alloc ?_ _) | (with_reducible refine Kd.C_drewN ?_ _) | (with_reducible refine Kd.C_drew ?_))); (case side2 => exact (Kd.R_reads' HO218.out).2.1); (case side3 => repeat (first | exact (Kd.R_reads' HO223.out).2.2 | (with_reducible refine Kd.C_alloc ?_ _) | (with_reducible refine Kd.C_drewN ?_ _) | (with_reducible refine Kd.C_drew ?_))); (case side4 => exact (Kd.R_reads' HO223.out).2.1); rintro e w' ⟨rfl, ⟨nd, rfl⟩⟩) | (go_at_call 54; (with_reducible refine (impl_Mix.calls (Go.bits .and .i64 t207 65535) t225 _ A31.out).mono ?_); rintro e w' ⟨rfl, ⟨nd, rfl⟩⟩))
                go_meet
                case rel => exact ⟨_, ((t225 != t208)), (by first | rfl | (simp; done) | (simp [*]; done)), H', ⟨by first | omega | exact Nat.le_refl _⟩, ⟨by (with_reducible repeat (first | apply Kd.R_alloc | apply Kd.R_drewN | apply Kd.R_drew)); exact Kd.R_mono HO215.out (fun _ hk => hk.1.2)⟩, ⟨by (with_reducible repeat (first | apply Kd.R_alloc | apply Kd.R_drewN | apply Kd.R_drew)); exact Kd.R_mono HO218.out (fun _ hk => hk.1.2)⟩, ⟨by repeat (first | (with_reducible first | exact HB.out | apply below_alloc | apply pw_below_drewN | apply below_drew1) | exact HB.out)⟩⟩
          · replace c22 := Bool.eq_false_iff.mpr c22
            subst c22
            have H1 : (laws_FnStripes.j0 k l0 t207 t208 t210 t211 t212 t216 true) = some r := by rw [if_neg (show ¬ (false = true) by decide)] at H; exact H
            clear H
            have H := H1
            clear H1
            have H' := Aside0.mk H
            clear H
            go_wp2_with (first | ((with_reducible refine gate_callee (f := 58) rfl ?_); refine goesL_ (some 38) rfl rfl Try.func58 (by kernel_rfl) rfl #[.int .i64 t207] rfl (by (try simp only [List.map_toArray, List.map_cons, List.map_nil]); first | done | rfl | (simp only [List.length_drop, List.length_take]; rfl)) ?_; (with_reducible refine (spec_Mix.calls t207 t219 _ A16.out).mono ?_); rintro e w' ⟨rfl, ⟨nd, rfl⟩⟩; refine ⟨_, rfl, ?_⟩) | (go_at_call 59; (with_reducible refine (spec_StripeOf.calls t209 t210 t220 _ A18.out).mono ?_); rintro e w' ⟨rfl, ⟨nd, rfl⟩⟩) | (go_at_call 45; (with_reducible refine (spec_Spread.calls k _ _ t212 t213 t221 _ ?side1 ?side2 A20.out).mono ?_); (case side1 => repeat (first | exact (Kd.R_reads' HO215.out).2.2 | (with_reducible refine Kd.C_alloc ?_ _) | (with_reducible refine Kd.C_drewN ?_ _) | (with_reducible refine Kd.C_drew ?_))); (case side2 => exact (Kd.R_reads' HO215.out).2.1); rintro e w35 ⟨v222, rfl, ho0, hb⟩; have n0_ := Aside0.mk (Kd.R_elder' (by (with_reducible repeat (first | apply Kd.R_alloc | apply Kd.R_drewN | apply Kd.R_drew)); exact HO215.out) (Kd.R_base ho0) hb); have n1_ := Aside0.mk (Kd.R_elder' (by (with_reducible repeat (first | apply Kd.R_alloc | apply Kd.R_drewN | apply Kd.R_drew)); exact HO218.out) (Kd.R_base ho0) hb); have n2_ := Aside0.mk (Kd.R_lower (Kd.R_new' (Kd.R_new' ho0 (Kd.R_lt (by (with_reducible repeat (first | apply Kd.R_alloc | apply Kd.R_drewN | apply Kd.R_drew)); exact HO215.out))) (Kd.R_lt (by (with_reducible repeat (first | apply Kd.R_alloc | apply Kd.R_drewN | apply Kd.R_drew)); exact HO218.out))) (below_size (by repeat (first | (with_reducible first | exact HB.out | apply below_alloc | apply pw_below_drewN | apply below_drew1) | exact HB.out)))); have n3_ := Aside0.mk (below_step (by repeat (first | (with_reducible first | exact HB.out | apply below_alloc | apply pw_below_drewN | apply below_drew1) | exact HB.out)) hb); clear HO215; clear HO218; clear HB; have HO215 := n0_; have HO218 := n1_; have HO223 := n2_; have HB := n3_; clear n0_ n1_ n2_ n3_; (try clear hb); (try clear hb2); (try clear hk); (try clear hi); (try clear ho0); obtain ⟨Ao36, co36, eo36⟩ := Kd.R_slice HO218.out; subst eo36; obtain ⟨Ao37, co37, eo37⟩ := Kd.R_slice HO223.out; subst eo37) | (go_at_call 60; (with_reducible refine (laws_sameInts.calls k _ _ t216 _ _ t221 false _ ?side1 ?side2 ?side3 ?side4 A21.out).mono ?_); (case side1 => repeat (first | exact (Kd.R_reads' HO218.out).2.2 | (with_reducible refine Kd.C_alloc ?_ _) | (with_reducible refine Kd.C_drewN ?_ _) | (with_reducible refine Kd.C_drew ?_))); (case side2 => exact (Kd.R_reads' HO218.out).2.1); (case side3 => repeat (first | exact (Kd.R_reads' HO223.out).2.2 | (with_reducible refine Kd.C_alloc ?_ _) | (with_reducible refine Kd.C_drewN ?_ _) | (with_reducible refine Kd.C_drew ?_))); (case side4 => exact (Kd.R_reads' HO223.out).2.1); rintro e w' ⟨rfl, ⟨nd, rfl⟩⟩))
            go_meet
            case rel => exact ⟨_, (true), (by first | rfl | (simp; done) | (simp [*]; done)), H', ⟨by first | omega | exact Nat.le_refl _⟩, ⟨by (with_reducible repeat (first | apply Kd.R_alloc | apply Kd.R_drewN | apply Kd.R_drew)); exact Kd.R_mono HO215.out (fun _ hk => hk.1.2)⟩, ⟨by (with_reducible repeat (first | apply Kd.R_alloc | apply Kd.R_drewN | apply Kd.R_drew)); exact Kd.R_mono HO218.out (fun _ hk => hk.1.2)⟩, ⟨by repeat (first | (with_reducible first | exact HB.out | apply below_alloc | apply pw_below_drewN | apply below_drew1) | exact HB.out)⟩⟩
        · rw [if_neg c19] at H
          have c19b0 : (t211 == t220) = false := beq_eq_false_iff_ne.mpr c19
          have c19b1 : (t211 != t220) = true := bne_iff_ne.mpr c19
          have H' := Aside0.mk H
          clear H
          go_wp2_with (first | ((with_reducible refine gate_callee (f := 58) rfl ?_); refine goesL_ (some 38) rfl rfl Try.func58 (by kernel_rfl) rfl #[.int .i64 t207] rfl (by (try simp only [List.map_toArray, List.map_cons, List.map_nil]); first | done | rfl | (simp only [List.length_drop, List.length_take]; rfl)) ?_; (with_reducible refine (spec_Mix.calls t207 t219 _ A16.out).mono ?_); rintro e w' ⟨rfl, ⟨nd, rfl⟩⟩; refine ⟨_, rfl, ?_⟩) | (go_at_call 59; (with_reducible refine (spec_StripeOf.calls t209 t210 t220 _ A18.out).mono ?_); rintro e w' ⟨rfl, ⟨nd, rfl⟩⟩))
          go_meet
          case rel => exact ⟨_, (true), (by first | rfl | (simp; done) | (simp [*]; done)), H', ⟨by first | omega | exact Nat.le_refl _⟩, ⟨by (with_reducible repeat (first | apply Kd.R_alloc | apply Kd.R_drewN | apply Kd.R_drew)); exact Kd.R_mono HO215.out (fun _ hk => hk.2)⟩, ⟨by (with_reducible repeat (first | apply Kd.R_alloc | apply Kd.R_drewN | apply Kd.R_drew)); exact Kd.R_mono HO218.out (fun _ hk => hk.2)⟩, ⟨by repeat (first | (with_reducible first | exact HB.out | apply below_alloc | apply pw_below_drewN | apply below_drew1) | exact HB.out)⟩⟩
      · rw [if_neg c17] at H
        have c17b0 : (t208 == t219) = false := beq_eq_false_iff_ne.mpr c17
        have c17b1 : (t208 != t219) = true := bne_iff_ne.mpr c17
        (first | rw [c17b0] | (simp only [i64_w, i32_w]; rw [c17b0]) | skip)
        have H' := Aside0.mk H
        clear H
        go_wp2_with (first | ((with_reducible refine gate_callee (f := 58) rfl ?_); refine goesL_ (some 38) rfl rfl Try.func58 (by kernel_rfl) rfl #[.int .i64 t207] rfl (by (try simp only [List.map_toArray, List.map_cons, List.map_nil]); first | done | rfl | (simp only [List.length_drop, List.length_take]; rfl)) ?_; (with_reducible refine (spec_Mix.calls t207 t219 _ A16.out).mono ?_); rintro e w' ⟨rfl, ⟨nd, rfl⟩⟩; refine ⟨_, rfl, ?_⟩))
        go_meet
        case rel => exact ⟨_, (true), (by first | rfl | (simp; done) | (simp [*]; done)), H', ⟨by first | omega | exact Nat.le_refl _⟩, ⟨by (with_reducible repeat (first | apply Kd.R_alloc | apply Kd.R_drewN | apply Kd.R_drew)); exact Kd.R_mono HO215.out (fun _ hk => hk.2)⟩, ⟨by (with_reducible repeat (first | apply Kd.R_alloc | apply Kd.R_drewN | apply Kd.R_drew)); exact Kd.R_mono HO218.out (fun _ hk => hk.2)⟩, ⟨by repeat (first | (with_reducible first | exact HB.out | apply below_alloc | apply pw_below_drewN | apply below_drew1) | exact HB.out)⟩⟩
    case rest =>
      clear HC10
      try clear c1
      try clear c2
      try clear p2
      try clear c3
      try clear c4
      try clear c5
      try clear c11
      try clear c17
      try clear c17b0
      try clear c17b1
      try clear c19
      try clear c19b0
      try clear c19b1
      try clear c22
      try clear c23
      try clear c23b0
      try clear c27
      try clear c27b0
      obtain ⟨kq, x69_9, rfl, HA, HJ9, HO_8, HO_10, HB⟩ := hcut
      cases kq with
      | zero => exact absurd HA.out (by simp [laws_FnStripes.j0])
      | succ kj9 =>
        have H := HA.out
        clear HA
        simp only [laws_FnStripes.j0] at H
        by_cases c38 : x69_9 = true
        · subst c38
          have H1 : (some false) = some r := by rw [if_pos rfl] at H; exact H
          clear H
          have H := H1
          clear H1
          exact absurd ((Option.some.inj H).trans hrt_.out) (by decide)
        · replace c38 := Bool.eq_false_iff.mpr c38
          subst c38
          have H1 : (laws_FnStripes.l0 kj9 l0 t207 t208 t210 t211 t212 t216 0 0) = some r := by rw [if_neg (show ¬ (false = true) by decide)] at H; exact H
          clear H
          have H := H1
          clear H1
          have H' := Aside0.mk H
          clear H
          go_wp2
          go_loopg [11, 12] kj9 (fun kq v11 v12 w' => ∃ (x11_2 : Int) (x12_2 : Int), v11 = .int .i64 x11_2 ∧ v12 = .int .i64 x12_2 ∧ Aside0 (laws_FnStripes.l0 kq l0 t207 t208 t210 t211 t212 t216 x11_2 x12_2 = some r) ∧ Aside0 (kq ≤ kj9) ∧ Aside0 (Kd.R (Kd.int .i64) 3 w' w.heap.size (fun k_ => some k_ ≠ (v217 : Value).ownBlock) (.slice Ao14 t212.length co14) t212) ∧ Aside0 (Kd.R (Kd.int .i64) 3 w' w.heap.size (fun k_ => some k_ ≠ ((.slice Ao14 t212.length co14) : Value).ownBlock) v217 t216) ∧ Aside0 (Below w.heap.size w w'))
          case atStart => exact ⟨(0), (0), (by first | rfl | (simp; done) | (simp [*]; done)), (by first | rfl | (simp; done) | (simp [*]; done)), H', ⟨Nat.le_refl _⟩, ⟨by (with_reducible repeat (first | apply Kd.R_alloc | apply Kd.R_drewN | apply Kd.R_drew)); exact HO_8.out⟩, ⟨by (with_reducible repeat (first | apply Kd.R_alloc | apply Kd.R_drewN | apply Kd.R_drew)); exact HO_10.out⟩, ⟨by repeat (first | (with_reducible first | exact HB.out | apply below_alloc | apply pw_below_drewN | apply below_drew1) | exact HB.out)⟩⟩
          case round =>
            clear H'
            try clear c1
            try clear c2
            try clear p2
            try clear c3
            try clear c4
            try clear c5
            try clear c11
            try clear c17
            try clear c17b0
            try clear c17b1
            try clear c19
            try clear c19b0
            try clear c19b1
            try clear c22
            try clear c23
            try clear c23b0
            try clear c27
            try clear c27b0
            try clear c38
            try clear p2
            obtain ⟨x11_2, x12_2, rfl, rfl, HA, HK2, HO_8, HO_10, HB⟩ := hrel
            cases gk with
            | zero => exact absurd HA.out (by simp [laws_FnStripes.l0])
            | succ k2 =>
              have H := HA.out
              clear HA
              simp only [laws_FnStripes.l0] at H
              by_cases c39 : x12_2 < (t216.length : Int)
              · rw [if_pos c39] at H
                have c39b0 : decide (x12_2 < (t216.length : Int)) = true := decide_eq_true c39
                clear c39
                by_cases c40 : 0 ≤ x12_2
                · rw [if_pos c40] at H
                  have c40b0 : decide (0 ≤ x12_2) = true := decide_eq_true c40
                  clear c40
                  have H' := Aside0.mk H
                  clear H
                  obtain ⟨Ao41, co41, eo41⟩ := Kd.R_slice HO_10.out
                  subst eo41
                  have p226 : 0 ≤ (x12_2 : Int) := of_decide_eq_true (by first | (with_reducible assumption) | assumption)
                  have q226 : x12_2 < (t216.length : Int) := of_decide_eq_true (by first | (with_reducible assumption) | assumption)
                  obtain ⟨ad226, e226, hx226_0⟩ := Kd.at_int (Kd.R_reads' HO_10.out).2.2 x12_2 p226 q226
                  cases e226
                  replace p226 := eq_true p226
                  replace q226 := eq_true q226
                  go_wp2
                  go_roundg k2
                  case measure => have := HJ9.out; have := HK2.out; omega
                  case rel => exact ⟨(wrap64 (x11_2 + (rd t216 x12_2))), (wrap64 (x12_2 + 1)), (by first | rfl | (simp; done) | (simp [*]; done)), (by first | rfl | (simp; done) | (simp [*]; done)), H', ⟨by have := HJ9.out; have := HK2.out; omega⟩, ⟨by (with_reducible repeat (first | apply Kd.R_alloc | apply Kd.R_drewN | apply Kd.R_drew)); exact HO_8.out⟩, ⟨by (with_reducible repeat (first | apply Kd.R_alloc | apply Kd.R_drewN | apply Kd.R_drew)); exact HO_10.out⟩, ⟨by repeat (first | (with_reducible first | exact HB.out | apply below_alloc | apply pw_below_drewN | apply below_drew1) | exact HB.out)⟩⟩
                · rw [if_neg c40] at H
                  exact absurd H (by simp)
              · rw [if_neg c39] at H
                have c39b0 : decide (x12_2 < (t216.length : Int)) = false := decide_eq_false c39
                clear c39
                replace H := Option.bind_eq_some_iff.mp H
                obtain ⟨t227, A420, H⟩ := H
                replace H : (if (t216.length : Int) = 0 then (if t211 ≥ 0 then (if t210 < 1 then (if (Go.bits .and .i64 (Go.bits .xor .i64 t207 (wrap64 (1 + (wrap64 (t227 * 257))))) 65535) = (Go.bits .and .i64 t207 65535) then (some true) else ((impl_Mix.f (Go.bits .and .i64 (Go.bits .xor .i64 t207 (wrap64 (1 + (wrap64 (t227 * 257))))) 65535)).bind fun t228 => (some (t228 != t208)))) else (if t211 < t210 then (if (Go.bits .and .i64 (Go.bits .xor .i64 t207 (wrap64 (1 + (wrap64 (t227 * 257))))) 65535) = (Go.bits .and .i64 t207 65535) then (some true) else ((impl_Mix.f (Go.bits .and .i64 (Go.bits .xor .i64 t207 (wrap64 (1 + (wrap64 (t227 * 257))))) 65535)).bind fun t229 => (some (t229 != t208)))) else (some false))) else (some false)) else (if x11_2 = (t212.length : Int) then (if t211 ≥ 0 then (if t210 < 1 then (if (Go.bits .and .i64 (Go.bits .xor .i64 t207 (wrap64 (1 + (wrap64 (t227 * 257))))) 65535) = (Go.bits .and .i64 t207 65535) then (some true) else ((impl_Mix.f (Go.bits .and .i64 (Go.bits .xor .i64 t207 (wrap64 (1 + (wrap64 (t227 * 257))))) 65535)).bind fun t230 => (some (t230 != t208)))) else (if t211 < t210 then (if (Go.bits .and .i64 (Go.bits .xor .i64 t207 (wrap64 (1 + (wrap64 (t227 * 257))))) 65535) = (Go.bits .and .i64 t207 65535) then (some true) else ((impl_Mix.f (Go.bits .and .i64 (Go.bits .xor .i64 t207 (wrap64 (1 + (wrap64 (t227 * 257))))) 65535)).bind fun t231 => (some (t231 != t208)))) else (some false))) else (some false)) else (some false))) = some r := H
                have A42 := Aside0.mk A420
                clear A420
                by_cases c43 : (t216.length : Int) = 0
                · rw [if_pos c43] at H
                  have c43b0 : ((t216.length : Int) == 0) = true := beq_iff_eq.mpr c43
                  have c43b1 : ((t216.length : Int) != 0) = false := bne_eq_false_iff_eq.mpr c43
                  clear c43
                  by_cases c44 : t211 ≥ 0
                  · rw [if_pos c44] at H
                    have c44b0 : decide (0 ≤ t211) = true := decide_eq_true c44
                    clear c44
                    by_cases c45 : t210 < 1
                    · rw [if_pos c45] at H
                      have c45b0 : decide (t210 < 1) = true := decide_eq_true c45
                      clear c45
                      by_cases c46 : (Go.bits .and .i64 (Go.bits .xor .i64 t207 (wrap64 (1 + (wrap64 (t227 * 257))))) 65535) = (Go.bits .and .i64 t207 65535)
                      · rw [if_pos c46] at H
                        have c46b0 : ((Go.bits .and .i64 (Go.bits .xor .i64 t207 (wrap64 (1 + (wrap64 (t227 * 257))))) 65535) == (Go.bits .and .i64 t207 65535)) = true := beq_iff_eq.mpr c46
                        have c46b1 : ((Go.bits .and .i64 (Go.bits .xor .i64 t207 (wrap64 (1 + (wrap64 (t227 * 257))))) 65535) != (Go.bits .and .i64 t207 65535)) = false := bne_eq_false_iff_eq.mpr c46
                        clear c46
                        obtain rfl := Option.some.inj H
                        obtain ⟨Ao47, co47, eo47⟩ := Kd.R_slice HO_10.out
                        subst eo47
                        go_wp2_with (first | ((with_reducible refine gate_callee (f := 61) rfl ?_); refine goesL_ (some 84) rfl rfl Try.func61 (by kernel_rfl) rfl #[.slice A0 l0.length c0, .int .i64 2] rfl (by (try simp only [List.map_toArray, List.map_cons, List.map_nil]); first | done | rfl | (simp only [List.length_drop, List.length_take]; rfl)) ?_; (with_reducible refine (laws_at.calls _ _ l0 2 t227 _ ?side1 ?side2 A42.out).mono ?_); (case side1 => repeat (first | exact (Kd.C_below HR0.out HB.out) | (with_reducible refine Kd.C_alloc ?_ _) | (with_reducible refine Kd.C_drewN ?_ _) | (with_reducible refine Kd.C_drew ?_))); (case side2 => exact HC0.out); rintro e w' ⟨rfl, ⟨nd, rfl⟩⟩; refine ⟨_, rfl, ?_⟩))
                        go_ret
                        exact ⟨by first | rfl | (simp [errW_none, errW_some] <;> rfl) | (simp [*, errW_none, errW_some] <;> rfl), by repeat (first | (with_reducible first | exact HB.out | apply below_alloc | apply pw_below_drewN | apply below_drew1) | exact HB.out)⟩
                      · rw [if_neg c46] at H
                        have c46b0 : ((Go.bits .and .i64 (Go.bits .xor .i64 t207 (wrap64 (1 + (wrap64 (t227 * 257))))) 65535) == (Go.bits .and .i64 t207 65535)) = false := beq_eq_false_iff_ne.mpr c46
                        have c46b1 : ((Go.bits .and .i64 (Go.bits .xor .i64 t207 (wrap64 (1 + (wrap64 (t227 * 257))))) 65535) != (Go.bits .and .i64 t207 65535)) = true := bne_iff_ne.mpr c46
                        replace H := Option.bind_eq_some_iff.mp H
                        obtain ⟨t228, A480, H⟩ := H
                        replace H : (some (t228 != t208)) = some r := H
                        have A48 := Aside0.mk A480
                        clear A480
                        obtain rfl := Option.some.inj H
                        obtain ⟨Ao49, co49, eo49⟩ := Kd.R_slice HO_10.out
                        subst eo49
                        go_wp2_with (first | ((with_reducible refine gate_callee (f := 61) rfl ?_); refine goesL_ (some 84) rfl rfl Try.func61 (by kernel_rfl) rfl #[.slice A0 l0.length c0, .int .i64 2] rfl (by (try simp only [List.map_toArray, List.map_cons, List.map_nil]); first | done | rfl | (simp only [List.length_drop, List.length_take]; rfl)) ?_; (with_reducible refine (laws_at.calls _ _ l0 2 t227 _ ?side1 ?side2 A42.out).mono ?_); (case side1 => repeat (first | exact (Kd.C_below HR0.out HB.out) | (with_reducible refine Kd.C_alloc ?_ _) | (with_reducible refine Kd.C_drewN ?_ _) | (with_reducible refine Kd.C_drew ?_))); (case side2 => exact HC0.out); rintro e w' ⟨rfl, ⟨nd, rfl⟩⟩; refine ⟨_, rfl, ?_⟩) | (go_at_call 54; (with_reducible refine (impl_Mix.calls (Go.bits .and .i64 (Go.bits .xor .i64 t207 (wrap64 (1 + (wrap64 (t227 * 257))))) 65535) t228 _ A48.out).mono ?_); rintro e w' ⟨rfl, ⟨nd, rfl⟩⟩))
                        go_ret
                        exact ⟨by first | rfl | (simp [errW_none, errW_some] <;> rfl) | (simp [*, errW_none, errW_some] <;> rfl), by repeat (first | (with_reducible first | exact HB.out | apply below_alloc | apply pw_below_drewN | apply below_drew1) | exact HB.out)⟩
                    · rw [if_neg c45] at H
                      have c45b0 : decide (t210 < 1) = false := decide_eq_false c45
                      clear c45
                      by_cases c50 : t211 < t210
                      · rw [if_pos c50] at H
                        have c50b0 : decide (t211 < t210) = true := decide_eq_true c50
                        clear c50
                        by_cases c51 : (Go.bits .and .i64 (Go.bits .xor .i64 t207 (wrap64 (1 + (wrap64 (t227 * 257))))) 65535) = (Go.bits .and .i64 t207 65535)
                        · rw [if_pos c51] at H
                          have c51b0 : ((Go.bits .and .i64 (Go.bits .xor .i64 t207 (wrap64 (1 + (wrap64 (t227 * 257))))) 65535) == (Go.bits .and .i64 t207 65535)) = true := beq_iff_eq.mpr c51
                          have c51b1 : ((Go.bits .and .i64 (Go.bits .xor .i64 t207 (wrap64 (1 + (wrap64 (t227 * 257))))) 65535) != (Go.bits .and .i64 t207 65535)) = false := bne_eq_false_iff_eq.mpr c51
                          clear c51
                          obtain rfl := Option.some.inj H
                          obtain ⟨Ao52, co52, eo52⟩ := Kd.R_slice HO_10.out
                          subst eo52
                          go_wp2_with (first | ((with_reducible refine gate_callee (f := 61) rfl ?_); refine goesL_ (some 84) rfl rfl Try.func61 (by kernel_rfl) rfl #[.slice A0 l0.length c0, .int .i64 2] rfl (by (try simp only [List.map_toArray, List.map_cons, List.map_nil]); first | done | rfl | (simp only [List.length_drop, List.length_take]; rfl)) ?_; (with_reducible refine (laws_at.calls _ _ l0 2 t227 _ ?side1 ?side2 A42.out).mono ?_); (case side1 => repeat (first | exact (Kd.C_below HR0.out HB.out) | (with_reducible refine Kd.C_alloc ?_ _) | (with_reducible refine Kd.C_drewN ?_ _) | (with_reducible refine Kd.C_drew ?_))); (case side2 => exact HC0.out); rintro e w' ⟨rfl, ⟨nd, rfl⟩⟩; refine ⟨_, rfl, ?_⟩))
                          go_ret
                          exact ⟨by first | rfl | (simp [errW_none, errW_some] <;> rfl) | (simp [*, errW_none, errW_some] <;> rfl), by repeat (first | (with_reducible first | exact HB.out | apply below_alloc | apply pw_below_drewN | apply below_drew1) | exact HB.out)⟩
                        · rw [if_neg c51] at H
                          have c51b0 : ((Go.bits .and .i64 (Go.bits .xor .i64 t207 (wrap64 (1 + (wrap64 (t227 * 257))))) 65535) == (Go.bits .and .i64 t207 65535)) = false := beq_eq_false_iff_ne.mpr c51
                          have c51b1 : ((Go.bits .and .i64 (Go.bits .xor .i64 t207 (wrap64 (1 + (wrap64 (t227 * 257))))) 65535) != (Go.bits .and .i64 t207 65535)) = true := bne_iff_ne.mpr c51
                          replace H := Option.bind_eq_some_iff.mp H
                          obtain ⟨t229, A530, H⟩ := H
                          replace H : (some (t229 != t208)) = some r := H
                          have A53 := Aside0.mk A530
                          clear A530
                          obtain rfl := Option.some.inj H
                          obtain ⟨Ao54, co54, eo54⟩ := Kd.R_slice HO_10.out
                          subst eo54
                          go_wp2_with (first | ((with_reducible refine gate_callee (f := 61) rfl ?_); refine goesL_ (some 84) rfl rfl Try.func61 (by kernel_rfl) rfl #[.slice A0 l0.length c0, .int .i64 2] rfl (by (try simp only [List.map_toArray, List.map_cons, List.map_nil]); first | done | rfl | (simp only [List.length_drop, List.length_take]; rfl)) ?_; (with_reducible refine (laws_at.calls _ _ l0 2 t227 _ ?side1 ?side2 A42.out).mono ?_); (case side1 => repeat (first | exact (Kd.C_below HR0.out HB.out) | (with_reducible refine Kd.C_alloc ?_ _) | (with_reducible refine Kd.C_drewN ?_ _) | (with_reducible refine Kd.C_drew ?_))); (case side2 => exact HC0.out); rintro e w' ⟨rfl, ⟨nd, rfl⟩⟩; refine ⟨_, rfl, ?_⟩) | (go_at_call 54; (with_reducible refine (impl_Mix.calls (Go.bits .and .i64 (Go.bits .xor .i64 t207 (wrap64 (1 + (wrap64 (t227 * 257))))) 65535) t229 _ A53.out).mono ?_); rintro e w' ⟨rfl, ⟨nd, rfl⟩⟩))
                          go_ret
                          exact ⟨by first | rfl | (simp [errW_none, errW_some] <;> rfl) | (simp [*, errW_none, errW_some] <;> rfl), by repeat (first | (with_reducible first | exact HB.out | apply below_alloc | apply pw_below_drewN | apply below_drew1) | exact HB.out)⟩
                      · rw [if_neg c50] at H
                        have c50b0 : decide (t211 < t210) = false := decide_eq_false c50
                        clear c50
                        exact absurd ((Option.some.inj H).trans hrt_.out) (by decide)
                  · rw [if_neg c44] at H
                    have c44b0 : decide (0 ≤ t211) = false := decide_eq_false c44
                    clear c44
                    exact absurd ((Option.some.inj H).trans hrt_.out) (by decide)
                · rw [if_neg c43] at H
                  have c43b0 : ((t216.length : Int) == 0) = false := beq_eq_false_iff_ne.mpr c43
                  have c43b1 : ((t216.length : Int) != 0) = true := bne_iff_ne.mpr c43
                  have c43b2 : ¬ (t216 = []) := fun h_ => c43 (by rw [h_]; rfl)
                  by_cases c55 : x11_2 = (t212.length : Int)
                  · rw [if_pos c55] at H
                    have c55b0 : (x11_2 == (t212.length : Int)) = true := beq_iff_eq.mpr c55
                    have c55b1 : (x11_2 != (t212.length : Int)) = false := bne_eq_false_iff_eq.mpr c55
                    clear c55
                    by_cases c56 : t211 ≥ 0
                    · rw [if_pos c56] at H
                      have c56b0 : decide (0 ≤ t211) = true := decide_eq_true c56
                      clear c56
                      by_cases c57 : t210 < 1
                      · rw [if_pos c57] at H
                        have c57b0 : decide (t210 < 1) = true := decide_eq_true c57
                        clear c57
                        by_cases c58 : (Go.bits .and .i64 (Go.bits .xor .i64 t207 (wrap64 (1 + (wrap64 (t227 * 257))))) 65535) = (Go.bits .and .i64 t207 65535)
                        · rw [if_pos c58] at H
                          have c58b0 : ((Go.bits .and .i64 (Go.bits .xor .i64 t207 (wrap64 (1 + (wrap64 (t227 * 257))))) 65535) == (Go.bits .and .i64 t207 65535)) = true := beq_iff_eq.mpr c58
                          have c58b1 : ((Go.bits .and .i64 (Go.bits .xor .i64 t207 (wrap64 (1 + (wrap64 (t227 * 257))))) 65535) != (Go.bits .and .i64 t207 65535)) = false := bne_eq_false_iff_eq.mpr c58
                          clear c58
                          obtain rfl := Option.some.inj H
                          obtain ⟨Ao59, co59, eo59⟩ := Kd.R_slice HO_10.out
                          subst eo59
                          go_wp2_with (first | ((with_reducible refine gate_callee (f := 61) rfl ?_); refine goesL_ (some 84) rfl rfl Try.func61 (by kernel_rfl) rfl #[.slice A0 l0.length c0, .int .i64 2] rfl (by (try simp only [List.map_toArray, List.map_cons, List.map_nil]); first | done | rfl | (simp only [List.length_drop, List.length_take]; rfl)) ?_; (with_reducible refine (laws_at.calls _ _ l0 2 t227 _ ?side1 ?side2 A42.out).mono ?_); (case side1 => repeat (first | exact (Kd.C_below HR0.out HB.out) | (with_reducible refine Kd.C_alloc ?_ _) | (with_reducible refine Kd.C_drewN ?_ _) | (with_reducible refine Kd.C_drew ?_))); (case side2 => exact HC0.out); rintro e w' ⟨rfl, ⟨nd, rfl⟩⟩; refine ⟨_, rfl, ?_⟩))
                          go_ret
                          exact ⟨by first | rfl | (simp [errW_none, errW_some] <;> rfl) | (simp [*, errW_none, errW_some] <;> rfl), by repeat (first | (with_reducible first | exact HB.out | apply below_alloc | apply pw_below_drewN | apply below_drew1) | exact HB.out)⟩
                        · rw [if_neg c58] at H
                          have c58b0 : ((Go.bits .and .i64 (Go.bits .xor .i64 t207 (wrap64 (1 + (wrap64 (t227 * 257))))) 65535) == (Go.bits .and .i64 t207 65535)) = false := beq_eq_false_iff_ne.mpr c58
                          have c58b1 : ((Go.bits .and .i64 (Go.bits .xor .i64 t207 (wrap64 (1 + (wrap64 (t227 * 257))))) 65535) != (Go.bits .and .i64 t207 65535)) = true := bne_iff_ne.mpr c58
                          replace H := Option.bind_eq_some_iff.mp H
                          obtain ⟨t230, A600, H⟩ := H
                          replace H : (some (t230 != t208)) = some r := H
                          have A60 := Aside0.mk A600
                          clear A600
                          obtain rfl := Option.some.inj H
                          obtain ⟨Ao61, co61, eo61⟩ := Kd.R_slice HO_10.out
                          subst eo61
                          go_wp2_with (first | ((with_reducible refine gate_callee (f := 61) rfl ?_); refine goesL_ (some 84) rfl rfl Try.func61 (by kernel_rfl) rfl #[.slice A0 l0.length c0, .int .i64 2] rfl (by (try simp only [List.map_toArray, List.map_cons, List.map_nil]); first | done | rfl | (simp only [List.length_drop, List.length_take]; rfl)) ?_; (with_reducible refine (laws_at.calls _ _ l0 2 t227 _ ?side1 ?side2 A42.out).mono ?_); (case side1 => repeat (first | exact (Kd.C_below HR0.out HB.out) | (with_reducible refine Kd.C_alloc ?_ _) | (with_reducible refine Kd.C_drewN ?_ _) | (with_reducible refine Kd.C_drew ?_))); (case side2 => exact HC0.out); rintro e w' ⟨rfl, ⟨nd, rfl⟩⟩; refine ⟨_, rfl, ?_⟩) | (go_at_call 54; (with_reducible refine (impl_Mix.calls (Go.bits .and .i64 (Go.bits .xor .i64 t207 (wrap64 (1 + (wrap64 (t227 * 257))))) 65535) t230 _ A60.out).mono ?_); rintro e w' ⟨rfl, ⟨nd, rfl⟩⟩))
                          go_ret
                          exact ⟨by first | rfl | (simp [errW_none, errW_some] <;> rfl) | (simp [*, errW_none, errW_some] <;> rfl), by repeat (first | (with_reducible first | exact HB.out | apply below_alloc | apply pw_below_drewN | apply below_drew1) | exact HB.out)⟩
                      · rw [if_neg c57] at H
                        have c57b0 : decide (t210 < 1) = false := decide_eq_false c57
                        clear c57
                        by_cases c62 : t211 < t210
                        · rw [if_pos c62] at H
                          have c62b0 : decide (t211 < t210) = true := decide_eq_true c62
                          clear c62
                          by_cases c63 : (Go.bits .and .i64 (Go.bits .xor .i64 t207 (wrap64 (1 + (wrap64 (t227 * 257))))) 65535) = (Go.bits .and .i64 t207 65535)
                          · rw [if_pos c63] at H
                            have c63b0 : ((Go.bits .and .i64 (Go.bits .xor .i64 t207 (wrap64 (1 + (wrap64 (t227 * 257))))) 65535) == (Go.bits .and .i64 t207 65535)) = true := beq_iff_eq.mpr c63
                            have c63b1 : ((Go.bits .and .i64 (Go.bits .xor .i64 t207 (wrap64 (1 + (wrap64 (t227 * 257))))) 65535) != (Go.bits .and .i64 t207 65535)) = false := bne_eq_false_iff_eq.mpr c63
                            clear c63
                            obtain rfl := Option.some.inj H
                            obtain ⟨Ao64, co64, eo64⟩ := Kd.R_slice HO_10.out
                            subst eo64
                            go_wp2_with (first | ((with_reducible refine gate_callee (f := 61) rfl ?_); refine goesL_ (some 84) rfl rfl Try.func61 (by kernel_rfl) rfl #[.slice A0 l0.length c0, .int .i64 2] rfl (by (try simp only [List.map_toArray, List.map_cons, List.map_nil]); first | done | rfl | (simp only [List.length_drop, List.length_take]; rfl)) ?_; (with_reducible refine (laws_at.calls _ _ l0 2 t227 _ ?side1 ?side2 A42.out).mono ?_); (case side1 => repeat (first | exact (Kd.C_below HR0.out HB.out) | (with_reducible refine Kd.C_alloc ?_ _) | (with_reducible refine Kd.C_drewN ?_ _) | (with_reducible refine Kd.C_drew ?_))); (case side2 => exact HC0.out); rintro e w' ⟨rfl, ⟨nd, rfl⟩⟩; refine ⟨_, rfl, ?_⟩))
                            go_ret
                            exact ⟨by first | rfl | (simp [errW_none, errW_some] <;> rfl) | (simp [*, errW_none, errW_some] <;> rfl), by repeat (first | (with_reducible first | exact HB.out | apply below_alloc | apply pw_below_drewN | apply below_drew1) | exact HB.out)⟩
                          · rw [if_neg c63] at H
                            have c63b0 : ((Go.bits .and .i64 (Go.bits .xor .i64 t207 (wrap64 (1 + (wrap64 (t227 * 257))))) 65535) == (Go.bits .and .i64 t207 65535)) = false := beq_eq_false_iff_ne.mpr c63
                            have c63b1 : ((Go.bits .and .i64 (Go.bits .xor .i64 t207 (wrap64 (1 + (wrap64 (t227 * 257))))) 65535) != (Go.bits .and .i64 t207 65535)) = true := bne_iff_ne.mpr c63
                            replace H := Option.bind_eq_some_iff.mp H
                            obtain ⟨t231, A650, H⟩ := H
                            replace H : (some (t231 != t208)) = some r := H
                            have A65 := Aside0.mk A650
                            clear A650
                            obtain rfl := Option.some.inj H
                            obtain ⟨Ao66, co66, eo66⟩ := Kd.R_slice HO_10.out
                            subst eo66
                            go_wp2_with (first | ((with_reducible refine gate_callee (f := 61) rfl ?_); refine goesL_ (some 84) rfl rfl Try.func61 (by kernel_rfl) rfl #[.slice A0 l0.length c0, .int .i64 2] rfl (by (try simp only [List.map_toArray, List.map_cons, List.map_nil]); first | done | rfl | (simp only [List.length_drop, List.length_take]; rfl)) ?_; (with_reducible refine (laws_at.calls _ _ l0 2 t227 _ ?side1 ?side2 A42.out).mono ?_); (case side1 => repeat (first | exact (Kd.C_below HR0.out HB.out) | (with_reducible refine Kd.C_alloc ?_ _) | (with_reducible refine Kd.C_drewN ?_ _) | (with_reducible refine Kd.C_drew ?_))); (case side2 => exact HC0.out); rintro e w' ⟨rfl, ⟨nd, rfl⟩⟩; refine ⟨_, rfl, ?_⟩) | (go_at_call 54; (with_reducible refine (impl_Mix.calls (Go.bits .and .i64 (Go.bits .xor .i64 t207 (wrap64 (1 + (wrap64 (t227 * 257))))) 65535) t231 _ A65.out).mono ?_); rintro e w' ⟨rfl, ⟨nd, rfl⟩⟩))
                            go_ret
                            exact ⟨by first | rfl | (simp [errW_none, errW_some] <;> rfl) | (simp [*, errW_none, errW_some] <;> rfl), by repeat (first | (with_reducible first | exact HB.out | apply below_alloc | apply pw_below_drewN | apply below_drew1) | exact HB.out)⟩
                        · rw [if_neg c62] at H
                          have c62b0 : decide (t211 < t210) = false := decide_eq_false c62
                          clear c62
                          exact absurd ((Option.some.inj H).trans hrt_.out) (by decide)
                    · rw [if_neg c56] at H
                      have c56b0 : decide (0 ≤ t211) = false := decide_eq_false c56
                      clear c56
                      exact absurd ((Option.some.inj H).trans hrt_.out) (by decide)
                  · rw [if_neg c55] at H
                    have c55b0 : (x11_2 == (t212.length : Int)) = false := beq_eq_false_iff_ne.mpr c55
                    have c55b1 : (x11_2 != (t212.length : Int)) = true := bne_iff_ne.mpr c55
                    exact absurd ((Option.some.inj H).trans hrt_.out) (by decide)

end Go.Proofs.Yteiabkojcfjldaa.QFnStripes
