/- What the Go functions that the law FnAmounts reaches answer: each as a Lean function, with its walk. Written by a program of this session. Conditions: those that each theorem names. -/
import Derived.Test.YteiabkojcfjldaaQFnAmountsx0
import Derived.Test.YteiabkojcfjldaaQFnAmountsx1
namespace Go.Proofs.Yteiabkojcfjldaa.QFnAmounts
open Go.RowKit Go.Proofs.YteiabkojcfjldaaW.PrintWords Go.Proofs.YteiabkojcfjldaaW.PrintLast Go.Proofs.YteiabkojcfjldaaW.PrintMore
attribute [local go_sem] max2_int min2_int max_two min_two max_three min_three max_four min_four   -- for this text's walks alone
set_option linter.unusedVariables false
set_option linter.unusedSimpArgs false

/-! ### laws_FnAmounts: function 7 -/
def laws_FnAmounts.j0 : Nat → Int → Int → Int → Int → Int → Int → Int → Int → Int → Bool → Option (Bool)
  | 0, _, _, _, _, _, _, _, _, _, _ => none
  | k + 1, x3, x4, x5, x6, x7, x8, x9, x10, x11, x63 => if x63 = true then (some false) else ((impl_Cap.f x3).bind fun t205 => (if x9 ≥ t205 then ((impl_Add.f x4 x3).bind fun t206 => (if x9 = t206 then ((impl_Cap.f x5).bind fun t207 => (if x10 ≤ t207 then (if x10 = 0 then ((impl_Mul.f x8 x7).bind fun t208 => (if x11 = t208 then ((impl_Cap.f x11).bind fun t209 => (if t209 = x11 then ((impl_Mul.f x3 1).bind fun t210 => ((impl_Cap.f x3).bind fun t211 => (if t210 = t211 then ((impl_Sub.f x9 x4).bind fun t212 => ((impl_Cap.f x3).bind fun t213 => (some (decide (t212 ≤ t213))))) else (some false)))) else (some false))) else (some false))) else ((impl_Add.f x10 x6).bind fun t214 => ((impl_Cap.f x5).bind fun t215 => (if t214 = t215 then ((impl_Mul.f x8 x7).bind fun t216 => (if x11 = t216 then ((impl_Cap.f x11).bind fun t217 => (if t217 = x11 then ((impl_Mul.f x3 1).bind fun t218 => ((impl_Cap.f x3).bind fun t219 => (if t218 = t219 then ((impl_Sub.f x9 x4).bind fun t220 => ((impl_Cap.f x3).bind fun t221 => (some (decide (t220 ≤ t221))))) else (some false)))) else (some false))) else (some false))) else (some false))))) else (some false))) else (some false))) else (some false)))
def laws_FnAmounts.f (k : Nat) (l0 : List Int) : Option (Bool) := (laws_big.f l0).bind fun t190 => (if t190 = true then (some true) else ((spec_DrawAdd.f k l0).bind fun bt191 => ((spec_DrawSub.f k l0).bind fun bt193 => ((spec_DrawMul.f k l0).bind fun bt195 => ((impl_Add.f bt191.1 bt191.2).bind fun t197 => ((impl_Sub.f bt193.1 bt193.2).bind fun t198 => ((impl_Mul.f bt195.1 bt195.2).bind fun t199 => ((spec_Add.f bt191.1 bt191.2).bind fun t200 => (if t197 = t200 then ((spec_Sub.f bt193.1 bt193.2).bind fun t201 => (if t198 = t201 then ((spec_Mul.f bt195.1 bt195.2).bind fun t202 => (if t199 = t202 then ((impl_Cap.f bt191.1).bind fun t203 => ((spec_Cap.f bt191.1).bind fun t204 => (laws_FnAmounts.j0 k bt191.1 bt191.2 bt193.1 bt193.2 bt195.1 bt195.2 t197 t198 t199 (t203 != t204)))) else (laws_FnAmounts.j0 k bt191.1 bt191.2 bt193.1 bt193.2 bt195.1 bt195.2 t197 t198 t199 true))) else (laws_FnAmounts.j0 k bt191.1 bt191.2 bt193.1 bt193.2 bt195.1 bt195.2 t197 t198 t199 true))) else (laws_FnAmounts.j0 k bt191.1 bt191.2 bt193.1 bt193.2 bt195.1 bt195.2 t197 t198 t199 true))))))))))
theorem laws_FnAmounts.mono_l : ∀ k, (∀ y0 y1 y2 y3 y4 y5 y6 y7 y8 y9, LeO (laws_FnAmounts.j0 k y0 y1 y2 y3 y4 y5 y6 y7 y8 y9) (laws_FnAmounts.j0 (k + 1) y0 y1 y2 y3 y4 y5 y6 y7 y8 y9))
  | 0 => fun _ _ _ _ _ _ _ _ _ _ r h => by simp [laws_FnAmounts.j0] at h
  | k + 1 => by
    have ih0 := laws_FnAmounts.mono_l k
    · intro y0 y1 y2 y3 y4 y5 y6 y7 y8 y9
      unfold laws_FnAmounts.j0
      repeat' first
      | (with_reducible exact ih0 _ _ _ _ _ _ _ _ _ _)
      | (with_reducible exact spec_DrawAdd.mono _ _)
      | (with_reducible exact spec_DrawMul.mono _ _)
      | (with_reducible exact spec_DrawSub.mono _ _)
      | (with_reducible exact LeO.refl _)
      | (with_reducible exact LeO.none _)
      | (with_reducible refine LeO.ite ?_ ?_)
      | (with_reducible refine LeO.bind ?_ (fun _ => ?_))
      | exact ih0 _ _ _ _ _ _ _ _ _ _
      | exact spec_DrawAdd.mono _ _
      | exact spec_DrawMul.mono _ _
      | exact spec_DrawSub.mono _ _
      | exact LeO.none _
      | refine LeO.ite ?_ ?_
      | refine LeO.bind ?_ (fun _ => ?_)
theorem laws_FnAmounts.mono : ∀ a0 k, LeO (laws_FnAmounts.f k a0) (laws_FnAmounts.f (k + 1) a0) := by
  intro a0 k
  have ih0 := laws_FnAmounts.mono_l k
  unfold laws_FnAmounts.f
  repeat' first
      | (with_reducible exact ih0 _ _ _ _ _ _ _ _ _ _)
      | (with_reducible exact spec_DrawAdd.mono _ _)
      | (with_reducible exact spec_DrawMul.mono _ _)
      | (with_reducible exact spec_DrawSub.mono _ _)
      | (with_reducible exact LeO.refl _)
      | (with_reducible exact LeO.none _)
      | (with_reducible refine LeO.ite ?_ ?_)
      | (with_reducible refine LeO.bind ?_ (fun _ => ?_))
      | exact ih0 _ _ _ _ _ _ _ _ _ _
      | exact spec_DrawAdd.mono _ _
      | exact spec_DrawMul.mono _ _
      | exact spec_DrawSub.mono _ _
      | exact LeO.none _
      | refine LeO.ite ?_ ?_
      | refine LeO.bind ?_ (fun _ => ?_)
set_option maxHeartbeats 8000000 in
set_option maxRecDepth 100000 in
theorem laws_FnAmounts.calls (k : Nat) (A0 : Option Addr) (c0 : Nat) (l0 : List Int) (r : Bool) (w : World) (hr0 : Kd.C (Kd.int .u8) w A0 l0.length l0) (hc0 : l0.length ≤ c0) (hrt_ : Aside0 (r = true)) (h : laws_FnAmounts.f k l0 = some r) :
    Calls Try.prog 7 #[.slice A0 l0.length c0] w fun e w' => e = .returned (.bool r) ∧ Below w.heap.size w w' := by
  have HR0 := Aside0.mk hr0
  have HC0 := Aside0.mk hc0
  clear hr0 hc0
  have HB := Aside0.mk (Below.refl w.heap.size w)
  have H : ((laws_big.f l0).bind fun t190 => (if t190 = true then (some true) else ((spec_DrawAdd.f k l0).bind fun bt191 => ((spec_DrawSub.f k l0).bind fun bt193 => ((spec_DrawMul.f k l0).bind fun bt195 => ((impl_Add.f bt191.1 bt191.2).bind fun t197 => ((impl_Sub.f bt193.1 bt193.2).bind fun t198 => ((impl_Mul.f bt195.1 bt195.2).bind fun t199 => ((spec_Add.f bt191.1 bt191.2).bind fun t200 => (if t197 = t200 then ((spec_Sub.f bt193.1 bt193.2).bind fun t201 => (if t198 = t201 then ((spec_Mul.f bt195.1 bt195.2).bind fun t202 => (if t199 = t202 then ((impl_Cap.f bt191.1).bind fun t203 => ((spec_Cap.f bt191.1).bind fun t204 => (laws_FnAmounts.j0 k bt191.1 bt191.2 bt193.1 bt193.2 bt195.1 bt195.2 t197 t198 t199 (t203 != t204)))) else (laws_FnAmounts.j0 k bt191.1 bt191.2 bt193.1 bt193.2 bt195.1 bt195.2 t197 t198 t199 true))) else (laws_FnAmounts.j0 k bt191.1 bt191.2 bt193.1 bt193.2 bt195.1 bt195.2 t197 t198 t199 true))) else (laws_FnAmounts.j0 k bt191.1 bt191.2 bt193.1 bt193.2 bt195.1 bt195.2 t197 t198 t199 true))))))))))) = some r := h
  clear h
  replace H := Option.bind_eq_some_iff.mp H
  obtain ⟨t190, A20, H⟩ := H
  replace H : (if t190 = true then (some true) else ((spec_DrawAdd.f k l0).bind fun bt191 => ((spec_DrawSub.f k l0).bind fun bt193 => ((spec_DrawMul.f k l0).bind fun bt195 => ((impl_Add.f bt191.1 bt191.2).bind fun t197 => ((impl_Sub.f bt193.1 bt193.2).bind fun t198 => ((impl_Mul.f bt195.1 bt195.2).bind fun t199 => ((spec_Add.f bt191.1 bt191.2).bind fun t200 => (if t197 = t200 then ((spec_Sub.f bt193.1 bt193.2).bind fun t201 => (if t198 = t201 then ((spec_Mul.f bt195.1 bt195.2).bind fun t202 => (if t199 = t202 then ((impl_Cap.f bt191.1).bind fun t203 => ((spec_Cap.f bt191.1).bind fun t204 => (laws_FnAmounts.j0 k bt191.1 bt191.2 bt193.1 bt193.2 bt195.1 bt195.2 t197 t198 t199 (t203 != t204)))) else (laws_FnAmounts.j0 k bt191.1 bt191.2 bt193.1 bt193.2 bt195.1 bt195.2 t197 t198 t199 true))) else (laws_FnAmounts.j0 k bt191.1 bt191.2 bt193.1 bt193.2 bt195.1 bt195.2 t197 t198 t199 true))) else (laws_FnAmounts.j0 k bt191.1 bt191.2 bt193.1 bt193.2 bt195.1 bt195.2 t197 t198 t199 true)))))))))) = some r := H
  have A2 := Aside0.mk A20
  clear A20
  by_cases c3 : t190 = true
  · subst c3
    have H1 : (some true) = some r := by rw [if_pos rfl] at H; exact H
    clear H
    have H := H1
    clear H1
    obtain rfl := Option.some.inj H
    go_enter Try.func7, Try.ntmps7
    go_wp2_with (first | ((with_reducible refine gate_callee (f := 27) rfl ?_); refine goesL_ (some 13) rfl rfl Try.func27 (by kernel_rfl) rfl #[.slice A0 l0.length c0] rfl (by (try simp only [List.map_toArray, List.map_cons, List.map_nil]); first | done | rfl | (simp only [List.length_drop, List.length_take]; rfl)) ?_; (with_reducible refine (laws_big.calls _ _ l0 true _ ?side1 ?side2 A2.out).mono ?_); (case side1 => repeat (first | exact HR0.out | (with_reducible refine Kd.C_alloc ?_ _) | (with_reducible refine Kd.C_drewN ?_ _) | (with_reducible refine Kd.C_drew ?_))); (case side2 => exact HC0.out); rintro e w' ⟨rfl, ⟨nd, rfl⟩⟩; refine ⟨_, rfl, ?_⟩))
    go_ret
    exact ⟨by first | rfl | (simp [errW_none, errW_some] <;> rfl) | (simp [*, errW_none, errW_some] <;> rfl), by repeat (first | (with_reducible first | exact HB.out | apply below_alloc | apply pw_below_drewN | apply below_drew1) | exact HB.out)⟩
  · replace c3 := Bool.eq_false_iff.mpr c3
    subst c3
    have H1 : ((spec_DrawAdd.f k l0).bind fun bt191 => ((spec_DrawSub.f k l0).bind fun bt193 => ((spec_DrawMul.f k l0).bind fun bt195 => ((impl_Add.f bt191.1 bt191.2).bind fun t197 => ((impl_Sub.f bt193.1 bt193.2).bind fun t198 => ((impl_Mul.f bt195.1 bt195.2).bind fun t199 => ((spec_Add.f bt191.1 bt191.2).bind fun t200 => (if t197 = t200 then ((spec_Sub.f bt193.1 bt193.2).bind fun t201 => (if t198 = t201 then ((spec_Mul.f bt195.1 bt195.2).bind fun t202 => (if t199 = t202 then ((impl_Cap.f bt191.1).bind fun t203 => ((spec_Cap.f bt191.1).bind fun t204 => (laws_FnAmounts.j0 k bt191.1 bt191.2 bt193.1 bt193.2 bt195.1 bt195.2 t197 t198 t199 (t203 != t204)))) else (laws_FnAmounts.j0 k bt191.1 bt191.2 bt193.1 bt193.2 bt195.1 bt195.2 t197 t198 t199 true))) else (laws_FnAmounts.j0 k bt191.1 bt191.2 bt193.1 bt193.2 bt195.1 bt195.2 t197 t198 t199 true))) else (laws_FnAmounts.j0 k bt191.1 bt191.2 bt193.1 bt193.2 bt195.1 bt195.2 t197 t198 t199 true))))))))) = some r := by rw [if_neg (show ¬ (false = true) by decide)] at H; exact H
    clear H
    have H := H1
    clear H1
    replace H := Option.bind_eq_some_iff.mp H
    obtain ⟨⟨t191, t192⟩, A40, H⟩ := H
    replace H : ((spec_DrawSub.f k l0).bind fun bt193 => ((spec_DrawMul.f k l0).bind fun bt195 => ((impl_Add.f t191 t192).bind fun t197 => ((impl_Sub.f bt193.1 bt193.2).bind fun t198 => ((impl_Mul.f bt195.1 bt195.2).bind fun t199 => ((spec_Add.f t191 t192).bind fun t200 => (if t197 = t200 then ((spec_Sub.f bt193.1 bt193.2).bind fun t201 => (if t198 = t201 then ((spec_Mul.f bt195.1 bt195.2).bind fun t202 => (if t199 = t202 then ((impl_Cap.f t191).bind fun t203 => ((spec_Cap.f t191).bind fun t204 => (laws_FnAmounts.j0 k t191 t192 bt193.1 bt193.2 bt195.1 bt195.2 t197 t198 t199 (t203 != t204)))) else (laws_FnAmounts.j0 k t191 t192 bt193.1 bt193.2 bt195.1 bt195.2 t197 t198 t199 true))) else (laws_FnAmounts.j0 k t191 t192 bt193.1 bt193.2 bt195.1 bt195.2 t197 t198 t199 true))) else (laws_FnAmounts.j0 k t191 t192 bt193.1 bt193.2 bt195.1 bt195.2 t197 t198 t199 true)))))))) = some r := H
    have A4 := Aside0.mk A40
    clear A40
    replace H := Option.bind_eq_some_iff.mp H
    obtain ⟨⟨t193, t194⟩, A50, H⟩ := H
    replace H : ((spec_DrawMul.f k l0).bind fun bt195 => ((impl_Add.f t191 t192).bind fun t197 => ((impl_Sub.f t193 t194).bind fun t198 => ((impl_Mul.f bt195.1 bt195.2).bind fun t199 => ((spec_Add.f t191 t192).bind fun t200 => (if t197 = t200 then ((spec_Sub.f t193 t194).bind fun t201 => (if t198 = t201 then ((spec_Mul.f bt195.1 bt195.2).bind fun t202 => (if t199 = t202 then ((impl_Cap.f t191).bind fun t203 => ((spec_Cap.f t191).bind fun t204 => (laws_FnAmounts.j0 k t191 t192 t193 t194 bt195.1 bt195.2 t197 t198 t199 (t203 != t204)))) else (laws_FnAmounts.j0 k t191 t192 t193 t194 bt195.1 bt195.2 t197 t198 t199 true))) else (laws_FnAmounts.j0 k t191 t192 t193 t194 bt195.1 bt195.2 t197 t198 t199 true))) else (laws_FnAmounts.j0 k t191 t192 t193 t194 bt195.1 bt195.2 t197 t198 t199 true))))))) = some r := H
    have A5 := Aside0.mk A50
    clear A50
    replace H := Option.bind_eq_some_iff.mp H
    obtain ⟨⟨t195, t196⟩, A60, H⟩ := H
    replace H : ((impl_Add.f t191 t192).bind fun t197 => ((impl_Sub.f t193 t194).bind fun t198 => ((impl_Mul.f t195 t196).bind fun t199 => ((spec_Add.f t191 t192).bind fun t200 => (if t197 = t200 then ((spec_Sub.f t193 t194).bind fun t201 => (if t198 = t201 then ((spec_Mul.f t195 t196).bind fun t202 => (if t199 = t202 then ((impl_Cap.f t191).bind fun t203 => ((spec_Cap.f t191).bind fun t204 => (laws_FnAmounts.j0 k t191 t192 t193 t194 t195 t196 t197 t198 t199 (t203 != t204)))) else (laws_FnAmounts.j0 k t191 t192 t193 t194 t195 t196 t197 t198 t199 true))) else (laws_FnAmounts.j0 k t191 t192 t193 t194 t195 t196 t197 t198 t199 true))) else (laws_FnAmounts.j0 k t191 t192 t193 t194 t195 t196 t197 t198 t199 true)))))) = some r := H
    have A6 := Aside0.mk A60
    clear A60
    replace H := Option.bind_eq_some_iff.mp H
    obtain ⟨t197, A70, H⟩ := H
    replace H : ((impl_Sub.f t193 t194).bind fun t198 => ((impl_Mul.f t195 t196).bind fun t199 => ((spec_Add.f t191 t192).bind fun t200 => (if t197 = t200 then ((spec_Sub.f t193 t194).bind fun t201 => (if t198 = t201 then ((spec_Mul.f t195 t196).bind fun t202 => (if t199 = t202 then ((impl_Cap.f t191).bind fun t203 => ((spec_Cap.f t191).bind fun t204 => (laws_FnAmounts.j0 k t191 t192 t193 t194 t195 t196 t197 t198 t199 (t203 != t204)))) else (laws_FnAmounts.j0 k t191 t192 t193 t194 t195 t196 t197 t198 t199 true))) else (laws_FnAmounts.j0 k t191 t192 t193 t194 t195 t196 t197 t198 t199 true))) else (laws_FnAmounts.j0 k t191 t192 t193 t194 t195 t196 t197 t198 t199 true))))) = some r := H
    have A7 := Aside0.mk A70
    clear A70
    replace H := Option.bind_eq_some_iff.mp H
    obtain ⟨t198, A80, H⟩ := H
    replace H : ((impl_Mul.f t195 t196).bind fun t199 => ((spec_Add.f t191 t192).bind fun t200 => (if t197 = t200 then ((spec_Sub.f t193 t194).bind fun t201 => (if t198 = t201 then ((spec_Mul.f t195 t196).bind fun t202 => (if t199 = t202 then ((impl_Cap.f t191).bind fun t203 => ((spec_Cap.f t191).bind fun t204 => (laws_FnAmounts.j0 k t191 t192 t193 t194 t195 t196 t197 t198 t199 (t203 != t204)))) else (laws_FnAmounts.j0 k t191 t192 t193 t194 t195 t196 t197 t198 t199 true))) else (laws_FnAmounts.j0 k t191 t192 t193 t194 t195 t196 t197 t198 t199 true))) else (laws_FnAmounts.j0 k t191 t192 t193 t194 t195 t196 t197 t198 t199 true)))) = some r := H
    have A8 := Aside0.mk A80
    clear A80
    replace H := Option.bind_eq_some_iff.mp H
    obtain ⟨t199, A90, H⟩ := H
    replace H : ((spec_Add.f t191 t192).bind fun t200 => (if t197 = t200 then ((spec_Sub.f t193 t194).bind fun t201 => (if t198 = t201 then ((spec_Mul.f t195 t196).bind fun t202 => (if t199 = t202 then ((impl_Cap.f t191).bind fun t203 => ((spec_Cap.f t191).bind fun t204 => (laws_FnAmounts.j0 k t191 t192 t193 t194 t195 t196 t197 t198 t199 (t203 != t204)))) else (laws_FnAmounts.j0 k t191 t192 t193 t194 t195 t196 t197 t198 t199 true))) else (laws_FnAmounts.j0 k t191 t192 t193 t194 t195 t196 t197 t198 t199 true))) else (laws_FnAmounts.j0 k t191 t192 t193 t194 t195 t196 t197 t198 t199 true))) = some r := H
    have A9 := Aside0.mk A90
    clear A90
    have HC10 := Aside0.mk H
    clear H
    go_enter Try.func7, Try.ntmps7
    go_upto_region 9 with (first | ((with_reducible refine gate_callee (f := 27) rfl ?_); refine goesL_ (some 13) rfl rfl Try.func27 (by kernel_rfl) rfl #[.slice A0 l0.length c0] rfl (by (try simp only [List.map_toArray, List.map_cons, List.map_nil]); first | done | rfl | (simp only [List.length_drop, List.length_take]; rfl)) ?_; (with_reducible refine (laws_big.calls _ _ l0 false _ ?side1 ?side2 A2.out).mono ?_); (case side1 => repeat (first | exact HR0.out | (with_reducible refine Kd.C_alloc ?_ _) | (with_reducible refine Kd.C_drewN ?_ _) | (with_reducible refine Kd.C_drew ?_))); (case side2 => exact HC0.out); rintro e w' ⟨rfl, ⟨nd, rfl⟩⟩; refine ⟨_, rfl, ?_⟩) | ((with_reducible refine gate_callee (f := 28) rfl ?_); refine goesL_ (some 16) rfl rfl Try.func28 (by kernel_rfl) rfl #[.slice A0 l0.length c0] rfl (by (try simp only [List.map_toArray, List.map_cons, List.map_nil]); first | done | rfl | (simp only [List.length_drop, List.length_take]; rfl)) ?_; (with_reducible refine (spec_DrawAdd.calls k _ _ l0 t191 t192 _ ?side1 ?side2 A4.out).mono ?_); (case side1 => repeat (first | exact HR0.out | (with_reducible refine Kd.C_alloc ?_ _) | (with_reducible refine Kd.C_drewN ?_ _) | (with_reducible refine Kd.C_drew ?_))); (case side2 => exact HC0.out); rintro e w11 ⟨rfl, hb⟩; refine ⟨_, rfl, ?_⟩; have n0_ := Aside0.mk (below_step (by repeat (first | (with_reducible first | exact HB.out | apply below_alloc | apply pw_below_drewN | apply below_drew1) | exact HB.out)) hb); clear HB; have HB := n0_; clear n0_; (try clear hb); (try clear hb2); (try clear hk); (try clear hi)) | ((with_reducible refine gate_callee (f := 29) rfl ?_); refine goesL_ (some 21) rfl rfl Try.func29 (by kernel_rfl) rfl #[.slice A0 l0.length c0] rfl (by (try simp only [List.map_toArray, List.map_cons, List.map_nil]); first | done | rfl | (simp only [List.length_drop, List.length_take]; rfl)) ?_; (with_reducible refine (spec_DrawSub.calls k _ _ l0 t193 t194 _ ?side1 ?side2 A5.out).mono ?_); (case side1 => repeat (first | exact (Kd.C_below HR0.out HB.out) | (with_reducible refine Kd.C_alloc ?_ _) | (with_reducible refine Kd.C_drewN ?_ _) | (with_reducible refine Kd.C_drew ?_))); (case side2 => exact HC0.out); rintro e w12 ⟨rfl, hb⟩; refine ⟨_, rfl, ?_⟩; have n0_ := Aside0.mk (below_step (by repeat (first | (with_reducible first | exact HB.out | apply below_alloc | apply pw_below_drewN | apply below_drew1) | exact HB.out)) hb); clear HB; have HB := n0_; clear n0_; (try clear hb); (try clear hb2); (try clear hk); (try clear hi)) | ((with_reducible refine gate_callee (f := 30) rfl ?_); refine goesL_ (some 26) rfl rfl Try.func30 (by kernel_rfl) rfl #[.slice A0 l0.length c0] rfl (by (try simp only [List.map_toArray, List.map_cons, List.map_nil]); first | done | rfl | (simp only [List.length_drop, List.length_take]; rfl)) ?_; (with_reducible refine (spec_DrawMul.calls k _ _ l0 t195 t196 _ ?side1 ?side2 A6.out).mono ?_); (case side1 => repeat (first | exact (Kd.C_below HR0.out HB.out) | (with_reducible refine Kd.C_alloc ?_ _) | (with_reducible refine Kd.C_drewN ?_ _) | (with_reducible refine Kd.C_drew ?_))); (case side2 => exact HC0.out); rintro e w13 ⟨rfl, hb⟩; refine ⟨_, rfl, ?_⟩; have n0_ := Aside0.mk (below_step (by repeat (first | (with_reducible first | exact HB.out | apply below_alloc | apply pw_below_drewN | apply below_drew1) | exact HB.out)) hb); clear HB; have HB := n0_; clear n0_; (try clear hb); (try clear hb2); (try clear hk); (try clear hi)) | ((with_reducible refine gate_callee (f := 31) rfl ?_); refine goesL_ (some 31) rfl rfl Try.func31 (by kernel_rfl) rfl #[.int .i64 t191, .int .i64 t192] rfl (by (try simp only [List.map_toArray, List.map_cons, List.map_nil]); first | done | rfl | (simp only [List.length_drop, List.length_take]; rfl)) ?_; (with_reducible refine (impl_Add.calls t191 t192 t197 _ A7.out).mono ?_); rintro e w14 ⟨rfl, hb⟩; refine ⟨_, rfl, ?_⟩; have n0_ := Aside0.mk (below_step (by repeat (first | (with_reducible first | exact HB.out | apply below_alloc | apply pw_below_drewN | apply below_drew1) | exact HB.out)) hb); clear HB; have HB := n0_; clear n0_; (try clear hb); (try clear hb2); (try clear hk); (try clear hi)) | ((with_reducible refine gate_callee (f := 32) rfl ?_); refine goesL_ (some 34) rfl rfl Try.func32 (by kernel_rfl) rfl #[.int .i64 t193, .int .i64 t194] rfl (by (try simp only [List.map_toArray, List.map_cons, List.map_nil]); first | done | rfl | (simp only [List.length_drop, List.length_take]; rfl)) ?_; (with_reducible refine (impl_Sub.calls t193 t194 t198 _ A8.out).mono ?_); rintro e w15 ⟨rfl, hb⟩; refine ⟨_, rfl, ?_⟩; have n0_ := Aside0.mk (below_step (by repeat (first | (with_reducible first | exact HB.out | apply below_alloc | apply pw_below_drewN | apply below_drew1) | exact HB.out)) hb); clear HB; have HB := n0_; clear n0_; (try clear hb); (try clear hb2); (try clear hk); (try clear hi)) | ((with_reducible refine gate_callee (f := 33) rfl ?_); refine goesL_ (some 37) rfl rfl Try.func33 (by kernel_rfl) rfl #[.int .i64 t195, .int .i64 t196] rfl (by (try simp only [List.map_toArray, List.map_cons, List.map_nil]); first | done | rfl | (simp only [List.length_drop, List.length_take]; rfl)) ?_; (with_reducible refine (impl_Mul.calls t195 t196 t199 _ A9.out).mono ?_); rintro e w16 ⟨rfl, hb⟩; refine ⟨_, rfl, ?_⟩; have n0_ := Aside0.mk (below_step (by repeat (first | (with_reducible first | exact HB.out | apply below_alloc | apply pw_below_drewN | apply below_drew1) | exact HB.out)) hb); clear HB; have HB := n0_; clear n0_; (try clear hb); (try clear hb2); (try clear hk); (try clear hi)))
    (try simp only [Act.put, List.setIfInBounds_toArray, List.set_cons_zero, List.set_cons_succ])
    go_cut [63] (fun v63 wc => ∃ (kq : Nat) (x63_9 : Bool), v63 = .bool x63_9 ∧ Aside0 (laws_FnAmounts.j0 kq t191 t192 t193 t194 t195 t196 t197 t198 t199 x63_9 = some r) ∧ Aside0 (kq ≤ k) ∧ Aside0 (Below w.heap.size w wc))
    case first =>
      have H := HC10.out
      clear HC10
      replace H := Option.bind_eq_some_iff.mp H
      obtain ⟨t200, A170, H⟩ := H
      replace H : (if t197 = t200 then ((spec_Sub.f t193 t194).bind fun t201 => (if t198 = t201 then ((spec_Mul.f t195 t196).bind fun t202 => (if t199 = t202 then ((impl_Cap.f t191).bind fun t203 => ((spec_Cap.f t191).bind fun t204 => (laws_FnAmounts.j0 k t191 t192 t193 t194 t195 t196 t197 t198 t199 (t203 != t204)))) else (laws_FnAmounts.j0 k t191 t192 t193 t194 t195 t196 t197 t198 t199 true))) else (laws_FnAmounts.j0 k t191 t192 t193 t194 t195 t196 t197 t198 t199 true))) else (laws_FnAmounts.j0 k t191 t192 t193 t194 t195 t196 t197 t198 t199 true)) = some r := H
      have A17 := Aside0.mk A170
      clear A170
      by_cases c18 : t197 = t200
      · rw [if_pos c18] at H
        have c18b0 : (t197 == t200) = true := beq_iff_eq.mpr c18
        have c18b1 : (t197 != t200) = false := bne_eq_false_iff_eq.mpr c18
        clear c18
        (first | rw [c18b0] | (simp only [i64_w, i32_w]; rw [c18b0]) | skip)
        replace H := Option.bind_eq_some_iff.mp H
        obtain ⟨t201, A190, H⟩ := H
        replace H : (if t198 = t201 then ((spec_Mul.f t195 t196).bind fun t202 => (if t199 = t202 then ((impl_Cap.f t191).bind fun t203 => ((spec_Cap.f t191).bind fun t204 => (laws_FnAmounts.j0 k t191 t192 t193 t194 t195 t196 t197 t198 t199 (t203 != t204)))) else (laws_FnAmounts.j0 k t191 t192 t193 t194 t195 t196 t197 t198 t199 true))) else (laws_FnAmounts.j0 k t191 t192 t193 t194 t195 t196 t197 t198 t199 true)) = some r := H
        have A19 := Aside0.mk A190
        clear A190
        by_cases c20 : t198 = t201
        · rw [if_pos c20] at H
          have c20b0 : (t198 == t201) = true := beq_iff_eq.mpr c20
          have c20b1 : (t198 != t201) = false := bne_eq_false_iff_eq.mpr c20
          clear c20
          replace H := Option.bind_eq_some_iff.mp H
          obtain ⟨t202, A210, H⟩ := H
          replace H : (if t199 = t202 then ((impl_Cap.f t191).bind fun t203 => ((spec_Cap.f t191).bind fun t204 => (laws_FnAmounts.j0 k t191 t192 t193 t194 t195 t196 t197 t198 t199 (t203 != t204)))) else (laws_FnAmounts.j0 k t191 t192 t193 t194 t195 t196 t197 t198 t199 true)) = some r := H
          have A21 := Aside0.mk A210
          clear A210
          by_cases c22 : t199 = t202
          · rw [if_pos c22] at H
            have c22b0 : (t199 == t202) = true := beq_iff_eq.mpr c22
            have c22b1 : (t199 != t202) = false := bne_eq_false_iff_eq.mpr c22
            clear c22
            replace H := Option.bind_eq_some_iff.mp H
            obtain ⟨t203, A230, H⟩ := H
            replace H : ((spec_Cap.f t191).bind fun t204 => (laws_FnAmounts.j0 k t191 t192 t193 t194 t195 t196 t197 t198 t199 (t203 != t204))) = some r := H
            have A23 := Aside0.mk A230
            clear A230
            replace H := Option.bind_eq_some_iff.mp H
            obtain ⟨t204, A240, H⟩ := H
            replace H : (laws_FnAmounts.j0 k t191 t192 t193 t194 t195 t196 t197 t198 t199 (t203 != t204)) = some r := H
            have A24 := Aside0.mk A240
            clear A240
            have H' := Aside0.mk H
            clear H
            go_wp2_with (first | ((with_reducible refine gate_callee (f := 34) rfl ?_); refine goesL_ (some 41) rfl rfl Try.func34 (by kernel_rfl) rfl #[.int .i64 t191, .int .i64 t192] rfl (by (try simp only [List.map_toArray, List.map_cons, List.map_nil]); first | done | rfl | (simp only [List.length_drop, List.length_take]; rfl)) ?_; (with_reducible refine (spec_Add.calls t191 t192 t200 _ A17.out).mono ?_); rintro e w' ⟨rfl, ⟨nd, rfl⟩⟩; refine ⟨_, rfl, ?_⟩) | (go_at_call 35; (with_reducible refine (spec_Sub.calls t193 t194 t201 _ A19.out).mono ?_); rintro e w' ⟨rfl, ⟨nd, rfl⟩⟩) | (go_at_call 36; (with_reducible refine (spec_Mul.calls t195 t196 t202 _ A21.out).mono ?_); rintro e w' ⟨rfl, ⟨nd, rfl⟩⟩) | (go_at_call 37; (with_reducible refine (impl_Cap.calls t191 t203 _ A23.out).mono ?_); rintro e w25 ⟨rfl, hb⟩; have n0_ := Aside0.mk (below_step (by repeat (first | (with_reducible first | exact HB.out | apply below_alloc | apply pw_below_drewN | apply below_drew1) | exact HB.out)) hb); clear HB; have HB := n0_; clear n0_; (try clear hb); (try clear hb2); (try clear hk); (try clear hi)) | (go_at_call 38; (with_reducible refine (spec_Cap.calls t191 t204 _ A24.out).mono ?_); rintro e w' ⟨rfl, ⟨nd, rfl⟩⟩))
            go_meet
            case rel => exact ⟨_, ((t203 != t204)), (by first | rfl | (simp; done) | (simp [*]; done)), H', ⟨by first | omega | exact Nat.le_refl _⟩, ⟨by repeat (first | (with_reducible first | exact HB.out | apply below_alloc | apply pw_below_drewN | apply below_drew1) | exact HB.out)⟩⟩
          · rw [if_neg c22] at H
            have c22b0 : (t199 == t202) = false := beq_eq_false_iff_ne.mpr c22
            have c22b1 : (t199 != t202) = true := bne_iff_ne.mpr c22
            have H' := Aside0.mk H
            clear H
            go_wp2_with (first | ((with_reducible refine gate_callee (f := 34) rfl ?_); refine goesL_ (some 41) rfl rfl Try.func34 (by kernel_rfl) rfl #[.int .i64 t191, .int .i64 t192] rfl (by (try simp only [List.map_toArray, List.map_cons, List.map_nil]); first | done | rfl | (simp only [List.length_drop, List.length_take]; rfl)) ?_; (with_reducible refine (spec_Add.calls t191 t192 t200 _ A17.out).mono ?_); rintro e w' ⟨rfl, ⟨nd, rfl⟩⟩; refine ⟨_, rfl, ?_⟩) | (go_at_call 35; (with_reducible refine (spec_Sub.calls t193 t194 t201 _ A19.out).mono ?_); rintro e w' ⟨rfl, ⟨nd, rfl⟩⟩) | (go_at_call 36; (with_reducible refine (spec_Mul.calls t195 t196 t202 _ A21.out).mono ?_); rintro e w' ⟨rfl, ⟨nd, rfl⟩⟩))
            go_meet
            case rel => exact ⟨_, (true), (by first | rfl | (simp; done) | (simp [*]; done)), H', ⟨by first | omega | exact Nat.le_refl _⟩, ⟨by repeat (first | (with_reducible first | exact HB.out | apply below_alloc | apply pw_below_drewN | apply below_drew1) | exact HB.out)⟩⟩
        · rw [if_neg c20] at H
          have c20b0 : (t198 == t201) = false := beq_eq_false_iff_ne.mpr c20
          have c20b1 : (t198 != t201) = true := bne_iff_ne.mpr c20
          have H' := Aside0.mk H
          clear H
          go_wp2_with (first | ((with_reducible refine gate_callee (f := 34) rfl ?_); refine goesL_ (some 41) rfl rfl Try.func34 (by kernel_rfl) rfl #[.int .i64 t191, .int .i64 t192] rfl (by (try simp only [List.map_toArray, List.map_cons, List.map_nil]); first | done | rfl | (simp only [List.length_drop, List.length_take]; rfl)) ?_; (with_reducible refine (spec_Add.calls t191 t192 t200 _ A17.out).mono ?_); rintro e w' ⟨rfl, ⟨nd, rfl⟩⟩; refine ⟨_, rfl, ?_⟩) | (go_at_call 35; (with_reducible refine (spec_Sub.calls t193 t194 t201 _ A19.out).mono ?_); rintro e w' ⟨rfl, ⟨nd, rfl⟩⟩))
          go_meet
          case rel => exact ⟨_, (true), (by first | rfl | (simp; done) | (simp [*]; done)), H', ⟨by first | omega | exact Nat.le_refl _⟩, ⟨by repeat (first | (with_reducible first | exact HB.out | apply below_alloc | apply pw_below_drewN | apply below_drew1) | exact HB.out)⟩⟩
      · rw [if_neg c18] at H
        have c18b0 : (t197 == t200) = false := beq_eq_false_iff_ne.mpr c18
        have c18b1 : (t197 != t200) = true := bne_iff_ne.mpr c18
        (first | rw [c18b0] | (simp only [i64_w, i32_w]; rw [c18b0]) | skip)
        have H' := Aside0.mk H
        clear H
        go_wp2_with (first | ((with_reducible refine gate_callee (f := 34) rfl ?_); refine goesL_ (some 41) rfl rfl Try.func34 (by kernel_rfl) rfl #[.int .i64 t191, .int .i64 t192] rfl (by (try simp only [List.map_toArray, List.map_cons, List.map_nil]); first | done | rfl | (simp only [List.length_drop, List.length_take]; rfl)) ?_; (with_reducible refine (spec_Add.calls t191 t192 t200 _ A17.out).mono ?_); rintro e w' ⟨rfl, ⟨nd, rfl⟩⟩; refine ⟨_, rfl, ?_⟩))
        go_meet
        case rel => exact ⟨_, (true), (by first | rfl | (simp; done) | (simp [*]; done)), H', ⟨by first | omega | exact Nat.le_refl _⟩, ⟨by repeat (first | (with_reducible first | exact HB.out | apply below_alloc | apply pw_below_drewN | apply below_drew1) | exact HB.out)⟩⟩
    case rest =>
      clear HC10
      try clear c1
      try clear c2
      try clear p2
      try clear c3
      try clear c7
      try clear c18
      try clear c18b0
      try clear c18b1
      try clear c20
      try clear c20b0
      try clear c20b1
      try clear c22
      try clear c22b0
      try clear c22b1
      obtain ⟨kq, x63_9, rfl, HA, HJ9, HB⟩ := hcut
      cases kq with
      | zero => exact absurd HA.out (by simp [laws_FnAmounts.j0])
      | succ kj9 =>
        have H := HA.out
        clear HA
        simp only [laws_FnAmounts.j0] at H
        by_cases c26 : x63_9 = true
        · subst c26
          have H1 : (some false) = some r := by rw [if_pos rfl] at H; exact H
          clear H
          have H := H1
          clear H1
          exact absurd ((Option.some.inj H).trans hrt_.out) (by decide)
        · replace c26 := Bool.eq_false_iff.mpr c26
          subst c26
          have H1 : ((impl_Cap.f t191).bind fun t205 => (if t197 ≥ t205 then ((impl_Add.f t192 t191).bind fun t206 => (if t197 = t206 then ((impl_Cap.f t193).bind fun t207 => (if t198 ≤ t207 then (if t198 = 0 then ((impl_Mul.f t196 t195).bind fun t208 => (if t199 = t208 then ((impl_Cap.f t199).bind fun t209 => (if t209 = t199 then ((impl_Mul.f t191 1).bind fun t210 => ((impl_Cap.f t191).bind fun t211 => (if t210 = t211 then ((impl_Sub.f t197 t192).bind fun t212 => ((impl_Cap.f t191).bind fun t213 => (some (decide (t212 ≤ t213))))) else (some false)))) else (some false))) else (some false))) else ((impl_Add.f t198 t194).bind fun t214 => ((impl_Cap.f t193).bind fun t215 => (if t214 = t215 then ((impl_Mul.f t196 t195).bind fun t216 => (if t199 = t216 then ((impl_Cap.f t199).bind fun t217 => (if t217 = t199 then ((impl_Mul.f t191 1).bind fun t218 => ((impl_Cap.f t191).bind fun t219 => (if t218 = t219 then ((impl_Sub.f t197 t192).bind fun t220 => ((impl_Cap.f t191).bind fun t221 => (some (decide (t220 ≤ t221))))) else (some false)))) else (some false))) else (some false))) else (some false))))) else (some false))) else (some false))) else (some false))) = some r := by rw [if_neg (show ¬ (false = true) by decide)] at H; exact H
          clear H
          have H := H1
          clear H1
          replace H := Option.bind_eq_some_iff.mp H
          obtain ⟨t205, A270, H⟩ := H
          replace H : (if t197 ≥ t205 then ((impl_Add.f t192 t191).bind fun t206 => (if t197 = t206 then ((impl_Cap.f t193).bind fun t207 => (if t198 ≤ t207 then (if t198 = 0 then ((impl_Mul.f t196 t195).bind fun t208 => (if t199 = t208 then ((impl_Cap.f t199).bind fun t209 => (if t209 = t199 then ((impl_Mul.f t191 1).bind fun t210 => ((impl_Cap.f t191).bind fun t211 => (if t210 = t211 then ((impl_Sub.f t197 t192).bind fun t212 => ((impl_Cap.f t191).bind fun t213 => (some (decide (t212 ≤ t213))))) else (some false)))) else (some false))) else (some false))) else ((impl_Add.f t198 t194).bind fun t214 => ((impl_Cap.f t193).bind fun t215 => (if t214 = t215 then ((impl_Mul.f t196 t195).bind fun t216 => (if t199 = t216 then ((impl_Cap.f t199).bind fun t217 => (if t217 = t199 then ((impl_Mul.f t191 1).bind fun t218 => ((impl_Cap.f t191).bind fun t219 => (if t218 = t219 then ((impl_Sub.f t197 t192).bind fun t220 => ((impl_Cap.f t191).bind fun t221 => (some (decide (t220 ≤ t221))))) else (some false)))) else (some false))) else (some false))) else (some false))))) else (some false))) else (some false))) else (some false)) = some r := H
          have A27 := Aside0.mk A270
          clear A270
          by_cases c28 : t197 ≥ t205
          · rw [if_pos c28] at H
            have c28b0 : decide (t205 ≤ t197) = true := decide_eq_true c28
            clear c28
            replace H := Option.bind_eq_some_iff.mp H
            obtain ⟨t206, A290, H⟩ := H
            replace H : (if t197 = t206 then ((impl_Cap.f t193).bind fun t207 => (if t198 ≤ t207 then (if t198 = 0 then ((impl_Mul.f t196 t195).bind fun t208 => (if t199 = t208 then ((impl_Cap.f t199).bind fun t209 => (if t209 = t199 then ((impl_Mul.f t191 1).bind fun t210 => ((impl_Cap.f t191).bind fun t211 => (if t210 = t211 then ((impl_Sub.f t197 t192).bind fun t212 => ((impl_Cap.f t191).bind fun t213 => (some (decide (t212 ≤ t213))))) else (some false)))) else (some false))) else (some false))) else ((impl_Add.f t198 t194).bind fun t214 => ((impl_Cap.f t193).bind fun t215 => (if t214 = t215 then ((impl_Mul.f t196 t195).bind fun t216 => (if t199 = t216 then ((impl_Cap.f t199).bind fun t217 => (if t217 = t199 then ((impl_Mul.f t191 1).bind fun t218 => ((impl_Cap.f t191).bind fun t219 => (if t218 = t219 then ((impl_Sub.f t197 t192).bind fun t220 => ((impl_Cap.f t191).bind fun t221 => (some (decide (t220 ≤ t221))))) else (some false)))) else (some false))) else (some false))) else (some false))))) else (some false))) else (some false)) = some r := H
            have A29 := Aside0.mk A290
            clear A290
            by_cases c30 : t197 = t206
            · rw [if_pos c30] at H
              have c30b0 : (t197 == t206) = true := beq_iff_eq.mpr c30
              have c30b1 : (t197 != t206) = false := bne_eq_false_iff_eq.mpr c30
              clear c30
              replace H := Option.bind_eq_some_iff.mp H
              obtain ⟨t207, A310, H⟩ := H
              replace H : (if t198 ≤ t207 then (if t198 = 0 then ((impl_Mul.f t196 t195).bind fun t208 => (if t199 = t208 then ((impl_Cap.f t199).bind fun t209 => (if t209 = t199 then ((impl_Mul.f t191 1).bind fun t210 => ((impl_Cap.f t191).bind fun t211 => (if t210 = t211 then ((impl_Sub.f t197 t192).bind fun t212 => ((impl_Cap.f t191).bind fun t213 => (some (decide (t212 ≤ t213))))) else (some false)))) else (some false))) else (some false))) else ((impl_Add.f t198 t194).bind fun t214 => ((impl_Cap.f t193).bind fun t215 => (if t214 = t215 then ((impl_Mul.f t196 t195).bind fun t216 => (if t199 = t216 then ((impl_Cap.f t199).bind fun t217 => (if t217 = t199 then ((impl_Mul.f t191 1).bind fun t218 => ((impl_Cap.f t191).bind fun t219 => (if t218 = t219 then ((impl_Sub.f t197 t192).bind fun t220 => ((impl_Cap.f t191).bind fun t221 => (some (decide (t220 ≤ t221))))) else (some false)))) else (some false))) else (some false))) else (some false))))) else (some false)) = some r := H
              have A31 := Aside0.mk A310
              clear A310
              by_cases c32 : t198 ≤ t207
              · rw [if_pos c32] at H
                have c32b0 : decide (t198 ≤ t207) = true := decide_eq_true c32
                clear c32
                by_cases c33 : t198 = 0
                · rw [if_pos c33] at H
                  have c33b0 : (t198 == 0) = true := beq_iff_eq.mpr c33
                  have c33b1 : (t198 != 0) = false := bne_eq_false_iff_eq.mpr c33
                  clear c33
                  replace H := Option.bind_eq_some_iff.mp H
                  obtain ⟨t208, A340, H⟩ := H
                  replace H : (if t199 = t208 then ((impl_Cap.f t199).bind fun t209 => (if t209 = t199 then ((impl_Mul.f t191 1).bind fun t210 => ((impl_Cap.f t191).bind fun t211 => (if t210 = t211 then ((impl_Sub.f t197 t192).bind fun t212 => ((impl_Cap.f t191).bind fun t213 => (some (decide (t212 ≤ t213))))) else (some false)))) else (some false))) else (some false)) = some r := H
                  have A34 := Aside0.mk A340
                  clear A340
                  by_cases c35 : t199 = t208
                  · rw [if_pos c35] at H
                    have c35b0 : (t199 == t208) = true := beq_iff_eq.mpr c35
                    have c35b1 : (t199 != t208) = false := bne_eq_false_iff_eq.mpr c35
                    clear c35
                    replace H := Option.bind_eq_some_iff.mp H
                    obtain ⟨t209, A360, H⟩ := H
                    replace H : (if t209 = t199 then ((impl_Mul.f t191 1).bind fun t210 => ((impl_Cap.f t191).bind fun t211 => (if t210 = t211 then ((impl_Sub.f t197 t192).bind fun t212 => ((impl_Cap.f t191).bind fun t213 => (some (decide (t212 ≤ t213))))) else (some false)))) else (some false)) = some r := H
                    have A36 := Aside0.mk A360
                    clear A360
                    by_cases c37 : t209 = t199
                    · rw [if_pos c37] at H
                      have c37b0 : (t209 == t199) = true := beq_iff_eq.mpr c37
                      have c37b1 : (t209 != t199) = false := bne_eq_false_iff_eq.mpr c37
                      clear c37
                      replace H := Option.bind_eq_some_iff.mp H
                      obtain ⟨t210, A380, H⟩ := H
                      replace H : ((impl_Cap.f t191).bind fun t211 => (if t210 = t211 then ((impl_Sub.f t197 t192).bind fun t212 => ((impl_Cap.f t191).bind fun t213 => (some (decide (t212 ≤ t213))))) else (some false))) = some r := H
                      have A38 := Aside0.mk A380
                      clear A380
                      replace H := Option.bind_eq_some_iff.mp H
                      obtain ⟨t211, A390, H⟩ := H
                      replace H : (if t210 = t211 then ((impl_Sub.f t197 t192).bind fun t212 => ((impl_Cap.f t191).bind fun t213 => (some (decide (t212 ≤ t213))))) else (some false)) = some r := H
                      have A39 := Aside0.mk A390
                      clear A390
                      obtain rfl : t205 = t211 := Option.some.inj (A27.out.symm.trans A39.out)
                      clear A39
                      by_cases c40 : t210 = t205
                      · rw [if_pos c40] at H
                        have c40b0 : (t210 == t205) = true := beq_iff_eq.mpr c40
                        have c40b1 : (t210 != t205) = false := bne_eq_false_iff_eq.mpr c40
                        clear c40
                        replace H := Option.bind_eq_some_iff.mp H
                        obtain ⟨t212, A410, H⟩ := H
                        replace H : ((impl_Cap.f t191).bind fun t213 => (some (decide (t212 ≤ t213)))) = some r := H
                        have A41 := Aside0.mk A410
                        clear A410
                        replace H := Option.bind_eq_some_iff.mp H
                        obtain ⟨t213, A420, H⟩ := H
                        replace H : (some (decide (t212 ≤ t213))) = some r := H
                        have A42 := Aside0.mk A420
                        clear A420
                        obtain rfl : t205 = t213 := Option.some.inj (A27.out.symm.trans A42.out)
                        clear A42
                        obtain rfl := Option.some.inj H
                        go_wp2_with (first | ((with_reducible refine gate_callee (f := 37) rfl ?_); refine goesL_ (some 66) rfl rfl Try.func37 (by kernel_rfl) rfl #[.int .i64 t191] rfl (by (try simp only [List.map_toArray, List.map_cons, List.map_nil]); first | done | rfl | (simp only [List.length_drop, List.length_take]; rfl)) ?_; (with_reducible refine (impl_Cap.calls t191 t205 _ A27.out).mono ?_); rintro e w43 ⟨rfl, hb⟩; refine ⟨_, rfl, ?_⟩; have n0_ := Aside0.mk (below_step (by repeat (first | (with_reducible first | exact HB.out | apply below_alloc | apply pw_below_drewN | apply below_drew1) | exact HB.out)) hb); clear HB; have HB := n0_; clear n0_; (try clear hb); (try clear hb2); (try clear hk); (try clear hi)) | (go_at_call 31; (with_reducible refine (impl_Add.calls t192 t191 t206 _ A29.out).mono ?_); rintro e w44 ⟨rfl, hb⟩; have n0_ := Aside0.mk (below_step (by repeat (first | (with_reducible first | exact HB.out | apply below_alloc | apply pw_below_drewN | apply below_drew1) | exact HB.out)) hb); clear HB; have HB := n0_; clear n0_; (try clear hb); (try clear hb2); (try clear hk); (try clear hi)) | (go_at_call 37; (with_reducible refine (impl_Cap.calls t193 t207 _ A31.out).mono ?_); rintro e w45 ⟨rfl, hb⟩; have n0_ := Aside0.mk (below_step (by repeat (first | (with_reducible first | exact HB.out | apply below_alloc | apply pw_below_drewN | apply below_drew1) | exact HB.out)) hb); clear HB; have HB := n0_; clear n0_; (try clear hb); (try clear hb2); (try clear hk); (try clear hi)) | (go_at_call 33; (with_reducible refine (impl_Mul.calls t196 t195 t208 _ A34.out).mono ?_); rintro e w46 ⟨rfl, hb⟩; have n0_ := Aside0.mk (below_step (by repeat (first | (with_reducible first | exact HB.out | apply below_alloc | apply pw_below_drewN | apply below_drew1) | exact HB.out)) hb); clear HB; have HB := n0_; clear n0_; (try clear hb); (try clear hb2); (try clear hk); (try clear hi)) | (go_at_call 37; (with_reducible refine (impl_Cap.calls t199 t209 _ A36.out).mono ?_); rintro e w47 ⟨rfl, hb⟩; have n0_ := Aside0.mk (below_step (by repeat (first | (with_reducible first | exact HB.out | apply below_alloc | apply pw_below_drewN | apply below_drew1) | exact HB.out)) hb); clear HB; have HB := n0_; clear n0_; (try clear hb); (try clear hb2); (try clear hk); (try clear hi)) | (go_at_call 33; (with_reducible refine (impl_Mul.calls t191 1 t210 _ A38.out).mono ?_); rintro e w48 ⟨rfl, hb⟩; have n0_ := Aside0.mk (below_step (by repeat (first | (with_reducible first | exact HB.out | apply below_alloc | apply pw_below_drewN | apply below_drew1) | exact HB.out)) hb); clear HB; have HB := n0_; clear n0_; (try clear hb); (try clear hb2); (try clear hk); (try clear hi)) | (go_at_call 37; (with_reducible refine (impl_Cap.calls t191 t205 _ A27.out).mono ?_); rintro e w49 ⟨rfl, hb⟩; have n0_ := Aside0.mk (below_step (by repeat (first | (with_reducible first | exact HB.out | apply below_alloc | apply pw_below_drewN | apply below_drew1) | exact HB.out)) hb); clear HB; have HB := n0_; clear n0_; (try clear hb); (try clear hb2); (try clear hk); (try clear hi)) | (go_at_call 32; (with_reducible refine (impl_Sub.calls t197 t192 t212 _ A41.out).mono ?_); rintro e w50 ⟨rfl, hb⟩; have n0_ := Aside0.mk (below_step (by repeat (first | (with_reducible first | exact HB.out | apply below_alloc | apply pw_below_drewN | apply below_drew1) | exact HB.out)) hb); clear HB; have HB := n0_; clear n0_; (try clear hb); (try clear hb2); (try clear hk); (try clear hi)) | (go_at_call 37; (with_reducible refine (impl_Cap.calls t191 t205 _ A27.out).mono ?_); rintro e w51 ⟨rfl, hb⟩; have n0_ := Aside0.mk (below_step (by repeat (first | (with_reducible first | exact HB.out | apply below_alloc | apply pw_below_drewN | apply below_drew1) | exact HB.out)) hb); clear HB; have HB := n0_; clear n0_; (try clear hb); (try clear hb2); (try clear hk); (try clear hi)))
                        go_ret
                        exact ⟨by first | rfl | (simp [errW_none, errW_some] <;> rfl) | (simp [*, errW_none, errW_some] <;> rfl), by repeat (first | (with_reducible first | exact HB.out | apply below_alloc | apply pw_below_drewN | apply below_drew1) | exact HB.out)⟩
                      · rw [if_neg c40] at H
                        have c40b0 : (t210 == t205) = false := beq_eq_false_iff_ne.mpr c40
                        have c40b1 : (t210 != t205) = true := bne_iff_ne.mpr c40
                        exact absurd ((Option.some.inj H).trans hrt_.out) (by decide)
                    · rw [if_neg c37] at H
                      have c37b0 : (t209 == t199) = false := beq_eq_false_iff_ne.mpr c37
                      have c37b1 : (t209 != t199) = true := bne_iff_ne.mpr c37
                      exact absurd ((Option.some.inj H).trans hrt_.out) (by decide)
                  · rw [if_neg c35] at H
                    have c35b0 : (t199 == t208) = false := beq_eq_false_iff_ne.mpr c35
                    have c35b1 : (t199 != t208) = true := bne_iff_ne.mpr c35
                    exact absurd ((Option.some.inj H).trans hrt_.out) (by decide)
                · rw [if_neg c33] at H
                  have c33b0 : (t198 == 0) = false := beq_eq_false_iff_ne.mpr c33
                  have c33b1 : (t198 != 0) = true := bne_iff_ne.mpr c33
                  replace H := Option.bind_eq_some_iff.mp H
                  obtain ⟨t214, A520, H⟩ := H
                  replace H : ((impl_Cap.f t193).bind fun t215 => (if t214 = t215 then ((impl_Mul.f t196 t195).bind fun t216 => (if t199 = t216 then ((impl_Cap.f t199).bind fun t217 => (if t217 = t199 then ((impl_Mul.f t191 1).bind fun t218 => ((impl_Cap.f t191).bind fun t219 => (if t218 = t219 then ((impl_Sub.f t197 t192).bind fun t220 => ((impl_Cap.f t191).bind fun t221 => (some (decide (t220 ≤ t221))))) else (some false)))) else (some false))) else (some false))) else (some false))) = some r := H
                  have A52 := Aside0.mk A520
                  clear A520
                  replace H := Option.bind_eq_some_iff.mp H
                  obtain ⟨t215, A530, H⟩ := H
                  replace H : (if t214 = t215 then ((impl_Mul.f t196 t195).bind fun t216 => (if t199 = t216 then ((impl_Cap.f t199).bind fun t217 => (if t217 = t199 then ((impl_Mul.f t191 1).bind fun t218 => ((impl_Cap.f t191).bind fun t219 => (if t218 = t219 then ((impl_Sub.f t197 t192).bind fun t220 => ((impl_Cap.f t191).bind fun t221 => (some (decide (t220 ≤ t221))))) else (some false)))) else (some false))) else (some false))) else (some false)) = some r := H
                  have A53 := Aside0.mk A530
                  clear A530
                  obtain rfl : t207 = t215 := Option.some.inj (A31.out.symm.trans A53.out)
                  clear A53
                  by_cases c54 : t214 = t207
                  · rw [if_pos c54] at H
                    have c54b0 : (t214 == t207) = true := beq_iff_eq.mpr c54
                    have c54b1 : (t214 != t207) = false := bne_eq_false_iff_eq.mpr c54
                    clear c54
                    replace H := Option.bind_eq_some_iff.mp H
                    obtain ⟨t216, A550, H⟩ := H
                    replace H : (if t199 = t216 then ((impl_Cap.f t199).bind fun t217 => (if t217 = t199 then ((impl_Mul.f t191 1).bind fun t218 => ((impl_Cap.f t191).bind fun t219 => (if t218 = t219 then ((impl_Sub.f t197 t192).bind fun t220 => ((impl_Cap.f t191).bind fun t221 => (some (decide (t220 ≤ t221))))) else (some false)))) else (some false))) else (some false)) = some r := H
                    have A55 := Aside0.mk A550
                    clear A550
                    by_cases c56 : t199 = t216
                    · rw [if_pos c56] at H
                      have c56b0 : (t199 == t216) = true := beq_iff_eq.mpr c56
                      have c56b1 : (t199 != t216) = false := bne_eq_false_iff_eq.mpr c56
                      clear c56
                      replace H := Option.bind_eq_some_iff.mp H
                      obtain ⟨t217, A570, H⟩ := H
                      replace H : (if t217 = t199 then ((impl_Mul.f t191 1).bind fun t218 => ((impl_Cap.f t191).bind fun t219 => (if t218 = t219 then ((impl_Sub.f t197 t192).bind fun t220 => ((impl_Cap.f t191).bind fun t221 => (some (decide (t220 ≤ t221))))) else (some false)))) else (some false)) = some r := H
                      have A57 := Aside0.mk A570
                      clear A570
                      by_cases c58 : t217 = t199
                      · rw [if_pos c58] at H
                        have c58b0 : (t217 == t199) = true := beq_iff_eq.mpr c58
                        have c58b1 : (t217 != t199) = false := bne_eq_false_iff_eq.mpr c58
                        clear c58
                        replace H := Option.bind_eq_some_iff.mp H
                        obtain ⟨t218, A590, H⟩ := H
                        replace H : ((impl_Cap.f t191).bind fun t219 => (if t218 = t219 then ((impl_Sub.f t197 t192).bind fun t220 => ((impl_Cap.f t191).bind fun t221 => (some (decide (t220 ≤ t221))))) else (some false))) = some r := H
                        have A59 := Aside0.mk A590
                        clear A590
                        replace H := Option.bind_eq_some_iff.mp H
                        obtain ⟨t219, A600, H⟩ := H
                        replace H : (if t218 = t219 then ((impl_Sub.f t197 t192).bind fun t220 => ((impl_Cap.f t191).bind fun t221 => (some (decide (t220 ≤ t221))))) else (some false)) = some r := H
                        have A60 := Aside0.mk A600
                        clear A600
                        obtain rfl : t205 = t219 := Option.some.inj (A27.out.symm.trans A60.out)
                        clear A60
                        by_cases c61 : t218 = t205
                        · rw [if_pos c61] at H
                          have c61b0 : (t218 == t205) = true := beq_iff_eq.mpr c61
                          have c61b1 : (t218 != t205) = false := bne_eq_false_iff_eq.mpr c61
                          clear c61
                          replace H := Option.bind_eq_some_iff.mp H
                          obtain ⟨t220, A620, H⟩ := H
                          replace H : ((impl_Cap.f t191).bind fun t221 => (some (decide (t220 ≤ t221)))) = some r := H
                          have A62 := Aside0.mk A620
                          clear A620
                          replace H := Option.bind_eq_some_iff.mp H
                          obtain ⟨t221, A630, H⟩ := H
                          replace H : (some (decide (t220 ≤ t221))) = some r := H
                          have A63 := Aside0.mk A630
                          clear A630
                          obtain rfl : t205 = t221 := Option.some.inj (A27.out.symm.trans A63.out)
                          clear A63
                          obtain rfl := Option.some.inj H
                          go_wp2_with (first | ((with_reducible refine gate_callee (f := 37) rfl ?_); refine goesL_ (some 66) rfl rfl Try.func37 (by kernel_rfl) rfl #[.int .i64 t191] rfl (by (try simp only [List.map_toArray, List.map_cons, List.map_nil]); first | done | rfl | (simp only [List.length_drop, List.length_take]; rfl)) ?_; (with_reducible refine (impl_Cap.calls t191 t205 _ A27.out).mono ?_); rintro e w64 ⟨rfl, hb⟩; refine ⟨_, rfl, ?_⟩; have n0_ := Aside0.mk (below_step (by repeat (first | (with_reducible first | exact HB.out | apply below_alloc | apply pw_below_drewN | apply below_drew1) | exact HB.out)) hb); clear HB; have HB := n0_; clear n0_; (try clear hb); (try clear hb2); (try clear hk); (try clear hi)) | (go_at_call 31; (with_reducible refine (impl_Add.calls t192 t191 t206 _ A29.out).mono ?_); rintro e w65 ⟨rfl, hb⟩; have n0_ := Aside0.mk (below_step (by repeat (first | (with_reducible first | exact HB.out | apply below_alloc | apply pw_below_drewN | apply below_drew1) | exact HB.out)) hb); clear HB; have HB := n0_; clear n0_; (try clear hb); (try clear hb2); (try clear hk); (try clear hi)) | (go_at_call 37; (with_reducible refine (impl_Cap.calls t193 t207 _ A31.out).mono ?_); rintro e w66 ⟨rfl, hb⟩; have n0_ := Aside0.mk (below_step (by repeat (first | (with_reducible first | exact HB.out | apply below_alloc | apply pw_below_drewN | apply below_drew1) | exact HB.out)) hb); clear HB; have HB := n0_; clear n0_; (try clear hb); (try clear hb2); (try clear hk); (try clear hi)) | (go_at_call 31; (with_reducible refine (impl_Add.calls t198 t194 t214 _ A52.out).mono ?_); rintro e w67 ⟨rfl, hb⟩; have n0_ := Aside0.mk (below_step (by repeat (first | (with_reducible first | exact HB.out | apply below_alloc | apply pw_below_drewN | apply below_drew1) | exact HB.out)) hb); clear HB; have HB := n0_; clear n0_; (try clear hb); (try clear hb2); (try clear hk); (try clear hi)) | (go_at_call 37; (with_reducible refine (impl_Cap.calls t193 t207 _ A31.out).mono ?_); rintro e w68 ⟨rfl, hb⟩; have n0_ := Aside0.mk (below_step (by repeat (first | (with_reducible first | exact HB.out | apply below_alloc | apply pw_below_drewN | apply below_drew1) | exact HB.out)) hb); clear HB; have HB := n0_; clear n0_; (try clear hb); (try clear hb2); (try clear hk); (try clear hi)) | (go_at_call 33; (with_reducible refine (impl_Mul.calls t196 t195 t216 _ A55.out).mono ?_); rintro e w69 ⟨rfl, hb⟩; have n0_ := Aside0.mk (below_step (by repeat (first | (with_reducible first | exact HB.out | apply below_alloc | apply pw_below_drewN | apply below_drew1) | exact HB.out)) hb); clear HB; have HB := n0_; clear n0_; (try clear hb); (try clear hb2); (try clear hk); (try clear hi)) | (go_at_call 37; (with_reducible refine (impl_Cap.calls t199 t217 _ A57.out).mono ?_); rintro e w70 ⟨rfl, hb⟩; have n0_ := Aside0.mk (below_step (by repeat (first | (with_reducible first | exact HB.out | apply below_alloc | apply pw_below_drewN | apply below_drew1) | exact HB.out)) hb); clear HB; have HB := n0_; clear n0_; (try clear hb); (try clear hb2); (try clear hk); (try clear hi)) | (go_at_call 33; (with_reducible refine (impl_Mul.calls t191 1 t218 _ A59.out).mono ?_); rintro e w71 ⟨rfl, hb⟩; have n0_ := Aside0.mk (below_step (by repeat (first | (with_reducible first | exact HB.out | apply below_alloc | apply pw_below_drewN | apply below_drew1) | exact HB.out)) hb); clear HB; have HB := n0_; clear n0_; (try clear hb); (try clear hb2); (try clear hk); (try clear hi)) | (go_at_call 37; (with_reducible refine (impl_Cap.calls t191 t205 _ A27.out).mono ?_); rintro e w72 ⟨rfl, hb⟩; have n0_ := Aside0.mk (below_step (by repeat (first | (with_reducible first | exact HB.out | apply below_alloc | apply pw_below_drewN | apply below_drew1) | exact HB.out)) hb); clear HB; have HB := n0_; clear n0_; (try clear hb); (try clear hb2); (try clear hk); (try clear hi)) | (go_at_call 32; (with_reducible refine (impl_Sub.calls t197 t192 t220 _ A62.out).mono ?_); rintro e w73 ⟨rfl, hb⟩; have n0_ := Aside0.mk (below_step (by repeat (first | (with_reducible first | exact HB.out | apply below_alloc | apply pw_below_drewN | apply below_drew1) | exact HB.out)) hb); clear HB; have HB := n0_; clear n0_; (try clear hb); (try clear hb2); (try clear hk); (try clear hi)) | (go_at_call 37; (with_reducible refine (impl_Cap.calls t191 t205 _ A27.out).mono ?_); rintro e w74 ⟨rfl, hb⟩; have n0_ := Aside0.mk (below_step (by repeat (first | (with_reducible first | exact HB.out | apply below_alloc | apply pw_below_drewN | apply below_drew1) | exact HB.out)) hb); clear HB; have HB := n0_; clear n0_; (try clear hb); (try clear hb2); (try clear hk); (try clear hi)))
                          go_ret
                          exact ⟨by first | rfl | (simp [errW_none, errW_some] <;> rfl) | (simp [*, errW_none, errW_some] <;> rfl), by repeat (first | (with_reducible first | exact HB.out | apply below_alloc | apply pw_below_drewN | apply below_drew1) | exact HB.out)⟩
                        · rw [if_neg c61] at H
                          have c61b0 : (t218 == t205) = false := beq_eq_false_iff_ne.mpr c61
                          have c61b1 : (t218 != t205) = true := bne_iff_ne.mpr c61
                          exact absurd ((Option.some.inj H).trans hrt_.out) (by decide)
                      · rw [if_neg c58] at H
                        have c58b0 : (t217 == t199) = false := beq_eq_false_iff_ne.mpr c58
                        have c58b1 : (t217 != t199) = true := bne_iff_ne.mpr c58
                        exact absurd ((Option.some.inj H).trans hrt_.out) (by decide)
                    · rw [if_neg c56] at H
                      have c56b0 : (t199 == t216) = false := beq_eq_false_iff_ne.mpr c56
                      have c56b1 : (t199 != t216) = true := bne_iff_ne.mpr c56
                      exact absurd ((Option.some.inj H).trans hrt_.out) (by decide)
                  · rw [if_neg c54] at H
                    have c54b0 : (t214 == t207) = false := beq_eq_false_iff_ne.mpr c54
                    have c54b1 : (t214 != t207) = true := bne_iff_ne.mpr c54
                    exact absurd ((Option.some.inj H).trans hrt_.out) (by decide)
              · rw [if_neg c32] at H
                have c32b0 : decide (t198 ≤ t207) = false := decide_eq_false c32
                clear c32
                exact absurd ((Option.some.inj H).trans hrt_.out) (by decide)
            · rw [if_neg c30] at H
              have c30b0 : (t197 == t206) = false := beq_eq_false_iff_ne.mpr c30
              have c30b1 : (t197 != t206) = true := bne_iff_ne.mpr c30
              exact absurd ((Option.some.inj H).trans hrt_.out) (by decide)
          · rw [if_neg c28] at H
            have c28b0 : decide (t205 ≤ t197) = false := decide_eq_false c28
            clear c28
            exact absurd ((Option.some.inj H).trans hrt_.out) (by decide)

end Go.Proofs.Yteiabkojcfjldaa.QFnAmounts
