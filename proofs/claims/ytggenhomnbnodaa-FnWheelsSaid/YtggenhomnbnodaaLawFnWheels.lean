/- The law FnWheels, for every input: the row's statement, out of the pure statement and the printed walk. Conditions: none beyond the statement's own. -/
import Derived.Test.YtggenhomnbnodaaRows
import Derived.Test.YtggenhomnbnodaaQFnWheelsx16
import Derived.Test.YtggenhomnbnodaaPureFnWheels
import Derived.Test.YtggenhomnbnodaaOpens
import Derived.WalkKit
import Derived.ProofKit
import Derived.OpenShut
import Derived.ShutString
import Derived.ChangeOld
import Derived.Below
import Derived.SizedLaws
set_option linter.unusedVariables false
set_option linter.unusedSimpArgs false
namespace Go.Proofs.Ytggenhomnbnodaa.fnWheels
open Go.ChangeShapes Go.WideShapes Go.ChangeAt Go.RowKit Go.Proofs.Ytggenhomnbnodaa.Op Go.Proofs.Ytggenhomnbnodaa.Pure Go.Proofs.Ytggenhomnbnodaa.QFnWheels Go.Proofs.YtggenhomnbnodaaW.PrintWords
open Go.ChangeMaps (open_string shut_string)


theorem own : ownKnob Try.prog.godebug = none := by kernel_rfl
theorem laidOut : laidOutB Try.prog = true := by kernel_rfl
set_option maxRecDepth 100000 in
theorem lifted (os : Os) (started : os.Started) (H : Type) (enc : TypeId × Value → H) :
    ReturnsInHanded {} Try.checked os 12 .any (Rows.fnWheelsSpec.pre6 enc Try.prog Try.f12 Rows.fnWheelsRow.domain false) (Rows.fnWheelsSpec.post enc Try.prog Try.f12 false true false false) := by
  refine returnsInHanded_of_change_sized (C := Try.checked) own started (by kernel_rfl) Try.func12
    (ChangeSpec.witness6 (enc := enc) (C := Try.checked) false ⟨#[], #[.slice none 0 0], []⟩ 8 (by kernel_rfl) (by kernel_rfl) (by kernel_rfl) (by kernel_rfl)) ?_
  intro W base args ds gs before hval0 hW hcnd hsz0 _
  have hsz : (DataW.weightsEach Try.prog (Try.f12.params.toList ++ Rows.fnWheelsSpec.plain.varTypes Try.prog) (ds ++ gs)).all (· ≤ reachBytes) = true := hsz0
  have hval : ∀ (j : Nat) t v, Try.f12.params[j]? = some t → args[j]? = some v → Value.okWide Try.prog W .any base t v := hval0
  have hW' := hW
  obtain ⟨p, q, hA0, hV, rfl, hfz, hnd⟩ := hW
  have hA : DataW.TrodAll enc Try.prog W 0 (fun _ => true) true Try.f12.params.toList args.toList ds p := hA0
  rw [Try.params12] at hA hval hsz
  obtain ⟨v0, vs0, d0, ds0, p0, q0, hargs, rfl, rfl, h0, r0⟩ := trodAll_cons hA
  obtain ⟨rfl, rfl, rfl⟩ := trodAll_nil r0
  obtain rfl : args = #[v0] := by cases args; simp_all
  obtain ⟨rfl, rfl⟩ := trodVars_none hV
  have k0 := h0
  have lt0 : ∀ x ∈ p0, x.block < W.heap.size := by obtain ⟨m, hm⟩ := k0; exact DataW.trod_lt m _ _ _ hm
  obtain ⟨l0, A0, c0, rfl, hc0, hr0, G0⟩ := in_slice Try.underlying58 (hval 0 58 v0 rfl rfl) h0 (fun n => ((down_slice Try.underlying58 (by kernel_rfl) (fun m_ hm_ => (down_int Try.underlying5))) : Down Try.prog n 58 _ _))
  clear hA0 hval0 hsz0 hsz
  have hP := Pure.FnWheels l0 G0
  obtain ⟨k, hk⟩ := hP
  refine (laws_FnWheels.calls k A0 c0 l0 true _ hr0 hc0 ⟨rfl⟩ hk).mono fun e W' ⟨he, bel0⟩ => ?_
  have bel : Below W.heap.size W W' := bel0
  subst he
  exact ⟨_, rfl, _, _, _, [], _, [], hW', trodAll_mk1 (shut_bool Try.underlying4 _), (trodAll_cons_mk (Below.trod laidOut (by kernel_rfl) (of_decide_eq_true (by kernel_rfl)) k0 bel lt0) trodAll_mk0), rfl, bel.frame _, fun h => by cases h⟩
theorem over : Rows.fnWheelsRow.holds Try.pinned (OpenSpec.ofChange Rows.fnWheelsSpec) :=
  OpenClaim.holds_of_wide 12 Try.f12 rfl rfl rfl rfl rfl rfl rfl ⟨rfl, rfl, rfl, rfl, rfl⟩ rfl rfl rfl rfl rfl (by kernel_rfl) Try.func12 (by kernel_rfl)
    (of_decide_eq_true (by kernel_rfl)) (by unfold Func.isWrapper; first | (rw [if_pos (by decide +kernel)]; kernel_rfl) | (rw [if_neg (by decide +kernel)]; exact ⟨rfl, rfl⟩))
    (fun os started H enc _ => lifted os started H enc)
theorem proved : Rows.FnWheelsSaid := over
#print axioms proved
end Go.Proofs.Ytggenhomnbnodaa.fnWheels
namespace Go.Proofs.Ytggenhomnbnodaa
/-- The row, under a short name, for the claim. -/
theorem fnWheels_holds : Rows.FnWheelsSaid := fnWheels.proved
end Go.Proofs.Ytggenhomnbnodaa
