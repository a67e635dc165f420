/- The law FnExactAttrsOk, for every input: the row's statement, out of the pure statement and the printed walk. Conditions: none beyond the statement's own. -/
import Derived.Test.YteiabkojcfjldaaRows
import Derived.Test.YteiabkojcfjldaaQFnExactAttrsOkx6
import Derived.Test.YteiabkojcfjldaaPureFnExactAttrsOk
import Derived.Test.YteiabkojcfjldaaOpens
import Derived.WalkKit
import Derived.ProofKit
import Derived.OpenShut
import Derived.ShutString
import Derived.ChangeOld
import Derived.Below
import Derived.SizedLaws
set_option linter.unusedVariables false
set_option linter.unusedSimpArgs false
namespace Go.Proofs.Yteiabkojcfjldaa.fnExactAttrsOk
open Go.ChangeShapes Go.WideShapes Go.ChangeAt Go.RowKit Go.Proofs.Yteiabkojcfjldaa.Op Go.Proofs.Yteiabkojcfjldaa.Pure Go.Proofs.Yteiabkojcfjldaa.QFnExactAttrsOk Go.Proofs.YteiabkojcfjldaaW.PrintWords
open Go.ChangeMaps (open_string shut_string)
theorem dn23 (n : Nat) : Down Try.prog n 23 k23 good23 := by
  have k := down_struct (P := Try.prog) (n := n) Try.underlying23 (by kernel_rfl) (fun x : S23 => (x.f0, x.f1, x.f2, x.f3)) (fun p => ⟨p.1, p.2.1, p.2.2.1, p.2.2.2⟩) (fun _ => rfl) (fun m hm => (downF_cons rfl (by kernel_rfl) (down_string Try.underlying9) (downF_cons rfl (by kernel_rfl) (down_bool Try.underlying4) (downF_cons rfl (by kernel_rfl) (down_int Try.underlying3) (downF_last rfl (by kernel_rfl) (down_string Try.underlying9))))))
  exact k

theorem own : ownKnob Try.prog.godebug = none := by kernel_rfl
theorem laidOut : laidOutB Try.prog = true := by kernel_rfl
set_option maxRecDepth 100000 in
theorem lifted (os : Os) (started : os.Started) (H : Type) (enc : TypeId × Value → H) :
    ReturnsInHanded {} Try.checked os 10 .any (Rows.fnExactAttrsOkSpec.pre6 enc Try.prog Try.f10 Rows.fnExactAttrsOkRow.domain false) (Rows.fnExactAttrsOkSpec.post enc Try.prog Try.f10 false true false false) := by
  refine returnsInHanded_of_change_sized (C := Try.checked) own started (by kernel_rfl) Try.func10
    (ChangeSpec.witness6 (enc := enc) (C := Try.checked) false ⟨#[], #[.slice none 0 0], []⟩ 8 (by kernel_rfl) (by kernel_rfl) (by kernel_rfl) (by kernel_rfl)) ?_
  intro W base args ds gs before hval0 hW hcnd hsz0 _
  have hsz : (DataW.weightsEach Try.prog (Try.f10.params.toList ++ Rows.fnExactAttrsOkSpec.plain.varTypes Try.prog) (ds ++ gs)).all (· ≤ reachBytes) = true := hsz0
  have hval : ∀ (j : Nat) t v, Try.f10.params[j]? = some t → args[j]? = some v → Value.okWide Try.prog W .any base t v := hval0
  have hW' := hW
  obtain ⟨p, q, hA0, hV, rfl, hfz, hnd⟩ := hW
  have hA : DataW.TrodAll enc Try.prog W 0 (fun _ => true) true Try.f10.params.toList args.toList ds p := hA0
  rw [Try.params10] at hA hval hsz
  obtain ⟨v0, vs0, d0, ds0, p0, q0, hargs, rfl, rfl, h0, r0⟩ := trodAll_cons hA
  obtain ⟨rfl, rfl, rfl⟩ := trodAll_nil r0
  obtain rfl : args = #[v0] := by cases args; simp_all
  obtain ⟨rfl, rfl⟩ := trodVars_none hV
  have k0 := h0
  have lt0 : ∀ x ∈ p0, x.block < W.heap.size := by obtain ⟨m, hm⟩ := k0; exact DataW.trod_lt m _ _ _ hm
  obtain ⟨l0, A0, c0, rfl, hc0, hr0, G0⟩ := in_slice Try.underlying45 (hval 0 45 v0 rfl rfl) h0 (fun n => ((down_slice Try.underlying45 (by kernel_rfl) (fun m_ hm_ => (dn23 _))) : Down Try.prog n 45 _ _))
  clear hA0 hval0 hsz0 hsz
  have hP := Pure.FnExactAttrsOk l0 G0
  obtain ⟨k, hk⟩ := hP
  refine (laws_FnExactAttrsOk.calls k A0 c0 l0 true _ hr0 hc0 ⟨rfl⟩ hk).mono fun e W' ⟨he, bel0⟩ => ?_
  have bel : Below W.heap.size W W' := bel0
  subst he
  exact ⟨_, rfl, _, _, _, [], _, [], hW', trodAll_mk1 (shut_bool Try.underlying4 _), (trodAll_cons_mk (Below.trod laidOut (by kernel_rfl) (of_decide_eq_true (by kernel_rfl)) k0 bel lt0) trodAll_mk0), rfl, bel.frame _, fun h => by cases h⟩
theorem over : Rows.fnExactAttrsOkRow.holds Try.pinned (OpenSpec.ofChange Rows.fnExactAttrsOkSpec) :=
  OpenClaim.holds_of_wide 10 Try.f10 rfl rfl rfl rfl rfl rfl rfl ⟨rfl, rfl, rfl, rfl, rfl⟩ rfl rfl rfl rfl rfl (by kernel_rfl) Try.func10 (by kernel_rfl)
    (of_decide_eq_true (by kernel_rfl)) (by unfold Func.isWrapper; first | (rw [if_pos (by decide +kernel)]; kernel_rfl) | (rw [if_neg (by decide +kernel)]; exact ⟨rfl, rfl⟩))
    (fun os started H enc _ => lifted os started H enc)
theorem proved : Rows.FnExactAttrsOkSaid := over
#print axioms proved
end Go.Proofs.Yteiabkojcfjldaa.fnExactAttrsOk
namespace Go.Proofs.Yteiabkojcfjldaa
/-- The row, under a short name, for the claim. -/
theorem fnExactAttrsOk_holds : Rows.FnExactAttrsOkSaid := fnExactAttrsOk.proved
end Go.Proofs.Yteiabkojcfjldaa
