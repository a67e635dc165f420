/- The law FnExactAttrOk, for every input: the row's statement, out of the pure statement and the printed walk. Conditions: none beyond the statement's own. -/
import Derived.Test.YteiabkojcfjldaaRows
import Derived.Test.YteiabkojcfjldaaPFnExactAttrOkx2
import Derived.Test.YteiabkojcfjldaaPureFnExactAttrOk
import Derived.Test.YteiabkojcfjldaaOpens
import Derived.WalkKit
import Derived.ProofKit
import Derived.OpenShut
import Derived.ShutString
import Derived.ChangeOld
import Derived.Below
import Derived.SizedLaws
set_option linter.unusedVariables false
set_option linter.unusedSimpArgs false
namespace Go.Proofs.Yteiabkojcfjldaa.fnExactAttrOk
open Go.ChangeShapes Go.WideShapes Go.ChangeAt Go.RowKit Go.Proofs.Yteiabkojcfjldaa.Op Go.Proofs.Yteiabkojcfjldaa.Pure Go.Proofs.Yteiabkojcfjldaa.PFnExactAttrOk Go.Proofs.YteiabkojcfjldaaW.PrintWords
open Go.ChangeMaps (open_string shut_string)
theorem dt23 (n : Nat) : Down Try.prog n 23 (Kd.iso (Kd.pair Kd.string (Kd.pair Kd.bool (Kd.pair (Kd.int .i64) Kd.string))) (fun x => x)) (fun x => (x.1).size ≤ maxLen ∧ True ∧ (Lit.int .i64 (x.2.2.1)).wf = true ∧ (x.2.2.2).size ≤ maxLen) := by
  have k := down_struct (P := Try.prog) (n := n) Try.underlying23 (by kernel_rfl) (fun x => x) (fun x => x) (fun _ => rfl) (fun m hm => (downF_cons rfl (by kernel_rfl) (down_string Try.underlying9) (downF_cons rfl (by kernel_rfl) (down_bool Try.underlying4) (downF_cons rfl (by kernel_rfl) (down_int Try.underlying3) (downF_last rfl (by kernel_rfl) (down_string Try.underlying9))))))
  exact k

theorem own : ownKnob Try.prog.godebug = none := by kernel_rfl
theorem laidOut : laidOutB Try.prog = true := by kernel_rfl
set_option maxRecDepth 100000 in
theorem lifted (os : Os) (started : os.Started) (H : Type) (enc : TypeId × Value → H) :
    ReturnsInHanded {} Try.checked os 6 .any (Rows.fnExactAttrOkSpec.pre6 enc Try.prog Try.f6 Rows.fnExactAttrOkRow.domain false) (Rows.fnExactAttrOkSpec.post enc Try.prog Try.f6 false true false false) := by
  refine returnsInHanded_of_change_sized (C := Try.checked) own started (by kernel_rfl) Try.func6
    (ChangeSpec.witness6 (enc := enc) (C := Try.checked) false ⟨#[], #[.agg #[.string ByteArray.empty, .bool false, .int .i64 0, .string ByteArray.empty]], []⟩ 8 (by kernel_rfl) (by kernel_rfl) (by kernel_rfl) (by kernel_rfl)) ?_
  intro W base args ds gs before hval0 hW hcnd hsz0 _
  have hsz : (DataW.weightsEach Try.prog (Try.f6.params.toList ++ Rows.fnExactAttrOkSpec.plain.varTypes Try.prog) (ds ++ gs)).all (· ≤ reachBytes) = true := hsz0
  have hval : ∀ (j : Nat) t v, Try.f6.params[j]? = some t → args[j]? = some v → Value.okWide Try.prog W .any base t v := hval0
  have hW' := hW
  obtain ⟨p, q, hA0, hV, rfl, hfz, hnd⟩ := hW
  have hA : DataW.TrodAll enc Try.prog W 0 (fun _ => true) true Try.f6.params.toList args.toList ds p := hA0
  rw [Try.params6] at hA hval hsz
  obtain ⟨v0, vs0, d0, ds0, p0, q0, hargs, rfl, rfl, h0, r0⟩ := trodAll_cons hA
  obtain ⟨rfl, rfl, rfl⟩ := trodAll_nil r0
  obtain rfl : args = #[v0] := by cases args; simp_all
  obtain ⟨rfl, rfl⟩ := trodVars_none hV
  have k0 := h0
  have lt0 : ∀ x ∈ p0, x.block < W.heap.size := by obtain ⟨m, hm⟩ := k0; exact DataW.trod_lt m _ _ _ hm
  obtain ⟨x0, cs0, rfl, K0, G0⟩ := in_struct Try.underlying23 (hval 0 23 v0 rfl rfl) h0 (fun n => dt23 n)
  obtain ⟨cl0⟩ := cs0
  obtain ⟨a0_0, a0_1, a0_2, a0_3⟩ := x0
  replace K0 : (Kd.iso (Kd.pair Kd.string (Kd.pair Kd.bool (Kd.pair (Kd.int .i64) Kd.string))) (fun x => x)).K W (a0_0, a0_1, a0_2, a0_3) cl0 := K0
  obtain ⟨_, _, rfl, rfl, ⟨_, _, rfl, rfl, ⟨_, _, rfl, rfl, rfl⟩⟩⟩ := K0
  clear hA0 hval0 hsz0 hsz
  have hP := Pure.FnExactAttrOk a0_0 a0_1 a0_2 a0_3 G0
  obtain ⟨k, hk⟩ := hP
  refine (laws_FnExactAttrOk.calls k a0_0 a0_1 a0_2 a0_3 true _ hk).mono fun e W' ⟨he, bel0⟩ => ?_
  have bel : Below W.heap.size W W' := bel0
  subst he
  exact ⟨_, rfl, _, _, _, [], _, [], hW', trodAll_mk1 (shut_bool Try.underlying4 _), (trodAll_cons_mk (Below.trod laidOut (by kernel_rfl) (of_decide_eq_true (by kernel_rfl)) k0 bel lt0) trodAll_mk0), rfl, bel.frame _, fun h => by cases h⟩
theorem over : Rows.fnExactAttrOkRow.holds Try.pinned (OpenSpec.ofChange Rows.fnExactAttrOkSpec) :=
  OpenClaim.holds_of_wide 6 Try.f6 rfl rfl rfl rfl rfl rfl rfl ⟨rfl, rfl, rfl, rfl, rfl⟩ rfl rfl rfl rfl rfl (by kernel_rfl) Try.func6 (by kernel_rfl)
    (of_decide_eq_true (by kernel_rfl)) (by unfold Func.isWrapper; first | (rw [if_pos (by decide +kernel)]; kernel_rfl) | (rw [if_neg (by decide +kernel)]; exact ⟨rfl, rfl⟩))
    (fun os started H enc _ => lifted os started H enc)
theorem proved : Rows.FnExactAttrOkSaid := over
#print axioms proved
end Go.Proofs.Yteiabkojcfjldaa.fnExactAttrOk
namespace Go.Proofs.Yteiabkojcfjldaa
/-- The row, under a short name, for the claim. -/
theorem fnExactAttrOk_holds : Rows.FnExactAttrOkSaid := fnExactAttrOk.proved
end Go.Proofs.Yteiabkojcfjldaa
