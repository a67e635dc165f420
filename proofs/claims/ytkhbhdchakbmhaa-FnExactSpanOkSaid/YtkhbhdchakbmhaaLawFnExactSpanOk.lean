/- The law FnExactSpanOk, for every input: the row's statement, out of the pure statement and the printed walk. Conditions: none beyond the statement's own. -/
import Derived.Test.YtkhbhdchakbmhaaRows
import Derived.Test.YtkhbhdchakbmhaaQFnExactSpanOkx6
import Derived.Test.YtkhbhdchakbmhaaPureFnExactSpanOk
import Derived.Test.YtkhbhdchakbmhaaOpens
import Derived.WalkKit
import Derived.ProofKit
import Derived.OpenShut
import Derived.ShutString
import Derived.ChangeOld
import Derived.Below
import Derived.SizedLaws
set_option linter.unusedVariables false
set_option linter.unusedSimpArgs false
namespace Go.Proofs.Ytkhbhdchakbmhaa.fnExactSpanOk
open Go.ChangeShapes Go.WideShapes Go.ChangeAt Go.RowKit Go.Proofs.Ytkhbhdchakbmhaa.Op Go.Proofs.Ytkhbhdchakbmhaa.Pure Go.Proofs.Ytkhbhdchakbmhaa.QFnExactSpanOk Go.Proofs.YtkhbhdchakbmhaaW.PrintWords
open Go.ChangeMaps (open_string shut_string)
theorem dn58 (n : Nat) : Down Try.prog n 58 k58 good58 := by
  have k := down_struct (P := Try.prog) (n := n) Try.underlying58 (by kernel_rfl) (fun x : S58 => (x.f0, x.f1, x.f2, x.f3)) (fun p => ⟨p.1, p.2.1, p.2.2.1, p.2.2.2⟩) (fun _ => rfl) (fun m hm => (downF_cons rfl (by kernel_rfl) (down_string Try.underlying9) (downF_cons rfl (by kernel_rfl) (down_bool Try.underlying4) (downF_cons rfl (by kernel_rfl) (down_int Try.underlying3) (downF_last rfl (by kernel_rfl) (down_string Try.underlying9))))))
  exact k
theorem dt24 (n : Nat) : Down Try.prog n 24 (Kd.iso (Kd.pair (Kd.int .i64) (Kd.pair (Kd.int .i64) (Kd.pair (Kd.int .i64) (Kd.pair (Kd.int .i64) (Kd.pair Kd.bool (Kd.slice 58 k58)))))) (fun x => x)) (fun x => (Lit.int .i64 (x.1)).wf = true ∧ (Lit.int .i64 (x.2.1)).wf = true ∧ (Lit.int .i64 (x.2.2.1)).wf = true ∧ (Lit.int .i64 (x.2.2.2.1)).wf = true ∧ True ∧ ((x.2.2.2.2.2).length ≤ maxLen ∧ ∀ y58 ∈ (x.2.2.2.2.2), good58 y58)) := by
  have k := down_struct (P := Try.prog) (n := n) Try.underlying24 (by kernel_rfl) (fun x => x) (fun x => x) (fun _ => rfl) (fun m hm => (downF_cons rfl (by kernel_rfl) (down_int Try.underlying3) (downF_cons rfl (by kernel_rfl) (down_int Try.underlying3) (downF_cons rfl (by kernel_rfl) (down_int Try.underlying3) (downF_cons rfl (by kernel_rfl) (down_int Try.underlying3) (downF_cons rfl (by kernel_rfl) (down_bool Try.underlying4) (downF_last rfl (by kernel_rfl) (down_slice Try.underlying22 (by kernel_rfl) (fun m_ hm_ => (dn58 _))))))))))
  exact k

theorem own : ownKnob Try.prog.godebug = none := by kernel_rfl
theorem laidOut : laidOutB Try.prog = true := by kernel_rfl
set_option maxRecDepth 100000 in
theorem lifted (os : Os) (started : os.Started) (H : Type) (enc : TypeId × Value → H) :
    ReturnsInHanded {} Try.checked os 6 .any (Rows.fnExactSpanOkSpec.pre6 enc Try.prog Try.f6 Rows.fnExactSpanOkRow.domain false) (Rows.fnExactSpanOkSpec.post enc Try.prog Try.f6 false true false false) := by
  refine returnsInHanded_of_change_sized (C := Try.checked) own started (by kernel_rfl) Try.func6
    (ChangeSpec.witness6 (enc := enc) (C := Try.checked) false ⟨#[], #[.agg #[.int .i64 0, .int .i64 0, .int .i64 0, .int .i64 0, .bool false, .slice none 0 0]], []⟩ 8 (by kernel_rfl) (by kernel_rfl) (by kernel_rfl) (by kernel_rfl)) ?_
  intro W base args ds gs before hval0 hW hcnd hsz0 _
  have hsz : (DataW.weightsEach Try.prog (Try.f6.params.toList ++ Rows.fnExactSpanOkSpec.plain.varTypes Try.prog) (ds ++ gs)).all (· ≤ reachBytes) = true := hsz0
  have hval : ∀ (j : Nat) t v, Try.f6.params[j]? = some t → args[j]? = some v → Value.okWide Try.prog W .any base t v := hval0
  have hW' := hW
  obtain ⟨p, q, hA0, hV, rfl, hfz, hnd⟩ := hW
  have hA : DataW.TrodAll enc Try.prog W 0 (fun _ => true) true Try.f6.params.toList args.toList ds p := hA0
  rw [Try.params6] at hA hval hsz
  obtain ⟨v0, vs0, d0, ds0, p0, q0, hargs, rfl, rfl, h0, r0⟩ := trodAll_cons hA
  obtain ⟨rfl, rfl, rfl⟩ := trodAll_nil r0
  obtain rfl : args = #[v0] := by cases args; simp_all
  obtain ⟨rfl, rfl⟩ := trodVars_none hV
  have k0 := h0
  have lt0 : ∀ x ∈ p0, x.block < W.heap.size := by obtain ⟨m, hm⟩ := k0; exact DataW.trod_lt m _ _ _ hm
  obtain ⟨x0, cs0, rfl, K0, G0⟩ := in_struct Try.underlying24 (hval 0 24 v0 rfl rfl) h0 (fun n => dt24 n)
  obtain ⟨cl0⟩ := cs0
  obtain ⟨a0_0, a0_1, a0_2, a0_3, a0_4, l0_5⟩ := x0
  replace K0 : (Kd.iso (Kd.pair (Kd.int .i64) (Kd.pair (Kd.int .i64) (Kd.pair (Kd.int .i64) (Kd.pair (Kd.int .i64) (Kd.pair Kd.bool (Kd.slice 58 k58)))))) (fun x => x)).K W (a0_0, a0_1, a0_2, a0_3, a0_4, l0_5) cl0 := K0
  obtain ⟨_, _, rfl, rfl, ⟨_, _, rfl, rfl, ⟨_, _, rfl, rfl, ⟨_, _, rfl, rfl, ⟨_, _, rfl, rfl, ⟨A0_5, c0_5, rfl, hc0_5, hr0_5⟩⟩⟩⟩⟩⟩ := K0
  clear hA0 hval0 hsz0 hsz
  have hP := Pure.FnExactSpanOk a0_0 a0_1 a0_2 a0_3 a0_4 l0_5 G0
  obtain ⟨k, hk⟩ := hP
  refine (laws_FnExactSpanOk.calls k a0_0 a0_1 a0_2 a0_3 a0_4 A0_5 c0_5 l0_5 true _ hr0_5 hc0_5 ⟨rfl⟩ hk).mono fun e W' ⟨he, bel0⟩ => ?_
  have bel : Below W.heap.size W W' := bel0
  subst he
  exact ⟨_, rfl, _, _, _, [], _, [], hW', trodAll_mk1 (shut_bool Try.underlying4 _), (trodAll_cons_mk (Below.trod laidOut (by kernel_rfl) (of_decide_eq_true (by kernel_rfl)) k0 bel lt0) trodAll_mk0), rfl, bel.frame _, fun h => by cases h⟩
theorem over : Rows.fnExactSpanOkRow.holds Try.pinned (OpenSpec.ofChange Rows.fnExactSpanOkSpec) :=
  OpenClaim.holds_of_wide 6 Try.f6 rfl rfl rfl rfl rfl rfl rfl ⟨rfl, rfl, rfl, rfl, rfl⟩ rfl rfl rfl rfl rfl (by kernel_rfl) Try.func6 (by kernel_rfl)
    (of_decide_eq_true (by kernel_rfl)) (by unfold Func.isWrapper; first | (rw [if_pos (by decide +kernel)]; kernel_rfl) | (rw [if_neg (by decide +kernel)]; exact ⟨rfl, rfl⟩))
    (fun os started H enc _ => lifted os started H enc)
theorem proved : Rows.FnExactSpanOkSaid := over
#print axioms proved
end Go.Proofs.Ytkhbhdchakbmhaa.fnExactSpanOk
namespace Go.Proofs.Ytkhbhdchakbmhaa
/-- The row, under a short name, for the claim. -/
theorem fnExactSpanOk_holds : Rows.FnExactSpanOkSaid := fnExactSpanOk.proved
end Go.Proofs.Ytkhbhdchakbmhaa
