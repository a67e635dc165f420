/- The law FnExactCancel, for every input: the row's statement, out of the pure statement and the printed walk. Conditions: none beyond the statement's own. -/
import Derived.Test.YtggenhomnbnodaaRows
import Derived.Test.YtggenhomnbnodaaQFnExactCancelx10
import Derived.Test.YtggenhomnbnodaaPureFnExactCancel
import Derived.Test.YtggenhomnbnodaaOpens
import Derived.WalkKit
import Derived.ProofKit
import Derived.OpenShut
import Derived.ShutString
import Derived.ChangeOld
import Derived.Below
import Derived.SizedLaws
set_option linter.unusedVariables false
set_option linter.unusedSimpArgs false
namespace Go.Proofs.Ytggenhomnbnodaa.fnExactCancel
open Go.ChangeShapes Go.WideShapes Go.ChangeAt Go.RowKit Go.Proofs.Ytggenhomnbnodaa.Op Go.Proofs.Ytggenhomnbnodaa.Pure Go.Proofs.Ytggenhomnbnodaa.QFnExactCancel Go.Proofs.YtggenhomnbnodaaW.PrintWords
open Go.ChangeMaps (open_string shut_string)
theorem dn43 (n : Nat) : Down Try.prog n 43 k43 good43 := by
  have k := down_struct (P := Try.prog) (n := n) Try.underlying43 (by kernel_rfl) (fun x : S43 => (x.f0, x.f1, x.f2)) (fun p => ⟨p.1, p.2.1, p.2.2⟩) (fun _ => rfl) (fun m hm => (downF_cons rfl (by kernel_rfl) (down_int Try.underlying3) (downF_cons rfl (by kernel_rfl) (down_int Try.underlying3) (downF_last rfl (by kernel_rfl) (down_int Try.underlying3)))))
  exact k
theorem dt33 (n : Nat) : Down Try.prog n 33 (Kd.iso (Kd.pair (Kd.int .i64) (Kd.pair (Kd.slice 31 (Kd.slice 43 k43)) (Kd.pair (Kd.slice 31 (Kd.slice 43 k43)) (Kd.slice 43 k43)))) (fun x => x)) (fun x => (Lit.int .i64 (x.1)).wf = true ∧ ((x.2.1).length ≤ maxLen ∧ ∀ y31 ∈ (x.2.1), (y31.length ≤ maxLen ∧ ∀ y43 ∈ y31, good43 y43)) ∧ ((x.2.2.1).length ≤ maxLen ∧ ∀ y31 ∈ (x.2.2.1), (y31.length ≤ maxLen ∧ ∀ y43 ∈ y31, good43 y43)) ∧ ((x.2.2.2).length ≤ maxLen ∧ ∀ y43 ∈ (x.2.2.2), good43 y43)) := by
  have k := down_struct (P := Try.prog) (n := n) Try.underlying33 (by kernel_rfl) (fun x => x) (fun x => x) (fun _ => rfl) (fun m hm => (downF_cons rfl (by kernel_rfl) (down_int Try.underlying3) (downF_cons rfl (by kernel_rfl) (down_slice Try.underlying30 (by kernel_rfl) (fun m_ hm_ => (down_slice Try.underlying31 (by kernel_rfl) (fun m_ hm_ => (dn43 _))))) (downF_cons rfl (by kernel_rfl) (down_slice Try.underlying30 (by kernel_rfl) (fun m_ hm_ => (down_slice Try.underlying31 (by kernel_rfl) (fun m_ hm_ => (dn43 _))))) (downF_last rfl (by kernel_rfl) (down_slice Try.underlying31 (by kernel_rfl) (fun m_ hm_ => (dn43 _))))))))
  exact k

theorem own : ownKnob Try.prog.godebug = none := by kernel_rfl
theorem laidOut : laidOutB Try.prog = true := by kernel_rfl
set_option maxRecDepth 100000 in
theorem lifted (os : Os) (started : os.Started) (H : Type) (enc : TypeId × Value → H) :
    ReturnsInHanded {} Try.checked os 8 .any (Rows.fnExactCancelSpec.pre6 enc Try.prog Try.f8 Rows.fnExactCancelRow.domain false) (Rows.fnExactCancelSpec.post enc Try.prog Try.f8 false true false false) := by
  refine returnsInHanded_of_change_sized (C := Try.checked) own started (by kernel_rfl) Try.func8
    (ChangeSpec.witness6 (enc := enc) (C := Try.checked) false ⟨#[], #[.agg #[.int .i64 0, .slice none 0 0, .slice none 0 0, .slice none 0 0], .int .i64 0], []⟩ 8 (by kernel_rfl) (by kernel_rfl) (by kernel_rfl) (by kernel_rfl)) ?_
  intro W base args ds gs before hval0 hW hcnd hsz0 _
  have hsz : (DataW.weightsEach Try.prog (Try.f8.params.toList ++ Rows.fnExactCancelSpec.plain.varTypes Try.prog) (ds ++ gs)).all (· ≤ reachBytes) = true := hsz0
  have hval : ∀ (j : Nat) t v, Try.f8.params[j]? = some t → args[j]? = some v → Value.okWide Try.prog W .any base t v := hval0
  have hW' := hW
  obtain ⟨p, q, hA0, hV, rfl, hfz, hnd⟩ := hW
  have hA : DataW.TrodAll enc Try.prog W 0 (fun _ => true) true Try.f8.params.toList args.toList ds p := hA0
  rw [Try.params8] at hA hval hsz
  obtain ⟨v0, vs0, d0, ds0, p0, q0, hargs, rfl, rfl, h0, r0⟩ := trodAll_cons hA
  obtain ⟨v1, vs1, d1, ds1, p1, q1, rfl, rfl, rfl, h1, r1⟩ := trodAll_cons r0
  obtain ⟨rfl, rfl, rfl⟩ := trodAll_nil r1
  obtain rfl : args = #[v0, v1] := by cases args; simp_all
  obtain ⟨rfl, rfl⟩ := trodVars_none hV
  have k0 := h0
  have lt0 : ∀ x ∈ p0, x.block < W.heap.size := by obtain ⟨m, hm⟩ := k0; exact DataW.trod_lt m _ _ _ hm
  obtain ⟨x0, cs0, rfl, K0, G0⟩ := in_struct Try.underlying33 (hval 0 33 v0 rfl rfl) h0 (fun n => dt33 n)
  obtain ⟨cl0⟩ := cs0
  obtain ⟨a0_0, l0_1, l0_2, l0_3⟩ := x0
  replace K0 : (Kd.iso (Kd.pair (Kd.int .i64) (Kd.pair (Kd.slice 31 (Kd.slice 43 k43)) (Kd.pair (Kd.slice 31 (Kd.slice 43 k43)) (Kd.slice 43 k43)))) (fun x => x)).K W (a0_0, l0_1, l0_2, l0_3) cl0 := K0
  obtain ⟨_, _, rfl, rfl, ⟨_, _, rfl, ⟨A0_1, c0_1, rfl, hc0_1, hr0_1⟩, ⟨_, _, rfl, ⟨A0_2, c0_2, rfl, hc0_2, hr0_2⟩, ⟨A0_3, c0_3, rfl, hc0_3, hr0_3⟩⟩⟩⟩ := K0
  obtain ⟨a1, rfl, rfl, rfl, w1⟩ := open_int Try.underlying3 (hval 1 3 v1 rfl rfl) h1
  clear hA0 hval0 hsz0 hsz
  have hP := Pure.FnExactCancel a0_0 l0_1 l0_2 l0_3 a1 G0 w1
  obtain ⟨k, hk⟩ := hP
  refine (laws_FnExactCancel.calls k a0_0 A0_1 c0_1 l0_1 A0_2 c0_2 l0_2 A0_3 c0_3 l0_3 a1 true _ hr0_1 hc0_1 hr0_2 hc0_2 hr0_3 hc0_3 ⟨rfl⟩ hk).mono fun e W' ⟨he, bel0⟩ => ?_
  have bel : Below W.heap.size W W' := bel0
  subst he
  exact ⟨_, rfl, _, _, _, [], _, [], hW', trodAll_mk1 (shut_bool Try.underlying4 _), (trodAll_cons_mk (Below.trod laidOut (by kernel_rfl) (of_decide_eq_true (by kernel_rfl)) k0 bel lt0) (trodAll_cons_mk (shut_int Try.underlying3 w1) trodAll_mk0)), rfl, bel.frame _, fun h => by cases h⟩
theorem over : Rows.fnExactCancelRow.holds Try.pinned (OpenSpec.ofChange Rows.fnExactCancelSpec) :=
  OpenClaim.holds_of_wide 8 Try.f8 rfl rfl rfl rfl rfl rfl rfl ⟨rfl, rfl, rfl, rfl, rfl⟩ rfl rfl rfl rfl rfl (by kernel_rfl) Try.func8 (by kernel_rfl)
    (of_decide_eq_true (by kernel_rfl)) (by unfold Func.isWrapper; first | (rw [if_pos (by decide +kernel)]; kernel_rfl) | (rw [if_neg (by decide +kernel)]; exact ⟨rfl, rfl⟩))
    (fun os started H enc _ => lifted os started H enc)
theorem proved : Rows.FnExactCancelSaid := over
#print axioms proved
end Go.Proofs.Ytggenhomnbnodaa.fnExactCancel
namespace Go.Proofs.Ytggenhomnbnodaa
/-- The row, under a short name, for the claim. -/
theorem fnExactCancel_holds : Rows.FnExactCancelSaid := fnExactCancel.proved
end Go.Proofs.Ytggenhomnbnodaa
