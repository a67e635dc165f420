/- The law FnExactOpposite, for every input: the row's statement, out of the pure statement and the printed walk. Conditions: none beyond the statement's own. -/
import Derived.Test.YtfhblnbicnmndaaRows
import Derived.Test.YtfhblnbicnmndaaQFnExactOppositex3
import Derived.Test.YtfhblnbicnmndaaPureFnExactOpposite
import Derived.Test.YtfhblnbicnmndaaOpens
import Derived.WalkKit
import Derived.ProofKit
import Derived.OpenShut
import Derived.ShutString
import Derived.ChangeOld
import Derived.Below
import Derived.SizedLaws
set_option linter.unusedVariables false
set_option linter.unusedSimpArgs false
namespace Go.Proofs.Ytfhblnbicnmndaa.fnExactOpposite
open Go.ChangeShapes Go.WideShapes Go.ChangeAt Go.RowKit Go.Proofs.Ytfhblnbicnmndaa.Op Go.Proofs.Ytfhblnbicnmndaa.Pure Go.Proofs.Ytfhblnbicnmndaa.QFnExactOpposite Go.Proofs.YtfhblnbicnmndaaW.PrintWords
open Go.ChangeMaps (open_string shut_string)
theorem good24n_mono : ∀ (n m : Nat) (a : S24), n ≤ m → good24n n a → good24n m a := by
  intro n
  induction n with
  | zero => intro m a _ h; exact absurd h id
  | succ n ih =>
    intro m a hm h
    obtain ⟨m, rfl⟩ : ∃ q, m = q + 1 := ⟨m - 1, by omega⟩
    unfold good24n at h ⊢
    obtain ⟨h0, h1, h2, h3, h4⟩ := h
    exact ⟨h0, h1, h2, h3, ⟨h4.1, fun y hy => ih _ _ (by omega) (h4.2 y hy)⟩⟩
theorem dnu24 : ∀ n, Down Try.prog n 24 (Kd.upto F24 5 [24] (n + 1)) (good24n (n + 1)) :=
  down_upto mono24 sz24 good24n good24n_mono (fun n h => by
    have k := down_struct (P := Try.prog) (n := n) Try.underlying24 (by kernel_rfl) (fun x : S24 => (x.f0, x.f1, x.f2, x.f3, x.f4)) (fun p => ⟨p.1, p.2.1, p.2.2.1, p.2.2.2.1, p.2.2.2.2⟩) (fun _ => rfl) (fun m hm => (downF_cons rfl (by kernel_rfl) (down_int Try.underlying3) (downF_cons rfl (by kernel_rfl) (down_int Try.underlying3) (downF_cons rfl (by kernel_rfl) (down_string Try.underlying9) (downF_cons rfl (by kernel_rfl) (down_string Try.underlying9) (downF_last rfl (by kernel_rfl) (down_slice Try.underlying22 ((show Try.prog.cellsOf 24 = 5 by kernel_rfl).trans (sz24 _).symm) (fun m_ hm_ => h m_ (by omega)))))))))
    exact k)
theorem dn24 (n : Nat) : Down Try.prog n 24 k24 good24 := down_fix good24n (dnu24 n)
theorem dt24 (n : Nat) : Down Try.prog n 24 (Kd.iso (Kd.pair (Kd.int .i64) (Kd.pair (Kd.int .i64) (Kd.pair Kd.string (Kd.pair Kd.string (Kd.slice 24 k24))))) (fun x => x)) (fun x => (Lit.int .i64 (x.1)).wf = true ∧ (Lit.int .i64 (x.2.1)).wf = true ∧ (x.2.2.1).size ≤ maxLen ∧ (x.2.2.2.1).size ≤ maxLen ∧ ((x.2.2.2.2).length ≤ maxLen ∧ ∀ y24 ∈ (x.2.2.2.2), good24 y24)) := by
  have k := down_struct (P := Try.prog) (n := n) Try.underlying24 (by kernel_rfl) (fun x => x) (fun x => x) (fun _ => rfl) (fun m hm => (downF_cons rfl (by kernel_rfl) (down_int Try.underlying3) (downF_cons rfl (by kernel_rfl) (down_int Try.underlying3) (downF_cons rfl (by kernel_rfl) (down_string Try.underlying9) (downF_cons rfl (by kernel_rfl) (down_string Try.underlying9) (downF_last rfl (by kernel_rfl) (down_slice Try.underlying22 (by kernel_rfl) (fun m_ hm_ => (dn24 _)))))))))
  exact k

theorem own : ownKnob Try.prog.godebug = none := by kernel_rfl
theorem laidOut : laidOutB Try.prog = true := by kernel_rfl
set_option maxRecDepth 100000 in
theorem lifted (os : Os) (started : os.Started) (H : Type) (enc : TypeId × Value → H) :
    ReturnsInHanded {} Try.checked os 7 .any (Rows.fnExactOppositeSpec.pre6 enc Try.prog Try.f7 Rows.fnExactOppositeRow.domain false) (Rows.fnExactOppositeSpec.post enc Try.prog Try.f7 false true false false) := by
  refine returnsInHanded_of_change_sized (C := Try.checked) own started (by kernel_rfl) Try.func7
    (ChangeSpec.witness6 (enc := enc) (C := Try.checked) false ⟨#[], #[.agg #[.int .i64 0, .int .i64 0, .string ByteArray.empty, .string ByteArray.empty, .slice none 0 0]], []⟩ 8 (by kernel_rfl) (by kernel_rfl) (by kernel_rfl) (by kernel_rfl)) ?_
  intro W base args ds gs before hval0 hW hcnd hsz0 _
  have hsz : (DataW.weightsEach Try.prog (Try.f7.params.toList ++ Rows.fnExactOppositeSpec.plain.varTypes Try.prog) (ds ++ gs)).all (· ≤ reachBytes) = true := hsz0
  have hval : ∀ (j : Nat) t v, Try.f7.params[j]? = some t → args[j]? = some v → Value.okWide Try.prog W .any base t v := hval0
  have hW' := hW
  obtain ⟨p, q, hA0, hV, rfl, hfz, hnd⟩ := hW
  have hA : DataW.TrodAll enc Try.prog W 0 (fun _ => true) true Try.f7.params.toList args.toList ds p := hA0
  rw [Try.params7] at hA hval hsz
  obtain ⟨v0, vs0, d0, ds0, p0, q0, hargs, rfl, rfl, h0, r0⟩ := trodAll_cons hA
  obtain ⟨rfl, rfl, rfl⟩ := trodAll_nil r0
  obtain rfl : args = #[v0] := by cases args; simp_all
  obtain ⟨rfl, rfl⟩ := trodVars_none hV
  have k0 := h0
  have lt0 : ∀ x ∈ p0, x.block < W.heap.size := by obtain ⟨m, hm⟩ := k0; exact DataW.trod_lt m _ _ _ hm
  obtain ⟨x0, cs0, rfl, K0, G0⟩ := in_struct Try.underlying24 (hval 0 24 v0 rfl rfl) h0 (fun n => dt24 n)
  obtain ⟨cl0⟩ := cs0
  obtain ⟨a0_0, a0_1, a0_2, a0_3, l0_4⟩ := x0
  replace K0 : (Kd.iso (Kd.pair (Kd.int .i64) (Kd.pair (Kd.int .i64) (Kd.pair Kd.string (Kd.pair Kd.string (Kd.slice 24 k24))))) (fun x => x)).K W (a0_0, a0_1, a0_2, a0_3, l0_4) cl0 := K0
  obtain ⟨_, _, rfl, rfl, ⟨_, _, rfl, rfl, ⟨_, _, rfl, rfl, ⟨_, _, rfl, rfl, ⟨A0_4, c0_4, rfl, hc0_4, hr0_4⟩⟩⟩⟩⟩ := K0
  clear hA0 hval0 hsz0 hsz
  have hP := Pure.FnExactOpposite a0_0 a0_1 a0_2 a0_3 l0_4 G0
  obtain ⟨k, hk⟩ := hP
  refine (laws_FnExactOpposite.calls k a0_0 a0_1 a0_2 a0_3 A0_4 c0_4 l0_4 true _ hr0_4 hc0_4 ⟨rfl⟩ hk).mono fun e W' ⟨he, bel0⟩ => ?_
  have bel : Below W.heap.size W W' := bel0
  subst he
  exact ⟨_, rfl, _, _, _, [], _, [], hW', trodAll_mk1 (shut_bool Try.underlying4 _), (trodAll_cons_mk (Below.trod laidOut (by kernel_rfl) (of_decide_eq_true (by kernel_rfl)) k0 bel lt0) trodAll_mk0), rfl, bel.frame _, fun h => by cases h⟩
theorem over : Rows.fnExactOppositeRow.holds Try.pinned (OpenSpec.ofChange Rows.fnExactOppositeSpec) :=
  OpenClaim.holds_of_wide 7 Try.f7 rfl rfl rfl rfl rfl rfl rfl ⟨rfl, rfl, rfl, rfl, rfl⟩ rfl rfl rfl rfl rfl (by kernel_rfl) Try.func7 (by kernel_rfl)
    (of_decide_eq_true (by kernel_rfl)) (by unfold Func.isWrapper; first | (rw [if_pos (by decide +kernel)]; kernel_rfl) | (rw [if_neg (by decide +kernel)]; exact ⟨rfl, rfl⟩))
    (fun os started H enc _ => lifted os started H enc)
theorem proved : Rows.FnExactOppositeSaid := over
#print axioms proved
end Go.Proofs.Ytfhblnbicnmndaa.fnExactOpposite
namespace Go.Proofs.Ytfhblnbicnmndaa
/-- The row, under a short name, for the claim. -/
theorem fnExactOpposite_holds : Rows.FnExactOppositeSaid := fnExactOpposite.proved
end Go.Proofs.Ytfhblnbicnmndaa
