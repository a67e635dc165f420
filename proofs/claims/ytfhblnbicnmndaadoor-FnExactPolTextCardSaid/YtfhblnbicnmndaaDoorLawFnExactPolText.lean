/- The law FnExactPolText, for every input: the row's statement, out of the pure statement and the printed walk. Conditions: none beyond the statement's own. -/
import Derived.Test.YtfhblnbicnmndaaDoorRows
import Derived.Test.YtfhblnbicnmndaaDoorQFnExactPolTextx10
import Derived.Test.YtfhblnbicnmndaaDoorPureFnExactPolText
import Derived.Test.YtfhblnbicnmndaaDoorOpens
import Derived.Test.YtfhblnbicnmndaaDoorCards
import Derived.Test.YtfhblnbicnmndaaDoorTie
import Derived.WalkKit
import Derived.ProofKit
import Derived.OpenShut
import Derived.ShutString
import Derived.ChangeOld
import Derived.Below
import Derived.SizedLaws
import Derived.LaidMore
import Derived.Stop.LaidErr
import Derived.Lib.LaidTab
import Derived.SevenTiedAt
import Derived.Handed
import Derived.LaidLaws
import Derived.MakeChecks
set_option linter.unusedVariables false
set_option linter.unusedSimpArgs false
namespace Go.Proofs.YtfhblnbicnmndaaDoor.fnExactPolText
open Go.ChangeShapes Go.WideShapes Go.ChangeAt Go.RowKit Go.Proofs.YtfhblnbicnmndaaDoor.Op Go.Proofs.YtfhblnbicnmndaaDoor.Pure Go.Proofs.YtfhblnbicnmndaaDoor.QFnExactPolText Go.Proofs.YtfhblnbicnmndaaDoorW.PrintWords
open Go.ChangeMaps (open_string shut_string)
theorem good36n_mono : ∀ (n m : Nat) (a : S36), n ≤ m → good36n n a → good36n m a := by
  intro n
  induction n with
  | zero => intro m a _ h; exact absurd h id
  | succ n ih =>
    intro m a hm h
    obtain ⟨m, rfl⟩ : ∃ q, m = q + 1 := ⟨m - 1, by omega⟩
    unfold good36n at h ⊢
    obtain ⟨h0, h1, h2, h3, h4⟩ := h
    exact ⟨h0, h1, h2, h3, ⟨h4.1, fun y hy => ih _ _ (by omega) (h4.2 y hy)⟩⟩
theorem dnu36 : ∀ n, Down Tryd.prog n 36 (Kd.upto F36 5 [36] (n + 1)) (good36n (n + 1)) :=
  down_upto mono36 sz36 good36n good36n_mono (fun n h => by
    have k := down_struct (P := Tryd.prog) (n := n) Tryd.underlying36 (by kernel_rfl) (fun x : S36 => (x.f0, x.f1, x.f2, x.f3, x.f4)) (fun p => ⟨p.1, p.2.1, p.2.2.1, p.2.2.2.1, p.2.2.2.2⟩) (fun _ => rfl) (fun m hm => (downF_cons rfl (by kernel_rfl) (down_int Tryd.underlying3) (downF_cons rfl (by kernel_rfl) (down_int Tryd.underlying3) (downF_cons rfl (by kernel_rfl) (down_string Tryd.underlying9) (downF_cons rfl (by kernel_rfl) (down_string Tryd.underlying9) (downF_last rfl (by kernel_rfl) (down_slice Tryd.underlying34 ((show Tryd.prog.cellsOf 36 = 5 by kernel_rfl).trans (sz36 _).symm) (fun m_ hm_ => h m_ (by omega)))))))))
    exact k)
theorem dn36 (n : Nat) : Down Tryd.prog n 36 k36 good36 := down_fix good36n (dnu36 n)
theorem dt36 (n : Nat) : Down Tryd.prog n 36 (Kd.iso (Kd.pair (Kd.int .i64) (Kd.pair (Kd.int .i64) (Kd.pair Kd.string (Kd.pair Kd.string (Kd.slice 36 k36))))) (fun x => x)) (fun x => (Lit.int .i64 (x.1)).wf = true ∧ (Lit.int .i64 (x.2.1)).wf = true ∧ (x.2.2.1).size ≤ maxLen ∧ (x.2.2.2.1).size ≤ maxLen ∧ ((x.2.2.2.2).length ≤ maxLen ∧ ∀ y36 ∈ (x.2.2.2.2), good36 y36)) := by
  have k := down_struct (P := Tryd.prog) (n := n) Tryd.underlying36 (by kernel_rfl) (fun x => x) (fun x => x) (fun _ => rfl) (fun m hm => (downF_cons rfl (by kernel_rfl) (down_int Tryd.underlying3) (downF_cons rfl (by kernel_rfl) (down_int Tryd.underlying3) (downF_cons rfl (by kernel_rfl) (down_string Tryd.underlying9) (downF_cons rfl (by kernel_rfl) (down_string Tryd.underlying9) (downF_last rfl (by kernel_rfl) (down_slice Tryd.underlying34 (by kernel_rfl) (fun m_ hm_ => (dn36 _)))))))))
  exact k

theorem own : ownKnob Tryd.prog.godebug = none := by kernel_rfl
theorem laidOut : laidOutB Tryd.prog = true := by kernel_rfl
theorem gTab : Tryd.prog.globalNamed "internal/strconv.uint64pow10" = some 1 := by kernel_rfl
theorem gTabType : (Tryd.prog.globals[1]?).map (·.type) = some 90 := by kernel_rfl
theorem cellsT : Tryd.prog.cellsOf 90 = 20 := by kernel_rfl
theorem cellsE : Tryd.prog.cellsOf 83 = 1 := by kernel_rfl
theorem data : (Rows.laid_internal_strconv_uint64pow10 : DataW Unit) = Lib.tabData .u64 Lib.pow10Tab := by rfl
theorem table {W : World} (h : laidMetH Tryd.prog Rows.fnExactPolTextRow.laid W) : Lib.TabIs Tryd.prog W "internal/strconv.uint64pow10" .u64 Lib.pow10Tab := by
  rw [MakeChecks.laidMetH_plain _ _ _ (by kernel_rfl)] at h
  have h2 := (laidMet.tail (laidMet.tail h))
  rw [data] at h2
  exact Lib.tabIs_of_head gTab gTabType Tryd.underlying90 Tryd.underlying83 cellsE cellsT h2
theorem door_met (os : Os) (args : Array Value) : laidMetH Tryd.prog Rows.fnExactPolTextRow.laid ((World.doorLaid Tryd.prog 400 os).forCall (fun _ _ => 0) ⟨#[], args, []⟩).memory := by
  rw [MakeChecks.laidMetH_plain _ _ _ (by kernel_rfl)]
  exact laidMet_of_run' 8 (by kernel_rfl) (by kernel_rfl)
set_option maxRecDepth 100000 in
theorem lifted (os : Os) (started : os.Started) (H : Type) (enc : TypeId × Value → H) :
    ReturnsInHanded {} Tryd.checked os 4 .any (fun w args => (Rows.fnExactPolTextSpec.pre enc Tryd.prog Tryd.f4 [] false w args ∧ laidMetH Tryd.prog Rows.fnExactPolTextRow.laid w) ∧ sizedMet enc Tryd.prog Tryd.f4 (OpenSpec.ofChange Rows.fnExactPolTextSpec) false w args) (Rows.fnExactPolTextSpec.post enc Tryd.prog Tryd.f4 false true false false) := by
  refine returnsInHanded_of_change_and (C := Tryd.checked) (X := fun w _ => laidMetH Tryd.prog Rows.fnExactPolTextRow.laid w) (fun _ _ _ hh h => h.of_heap hh) own started (by kernel_rfl) Tryd.func4
    (ChangeSpec.witness_shaped (enc := enc) (C := Tryd.checked) (os := os) (X := fun w _ => laidMetH Tryd.prog Rows.fnExactPolTextRow.laid w) false (World.doorLaid Tryd.prog 400 os) #[.agg #[.int .i64 0, .int .i64 0, .string ByteArray.empty, .string ByteArray.empty, .slice none 0 0]] 8 rfl (World.shaped_of_RefB (by kernel_rfl) (by kernel_rfl)) (by kernel_rfl) (by kernel_rfl) (by kernel_rfl) (door_met os _)) ?_
  intro W base args ds gs before hval0 hW hcnd hsz0 hL _
  have HTB := table hL
  have hsz : (DataW.weightsEach Tryd.prog (Tryd.f4.params.toList ++ Rows.fnExactPolTextSpec.plain.varTypes Tryd.prog) (ds ++ gs)).all (· ≤ reachBytes) = true := hsz0
  have hval : ∀ (j : Nat) t v, Tryd.f4.params[j]? = some t → args[j]? = some v → Value.okWide Tryd.prog W .any base t v := hval0
  have hW' := hW
  obtain ⟨p, q, hA0, hV, rfl, hfz, hnd⟩ := hW
  have hA : DataW.TrodAll enc Tryd.prog W 0 (fun _ => true) true Tryd.f4.params.toList args.toList ds p := hA0
  rw [Tryd.params4] at hA hval hsz
  obtain ⟨v0, vs0, d0, ds0, p0, q0, hargs, rfl, rfl, h0, r0⟩ := trodAll_cons hA
  obtain ⟨rfl, rfl, rfl⟩ := trodAll_nil r0
  obtain rfl : args = #[v0] := by cases args; simp_all
  obtain ⟨rfl, rfl⟩ := trodVars_none hV
  have k0 := h0
  have lt0 : ∀ x ∈ p0, x.block < W.heap.size := by obtain ⟨m, hm⟩ := k0; exact DataW.trod_lt m _ _ _ hm
  obtain ⟨x0, cs0, rfl, K0, G0⟩ := in_struct Tryd.underlying36 (hval 0 36 v0 rfl rfl) h0 (fun n => dt36 n)
  obtain ⟨cl0⟩ := cs0
  obtain ⟨a0_0, a0_1, a0_2, a0_3, l0_4⟩ := x0
  replace K0 : (Kd.iso (Kd.pair (Kd.int .i64) (Kd.pair (Kd.int .i64) (Kd.pair Kd.string (Kd.pair Kd.string (Kd.slice 36 k36))))) (fun x => x)).K W (a0_0, a0_1, a0_2, a0_3, l0_4) cl0 := K0
  obtain ⟨_, _, rfl, rfl, ⟨_, _, rfl, rfl, ⟨_, _, rfl, rfl, ⟨_, _, rfl, rfl, ⟨A0_4, c0_4, rfl, hc0_4, hr0_4⟩⟩⟩⟩⟩ := K0
  clear hA0 hval0 hsz0 hsz
  have hP := Pure.FnExactPolText a0_0 a0_1 a0_2 a0_3 l0_4 G0
  obtain ⟨k, hk⟩ := hP
  refine (laws_FnExactPolText.calls k a0_0 a0_1 a0_2 a0_3 A0_4 c0_4 l0_4 true _ hr0_4 hc0_4 ⟨rfl⟩ HTB hk).mono fun e W' ⟨he, bel0⟩ => ?_
  have bel : Below W.heap.size W W' := bel0
  subst he
  exact ⟨_, rfl, _, _, _, [], _, [], hW', trodAll_mk1 (shut_bool Tryd.underlying4 _), (trodAll_cons_mk (Below.trod laidOut (by kernel_rfl) (of_decide_eq_true (by kernel_rfl)) k0 bel lt0) trodAll_mk0), rfl, bel.frame _, fun h => by cases h⟩
theorem over : Rows.fnExactPolTextRow.holds Tryd.pinned (OpenSpec.ofChange Rows.fnExactPolTextSpec) :=
  OpenClaim.holds_of_wide 4 Tryd.f4 rfl rfl rfl rfl rfl rfl rfl ⟨rfl, rfl, rfl, rfl, rfl⟩ rfl rfl rfl rfl rfl (by kernel_rfl) Tryd.func4 (by kernel_rfl)
    (of_decide_eq_true (by kernel_rfl)) (by unfold Func.isWrapper; first | (rw [if_pos (by decide +kernel)]; kernel_rfl) | (rw [if_neg (by decide +kernel)]; exact ⟨rfl, rfl⟩))
    (fun os started H enc _ => lifted os started H enc)
theorem plain (f : FuncId) (fn : Func) (hf : Tryd.pinned.checked.prog.funcNamed "loop.example/g00488/laws.FnExactPolText" = some f) (hfn : Tryd.pinned.checked.prog.funcs[f]? = some fn) :
    false = Tryd.pinned.checked.prog.looks [] ∧ ∀ (j : Nat) t, fn.params[j]? = some t → Tryd.pinned.checked.prog.wantsStandIn t = false := by
  obtain rfl : f = 4 := Option.some.inj ((show Tryd.prog.funcNamed "loop.example/g00488/laws.FnExactPolText" = some 4 by kernel_rfl).symm.trans hf) |>.symm
  obtain rfl : fn = Tryd.f4 := (Option.some.inj (Tryd.func4.symm.trans hfn)).symm
  refine ⟨by kernel_rfl, fun j t ht => ?_⟩
  rw [Tryd.params4] at ht
  have hm : t ∈ [36] := by simpa using Array.mem_of_getElem? ht
  have hall : ([36].all fun u => !Tryd.prog.wantsStandIn u) = true := by kernel_rfl
  exact (show Tryd.prog.wantsStandIn t = false by simpa using List.all_eq_true.1 hall t hm)
theorem card : Rows.FnExactPolTextCardSaid :=
  Claim7.holds_tied_plain_at .later [] _ _ _ _ over (fun _ h => by cases h) (by kernel_rfl) (fun _ h => by cases h) fnExactPolText_row_tie rfl ⟨rfl, rfl⟩ (by kernel_rfl) rfl plain (by kernel_rfl)
#print axioms card
end Go.Proofs.YtfhblnbicnmndaaDoor.fnExactPolText
namespace Go.Proofs.YtfhblnbicnmndaaDoor
/-- The card, under a short name, for the claim. -/
theorem fnExactPolText_holds : Rows.FnExactPolTextCardSaid := fnExactPolText.card
end Go.Proofs.YtfhblnbicnmndaaDoor
