/- The program's NameOk returns what the reference's returns, for all arguments. Conditions: none beyond the statement's own. -/
import Derived.Test.YtdmcepodfkmlaaaPFnExactNameOkx1
set_option linter.unusedVariables false
set_option linter.unusedSimpArgs false
namespace Go.Proofs.Ytdmcepodfkmlaaa.Pure
open Go.RowKit Go.Proofs.Ytdmcepodfkmlaaa.PFnExactNameOk Go.Proofs.YtdmcepodfkmlaaaW.PrintWords Go.Proofs.YtdmcepodfkmlaaaW.PrintLast

def inB (a b c : Int) : Bool := decide (b ≤ a) && decide (a ≤ c)
theorem impl_within_eq (a b c : Int) : impl_within.f a b c = some (inB a b c) := by
  unfold impl_within.f inB
  by_cases h : a ≥ b
  · rw [if_pos h]
    simp [show b ≤ a from h]
  · rw [if_neg h]
    simp [show ¬ b ≤ a from h]

theorem spec_l1In_eq (a b c : Int) : spec_l1In.f a b c = some (inB a b c) := by
  unfold spec_l1In.f inB
  by_cases h : a ≥ b
  · rw [if_pos h]
    simp [show b ≤ a from h]
  · rw [if_neg h]
    simp [show ¬ b ≤ a from h]

theorem wrap_idx {i n : Int} (h0 : 0 ≤ i) (h : i < n) (hn : n ≤ 140737488351232) : wrap64 (i + 1) = i + 1 := by
  unfold wrap64
  omega
theorem wrap_bt (s : ByteArray) (i : Int) : wrap64 (bt s i) = bt s i := by
  have := bt_range s i
  unfold wrap64
  omega

theorem name_loops (s : ByteArray) (hn : (s.size : Int) ≤ 140737488351232) (d : Nat) : ∀ (i : Int), 0 ≤ i → (s.size : Int) - i ≤ d →
    ∃ r, (∀ k, d < k → spec_NameOk.l0 k s i = some r) ∧ ∀ k, d < k → impl_NameOk.l0 k s i = some r := by
  induction d with
  | zero =>
    intro i h0 hd
    refine ⟨inB s.size 1 8, fun k hk => ?_, fun k hk => ?_⟩ <;>
    · obtain ⟨k, rfl⟩ : ∃ m, k = m + 1 := ⟨k - 1, by omega⟩
      simp only [spec_NameOk.l0, impl_NameOk.l0, spec_l1In_eq, impl_within_eq, Option.bind_some]
      rw [if_neg (by omega)]
  | succ d ih =>
    intro i h0 hd
    by_cases hlt : i < (s.size : Int)
    · obtain ⟨r, hs, hi⟩ := ih (i + 1) (by omega) (by omega)
      refine ⟨if bt s i < 97 then false else if bt s i > 122 then false else r, fun k hk => ?_, fun k hk => ?_⟩
      · obtain ⟨k, rfl⟩ : ∃ m, k = m + 1 := ⟨k - 1, by omega⟩
        simp only [spec_NameOk.l0]
        rw [if_pos hlt, if_pos h0, wrap_idx h0 hlt hn, hs k (by omega)]
        (repeat' split) <;> rfl
      · obtain ⟨k, rfl⟩ : ∃ m, k = m + 1 := ⟨k - 1, by omega⟩
        simp only [impl_NameOk.l0]
        rw [if_pos hlt, if_pos h0, wrap_idx h0 hlt hn, hi k (by omega)]
        (repeat' split) <;> rfl
    · refine ⟨inB s.size 1 8, fun k hk => ?_, fun k hk => ?_⟩ <;>
      · obtain ⟨k, rfl⟩ : ∃ m, k = m + 1 := ⟨k - 1, by omega⟩
        simp only [spec_NameOk.l0, impl_NameOk.l0, spec_l1In_eq, impl_within_eq, Option.bind_some]
        rw [if_neg hlt]
theorem name_both (s : ByteArray) (hn : s.size ≤ 140737488351232) : ∃ r, Ev (fun k => spec_NameOk.f k s) r ∧ Ev (fun k => impl_NameOk.f k s) r := by
  obtain ⟨r, hs, hi⟩ := name_loops s (by omega) s.size 0 (by omega) (by omega)
  exact ⟨r, ⟨s.size + 1, fun k hk => hs k (by omega)⟩, ⟨s.size + 1, fun k hk => hi k (by omega)⟩⟩

theorem FnExactNameOk : laws_FnExactNameOk.Pure := by
  intro s hs
  obtain ⟨r, ⟨K1, h1⟩, ⟨K2, h2⟩⟩ := name_both s hs
  refine ⟨max K1 K2, ?_⟩
  have e1 := h1 (max K1 K2) (Nat.le_max_left _ _)
  have e2 := h2 (max K1 K2) (Nat.le_max_right _ _)
  simp only at e1 e2
  unfold laws_FnExactNameOk.f
  rw [e1, e2]
  split
  · rfl
  · simp

end Go.Proofs.Ytdmcepodfkmlaaa.Pure
