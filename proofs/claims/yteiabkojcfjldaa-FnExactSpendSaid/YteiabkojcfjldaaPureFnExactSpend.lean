/- The program's Spend returns what the reference's returns, for all arguments. Conditions: none beyond the statement's own. -/
import Derived.Test.YteiabkojcfjldaaQFnExactSpendx
set_option linter.unusedVariables false
set_option linter.unusedSimpArgs false
namespace Go.Proofs.Yteiabkojcfjldaa.Pure
open Go.RowKit Go.Proofs.Yteiabkojcfjldaa.QFnExactSpend Go.Proofs.YteiabkojcfjldaaW.PrintWords Go.Proofs.YteiabkojcfjldaaW.PrintLast Go.Proofs.YteiabkojcfjldaaW.PrintMore


def inB (a b c : Int) : Bool := decide (b ≤ a) && decide (a ≤ c)
theorem impl_within_eq (a b c : Int) : impl_within.f a b c = some (inB a b c) := by
  unfold impl_within.f inB
  by_cases h : a ≥ b
  · rw [if_pos h]
    simp [show b ≤ a from h]
  · rw [if_neg h]
    simp [show ¬ b ≤ a from h]

theorem spec_l1In_eq (a b c : Int) : spec_l1In.f a b c = some (inB a b c) := by
  unfold spec_l1In.f inB
  by_cases h : a ≥ b
  · rw [if_pos h]
    simp [show b ≤ a from h]
  · rw [if_neg h]
    simp [show ¬ b ≤ a from h]

def bucketOkV (r b t a : Int) : Bool := inB r 0 99 && inB b 0 999 && inB t 0 b && inB a 0 2147483647
theorem spec_BucketOk_eq (r b t a : Int) : spec_BucketOk.f r b t a = some (bucketOkV r b t a) := by
  simp only [spec_BucketOk.f, spec_l1In_eq, Option.bind_some]
  unfold bucketOkV
  cases inB r 0 99 <;> cases inB b 0 999 <;> cases inB t 0 b <;> simp
theorem impl_BucketOk_eq (r b t a : Int) : impl_BucketOk.f r b t a = some (bucketOkV r b t a) := by
  simp only [impl_BucketOk.f, impl_within_eq, Option.bind_some]
  unfold bucketOkV
  cases inB r 0 99 <;> cases inB b 0 999 <;> cases inB t 0 b <;> simp
theorem bucketOkV_iff (r b t a : Int) : bucketOkV r b t a = true ↔ (0 ≤ r ∧ r ≤ 99) ∧ (0 ≤ b ∧ b ≤ 999) ∧ (0 ≤ t ∧ t ≤ b) ∧ (0 ≤ a ∧ a ≤ 2147483647) := by
  simp [bucketOkV, inB, and_assoc]

theorem toBucket_eq (r b t a : Int) : laws_toBucket.f r b t a = some (r, b, t, a) := rfl

theorem eqBucket_self (r b t a : Int) : laws_eqBucket.f r b t a r b t a = some true := by
  simp [laws_eqBucket.f]

/-- A loop over an index: from a state that is good, with enough rounds, it comes to an end that meets what is told of it. -/
theorem loop_ex {σ β : Type} {L : Nat → σ → Int → Option β} {n K : Nat} {I : σ → Nat → Prop} {Post : σ → Nat → β → Prop}
    (hend : ∀ s, I s n → ∃ r, Post s n r ∧ ∀ k, L (k + 1) s (n : Int) = some r)
    (hstep : ∀ s (i : Nat), i < n → I s i → (∃ r, Post s i r ∧ ∀ k, K ≤ k → L (k + 1) s (i : Int) = some r) ∨
      ∃ s', I s' (i + 1) ∧ (∀ k, K ≤ k → L (k + 1) s (i : Int) = L k s' ((i : Int) + 1)) ∧ ∀ r, Post s' (i + 1) r → Post s i r) :
    ∀ (d : Nat) s (i : Nat), i + d = n → I s i → ∃ r, Post s i r ∧ ∀ k, K + d < k → L k s (i : Int) = some r := by
  intro d
  induction d with
  | zero =>
    intro s i hd hI
    obtain rfl : i = n := by omega
    obtain ⟨r, hp, hr⟩ := hend s hI
    refine ⟨r, hp, fun k hk => ?_⟩
    obtain ⟨k, rfl⟩ : ∃ m, k = m + 1 := ⟨k - 1, by omega⟩
    exact hr k
  | succ d ih =>
    intro s i hd hI
    rcases hstep s i (by omega) hI with ⟨r, hp, hr⟩ | ⟨s', hI', he, hp⟩
    · refine ⟨r, hp, fun k hk => ?_⟩
      obtain ⟨k, rfl⟩ : ∃ m, k = m + 1 := ⟨k - 1, by omega⟩
      exact hr k (by omega)
    · obtain ⟨r, hq, hr⟩ := ih s' (i + 1) (by omega) hI'
      refine ⟨r, hp r hq, fun k hk => ?_⟩
      obtain ⟨k, rfl⟩ : ∃ m, k = m + 1 := ⟨k - 1, by omega⟩
      rw [he k (by omega)]
      have := hr k (by omega)
      rw [Int.natCast_add] at this
      exact this
theorem ev_at {α : Type} {g : Nat → Option α} {r : α} (K : Nat) (h : ∀ k, K < k → g k = some r) : Ev g r := ⟨K + 1, fun k hk => h k (by omega)⟩
theorem wrap_of {x : Int} (h0 : -9223372036854775808 ≤ x) (h1 : x ≤ 9223372036854775807) : wrap64 x = x := by
  unfold wrap64
  omega
theorem wrap_nat1 {i n : Nat} (h : i < n) (hn : n ≤ 9223372036854775807) : wrap64 ((i : Int) + 1) = (i : Int) + 1 := wrap_of (by omega) (by omega)
theorem lt_cast {i n : Nat} (h : i < n) : (i : Int) < (n : Int) := by omega
theorem nn_cast (i : Nat) : 0 ≤ (i : Int) := by omega
theorem not_lt_cast (n : Nat) : ¬ (n : Int) < (n : Int) := by omega
/-- What is written cell by cell. -/
theorem fill_set {α : Type} (l : List α) (z : α) (i : Nat) (h : i < l.length) : (l.take i ++ List.replicate (l.length - i) z).set i l[i] = l.take (i + 1) ++ List.replicate (l.length - (i + 1)) z := by
  have e1 : l.length - i = (l.length - (i + 1)) + 1 := by omega
  have e2 : (l.take i).length = i := by rw [List.length_take]; omega
  rw [e1, List.replicate_succ, List.set_append_right _ _ (by omega), e2, Nat.sub_self, List.set_cons_zero, List.take_succ_eq_append_getElem h, List.append_assoc]
  rfl
theorem fill_len {α : Type} (l : List α) (z : α) (i : Nat) (h : i ≤ l.length) : (l.take i ++ List.replicate (l.length - i) z).length = l.length := by
  rw [List.length_append, List.length_take, List.length_replicate]
  omega

theorem FnExactSpend : ∀ (a0_0 : Int) (a0_1 : Int) (a0_2 : Int) (a0_3 : Int) (a1 : Int), ((Lit.int .i64 a0_0).wf = true ∧ (Lit.int .i64 a0_1).wf = true ∧ (Lit.int .i64 a0_2).wf = true ∧ (Lit.int .i64 a0_3).wf = true) → ((Lit.int .i64 a1).wf = true) → laws_FnExactSpend.f a0_0 a0_1 a0_2 a0_3 a1 = some true := by
  intro r b t a n _ hn
  simp only [laws_FnExactSpend.f, toBucket_eq, Option.bind_some]
  by_cases hb : bucketOkV r b t a = true
  · have h := (bucketOkV_iff r b t a).1 hb
    by_cases hn : 0 ≤ n ∧ n ≤ t
    · have hi : inB n 0 t = true := by simp [inB, hn]
      have e1 : spec_Spend.f r b t a n = some (r, b, wrap64 (t - n), a, true) := by
        simp only [spec_Spend.f, spec_BucketOk_eq, Option.bind_some, hb, if_true]
        rw [if_neg (by omega), if_neg (by omega)]
      have e2 : impl_Spend.f r b t a n = some (r, b, wrap64 (t - n), a, true) := by
        simp only [impl_Spend.f, impl_BucketOk_eq, impl_within_eq, Option.bind_some, hb, hi, if_true]
      simp [e1, e2, eqBucket_self]
    · have hi : ¬ inB n 0 t = true := by simp [inB]; omega
      have e1 : spec_Spend.f r b t a n = some (r, b, t, a, false) := by
        simp only [spec_Spend.f, spec_BucketOk_eq, Option.bind_some, hb, if_true]
        by_cases h1 : n < 0
        · rw [if_pos h1]
        · rw [if_neg h1, if_pos (by omega)]
      have e2 : impl_Spend.f r b t a n = some (r, b, t, a, false) := by
        simp only [impl_Spend.f, impl_BucketOk_eq, impl_within_eq, Option.bind_some, hb, if_true]
        rw [if_neg hi]
      simp [e1, e2, eqBucket_self]
  · have e1 : spec_Spend.f r b t a n = some (r, b, t, a, false) := by
      simp only [spec_Spend.f, spec_BucketOk_eq, Option.bind_some]
      rw [if_neg hb]
    have e2 : impl_Spend.f r b t a n = some (r, b, t, a, false) := by
      simp only [impl_Spend.f, impl_BucketOk_eq, Option.bind_some]
      rw [if_neg hb]
    simp [e1, e2, eqBucket_self]

end Go.Proofs.Yteiabkojcfjldaa.Pure
