/- The program's BucketOk returns what the reference's returns, for all arguments. Conditions: none beyond the statement's own. -/
import Derived.Test.YtdmcepodfkmlaaaPFnExactBucketOkx
set_option linter.unusedVariables false
set_option linter.unusedSimpArgs false
namespace Go.Proofs.Ytdmcepodfkmlaaa.Pure
open Go.RowKit Go.Proofs.Ytdmcepodfkmlaaa.PFnExactBucketOk Go.Proofs.YtdmcepodfkmlaaaW.PrintWords Go.Proofs.YtdmcepodfkmlaaaW.PrintLast Go.Proofs.YtdmcepodfkmlaaaW.PrintMore


def inB (a b c : Int) : Bool := decide (b ≤ a) && decide (a ≤ c)
theorem impl_within_eq (a b c : Int) : impl_within.f a b c = some (inB a b c) := by
  unfold impl_within.f inB
  by_cases h : a ≥ b
  · rw [if_pos h]
    simp [show b ≤ a from h]
  · rw [if_neg h]
    simp [show ¬ b ≤ a from h]

theorem spec_l1In_eq (a b c : Int) : spec_l1In.f a b c = some (inB a b c) := by
  unfold spec_l1In.f inB
  by_cases h : a ≥ b
  · rw [if_pos h]
    simp [show b ≤ a from h]
  · rw [if_neg h]
    simp [show ¬ b ≤ a from h]

def bucketOkV (r b t a : Int) : Bool := inB r 0 99 && inB b 0 999 && inB t 0 b && inB a 0 2147483647
theorem spec_BucketOk_eq (r b t a : Int) : spec_BucketOk.f r b t a = some (bucketOkV r b t a) := by
  simp only [spec_BucketOk.f, spec_l1In_eq, Option.bind_some]
  unfold bucketOkV
  cases inB r 0 99 <;> cases inB b 0 999 <;> cases inB t 0 b <;> simp
theorem impl_BucketOk_eq (r b t a : Int) : impl_BucketOk.f r b t a = some (bucketOkV r b t a) := by
  simp only [impl_BucketOk.f, impl_within_eq, Option.bind_some]
  unfold bucketOkV
  cases inB r 0 99 <;> cases inB b 0 999 <;> cases inB t 0 b <;> simp
theorem bucketOkV_iff (r b t a : Int) : bucketOkV r b t a = true ↔ (0 ≤ r ∧ r ≤ 99) ∧ (0 ≤ b ∧ b ≤ 999) ∧ (0 ≤ t ∧ t ≤ b) ∧ (0 ≤ a ∧ a ≤ 2147483647) := by
  simp [bucketOkV, inB, and_assoc]

theorem toBucket_eq (r b t a : Int) : laws_toBucket.f r b t a = some (r, b, t, a) := rfl

theorem FnExactBucketOk : ∀ (a0_0 : Int) (a0_1 : Int) (a0_2 : Int) (a0_3 : Int), ((Lit.int .i64 a0_0).wf = true ∧ (Lit.int .i64 a0_1).wf = true ∧ (Lit.int .i64 a0_2).wf = true ∧ (Lit.int .i64 a0_3).wf = true) → laws_FnExactBucketOk.f a0_0 a0_1 a0_2 a0_3 = some true := by
  intro r b t a _
  simp only [laws_FnExactBucketOk.f, toBucket_eq, spec_BucketOk_eq, impl_BucketOk_eq, Option.bind_some]
  simp

end Go.Proofs.Ytdmcepodfkmlaaa.Pure
