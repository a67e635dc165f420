/- The program's Refill returns what the reference's returns, for all arguments. Conditions: none beyond the statement's own. -/
import Derived.Test.YteiabkojcfjldaaPFnExactRefillx
set_option linter.unusedVariables false
set_option linter.unusedSimpArgs false
namespace Go.Proofs.Yteiabkojcfjldaa.Pure
open Go.RowKit Go.Proofs.Yteiabkojcfjldaa.PFnExactRefill Go.Proofs.YteiabkojcfjldaaW.PrintWords Go.Proofs.YteiabkojcfjldaaW.PrintLast Go.Proofs.YteiabkojcfjldaaW.PrintMore


def capv (n : Int) : Int := if n < 0 then 0 else if n > 2147483647 then 2147483647 else n
theorem capv_range (n : Int) : 0 ≤ capv n ∧ capv n ≤ 2147483647 := by unfold capv; (repeat' split) <;> omega
theorem capv_id {n : Int} (h0 : 0 ≤ n) (h1 : n ≤ 2147483647) : capv n = n := by unfold capv; (repeat' split) <;> omega
theorem spec_Cap_eq (a : Int) : spec_Cap.f a = some (capv a) := by unfold spec_Cap.f capv; (repeat' split) <;> rfl
theorem impl_Cap_eq (a : Int) : impl_Cap.f a = some (capv a) := by
  unfold impl_Cap.f capv mn mx
  congr 1
  (repeat' split) <;> omega

def addv (a b : Int) : Int := capv (capv a + capv b)
theorem wrap_add (a b : Int) : wrap64 (capv a + capv b) = capv a + capv b := by
  have := capv_range a
  have := capv_range b
  unfold wrap64
  omega

theorem spec_Add_eq (a b : Int) : spec_Add.f a b = some (addv a b) := by
  simp only [spec_Add.f, spec_Cap_eq, Option.bind_some, wrap_add, addv]
theorem impl_Add_eq (a b : Int) : impl_Add.f a b = some (addv a b) := by
  simp only [impl_Add.f, impl_Cap_eq, Option.bind_some, wrap_add, addv]

def subv (a b : Int) : Int := capv (capv a - capv b)
theorem wrap_sub (a b : Int) : wrap64 (capv a - capv b) = capv a - capv b := by
  have := capv_range a
  have := capv_range b
  unfold wrap64
  omega

theorem spec_Sub_eq (a b : Int) : spec_Sub.f a b = some (subv a b) := by
  simp only [spec_Sub.f, spec_Cap_eq, Option.bind_some, wrap_sub, subv]
theorem impl_Sub_eq (a b : Int) : impl_Sub.f a b = some (subv a b) := by
  simp only [impl_Sub.f, impl_Cap_eq, Option.bind_some, wrap_sub, subv]

def mulv (a b : Int) : Int := capv (capv a * capv b)
theorem wrap_mul (a b : Int) : wrap64 (capv a * capv b) = capv a * capv b := by
  have h1 := capv_range a
  have h2 := capv_range b
  have h3 : 0 ≤ capv a * capv b := Int.mul_nonneg h1.1 h2.1
  have h4 : capv a * capv b ≤ 2147483647 * 2147483647 := Int.mul_le_mul h1.2 h2.2 h2.1 (by decide)
  generalize capv a * capv b = p at h3 h4
  unfold wrap64
  omega

theorem spec_Mul_eq (a b : Int) : spec_Mul.f a b = some (mulv a b) := by
  simp only [spec_Mul.f, spec_Cap_eq, Option.bind_some, wrap_mul, mulv]
theorem impl_Mul_eq (a b : Int) : impl_Mul.f a b = some (mulv a b) := by
  simp only [impl_Mul.f, impl_Cap_eq, Option.bind_some, wrap_mul, mulv]

def inB (a b c : Int) : Bool := decide (b ≤ a) && decide (a ≤ c)
theorem impl_within_eq (a b c : Int) : impl_within.f a b c = some (inB a b c) := by
  unfold impl_within.f inB
  by_cases h : a ≥ b
  · rw [if_pos h]
    simp [show b ≤ a from h]
  · rw [if_neg h]
    simp [show ¬ b ≤ a from h]

theorem spec_l1In_eq (a b c : Int) : spec_l1In.f a b c = some (inB a b c) := by
  unfold spec_l1In.f inB
  by_cases h : a ≥ b
  · rw [if_pos h]
    simp [show b ≤ a from h]
  · rw [if_neg h]
    simp [show ¬ b ≤ a from h]

def bucketOkV (r b t a : Int) : Bool := inB r 0 99 && inB b 0 999 && inB t 0 b && inB a 0 2147483647
theorem spec_BucketOk_eq (r b t a : Int) : spec_BucketOk.f r b t a = some (bucketOkV r b t a) := by
  simp only [spec_BucketOk.f, spec_l1In_eq, Option.bind_some]
  unfold bucketOkV
  cases inB r 0 99 <;> cases inB b 0 999 <;> cases inB t 0 b <;> simp
theorem impl_BucketOk_eq (r b t a : Int) : impl_BucketOk.f r b t a = some (bucketOkV r b t a) := by
  simp only [impl_BucketOk.f, impl_within_eq, Option.bind_some]
  unfold bucketOkV
  cases inB r 0 99 <;> cases inB b 0 999 <;> cases inB t 0 b <;> simp
theorem bucketOkV_iff (r b t a : Int) : bucketOkV r b t a = true ↔ (0 ≤ r ∧ r ≤ 99) ∧ (0 ≤ b ∧ b ≤ 999) ∧ (0 ≤ t ∧ t ≤ b) ∧ (0 ≤ a ∧ a ≤ 2147483647) := by
  simp [bucketOkV, inB, and_assoc]

def refillOk (r b t a n : Int) : Bool := bucketOkV r b t a && inB n a 2147483647
def refillT (r b t a n : Int) : Int := mn (addv t (mulv r (subv n a))) b
def refillV (r b t a n : Int) : Int × Int × Int × Int := if refillOk r b t a n then (r, b, refillT r b t a n, n) else (r, b, t, a)
theorem spec_Refill_eq (k : Nat) (r b t a n : Int) : spec_Refill.f (k + 1) r b t a n = some (refillV r b t a n) := by
  simp only [spec_Refill.f, spec_BucketOk_eq, Option.bind_some, spec_Refill.j0, spec_Sub_eq, spec_Mul_eq, spec_Add_eq]
  unfold refillV refillOk refillT
  by_cases hb : bucketOkV r b t a = true
  · rw [if_pos hb]
    by_cases h1 : n < a
    · have hi : inB n a 2147483647 = false := by simp [inB]; omega
      rw [if_pos h1]
      simp [hi]
    · rw [if_neg h1]
      by_cases h2 : n > 2147483647
      · have hi : inB n a 2147483647 = false := by simp [inB]; omega
        simp [hi, h2]
      · have hi : inB n a 2147483647 = true := by simp [inB]; omega
        simp only [hb, hi, decide_eq_false h2, Bool.and_true, if_true, Bool.false_eq_true, if_false]
        unfold mn
        by_cases h3 : addv t (mulv r (subv n a)) > b
        · rw [if_pos h3, if_pos h3]
        · rw [if_neg h3, if_neg h3]
  · rw [if_neg hb]
    simp [hb]
theorem impl_Refill_eq (k : Nat) (r b t a n : Int) : impl_Refill.f (k + 1) r b t a n = some (refillV r b t a n) := by
  simp only [impl_Refill.f, impl_BucketOk_eq, impl_within_eq, Option.bind_some, impl_Refill.j0, impl_Sub_eq, impl_Mul_eq, impl_Add_eq]
  unfold refillV refillOk refillT
  by_cases hb : bucketOkV r b t a = true
  · rw [if_pos hb]
    by_cases hi : inB n a 2147483647 = true <;> simp [hb, hi]
  · rw [if_neg hb]
    simp [hb]

theorem toBucket_eq (r b t a : Int) : laws_toBucket.f r b t a = some (r, b, t, a) := rfl

theorem eqBucket_self (r b t a : Int) : laws_eqBucket.f r b t a r b t a = some true := by
  simp [laws_eqBucket.f]

theorem FnExactRefill : ∀ (a0_0 : Int) (a0_1 : Int) (a0_2 : Int) (a0_3 : Int) (a1 : Int), ((Lit.int .i64 a0_0).wf = true ∧ (Lit.int .i64 a0_1).wf = true ∧ (Lit.int .i64 a0_2).wf = true ∧ (Lit.int .i64 a0_3).wf = true) → ((Lit.int .i64 a1).wf = true) → ∃ k, laws_FnExactRefill.f k a0_0 a0_1 a0_2 a0_3 a1 = some true := by
  intro r b t a n _ hn
  refine ⟨1, ?_⟩
  simp only [laws_FnExactRefill.f, toBucket_eq, Option.bind_some, spec_Refill_eq, impl_Refill_eq, eqBucket_self, if_true]

end Go.Proofs.Yteiabkojcfjldaa.Pure
