/- The program's Mul returns what the reference's returns, for all arguments. Conditions: none beyond the statement's own. -/
import Derived.Test.YtdmcepodfkmlaaaPFnExactMulx1
set_option linter.unusedVariables false
set_option linter.unusedSimpArgs false
namespace Go.Proofs.Ytdmcepodfkmlaaa.Pure
open Go.RowKit Go.Proofs.Ytdmcepodfkmlaaa.PFnExactMul Go.Proofs.YtdmcepodfkmlaaaW.PrintWords Go.Proofs.YtdmcepodfkmlaaaW.PrintLast

def capv (n : Int) : Int := if n < 0 then 0 else if n > 2147483647 then 2147483647 else n
theorem capv_range (n : Int) : 0 ≤ capv n ∧ capv n ≤ 2147483647 := by unfold capv; (repeat' split) <;> omega
theorem capv_id {n : Int} (h0 : 0 ≤ n) (h1 : n ≤ 2147483647) : capv n = n := by unfold capv; (repeat' split) <;> omega
theorem spec_Cap_eq (a : Int) : spec_Cap.f a = some (capv a) := by unfold spec_Cap.f capv; (repeat' split) <;> rfl
theorem impl_Cap_eq (a : Int) : impl_Cap.f a = some (capv a) := by
  unfold impl_Cap.f capv mn mx
  congr 1
  (repeat' split) <;> omega

def mulv (a b : Int) : Int := capv (capv a * capv b)
theorem wrap_mul (a b : Int) : wrap64 (capv a * capv b) = capv a * capv b := by
  have h1 := capv_range a
  have h2 := capv_range b
  have h3 : 0 ≤ capv a * capv b := Int.mul_nonneg h1.1 h2.1
  have h4 : capv a * capv b ≤ 2147483647 * 2147483647 := Int.mul_le_mul h1.2 h2.2 h2.1 (by decide)
  generalize capv a * capv b = p at h3 h4
  unfold wrap64
  omega

theorem spec_Mul_eq (a b : Int) : spec_Mul.f a b = some (mulv a b) := by
  simp only [spec_Mul.f, spec_Cap_eq, Option.bind_some, wrap_mul, mulv]
theorem impl_Mul_eq (a b : Int) : impl_Mul.f a b = some (mulv a b) := by
  simp only [impl_Mul.f, impl_Cap_eq, Option.bind_some, wrap_mul, mulv]

theorem FnExactMul : laws_FnExactMul.Pure := by
  intro a0 a1 _ _
  simp only [laws_FnExactMul.f, spec_Mul_eq, impl_Mul_eq, Option.bind_some, if_pos]

end Go.Proofs.Ytdmcepodfkmlaaa.Pure
