/- The program's MostIn returns what the reference's returns, for all arguments. Conditions: none beyond the statement's own. -/
import Derived.Test.YtdmcepodfkmlaaaPFnExactMostInx
set_option linter.unusedVariables false
set_option linter.unusedSimpArgs false
namespace Go.Proofs.Ytdmcepodfkmlaaa.Pure
open Go.RowKit Go.Proofs.Ytdmcepodfkmlaaa.PFnExactMostIn Go.Proofs.YtdmcepodfkmlaaaW.PrintWords Go.Proofs.YtdmcepodfkmlaaaW.PrintLast Go.Proofs.YtdmcepodfkmlaaaW.PrintMore


def capv (n : Int) : Int := if n < 0 then 0 else if n > 2147483647 then 2147483647 else n
theorem capv_range (n : Int) : 0 ≤ capv n ∧ capv n ≤ 2147483647 := by unfold capv; (repeat' split) <;> omega
theorem capv_id {n : Int} (h0 : 0 ≤ n) (h1 : n ≤ 2147483647) : capv n = n := by unfold capv; (repeat' split) <;> omega
theorem spec_Cap_eq (a : Int) : spec_Cap.f a = some (capv a) := by unfold spec_Cap.f capv; (repeat' split) <;> rfl
theorem impl_Cap_eq (a : Int) : impl_Cap.f a = some (capv a) := by
  unfold impl_Cap.f capv mn mx
  congr 1
  (repeat' split) <;> omega

def addv (a b : Int) : Int := capv (capv a + capv b)
theorem wrap_add (a b : Int) : wrap64 (capv a + capv b) = capv a + capv b := by
  have := capv_range a
  have := capv_range b
  unfold wrap64
  omega

theorem spec_Add_eq (a b : Int) : spec_Add.f a b = some (addv a b) := by
  simp only [spec_Add.f, spec_Cap_eq, Option.bind_some, wrap_add, addv]
theorem impl_Add_eq (a b : Int) : impl_Add.f a b = some (addv a b) := by
  simp only [impl_Add.f, impl_Cap_eq, Option.bind_some, wrap_add, addv]

def mulv (a b : Int) : Int := capv (capv a * capv b)
theorem wrap_mul (a b : Int) : wrap64 (capv a * capv b) = capv a * capv b := by
  have h1 := capv_range a
  have h2 := capv_range b
  have h3 : 0 ≤ capv a * capv b := Int.mul_nonneg h1.1 h2.1
  have h4 : capv a * capv b ≤ 2147483647 * 2147483647 := Int.mul_le_mul h1.2 h2.2 h2.1 (by decide)
  generalize capv a * capv b = p at h3 h4
  unfold wrap64
  omega

theorem spec_Mul_eq (a b : Int) : spec_Mul.f a b = some (mulv a b) := by
  simp only [spec_Mul.f, spec_Cap_eq, Option.bind_some, wrap_mul, mulv]
theorem impl_Mul_eq (a b : Int) : impl_Mul.f a b = some (mulv a b) := by
  simp only [impl_Mul.f, impl_Cap_eq, Option.bind_some, wrap_mul, mulv]

def mostInV (r b t : Int) : Int := addv b (mulv r t)
theorem spec_MostIn_eq (r b t a n : Int) : spec_MostIn.f r b t a n = some (mostInV r b n) := by
  simp only [spec_MostIn.f, spec_Mul_eq, spec_Add_eq, Option.bind_some, mostInV]
theorem impl_MostIn_eq (r b t a n : Int) : impl_MostIn.f r b t a n = some (mostInV r b n) := by
  simp only [impl_MostIn.f, impl_Mul_eq, impl_Add_eq, Option.bind_some, mostInV]

theorem toBucket_eq (r b t a : Int) : laws_toBucket.f r b t a = some (r, b, t, a) := rfl

theorem FnExactMostIn : ∀ (a0_0 : Int) (a0_1 : Int) (a0_2 : Int) (a0_3 : Int) (a1 : Int), ((Lit.int .i64 a0_0).wf = true ∧ (Lit.int .i64 a0_1).wf = true ∧ (Lit.int .i64 a0_2).wf = true ∧ (Lit.int .i64 a0_3).wf = true) → ((Lit.int .i64 a1).wf = true) → laws_FnExactMostIn.f a0_0 a0_1 a0_2 a0_3 a1 = some true := by
  intro r b t a n _ _
  simp only [laws_FnExactMostIn.f, toBucket_eq, spec_MostIn_eq, impl_MostIn_eq, Option.bind_some, if_pos]

end Go.Proofs.Ytdmcepodfkmlaaa.Pure
