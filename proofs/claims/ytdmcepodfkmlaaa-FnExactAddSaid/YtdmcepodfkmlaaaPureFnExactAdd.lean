/- The program's Add returns what the reference's returns, for all arguments. Conditions: none beyond the statement's own. -/
import Derived.Test.YtdmcepodfkmlaaaPFnExactAddx1
set_option linter.unusedVariables false
set_option linter.unusedSimpArgs false
namespace Go.Proofs.Ytdmcepodfkmlaaa.Pure
open Go.RowKit Go.Proofs.Ytdmcepodfkmlaaa.PFnExactAdd Go.Proofs.YtdmcepodfkmlaaaW.PrintWords Go.Proofs.YtdmcepodfkmlaaaW.PrintLast

def capv (n : Int) : Int := if n < 0 then 0 else if n > 2147483647 then 2147483647 else n
theorem capv_range (n : Int) : 0 ≤ capv n ∧ capv n ≤ 2147483647 := by unfold capv; (repeat' split) <;> omega
theorem capv_id {n : Int} (h0 : 0 ≤ n) (h1 : n ≤ 2147483647) : capv n = n := by unfold capv; (repeat' split) <;> omega
theorem spec_Cap_eq (a : Int) : spec_Cap.f a = some (capv a) := by unfold spec_Cap.f capv; (repeat' split) <;> rfl
theorem impl_Cap_eq (a : Int) : impl_Cap.f a = some (capv a) := by
  unfold impl_Cap.f capv mn mx
  congr 1
  (repeat' split) <;> omega

def addv (a b : Int) : Int := capv (capv a + capv b)
theorem wrap_add (a b : Int) : wrap64 (capv a + capv b) = capv a + capv b := by
  have := capv_range a
  have := capv_range b
  unfold wrap64
  omega

theorem spec_Add_eq (a b : Int) : spec_Add.f a b = some (addv a b) := by
  simp only [spec_Add.f, spec_Cap_eq, Option.bind_some, wrap_add, addv]
theorem impl_Add_eq (a b : Int) : impl_Add.f a b = some (addv a b) := by
  simp only [impl_Add.f, impl_Cap_eq, Option.bind_some, wrap_add, addv]

theorem FnExactAdd : laws_FnExactAdd.Pure := by
  intro a0 a1 _ _
  simp only [laws_FnExactAdd.f, spec_Add_eq, impl_Add_eq, Option.bind_some, if_pos]

end Go.Proofs.Ytdmcepodfkmlaaa.Pure
