/- The program's Mix returns what the reference's returns, for all arguments. Conditions: none beyond the statement's own. -/
import Derived.Test.YtdmcepodfkmlaaaPFnExactMixx1
set_option linter.unusedVariables false
set_option linter.unusedSimpArgs false
namespace Go.Proofs.Ytdmcepodfkmlaaa.Pure
open Go.RowKit Go.Proofs.Ytdmcepodfkmlaaa.PFnExactMix Go.Proofs.YtdmcepodfkmlaaaW.PrintWords Go.Proofs.YtdmcepodfkmlaaaW.PrintLast

theorem bxor_nat (a b : Nat) (ha : a < 2 ^ 63) (hb : b < 2 ^ 63) : Go.bits .xor .i64 (a : Int) (b : Int) = ((a ^^^ b : Nat) : Int) := by
  have hx : a ^^^ b < 2 ^ 63 := Nat.xor_lt_two_pow ha hb
  have e1 : a % 2 ^ 64 = a := Nat.mod_eq_of_lt (by omega)
  have e2 : b % 2 ^ 64 = b := Nat.mod_eq_of_lt (by omega)
  have e3 : IntKind.i64.bits = 64 := rfl
  simp only [Go.bits, e3, BitVec.ofInt_natCast, BitVec.toNat_xor, BitVec.toNat_ofNat, e1, e2]
  rw [IntKind.wrap_i64]
  omega
theorem band_nat (a b : Nat) (ha : a < 2 ^ 63) (hb : b < 2 ^ 63) : Go.bits .and .i64 (a : Int) (b : Int) = ((a &&& b : Nat) : Int) := by
  have hx : a &&& b < 2 ^ 63 := Nat.and_lt_two_pow _ hb
  have e1 : a % 2 ^ 64 = a := Nat.mod_eq_of_lt (by omega)
  have e2 : b % 2 ^ 64 = b := Nat.mod_eq_of_lt (by omega)
  have e3 : IntKind.i64.bits = 64 := rfl
  simp only [Go.bits, e3, BitVec.ofInt_natCast, BitVec.toNat_and, BitVec.toNat_ofNat, e1, e2]
  rw [IntKind.wrap_i64]
  omega
/-- The lowest 16 bits of any number. -/
theorem low16 (a : Int) : ∃ n : Nat, n < 65536 ∧ Go.bits .and .i64 a 65535 = (n : Int) := by
  refine ⟨(BitVec.ofInt 64 a).toNat &&& 65535, ?_, ?_⟩
  · exact Nat.lt_of_le_of_lt Nat.and_le_right (by decide)
  · have h : (BitVec.ofInt 64 a).toNat &&& 65535 ≤ 65535 := Nat.and_le_right
    have e4 : (BitVec.ofInt 64 a &&& BitVec.ofInt 64 65535).toNat = (BitVec.ofInt 64 a).toNat &&& 65535 := by rw [BitVec.toNat_and]; rfl
    show IntKind.i64.wrap ((BitVec.ofInt 64 a &&& BitVec.ofInt 64 65535).toNat : Int) = _
    rw [e4, IntKind.wrap_i64]
    omega
def mixn (n : Nat) : Nat :=
  let a := n ^^^ (n * 128 &&& 65535)
  let b := a ^^^ (a / 512)
  b ^^^ (b * 256 &&& 65535)
theorem and16 {n : Nat} (h : n < 65536) : n &&& 65535 = n := by
  have := Nat.and_two_pow_sub_one_of_lt_two_pow (x := n) (n := 16) (by omega)
  simpa using this
theorem and16_lt (n : Nat) : n &&& 65535 < 65536 := Nat.lt_of_le_of_lt Nat.and_le_right (by decide)
theorem xor16 {a b : Nat} (ha : a < 65536) (hb : b < 65536) : a ^^^ b < 65536 := Nat.xor_lt_two_pow (n := 16) ha hb
theorem mixn_lt {n : Nat} (h : n < 65536) : mixn n < 65536 := by
  unfold mixn
  have h1 := xor16 h (and16_lt (n * 128))
  have h2 : n ^^^ (n * 128 &&& 65535) ^^^ (n ^^^ (n * 128 &&& 65535)) / 512 < 65536 := xor16 h1 (by omega)
  exact xor16 h2 (and16_lt _)
def low (a : Int) : Nat := (Go.bits .and .i64 a 65535).toNat
theorem low_lt (a : Int) : low a < 65536 := by
  obtain ⟨n, hn, e⟩ := low16 a
  unfold low
  rw [e]
  simpa using hn
theorem low_eq (a : Int) : Go.bits .and .i64 a 65535 = (low a : Int) := by
  obtain ⟨n, hn, e⟩ := low16 a
  unfold low
  rw [e]
  simp
theorem wrap_nat {n : Nat} (h : n < 2 ^ 63) : wrap64 (n : Int) = n := by
  unfold wrap64
  omega

theorem impl_Mix_eq (a : Int) : impl_Mix.f a = some ((mixn (low a) : Nat) : Int) := by
  have hn := low_lt a
  unfold impl_Mix.f
  rw [low_eq a]
  generalize low a = n at hn
  have e1 : wrap64 ((n : Int) * 128) = ((n * 128 : Nat) : Int) := by
    unfold wrap64
    omega
  rw [e1]
  have e2 := band_nat (n * 128) 65535 (by omega) (by decide)
  have e2' : Go.bits .and .i64 ((n * 128 : Nat) : Int) 65535 = ((n * 128 &&& 65535 : Nat) : Int) := e2
  rw [e2']
  have h2 := and16_lt (n * 128)
  rw [bxor_nat _ _ (by omega) (by omega)]
  have h3 := xor16 hn h2
  generalize ha : n ^^^ (n * 128 &&& 65535) = y at h3
  have e3 : ((y : Int) / 512) = ((y / 512 : Nat) : Int) := by simp
  rw [e3, bxor_nat _ _ (by omega) (by omega)]
  have h4 : y ^^^ y / 512 < 65536 := xor16 h3 (by omega)
  generalize hb : y ^^^ y / 512 = z at h4
  have e4 : wrap64 ((z : Int) * 256) = ((z * 256 : Nat) : Int) := by
    unfold wrap64
    omega
  rw [e4]
  have e5 : Go.bits .and .i64 ((z * 256 : Nat) : Int) 65535 = ((z * 256 &&& 65535 : Nat) : Int) := band_nat (z * 256) 65535 (by omega) (by decide)
  rw [e5]
  have h5 := and16_lt (z * 256)
  rw [bxor_nat _ _ (by omega) (by omega)]
  subst hb
  subst ha
  rfl
theorem spec_Mix_eq (a : Int) : spec_Mix.f a = some ((mixn (low a) : Nat) : Int) := by
  have hn := low_lt a
  unfold spec_Mix.f
  rw [low_eq a]
  generalize low a = n at hn
  have e1 : wrap64 ((n : Int) * 128) = ((n * 128 : Nat) : Int) := by
    unfold wrap64
    omega
  rw [e1]
  rw [bxor_nat _ _ (by omega) (by omega)]
  have hx : n ^^^ n * 128 < 2 ^ 63 := Nat.xor_lt_two_pow (by omega) (by omega)
  have e2 : Go.bits .and .i64 ((n ^^^ n * 128 : Nat) : Int) 65535 = ((n ^^^ (n * 128 &&& 65535) : Nat) : Int) := by
    have := band_nat (n ^^^ n * 128) 65535 hx (by decide)
    rw [Nat.and_xor_distrib_right, and16 hn] at this
    exact this
  rw [e2]
  have h2 := and16_lt (n * 128)
  have h3 := xor16 hn h2
  generalize ha : n ^^^ (n * 128 &&& 65535) = y at h3
  have e3 : ((y : Int) / 512) = ((y / 512 : Nat) : Int) := by simp
  rw [e3, bxor_nat _ _ (by omega) (by omega)]
  have h4 : y ^^^ y / 512 < 65536 := xor16 h3 (by omega)
  generalize hb : y ^^^ y / 512 = z at h4
  have e4 : wrap64 ((z : Int) * 256) = ((z * 256 : Nat) : Int) := by
    unfold wrap64
    omega
  rw [e4, bxor_nat _ _ (by omega) (by omega)]
  have hx2 : z ^^^ z * 256 < 2 ^ 63 := Nat.xor_lt_two_pow (by omega) (by omega)
  have e5 : Go.bits .and .i64 ((z ^^^ z * 256 : Nat) : Int) 65535 = ((z ^^^ (z * 256 &&& 65535) : Nat) : Int) := by
    have := band_nat (z ^^^ z * 256) 65535 hx2 (by decide)
    rw [Nat.and_xor_distrib_right, and16 h4] at this
    exact this
  rw [e5]
  subst hb
  subst ha
  rfl

theorem FnExactMix : laws_FnExactMix.Pure := by
  intro a0 _
  simp only [laws_FnExactMix.f, spec_Mix_eq, impl_Mix_eq, Option.bind_some, if_pos]

end Go.Proofs.Ytdmcepodfkmlaaa.Pure
