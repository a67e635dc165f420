/- The program's Spread returns what the reference's returns, for all arguments. Conditions: none beyond the statement's own. -/
import Derived.Test.YteiabkojcfjldaaPFnExactSpreadx
set_option linter.unusedVariables false
set_option linter.unusedSimpArgs false
namespace Go.Proofs.Yteiabkojcfjldaa.Pure
open Go.RowKit Go.Proofs.Yteiabkojcfjldaa.PFnExactSpread Go.Proofs.YteiabkojcfjldaaW.PrintWords Go.Proofs.YteiabkojcfjldaaW.PrintLast Go.Proofs.YteiabkojcfjldaaW.PrintMore


/-- A loop over an index: from a state that is good, with enough rounds, it comes to an end that meets what is told of it. -/
theorem loop_ex {σ β : Type} {L : Nat → σ → Int → Option β} {n K : Nat} {I : σ → Nat → Prop} {Post : σ → Nat → β → Prop}
    (hend : ∀ s, I s n → ∃ r, Post s n r ∧ ∀ k, L (k + 1) s (n : Int) = some r)
    (hstep : ∀ s (i : Nat), i < n → I s i → (∃ r, Post s i r ∧ ∀ k, K ≤ k → L (k + 1) s (i : Int) = some r) ∨
      ∃ s', I s' (i + 1) ∧ (∀ k, K ≤ k → L (k + 1) s (i : Int) = L k s' ((i : Int) + 1)) ∧ ∀ r, Post s' (i + 1) r → Post s i r) :
    ∀ (d : Nat) s (i : Nat), i + d = n → I s i → ∃ r, Post s i r ∧ ∀ k, K + d < k → L k s (i : Int) = some r := by
  intro d
  induction d with
  | zero =>
    intro s i hd hI
    obtain rfl : i = n := by omega
    obtain ⟨r, hp, hr⟩ := hend s hI
    refine ⟨r, hp, fun k hk => ?_⟩
    obtain ⟨k, rfl⟩ : ∃ m, k = m + 1 := ⟨k - 1, by omega⟩
    exact hr k
  | succ d ih =>
    intro s i hd hI
    rcases hstep s i (by omega) hI with ⟨r, hp, hr⟩ | ⟨s', hI', he, hp⟩
    · refine ⟨r, hp, fun k hk => ?_⟩
      obtain ⟨k, rfl⟩ : ∃ m, k = m + 1 := ⟨k - 1, by omega⟩
      exact hr k (by omega)
    · obtain ⟨r, hq, hr⟩ := ih s' (i + 1) (by omega) hI'
      refine ⟨r, hp r hq, fun k hk => ?_⟩
      obtain ⟨k, rfl⟩ : ∃ m, k = m + 1 := ⟨k - 1, by omega⟩
      rw [he k (by omega)]
      have := hr k (by omega)
      rw [Int.natCast_add] at this
      exact this
theorem ev_at {α : Type} {g : Nat → Option α} {r : α} (K : Nat) (h : ∀ k, K < k → g k = some r) : Ev g r := ⟨K + 1, fun k hk => h k (by omega)⟩
theorem wrap_of {x : Int} (h0 : -9223372036854775808 ≤ x) (h1 : x ≤ 9223372036854775807) : wrap64 x = x := by
  unfold wrap64
  omega
theorem wrap_nat1 {i n : Nat} (h : i < n) (hn : n ≤ 9223372036854775807) : wrap64 ((i : Int) + 1) = (i : Int) + 1 := wrap_of (by omega) (by omega)
theorem lt_cast {i n : Nat} (h : i < n) : (i : Int) < (n : Int) := by omega
theorem nn_cast (i : Nat) : 0 ≤ (i : Int) := by omega
theorem not_lt_cast (n : Nat) : ¬ (n : Int) < (n : Int) := by omega
/-- What is written cell by cell. -/
theorem fill_set {α : Type} (l : List α) (z : α) (i : Nat) (h : i < l.length) : (l.take i ++ List.replicate (l.length - i) z).set i l[i] = l.take (i + 1) ++ List.replicate (l.length - (i + 1)) z := by
  have e1 : l.length - i = (l.length - (i + 1)) + 1 := by omega
  have e2 : (l.take i).length = i := by rw [List.length_take]; omega
  rw [e1, List.replicate_succ, List.set_append_right _ _ (by omega), e2, Nat.sub_self, List.set_cons_zero, List.take_succ_eq_append_getElem h, List.append_assoc]
  rfl
theorem fill_len {α : Type} (l : List α) (z : α) (i : Nat) (h : i ≤ l.length) : (l.take i ++ List.replicate (l.length - i) z).length = l.length := by
  rw [List.length_append, List.length_take, List.length_replicate]
  omega

theorem rd_nat (l : List Int) (i : Nat) (h : i < l.length) : rd l (i : Int) = l[i] := by
  simp [rd, List.getD_eq_getElem?_getD, h]

theorem bxor_nat (a b : Nat) (ha : a < 2 ^ 63) (hb : b < 2 ^ 63) : Go.bits .xor .i64 (a : Int) (b : Int) = ((a ^^^ b : Nat) : Int) := by
  have hx : a ^^^ b < 2 ^ 63 := Nat.xor_lt_two_pow ha hb
  have e1 : a % 2 ^ 64 = a := Nat.mod_eq_of_lt (by omega)
  have e2 : b % 2 ^ 64 = b := Nat.mod_eq_of_lt (by omega)
  have e3 : IntKind.i64.bits = 64 := rfl
  simp only [Go.bits, e3, BitVec.ofInt_natCast, BitVec.toNat_xor, BitVec.toNat_ofNat, e1, e2]
  rw [IntKind.wrap_i64]
  omega
theorem band_nat (a b : Nat) (ha : a < 2 ^ 63) (hb : b < 2 ^ 63) : Go.bits .and .i64 (a : Int) (b : Int) = ((a &&& b : Nat) : Int) := by
  have hx : a &&& b < 2 ^ 63 := Nat.and_lt_two_pow _ hb
  have e1 : a % 2 ^ 64 = a := Nat.mod_eq_of_lt (by omega)
  have e2 : b % 2 ^ 64 = b := Nat.mod_eq_of_lt (by omega)
  have e3 : IntKind.i64.bits = 64 := rfl
  simp only [Go.bits, e3, BitVec.ofInt_natCast, BitVec.toNat_and, BitVec.toNat_ofNat, e1, e2]
  rw [IntKind.wrap_i64]
  omega
/-- The lowest 16 bits of any number. -/
theorem low16 (a : Int) : ∃ n : Nat, n < 65536 ∧ Go.bits .and .i64 a 65535 = (n : Int) := by
  refine ⟨(BitVec.ofInt 64 a).toNat &&& 65535, ?_, ?_⟩
  · exact Nat.lt_of_le_of_lt Nat.and_le_right (by decide)
  · have h : (BitVec.ofInt 64 a).toNat &&& 65535 ≤ 65535 := Nat.and_le_right
    have e4 : (BitVec.ofInt 64 a &&& BitVec.ofInt 64 65535).toNat = (BitVec.ofInt 64 a).toNat &&& 65535 := by rw [BitVec.toNat_and]; rfl
    show IntKind.i64.wrap ((BitVec.ofInt 64 a &&& BitVec.ofInt 64 65535).toNat : Int) = _
    rw [e4, IntKind.wrap_i64]
    omega
def mixn (n : Nat) : Nat :=
  let a := n ^^^ (n * 128 &&& 65535)
  let b := a ^^^ (a / 512)
  b ^^^ (b * 256 &&& 65535)
theorem and16 {n : Nat} (h : n < 65536) : n &&& 65535 = n := by
  have := Nat.and_two_pow_sub_one_of_lt_two_pow (x := n) (n := 16) (by omega)
  simpa using this
theorem and16_lt (n : Nat) : n &&& 65535 < 65536 := Nat.lt_of_le_of_lt Nat.and_le_right (by decide)
theorem xor16 {a b : Nat} (ha : a < 65536) (hb : b < 65536) : a ^^^ b < 65536 := Nat.xor_lt_two_pow (n := 16) ha hb
theorem mixn_lt {n : Nat} (h : n < 65536) : mixn n < 65536 := by
  unfold mixn
  have h1 := xor16 h (and16_lt (n * 128))
  have h2 : n ^^^ (n * 128 &&& 65535) ^^^ (n ^^^ (n * 128 &&& 65535)) / 512 < 65536 := xor16 h1 (by omega)
  exact xor16 h2 (and16_lt _)
def low (a : Int) : Nat := (Go.bits .and .i64 a 65535).toNat
theorem low_lt (a : Int) : low a < 65536 := by
  obtain ⟨n, hn, e⟩ := low16 a
  unfold low
  rw [e]
  simpa using hn
theorem low_eq (a : Int) : Go.bits .and .i64 a 65535 = (low a : Int) := by
  obtain ⟨n, hn, e⟩ := low16 a
  unfold low
  rw [e]
  simp
theorem wrap_nat {n : Nat} (h : n < 2 ^ 63) : wrap64 (n : Int) = n := by
  unfold wrap64
  omega

theorem impl_Mix_eq (a : Int) : impl_Mix.f a = some ((mixn (low a) : Nat) : Int) := by
  have hn := low_lt a
  unfold impl_Mix.f
  rw [low_eq a]
  generalize low a = n at hn
  have e1 : wrap64 ((n : Int) * 128) = ((n * 128 : Nat) : Int) := by
    unfold wrap64
    omega
  rw [e1]
  have e2 := band_nat (n * 128) 65535 (by omega) (by decide)
  have e2' : Go.bits .and .i64 ((n * 128 : Nat) : Int) 65535 = ((n * 128 &&& 65535 : Nat) : Int) := e2
  rw [e2']
  have h2 := and16_lt (n * 128)
  rw [bxor_nat _ _ (by omega) (by omega)]
  have h3 := xor16 hn h2
  generalize ha : n ^^^ (n * 128 &&& 65535) = y at h3
  have e3 : ((y : Int) / 512) = ((y / 512 : Nat) : Int) := by simp
  rw [e3, bxor_nat _ _ (by omega) (by omega)]
  have h4 : y ^^^ y / 512 < 65536 := xor16 h3 (by omega)
  generalize hb : y ^^^ y / 512 = z at h4
  have e4 : wrap64 ((z : Int) * 256) = ((z * 256 : Nat) : Int) := by
    unfold wrap64
    omega
  rw [e4]
  have e5 : Go.bits .and .i64 ((z * 256 : Nat) : Int) 65535 = ((z * 256 &&& 65535 : Nat) : Int) := band_nat (z * 256) 65535 (by omega) (by decide)
  rw [e5]
  have h5 := and16_lt (z * 256)
  rw [bxor_nat _ _ (by omega) (by omega)]
  subst hb
  subst ha
  rfl
theorem spec_Mix_eq (a : Int) : spec_Mix.f a = some ((mixn (low a) : Nat) : Int) := by
  have hn := low_lt a
  unfold spec_Mix.f
  rw [low_eq a]
  generalize low a = n at hn
  have e1 : wrap64 ((n : Int) * 128) = ((n * 128 : Nat) : Int) := by
    unfold wrap64
    omega
  rw [e1]
  rw [bxor_nat _ _ (by omega) (by omega)]
  have hx : n ^^^ n * 128 < 2 ^ 63 := Nat.xor_lt_two_pow (by omega) (by omega)
  have e2 : Go.bits .and .i64 ((n ^^^ n * 128 : Nat) : Int) 65535 = ((n ^^^ (n * 128 &&& 65535) : Nat) : Int) := by
    have := band_nat (n ^^^ n * 128) 65535 hx (by decide)
    rw [Nat.and_xor_distrib_right, and16 hn] at this
    exact this
  rw [e2]
  have h2 := and16_lt (n * 128)
  have h3 := xor16 hn h2
  generalize ha : n ^^^ (n * 128 &&& 65535) = y at h3
  have e3 : ((y : Int) / 512) = ((y / 512 : Nat) : Int) := by simp
  rw [e3, bxor_nat _ _ (by omega) (by omega)]
  have h4 : y ^^^ y / 512 < 65536 := xor16 h3 (by omega)
  generalize hb : y ^^^ y / 512 = z at h4
  have e4 : wrap64 ((z : Int) * 256) = ((z * 256 : Nat) : Int) := by
    unfold wrap64
    omega
  rw [e4, bxor_nat _ _ (by omega) (by omega)]
  have hx2 : z ^^^ z * 256 < 2 ^ 63 := Nat.xor_lt_two_pow (by omega) (by omega)
  have e5 : Go.bits .and .i64 ((z ^^^ z * 256 : Nat) : Int) 65535 = ((z ^^^ (z * 256 &&& 65535) : Nat) : Int) := by
    have := band_nat (z ^^^ z * 256) 65535 hx2 (by decide)
    rw [Nat.and_xor_distrib_right, and16 h4] at this
    exact this
  rw [e5]
  subst hb
  subst ha
  rfl

def stripev (t n : Int) : Int := if n < 1 then 0 else Int.tmod (mixn (low t) : Nat) n
theorem spec_StripeOf_eq (a b : Int) : spec_StripeOf.f a b = some (stripev a b) := by
  unfold spec_StripeOf.f stripev
  rw [spec_Mix_eq, Option.bind_some]
  (repeat' split) <;> first | rfl | omega
theorem impl_StripeOf_eq (a b : Int) : impl_StripeOf.f a b = some (stripev a b) := by
  unfold impl_StripeOf.f stripev
  rw [impl_Mix_eq, Option.bind_some]
  (repeat' split) <;> first | rfl | omega

def inB (a b c : Int) : Bool := decide (b ≤ a) && decide (a ≤ c)
theorem impl_within_eq (a b c : Int) : impl_within.f a b c = some (inB a b c) := by
  unfold impl_within.f inB
  by_cases h : a ≥ b
  · rw [if_pos h]
    simp [show b ≤ a from h]
  · rw [if_neg h]
    simp [show ¬ b ≤ a from h]

theorem spec_l1In_eq (a b c : Int) : spec_l1In.f a b c = some (inB a b c) := by
  unfold spec_l1In.f inB
  by_cases h : a ≥ b
  · rw [if_pos h]
    simp [show b ≤ a from h]
  · rw [if_neg h]
    simp [show ¬ b ≤ a from h]

theorem low_nn (t : Int) (n : Int) (h : 1 ≤ n) : 0 ≤ stripev t n ∧ stripev t n < n := by
  unfold stripev
  rw [if_neg (by omega), Int.tmod_eq_emod_of_nonneg (Int.natCast_nonneg _)]
  exact ⟨Int.emod_nonneg _ (by omega), Int.emod_lt_of_pos _ (by omega)⟩
/-- How many of the numbers belong to stripe j. -/
def cnt (l : List Int) (n : Int) (j : Nat) : Int := ((l.filter fun t => stripev t n == (j : Int)).length : Int)
def spreadv (l : List Int) (n : Int) : List Int := if inB n 1 3 then (List.range n.toNat).map fun j => cnt l n j else []
theorem cnt_snoc (l : List Int) (n : Int) (j : Nat) (t : Int) : cnt (l ++ [t]) n j = cnt l n j + if stripev t n = (j : Int) then 1 else 0 := by
  unfold cnt
  rw [List.filter_append]
  by_cases h : stripev t n = (j : Int) <;> simp [h]
theorem cnt_le (l : List Int) (n : Int) (j : Nat) : 0 ≤ cnt l n j ∧ cnt l n j ≤ l.length := by
  unfold cnt
  have := List.length_filter_le (fun t => stripev t n == (j : Int)) l
  omega
theorem spec_Spread_inner (l : List Int) (hl : l.length ≤ 4294967296) (n : Int) (j : Nat) (out : List Int) (hout : out.length ≤ 10) :
    ∀ k, l.length < k → spec_Spread.l1 k l n out (j : Int) 0 0 = spec_Spread.l0 (k - l.length - 1) l n (out ++ [cnt l n j]) (wrap64 ((j : Int) + 1)) := by
  have key : ∀ (d i : Nat), i + d = l.length → ∀ k, d < k → spec_Spread.l1 k l n out (j : Int) (cnt (l.take i) n j) (i : Int) = spec_Spread.l0 (k - d - 1) l n (out ++ [cnt l n j]) (wrap64 ((j : Int) + 1)) := by
    intro d
    induction d with
    | zero =>
      intro i hi k hk
      obtain ⟨k, rfl⟩ : ∃ m, k = m + 1 := ⟨k - 1, by omega⟩
      obtain rfl : i = l.length := by omega
      simp only [spec_Spread.l1]
      rw [if_neg (not_lt_cast _), if_pos (by omega), List.take_length]
      rfl
    | succ d ih =>
      intro i hi k hk
      obtain ⟨k, rfl⟩ : ∃ m, k = m + 1 := ⟨k - 1, by omega⟩
      have hlt : i < l.length := by omega
      have hs := cnt_snoc (l.take i) n j l[i]
      rw [← List.take_succ_eq_append_getElem hlt] at hs
      have hb := cnt_le (l.take i) n j
      have hb2 : (l.take i).length ≤ l.length := List.length_take_le' _ _
      have h2 := ih (i + 1) (by omega) k (by omega)
      rw [hs] at h2
      simp only [spec_Spread.l1]
      rw [if_pos (lt_cast hlt), if_pos (nn_cast i), rd_nat _ _ hlt, spec_StripeOf_eq, Option.bind_some, wrap_nat1 hlt (by omega)]
      have e : k + 1 - (d + 1) - 1 = k - d - 1 := by omega
      rw [e]
      by_cases hc : stripev l[i] n = (j : Int)
      · rw [if_pos hc] at h2 ⊢
        rw [wrap_of (by omega) (by omega)]
        exact h2
      · rw [if_neg hc] at h2 ⊢
        rw [Int.add_zero] at h2
        exact h2
  intro k hk
  have := key l.length 0 (by omega) k hk
  simpa [cnt] using this
theorem spec_Spread_ev (l : List Int) (hl : l.length ≤ 4294967296) (n : Int) : Ev (fun k => spec_Spread.f k l n) (spreadv l n) := by
  by_cases hn : inB n 1 3 = true
  · have hn' : 1 ≤ n ∧ n ≤ 3 := by simpa [inB] using hn
    obtain ⟨m, rfl⟩ : ∃ m : Nat, n = m := ⟨n.toNat, by omega⟩
    have key : ∀ (d j : Nat), j + d = m → ∀ k, d * (l.length + 2) < k → spec_Spread.l0 k l m ((List.range j).map fun j => cnt l m j) (j : Int) = some ((List.range m).map fun j => cnt l m j) := by
      intro d
      induction d with
      | zero =>
        intro j hj k hk
        obtain ⟨k, rfl⟩ : ∃ q, k = q + 1 := ⟨k - 1, by omega⟩
        obtain rfl : j = m := by omega
        simp only [spec_Spread.l0]
        rw [if_neg (not_lt_cast _)]
      | succ d ih =>
        intro j hj k hk
        obtain ⟨k, rfl⟩ : ∃ q, k = q + 1 := ⟨k - 1, by omega⟩
        have hmul : (d + 1) * (l.length + 2) = d * (l.length + 2) + (l.length + 2) := Nat.succ_mul _ _
        simp only [spec_Spread.l0]
        rw [if_pos (by omega), spec_Spread_inner l hl m j _ (by simp; omega) k (by omega)]
        have h2 := ih (j + 1) (by omega) (k - l.length - 1) (by omega)
        rw [wrap_of (by omega) (by omega)]
        rw [List.range_succ, List.map_append] at h2
        exact h2
    refine ev_at (m * (l.length + 2)) fun k hk => ?_
    simp only [spec_Spread.f, spec_l1In_eq, Option.bind_some, hn, if_true]
    rw [show spreadv l m = (List.range m).map fun j => cnt l m j by simp [spreadv, hn]]
    exact key m 0 (by omega) k (by omega)
  · refine ⟨0, fun k _ => ?_⟩
    simp only [spec_Spread.f, spec_l1In_eq, Option.bind_some, spreadv]
    rw [if_neg hn, if_neg hn]
theorem impl_Spread_ev (l : List Int) (hl : l.length ≤ 4294967296) (n : Int) : Ev (fun k => impl_Spread.f k l n) (spreadv l n) := by
  by_cases hn : inB n 1 3 = true
  · have hn' : 1 ≤ n ∧ n ≤ 3 := by simpa [inB] using hn
    obtain ⟨m, rfl⟩ : ∃ m : Nat, n = m := ⟨n.toNat, by omega⟩
    obtain ⟨r, hr, h⟩ := loop_ex (σ := List Int) (L := fun k s i => impl_Spread.l0 k m s l l.length i) (n := l.length) (K := 0)
      (I := fun s i => s = (List.range m).map fun j => cnt (l.take i) m j) (Post := fun _ _ r => r = (List.range m).map fun j => cnt l m j)
      (fun s hI => ⟨_, rfl, fun k => by
        simp only [impl_Spread.l0]
        rw [if_neg (not_lt_cast _), hI, List.take_length]⟩)
      (fun s i hi hI => .inr ⟨(List.range m).map fun j => cnt (l.take (i + 1)) m j, rfl, fun k _ => by
        have hs := low_nn l[i] m (by omega)
        simp only [impl_Spread.l0]
        rw [if_pos (lt_cast hi), if_pos (nn_cast i), if_pos (lt_cast hi), rd_nat _ _ hi, impl_StripeOf_eq, Option.bind_some, if_pos hs.1, hI]
        obtain ⟨q, hq⟩ : ∃ q : Nat, stripev l[i] m = q := ⟨(stripev l[i] m).toNat, by omega⟩
        rw [hq] at hs ⊢
        have hqm : q < m := by omega
        rw [if_pos (by simp; omega), wrap_nat1 hi (by omega), rd_nat _ _ (by simp; omega)]
        congr 1
        simp only [List.getElem_map, List.getElem_range, Int.toNat_natCast]
        have hb := cnt_le (l.take i) m q
        have hb2 : (l.take i).length ≤ l.length := List.length_take_le' _ _
        rw [wrap_of (by omega) (by omega)]
        apply List.ext_getElem
        · simp
        · intro j h1 h2
          have hs2 := cnt_snoc (l.take i) m j l[i]
          rw [← List.take_succ_eq_append_getElem hi, hq] at hs2
          simp only [List.getElem_set, List.getElem_map, List.getElem_range]
          rw [hs2]
          by_cases e : q = j
          · subst e
            simp
          · rw [if_neg e, if_neg (by omega), Int.add_zero], fun _ h => h⟩) l.length (List.replicate m 0) 0 (by omega) (by
          apply List.ext_getElem
          · simp
          · intro j h1 h2
            simp [cnt])
    subst hr
    refine ev_at (0 + l.length) fun k hk => ?_
    simp only [impl_Spread.f, impl_within_eq, Option.bind_some, hn, if_true]
    rw [if_pos (by omega), if_pos (by omega), show spreadv l m = (List.range m).map fun j => cnt l m j by simp [spreadv, hn]]
    exact h k hk
  · refine ⟨0, fun k _ => ?_⟩
    simp only [impl_Spread.f, impl_within_eq, Option.bind_some, spreadv]
    rw [if_neg hn, if_neg hn]
theorem spreadv_len (l : List Int) (n : Int) : (spreadv l n).length ≤ 3 := by
  unfold spreadv
  by_cases hn : inB n 1 3 = true
  · have hn' : 1 ≤ n ∧ n ≤ 3 := by simpa [inB] using hn
    rw [if_pos hn]
    simp
    omega
  · rw [if_neg hn]
    simp

theorem toIntS_ev (l : List Int) (hl : l.length ≤ 1048576) : Ev (fun k => laws_toIntS.f k l) l := by
  obtain ⟨r, hr, h⟩ := loop_ex (σ := List Int) (L := fun k s i => laws_toIntS.l0 k l s i) (n := l.length) (K := 0)
    (I := fun s i => s = l.take i ++ List.replicate (l.length - i) 0) (Post := fun _ _ r => r = l)
    (fun s hI => ⟨l, rfl, fun k => by
      simp only [laws_toIntS.l0]
      rw [if_neg (not_lt_cast _), hI]
      simp⟩)
    (fun s i hi hI => .inr ⟨_, rfl, fun k _ => by
      simp only [laws_toIntS.l0]
      rw [if_pos (lt_cast hi), if_pos (nn_cast i), hI, fill_len _ _ _ (by omega), if_pos (lt_cast hi), rd_nat _ _ hi, wrap_nat1 hi (by omega)]
      simp only [Int.toNat_natCast]
      rw [fill_set _ _ _ hi], fun _ h => h⟩) l.length (List.replicate l.length 0) 0 (by omega) (by simp)
  subst hr
  refine ev_at (0 + r.length) fun k hk => ?_
  simp only [laws_toIntS.f]
  rw [if_pos (by omega), if_pos (by simp; omega)]
  exact h k hk

theorem eqIntS_self (l : List Int) (hl : l.length ≤ 4294967296) : Ev (fun k => laws_eqIntS.f k l l) true := by
  obtain ⟨r, hr, h⟩ := loop_ex (σ := Unit) (L := fun k _ i => laws_eqIntS.l0 k l l i) (n := l.length) (K := 0)
    (I := fun _ _ => True) (Post := fun _ _ r => r = true)
    (fun s hI => ⟨true, rfl, fun k => by
      simp only [laws_eqIntS.l0]
      rw [if_neg (not_lt_cast _)]⟩)
    (fun s i hi hI => .inr ⟨(), trivial, fun k _ => by
      simp only [laws_eqIntS.l0]
      rw [if_pos (lt_cast hi), if_pos (nn_cast i), if_pos (lt_cast hi), if_pos trivial, wrap_nat1 hi (by omega)], fun _ h => h⟩) l.length () 0 (by omega) trivial
  subst hr
  refine ev_at (0 + l.length) fun k hk => ?_
  simp only [laws_eqIntS.f]
  rw [if_pos trivial]
  exact h k hk

/-- The marks k, k + 1, .. -/
def marks (k : Int) (n : Nat) : List Int := (List.range n).map fun (i : Nat) => k + (i : Int)
theorem marks_len (k : Int) (n : Nat) : (marks k n).length = n := by simp [marks]
theorem marks_at (k : Int) (n i : Nat) (h : i < (marks k n).length) : (marks k n)[i] = k + (i : Int) := by simp [marks]
theorem mark_set (l : List Int) (k : Int) (i : Nat) (h : i < l.length) : ((marks k i) ++ l.drop i).set i (k + i) = marks k (i + 1) ++ l.drop (i + 1) := by
  have e2 : (marks k i).length = i := marks_len k i
  rw [List.set_append_right _ _ (by omega), e2, Nat.sub_self, List.drop_eq_getElem_cons h, List.set_cons_zero]
  have e3 : marks k (i + 1) = marks k i ++ [k + (i : Int)] := by simp [marks, List.range_succ]
  rw [e3, List.append_assoc]
  rfl

theorem markIntS_ev (l : List Int) (hl : l.length ≤ 4294967296) (q : Int) (hq0 : 0 ≤ q) (hq : q ≤ 4294967296) : Ev (fun k => laws_markIntS.f k l q) (q + l.length, marks q l.length) := by
  obtain ⟨r, hr, h⟩ := loop_ex (σ := List Int × Int) (L := fun k s i => laws_markIntS.l0 k s.1 s.2 i) (n := l.length) (K := 0)
    (I := fun s i => s.1 = marks q i ++ l.drop i ∧ s.2 = q + i) (Post := fun _ _ r => r = (q + l.length, marks q l.length))
    (fun s hI => ⟨_, rfl, fun k => by
      obtain ⟨h1, h2⟩ := hI
      simp only [laws_markIntS.l0]
      have e : s.1.length = l.length := by rw [h1, List.length_append, marks_len, List.length_drop]; omega
      rw [e, if_neg (not_lt_cast _), h1, h2]
      simp⟩)
    (fun s i hi hI => .inr ⟨(marks q (i + 1) ++ l.drop (i + 1), q + (i : Int) + 1), ⟨rfl, by push_cast; omega⟩, fun k _ => by
      obtain ⟨h1, h2⟩ := hI
      simp only [laws_markIntS.l0]
      have e : s.1.length = l.length := by rw [h1, List.length_append, marks_len, List.length_drop]; omega
      rw [e, if_pos (lt_cast hi), if_pos (nn_cast i), h1, h2, wrap_nat1 hi (by omega), wrap_of (by omega) (by omega)]
      simp only [Int.toNat_natCast]
      rw [mark_set _ _ _ hi], fun _ h => h⟩) l.length (l, q) 0 (by omega) (by simp [marks])
  subst hr
  refine ev_at (0 + l.length) fun k hk => ?_
  exact h k hk
theorem heldIntS_ev (n : Nat) (hl : n ≤ 4294967296) (q : Int) (hq0 : 0 ≤ q) (hq : q ≤ 4294967296) : Ev (fun k => laws_heldIntS.f k (marks q n) q) (q + n) := by
  have hm := marks_len q n
  obtain ⟨r, hr, h⟩ := loop_ex (σ := Int) (L := fun k s i => laws_heldIntS.l0 k (marks q n) s i) (n := n) (K := 0)
    (I := fun s i => s = q + i) (Post := fun _ _ r => r = q + n)
    (fun s hI => ⟨_, rfl, fun k => by
      simp only [laws_heldIntS.l0]
      rw [hm, if_neg (not_lt_cast _), hI]⟩)
    (fun s i hi hI => .inr ⟨q + (i : Int) + 1, by push_cast; omega, fun k _ => by
      simp only [laws_heldIntS.l0]
      rw [hm, if_pos (lt_cast hi), if_pos (nn_cast i), rd_nat _ _ (by omega), marks_at, hI, if_pos rfl, wrap_nat1 hi (by omega), wrap_of (by omega) (by omega)], fun _ h => h⟩) n q 0 (by omega) (by simp)
  subst hr
  exact ev_at (0 + n) fun k hk => h k hk

theorem FnExactSpread : ∀ (l0 : (List Int)) (a1 : Int), ((l0.length ≤ maxLen ∧ ∀ y3 ∈ l0, (Lit.int .i64 y3).wf = true)) → ((Lit.int .i64 a1).wf = true) → ∃ k, laws_FnExactSpread.f k l0 a1 = some true := by
  intro l n _ _
  by_cases hb : (l.length : Int) > 1048576
  · refine ⟨0, ?_⟩
    simp only [laws_FnExactSpread.f]
    rw [if_pos hb]
  · have hl : l.length ≤ 1048576 := by omega
    have hs := spreadv_len l n
    obtain ⟨K1, h1⟩ := toIntS_ev l hl
    obtain ⟨K2, h2⟩ := spec_Spread_ev l (by omega) n
    obtain ⟨K3, h3⟩ := impl_Spread_ev l (by omega) n
    obtain ⟨K4, h4⟩ := eqIntS_self (spreadv l n) (by omega)
    obtain ⟨K5, h5⟩ := eqIntS_self l (by omega)
    obtain ⟨K6, h6⟩ := markIntS_ev l (by omega) 1 (by omega) (by omega)
    obtain ⟨K7, h7⟩ := markIntS_ev (spreadv l n) (by omega) 1 (by omega) (by omega)
    obtain ⟨K8, h8⟩ := heldIntS_ev (spreadv l n).length (by omega) 1 (by omega) (by omega)
    simp only at h1 h2 h3 h4 h5 h6 h7 h8
    refine ⟨K1 + K2 + K3 + K4 + K5 + K6 + K7 + K8 + 1, ?_⟩
    generalize hm : K1 + K2 + K3 + K4 + K5 + K6 + K7 + K8 = m
    have a1 := h1 (m + 1) (by omega)
    have a2 := h2 (m + 1) (by omega)
    have a3 := h3 (m + 1) (by omega)
    have a4 := h4 (m + 1) (by omega)
    have a5 := h5 (m + 1) (by omega)
    have a6 := h6 (m + 1) (by omega)
    have b1 := h1 m (by omega)
    have b3 := h3 m (by omega)
    have b4 := h4 m (by omega)
    have b7 := h7 m (by omega)
    have b8 := h8 m (by omega)
    simp only [laws_FnExactSpread.f, a1, a2, a3, a4, a5, a6, Option.bind_some, if_true]
    rw [if_neg hb, if_neg (by omega)]
    simp only [laws_FnExactSpread.j0, b1, b3, b4, b7, b8, Option.bind_some, if_true, Bool.not_true, Bool.false_eq_true, if_false]
    rw [if_neg (by omega), if_neg (by omega)]

end Go.Proofs.Yteiabkojcfjldaa.Pure
