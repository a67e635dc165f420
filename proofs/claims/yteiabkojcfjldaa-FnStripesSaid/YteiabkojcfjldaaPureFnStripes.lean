/- Each trail belongs to one stripe; no two numbers of 16 bits are mixed to one. Conditions: none beyond the statement's own. -/
import Derived.Test.YteiabkojcfjldaaQFnStripesx
set_option linter.unusedVariables false
set_option linter.unusedSimpArgs false
namespace Go.Proofs.Yteiabkojcfjldaa.Pure
open Go.RowKit Go.Proofs.Yteiabkojcfjldaa.QFnStripes Go.Proofs.YteiabkojcfjldaaW.PrintWords Go.Proofs.YteiabkojcfjldaaW.PrintLast Go.Proofs.YteiabkojcfjldaaW.PrintMore


/-- A loop over an index: from a state that is good, with enough rounds, it comes to an end that meets what is told of it. -/
theorem loop_ex {σ β : Type} {L : Nat → σ → Int → Option β} {n K : Nat} {I : σ → Nat → Prop} {Post : σ → Nat → β → Prop}
    (hend : ∀ s, I s n → ∃ r, Post s n r ∧ ∀ k, L (k + 1) s (n : Int) = some r)
    (hstep : ∀ s (i : Nat), i < n → I s i → (∃ r, Post s i r ∧ ∀ k, K ≤ k → L (k + 1) s (i : Int) = some r) ∨
      ∃ s', I s' (i + 1) ∧ (∀ k, K ≤ k → L (k + 1) s (i : Int) = L k s' ((i : Int) + 1)) ∧ ∀ r, Post s' (i + 1) r → Post s i r) :
    ∀ (d : Nat) s (i : Nat), i + d = n → I s i → ∃ r, Post s i r ∧ ∀ k, K + d < k → L k s (i : Int) = some r := by
  intro d
  induction d with
  | zero =>
    intro s i hd hI
    obtain rfl : i = n := by omega
    obtain ⟨r, hp, hr⟩ := hend s hI
    refine ⟨r, hp, fun k hk => ?_⟩
    obtain ⟨k, rfl⟩ : ∃ m, k = m + 1 := ⟨k - 1, by omega⟩
    exact hr k
  | succ d ih =>
    intro s i hd hI
    rcases hstep s i (by omega) hI with ⟨r, hp, hr⟩ | ⟨s', hI', he, hp⟩
    · refine ⟨r, hp, fun k hk => ?_⟩
      obtain ⟨k, rfl⟩ : ∃ m, k = m + 1 := ⟨k - 1, by omega⟩
      exact hr k (by omega)
    · obtain ⟨r, hq, hr⟩ := ih s' (i + 1) (by omega) hI'
      refine ⟨r, hp r hq, fun k hk => ?_⟩
      obtain ⟨k, rfl⟩ : ∃ m, k = m + 1 := ⟨k - 1, by omega⟩
      rw [he k (by omega)]
      have := hr k (by omega)
      rw [Int.natCast_add] at this
      exact this
theorem ev_at {α : Type} {g : Nat → Option α} {r : α} (K : Nat) (h : ∀ k, K < k → g k = some r) : Ev g r := ⟨K + 1, fun k hk => h k (by omega)⟩
theorem wrap_of {x : Int} (h0 : -9223372036854775808 ≤ x) (h1 : x ≤ 9223372036854775807) : wrap64 x = x := by
  unfold wrap64
  omega
theorem wrap_nat1 {i n : Nat} (h : i < n) (hn : n ≤ 9223372036854775807) : wrap64 ((i : Int) + 1) = (i : Int) + 1 := wrap_of (by omega) (by omega)
theorem lt_cast {i n : Nat} (h : i < n) : (i : Int) < (n : Int) := by omega
theorem nn_cast (i : Nat) : 0 ≤ (i : Int) := by omega
theorem not_lt_cast (n : Nat) : ¬ (n : Int) < (n : Int) := by omega
/-- What is written cell by cell. -/
theorem fill_set {α : Type} (l : List α) (z : α) (i : Nat) (h : i < l.length) : (l.take i ++ List.replicate (l.length - i) z).set i l[i] = l.take (i + 1) ++ List.replicate (l.length - (i + 1)) z := by
  have e1 : l.length - i = (l.length - (i + 1)) + 1 := by omega
  have e2 : (l.take i).length = i := by rw [List.length_take]; omega
  rw [e1, List.replicate_succ, List.set_append_right _ _ (by omega), e2, Nat.sub_self, List.set_cons_zero, List.take_succ_eq_append_getElem h, List.append_assoc]
  rfl
theorem fill_len {α : Type} (l : List α) (z : α) (i : Nat) (h : i ≤ l.length) : (l.take i ++ List.replicate (l.length - i) z).length = l.length := by
  rw [List.length_append, List.length_take, List.length_replicate]
  omega

theorem band_range (x : Int) (m : Nat) (hm : m < 9223372036854775808) : 0 ≤ Go.bits .and .i64 x (m : Int) ∧ Go.bits .and .i64 x (m : Int) ≤ m := by
  have e1 : (BitVec.ofInt 64 (m : Int)).toNat = m := by
    rw [BitVec.ofInt_natCast, BitVec.toNat_ofNat]
    exact Nat.mod_eq_of_lt (by omega)
  have e2 : Go.bits .and .i64 x (m : Int) = IntKind.i64.wrap ((BitVec.ofInt 64 x &&& BitVec.ofInt 64 (m : Int)).toNat : Int) := rfl
  have h : (BitVec.ofInt 64 x).toNat &&& m ≤ m := Nat.and_le_right
  rw [e2, BitVec.toNat_and, e1, IntKind.wrap_i64]
  omega
/-- A reader's place is in what it reads. -/
def RdOk (s : List Int) (i : Int) : Prop := 0 ≤ i ∧ i ≤ s.length ∧ s.length ≤ 140737488351232
theorem l1Byte_ex (s : List Int) (i h : Int) (H : RdOk s i) : ∃ b j h', spec_l1Byte.f s i h = some (b, j, h') ∧ 0 ≤ b ∧ b ≤ 255 ∧ RdOk s j := by
  obtain ⟨h0, h1, h2⟩ := H
  unfold spec_l1Byte.f
  by_cases hc : i < (s.length : Int)
  · rw [if_pos hc, if_pos h0]
    refine ⟨_, _, _, rfl, (band_range _ 255 (by omega)).1, (band_range _ 255 (by omega)).2, ?_⟩
    rw [wrap_of (by omega) (by omega)]
    exact ⟨by omega, by omega, h2⟩
  · rw [if_neg hc]
    exact ⟨_, _, _, rfl, (band_range _ 255 (by omega)).1, (band_range _ 255 (by omega)).2, h0, h1, h2⟩
theorem l1Below_ex (s : List Int) (i h n : Int) (H : RdOk s i) : ∃ v j h', spec_l1Below.f s i h n = some (v, j, h') ∧ 0 ≤ v ∧ (0 < n → v < n) ∧ (n ≤ 0 → v = 0) ∧ RdOk s j := by
  unfold spec_l1Below.f
  by_cases h1 : n ≤ 0
  · rw [if_pos h1]
    exact ⟨0, i, h, rfl, by omega, fun _ => by omega, fun _ => rfl, H⟩
  · rw [if_neg h1]
    by_cases h2 : n ≤ 256
    · rw [if_pos h2]
      obtain ⟨b, j, h', e, b0, b1, H1⟩ := l1Byte_ex s i h H
      rw [e, Option.bind_some, if_neg (by omega), Int.tmod_eq_emod_of_nonneg b0]
      exact ⟨_, _, _, rfl, Int.emod_nonneg _ (by omega), fun _ => Int.emod_lt_of_pos _ (by omega), fun _ => by omega, H1⟩
    · rw [if_neg h2]
      obtain ⟨b, j, h', e, b0, b1, H1⟩ := l1Byte_ex s i h H
      obtain ⟨b', j', h'', e', b0', b1', H2⟩ := l1Byte_ex s j h' H1
      obtain ⟨b'', j'', h3, e'', b0'', b1'', H3⟩ := l1Byte_ex s j' h'' H2
      simp only [e, e', e'', Option.bind_some]
      have w1 : wrap64 (b * 65536) = b * 65536 := wrap_of (by omega) (by omega)
      have w2 : wrap64 (b' * 256) = b' * 256 := wrap_of (by omega) (by omega)
      have w3 : wrap64 (b * 65536 + b' * 256) = b * 65536 + b' * 256 := wrap_of (by omega) (by omega)
      have w4 : wrap64 (b * 65536 + b' * 256 + b'') = b * 65536 + b' * 256 + b'' := wrap_of (by omega) (by omega)
      rw [if_neg (by omega), w1, w2, w3, w4, Int.tmod_eq_emod_of_nonneg (by omega)]
      exact ⟨_, _, _, rfl, Int.emod_nonneg _ (by omega), fun _ => Int.emod_lt_of_pos _ (by omega), fun _ => by omega, H3⟩
theorem l1New_ex (l : List Int) (hl : l.length ≤ 140737488351232) : ∃ h, Ev (fun k => spec_l1New.f k l) (l, 0, h) := by
  obtain ⟨r, ⟨h, rfl⟩, hr⟩ := loop_ex (σ := Int) (L := fun k s i => spec_l1New.l0 k l s i) (n := l.length) (K := 0)
    (I := fun _ _ => True) (Post := fun _ _ r => ∃ h, r = (l, 0, h))
    (fun s _ => ⟨_, ⟨s, rfl⟩, fun k => by
      simp only [spec_l1New.l0]
      rw [if_neg (not_lt_cast _)]⟩)
    (fun s i hi _ => by
      by_cases h4 : (i : Int) < 4000
      · refine .inr ⟨Go.bits .and .i64 (wrap64 ((wrap64 ((wrap64 (s * 137)) + (wrap64 (rd l (i : Int))))) + 11)) 1073741823, trivial, fun k _ => ?_, fun _ h => h⟩
        simp only [spec_l1New.l0]
        rw [if_pos (lt_cast hi), if_pos h4, if_pos (nn_cast i), wrap_nat1 hi (by omega)]
      · refine .inl ⟨_, ⟨s, rfl⟩, fun k _ => ?_⟩
        simp only [spec_l1New.l0]
        rw [if_pos (lt_cast hi), if_neg h4]) l.length (wrap64 (140371 + (l.length : Int))) 0 (by omega) trivial
  exact ⟨h, ev_at (0 + l.length) fun k hk => hr k hk⟩
theorem rdOk_0 (l : List Int) (hl : l.length ≤ 140737488351232) : RdOk l 0 := ⟨by omega, by omega, hl⟩

theorem l1Once_ex (s : List Int) (i h n : Int) (H : RdOk s i) : ∃ b j h', spec_l1Once.f s i h n = some (b, j, h') ∧ RdOk s j := by
  obtain ⟨v, j, h', e, _, _, _, H1⟩ := l1Below_ex s i h n H
  exact ⟨v == 0, j, h', by simp only [spec_l1Once.f, e, Option.bind_some], H1⟩

theorem rd_nat (l : List Int) (i : Nat) (h : i < l.length) : rd l (i : Int) = l[i] := by
  simp [rd, List.getD_eq_getElem?_getD, h]

theorem l1Int_ex (s : List Int) (i h : Int) (l : List Int) (hl : 0 < l.length) (H : RdOk s i) : ∃ v j h', spec_l1Int.f s i h l = some (v, j, h') ∧ v ∈ l ∧ RdOk s j := by
  obtain ⟨v, j, h', e, v0, v1, _, H1⟩ := l1Below_ex s i h (l.length : Int) H
  have hv : v < (l.length : Int) := v1 (by omega)
  obtain ⟨m, rfl⟩ : ∃ m : Nat, v = m := ⟨v.toNat, by omega⟩
  have hm : m < l.length := by omega
  refine ⟨l[m], j, h', ?_, List.getElem_mem hm, H1⟩
  simp only [spec_l1Int.f, e, Option.bind_some]
  rw [if_pos v0, if_pos hv, rd_nat _ _ hm]

theorem l1Odd_ex (s : List Int) (i h : Int) (H : RdOk s i) : ∃ v j h', spec_l1Odd.f s i h = some (v, j, h') ∧ RdOk s j ∧ -9223372036854775808 ≤ v ∧ v ≤ 9223372036854775807 := by
  obtain ⟨v, j, h', e, hv, H1⟩ := l1Int_ex s i h [(-1), 0, 1, 2, 255, 256, 65535, 2147483647, 2147483648, 4294967295, 4294967296, (-2147483648), 9223372036854775807, (-9223372036854775808)] (by decide) H
  refine ⟨v, j, h', by simp only [spec_l1Odd.f, e, Option.bind_some], H1, ?_⟩
  simp only [List.mem_cons, List.not_mem_nil, or_false] at hv
  omega
theorem l1Raw_ex (s : List Int) (i h : Int) (H : RdOk s i) : ∃ v j h', spec_l1Raw.f s i h = some (v, j, h') ∧ RdOk s j ∧ -9223372036854775808 ≤ v ∧ v ≤ 9223372036854775807 := by
  obtain ⟨b, j, h', e, H1⟩ := l1Once_ex s i h 2 H
  cases b with
  | true =>
    obtain ⟨v, j2, h2, e2, H2, hv⟩ := l1Odd_ex s j h' H1
    exact ⟨v, j2, h2, by simp only [spec_l1Raw.f, e, e2, Option.bind_some, if_true], H2, hv⟩
  | false =>
    obtain ⟨v, j2, h2, e2, hv, H2⟩ := l1Int_ex s j h' [(-2147483648), (-3), (-1), 0, 1, 3, 7, 65536, 2147483647, 2147483648] (by decide) H1
    refine ⟨v, j2, h2, by simp only [spec_l1Raw.f, e, e2, Option.bind_some, Bool.false_eq_true, if_false], H2, ?_⟩
    simp only [List.mem_cons, List.not_mem_nil, or_false] at hv
    omega

theorem bxor_nat (a b : Nat) (ha : a < 2 ^ 63) (hb : b < 2 ^ 63) : Go.bits .xor .i64 (a : Int) (b : Int) = ((a ^^^ b : Nat) : Int) := by
  have hx : a ^^^ b < 2 ^ 63 := Nat.xor_lt_two_pow ha hb
  have e1 : a % 2 ^ 64 = a := Nat.mod_eq_of_lt (by omega)
  have e2 : b % 2 ^ 64 = b := Nat.mod_eq_of_lt (by omega)
  have e3 : IntKind.i64.bits = 64 := rfl
  simp only [Go.bits, e3, BitVec.ofInt_natCast, BitVec.toNat_xor, BitVec.toNat_ofNat, e1, e2]
  rw [IntKind.wrap_i64]
  omega
theorem band_nat (a b : Nat) (ha : a < 2 ^ 63) (hb : b < 2 ^ 63) : Go.bits .and .i64 (a : Int) (b : Int) = ((a &&& b : Nat) : Int) := by
  have hx : a &&& b < 2 ^ 63 := Nat.and_lt_two_pow _ hb
  have e1 : a % 2 ^ 64 = a := Nat.mod_eq_of_lt (by omega)
  have e2 : b % 2 ^ 64 = b := Nat.mod_eq_of_lt (by omega)
  have e3 : IntKind.i64.bits = 64 := rfl
  simp only [Go.bits, e3, BitVec.ofInt_natCast, BitVec.toNat_and, BitVec.toNat_ofNat, e1, e2]
  rw [IntKind.wrap_i64]
  omega
/-- The lowest 16 bits of any number. -/
theorem low16 (a : Int) : ∃ n : Nat, n < 65536 ∧ Go.bits .and .i64 a 65535 = (n : Int) := by
  refine ⟨(BitVec.ofInt 64 a).toNat &&& 65535, ?_, ?_⟩
  · exact Nat.lt_of_le_of_lt Nat.and_le_right (by decide)
  · have h : (BitVec.ofInt 64 a).toNat &&& 65535 ≤ 65535 := Nat.and_le_right
    have e4 : (BitVec.ofInt 64 a &&& BitVec.ofInt 64 65535).toNat = (BitVec.ofInt 64 a).toNat &&& 65535 := by rw [BitVec.toNat_and]; rfl
    show IntKind.i64.wrap ((BitVec.ofInt 64 a &&& BitVec.ofInt 64 65535).toNat : Int) = _
    rw [e4, IntKind.wrap_i64]
    omega
def mixn (n : Nat) : Nat :=
  let a := n ^^^ (n * 128 &&& 65535)
  let b := a ^^^ (a / 512)
  b ^^^ (b * 256 &&& 65535)
theorem and16 {n : Nat} (h : n < 65536) : n &&& 65535 = n := by
  have := Nat.and_two_pow_sub_one_of_lt_two_pow (x := n) (n := 16) (by omega)
  simpa using this
theorem and16_lt (n : Nat) : n &&& 65535 < 65536 := Nat.lt_of_le_of_lt Nat.and_le_right (by decide)
theorem xor16 {a b : Nat} (ha : a < 65536) (hb : b < 65536) : a ^^^ b < 65536 := Nat.xor_lt_two_pow (n := 16) ha hb
theorem mixn_lt {n : Nat} (h : n < 65536) : mixn n < 65536 := by
  unfold mixn
  have h1 := xor16 h (and16_lt (n * 128))
  have h2 : n ^^^ (n * 128 &&& 65535) ^^^ (n ^^^ (n * 128 &&& 65535)) / 512 < 65536 := xor16 h1 (by omega)
  exact xor16 h2 (and16_lt _)
def low (a : Int) : Nat := (Go.bits .and .i64 a 65535).toNat
theorem low_lt (a : Int) : low a < 65536 := by
  obtain ⟨n, hn, e⟩ := low16 a
  unfold low
  rw [e]
  simpa using hn
theorem low_eq (a : Int) : Go.bits .and .i64 a 65535 = (low a : Int) := by
  obtain ⟨n, hn, e⟩ := low16 a
  unfold low
  rw [e]
  simp
theorem wrap_nat {n : Nat} (h : n < 2 ^ 63) : wrap64 (n : Int) = n := by
  unfold wrap64
  omega

theorem impl_Mix_eq (a : Int) : impl_Mix.f a = some ((mixn (low a) : Nat) : Int) := by
  have hn := low_lt a
  unfold impl_Mix.f
  rw [low_eq a]
  generalize low a = n at hn
  have e1 : wrap64 ((n : Int) * 128) = ((n * 128 : Nat) : Int) := by
    unfold wrap64
    omega
  rw [e1]
  have e2 := band_nat (n * 128) 65535 (by omega) (by decide)
  have e2' : Go.bits .and .i64 ((n * 128 : Nat) : Int) 65535 = ((n * 128 &&& 65535 : Nat) : Int) := e2
  rw [e2']
  have h2 := and16_lt (n * 128)
  rw [bxor_nat _ _ (by omega) (by omega)]
  have h3 := xor16 hn h2
  generalize ha : n ^^^ (n * 128 &&& 65535) = y at h3
  have e3 : ((y : Int) / 512) = ((y / 512 : Nat) : Int) := by simp
  rw [e3, bxor_nat _ _ (by omega) (by omega)]
  have h4 : y ^^^ y / 512 < 65536 := xor16 h3 (by omega)
  generalize hb : y ^^^ y / 512 = z at h4
  have e4 : wrap64 ((z : Int) * 256) = ((z * 256 : Nat) : Int) := by
    unfold wrap64
    omega
  rw [e4]
  have e5 : Go.bits .and .i64 ((z * 256 : Nat) : Int) 65535 = ((z * 256 &&& 65535 : Nat) : Int) := band_nat (z * 256) 65535 (by omega) (by decide)
  rw [e5]
  have h5 := and16_lt (z * 256)
  rw [bxor_nat _ _ (by omega) (by omega)]
  subst hb
  subst ha
  rfl
theorem spec_Mix_eq (a : Int) : spec_Mix.f a = some ((mixn (low a) : Nat) : Int) := by
  have hn := low_lt a
  unfold spec_Mix.f
  rw [low_eq a]
  generalize low a = n at hn
  have e1 : wrap64 ((n : Int) * 128) = ((n * 128 : Nat) : Int) := by
    unfold wrap64
    omega
  rw [e1]
  rw [bxor_nat _ _ (by omega) (by omega)]
  have hx : n ^^^ n * 128 < 2 ^ 63 := Nat.xor_lt_two_pow (by omega) (by omega)
  have e2 : Go.bits .and .i64 ((n ^^^ n * 128 : Nat) : Int) 65535 = ((n ^^^ (n * 128 &&& 65535) : Nat) : Int) := by
    have := band_nat (n ^^^ n * 128) 65535 hx (by decide)
    rw [Nat.and_xor_distrib_right, and16 hn] at this
    exact this
  rw [e2]
  have h2 := and16_lt (n * 128)
  have h3 := xor16 hn h2
  generalize ha : n ^^^ (n * 128 &&& 65535) = y at h3
  have e3 : ((y : Int) / 512) = ((y / 512 : Nat) : Int) := by simp
  rw [e3, bxor_nat _ _ (by omega) (by omega)]
  have h4 : y ^^^ y / 512 < 65536 := xor16 h3 (by omega)
  generalize hb : y ^^^ y / 512 = z at h4
  have e4 : wrap64 ((z : Int) * 256) = ((z * 256 : Nat) : Int) := by
    unfold wrap64
    omega
  rw [e4, bxor_nat _ _ (by omega) (by omega)]
  have hx2 : z ^^^ z * 256 < 2 ^ 63 := Nat.xor_lt_two_pow (by omega) (by omega)
  have e5 : Go.bits .and .i64 ((z ^^^ z * 256 : Nat) : Int) 65535 = ((z ^^^ (z * 256 &&& 65535) : Nat) : Int) := by
    have := band_nat (z ^^^ z * 256) 65535 hx2 (by decide)
    rw [Nat.and_xor_distrib_right, and16 h4] at this
    exact this
  rw [e5]
  subst hb
  subst ha
  rfl

def unmix (n : Nat) : Nat :=
  let b := n ^^^ (n * 256 &&& 65535)
  let a := b ^^^ (b / 512)
  a ^^^ (a * 128 &&& 65535) ^^^ (a * 16384 &&& 65535)
def goodAt (i j : Nat) : Bool := unmix (mixn (i * 256 + j)) == i * 256 + j
def allBelow (p : Nat → Bool) : Nat → Bool
  | 0 => true
  | n + 1 => p n && allBelow p n
theorem allBelow_at (p : Nat → Bool) : ∀ n, allBelow p n = true → ∀ i, i < n → p i = true
  | 0, _, i, hi => absurd hi (Nat.not_lt_zero _)
  | n + 1, h, i, hi => by
    simp only [allBelow, Bool.and_eq_true] at h
    rcases Nat.lt_or_ge i n with hlt | hge
    · exact allBelow_at p n h.2 i hlt
    · obtain rfl : i = n := by omega
      exact h.1
theorem unmix_all : allBelow (fun i => allBelow (goodAt i) 256) 256 = true := by decide +kernel
theorem unmix_mix (n : Nat) (h : n < 65536) : unmix (mixn n) = n := by
  have h1 := allBelow_at _ 256 unmix_all (n / 256) (by omega)
  have h2 := allBelow_at _ 256 h1 (n % 256) (by omega)
  have h3 : unmix (mixn (n / 256 * 256 + n % 256)) = n / 256 * 256 + n % 256 := by simpa [goodAt] using h2
  have e : n / 256 * 256 + n % 256 = n := by omega
  rwa [e] at h3
theorem mixn_inj {a b : Nat} (ha : a < 65536) (hb : b < 65536) (h : mixn a = mixn b) : a = b := by
  rw [← unmix_mix a ha, ← unmix_mix b hb, h]
theorem low_self {n : Nat} (h : n < 65536) : low (n : Int) = n := by
  have h1 := low_eq (n : Int)
  have h2 := band_nat n 65535 (by omega) (by decide)
  rw [and16 h] at h2
  have h3 : Go.bits .and .i64 (n : Int) 65535 = (n : Int) := h2
  rw [h3] at h1
  omega

def stripev (t n : Int) : Int := if n < 1 then 0 else Int.tmod (mixn (low t) : Nat) n
theorem spec_StripeOf_eq (a b : Int) : spec_StripeOf.f a b = some (stripev a b) := by
  unfold spec_StripeOf.f stripev
  rw [spec_Mix_eq, Option.bind_some]
  (repeat' split) <;> first | rfl | omega
theorem impl_StripeOf_eq (a b : Int) : impl_StripeOf.f a b = some (stripev a b) := by
  unfold impl_StripeOf.f stripev
  rw [impl_Mix_eq, Option.bind_some]
  (repeat' split) <;> first | rfl | omega

def inB (a b c : Int) : Bool := decide (b ≤ a) && decide (a ≤ c)
theorem impl_within_eq (a b c : Int) : impl_within.f a b c = some (inB a b c) := by
  unfold impl_within.f inB
  by_cases h : a ≥ b
  · rw [if_pos h]
    simp [show b ≤ a from h]
  · rw [if_neg h]
    simp [show ¬ b ≤ a from h]

theorem spec_l1In_eq (a b c : Int) : spec_l1In.f a b c = some (inB a b c) := by
  unfold spec_l1In.f inB
  by_cases h : a ≥ b
  · rw [if_pos h]
    simp [show b ≤ a from h]
  · rw [if_neg h]
    simp [show ¬ b ≤ a from h]

theorem low_nn (t : Int) (n : Int) (h : 1 ≤ n) : 0 ≤ stripev t n ∧ stripev t n < n := by
  unfold stripev
  rw [if_neg (by omega), Int.tmod_eq_emod_of_nonneg (Int.natCast_nonneg _)]
  exact ⟨Int.emod_nonneg _ (by omega), Int.emod_lt_of_pos _ (by omega)⟩
/-- How many of the numbers belong to stripe j. -/
def cnt (l : List Int) (n : Int) (j : Nat) : Int := ((l.filter fun t => stripev t n == (j : Int)).length : Int)
def spreadv (l : List Int) (n : Int) : List Int := if inB n 1 3 then (List.range n.toNat).map fun j => cnt l n j else []
theorem cnt_snoc (l : List Int) (n : Int) (j : Nat) (t : Int) : cnt (l ++ [t]) n j = cnt l n j + if stripev t n = (j : Int) then 1 else 0 := by
  unfold cnt
  rw [List.filter_append]
  by_cases h : stripev t n = (j : Int) <;> simp [h]
theorem cnt_le (l : List Int) (n : Int) (j : Nat) : 0 ≤ cnt l n j ∧ cnt l n j ≤ l.length := by
  unfold cnt
  have := List.length_filter_le (fun t => stripev t n == (j : Int)) l
  omega
theorem spec_Spread_inner (l : List Int) (hl : l.length ≤ 4294967296) (n : Int) (j : Nat) (out : List Int) (hout : out.length ≤ 10) :
    ∀ k, l.length < k → spec_Spread.l1 k l n out (j : Int) 0 0 = spec_Spread.l0 (k - l.length - 1) l n (out ++ [cnt l n j]) (wrap64 ((j : Int) + 1)) := by
  have key : ∀ (d i : Nat), i + d = l.length → ∀ k, d < k → spec_Spread.l1 k l n out (j : Int) (cnt (l.take i) n j) (i : Int) = spec_Spread.l0 (k - d - 1) l n (out ++ [cnt l n j]) (wrap64 ((j : Int) + 1)) := by
    intro d
    induction d with
    | zero =>
      intro i hi k hk
      obtain ⟨k, rfl⟩ : ∃ m, k = m + 1 := ⟨k - 1, by omega⟩
      obtain rfl : i = l.length := by omega
      simp only [spec_Spread.l1]
      rw [if_neg (not_lt_cast _), if_pos (by omega), List.take_length]
      rfl
    | succ d ih =>
      intro i hi k hk
      obtain ⟨k, rfl⟩ : ∃ m, k = m + 1 := ⟨k - 1, by omega⟩
      have hlt : i < l.length := by omega
      have hs := cnt_snoc (l.take i) n j l[i]
      rw [← List.take_succ_eq_append_getElem hlt] at hs
      have hb := cnt_le (l.take i) n j
      have hb2 : (l.take i).length ≤ l.length := List.length_take_le' _ _
      have h2 := ih (i + 1) (by omega) k (by omega)
      rw [hs] at h2
      simp only [spec_Spread.l1]
      rw [if_pos (lt_cast hlt), if_pos (nn_cast i), rd_nat _ _ hlt, spec_StripeOf_eq, Option.bind_some, wrap_nat1 hlt (by omega)]
      have e : k + 1 - (d + 1) - 1 = k - d - 1 := by omega
      rw [e]
      by_cases hc : stripev l[i] n = (j : Int)
      · rw [if_pos hc] at h2 ⊢
        rw [wrap_of (by omega) (by omega)]
        exact h2
      · rw [if_neg hc] at h2 ⊢
        rw [Int.add_zero] at h2
        exact h2
  intro k hk
  have := key l.length 0 (by omega) k hk
  simpa [cnt] using this
theorem spec_Spread_ev (l : List Int) (hl : l.length ≤ 4294967296) (n : Int) : Ev (fun k => spec_Spread.f k l n) (spreadv l n) := by
  by_cases hn : inB n 1 3 = true
  · have hn' : 1 ≤ n ∧ n ≤ 3 := by simpa [inB] using hn
    obtain ⟨m, rfl⟩ : ∃ m : Nat, n = m := ⟨n.toNat, by omega⟩
    have key : ∀ (d j : Nat), j + d = m → ∀ k, d * (l.length + 2) < k → spec_Spread.l0 k l m ((List.range j).map fun j => cnt l m j) (j : Int) = some ((List.range m).map fun j => cnt l m j) := by
      intro d
      induction d with
      | zero =>
        intro j hj k hk
        obtain ⟨k, rfl⟩ : ∃ q, k = q + 1 := ⟨k - 1, by omega⟩
        obtain rfl : j = m := by omega
        simp only [spec_Spread.l0]
        rw [if_neg (not_lt_cast _)]
      | succ d ih =>
        intro j hj k hk
        obtain ⟨k, rfl⟩ : ∃ q, k = q + 1 := ⟨k - 1, by omega⟩
        have hmul : (d + 1) * (l.length + 2) = d * (l.length + 2) + (l.length + 2) := Nat.succ_mul _ _
        simp only [spec_Spread.l0]
        rw [if_pos (by omega), spec_Spread_inner l hl m j _ (by simp; omega) k (by omega)]
        have h2 := ih (j + 1) (by omega) (k - l.length - 1) (by omega)
        rw [wrap_of (by omega) (by omega)]
        rw [List.range_succ, List.map_append] at h2
        exact h2
    refine ev_at (m * (l.length + 2)) fun k hk => ?_
    simp only [spec_Spread.f, spec_l1In_eq, Option.bind_some, hn, if_true]
    rw [show spreadv l m = (List.range m).map fun j => cnt l m j by simp [spreadv, hn]]
    exact key m 0 (by omega) k (by omega)
  · refine ⟨0, fun k _ => ?_⟩
    simp only [spec_Spread.f, spec_l1In_eq, Option.bind_some, spreadv]
    rw [if_neg hn, if_neg hn]
theorem impl_Spread_ev (l : List Int) (hl : l.length ≤ 4294967296) (n : Int) : Ev (fun k => impl_Spread.f k l n) (spreadv l n) := by
  by_cases hn : inB n 1 3 = true
  · have hn' : 1 ≤ n ∧ n ≤ 3 := by simpa [inB] using hn
    obtain ⟨m, rfl⟩ : ∃ m : Nat, n = m := ⟨n.toNat, by omega⟩
    obtain ⟨r, hr, h⟩ := loop_ex (σ := List Int) (L := fun k s i => impl_Spread.l0 k m s l l.length i) (n := l.length) (K := 0)
      (I := fun s i => s = (List.range m).map fun j => cnt (l.take i) m j) (Post := fun _ _ r => r = (List.range m).map fun j => cnt l m j)
      (fun s hI => ⟨_, rfl, fun k => by
        simp only [impl_Spread.l0]
        rw [if_neg (not_lt_cast _), hI, List.take_length]⟩)
      (fun s i hi hI => .inr ⟨(List.range m).map fun j => cnt (l.take (i + 1)) m j, rfl, fun k _ => by
        have hs := low_nn l[i] m (by omega)
        simp only [impl_Spread.l0]
        rw [if_pos (lt_cast hi), if_pos (nn_cast i), if_pos (lt_cast hi), rd_nat _ _ hi, impl_StripeOf_eq, Option.bind_some, if_pos hs.1, hI]
        obtain ⟨q, hq⟩ : ∃ q : Nat, stripev l[i] m = q := ⟨(stripev l[i] m).toNat, by omega⟩
        rw [hq] at hs ⊢
        have hqm : q < m := by omega
        rw [if_pos (by simp; omega), wrap_nat1 hi (by omega), rd_nat _ _ (by simp; omega)]
        congr 1
        simp only [List.getElem_map, List.getElem_range, Int.toNat_natCast]
        have hb := cnt_le (l.take i) m q
        have hb2 : (l.take i).length ≤ l.length := List.length_take_le' _ _
        rw [wrap_of (by omega) (by omega)]
        apply List.ext_getElem
        · simp
        · intro j h1 h2
          have hs2 := cnt_snoc (l.take i) m j l[i]
          rw [← List.take_succ_eq_append_getElem hi, hq] at hs2
          simp only [List.getElem_set, List.getElem_map, List.getElem_range]
          rw [hs2]
          by_cases e : q = j
          · subst e
            simp
          · rw [if_neg e, if_neg (by omega), Int.add_zero], fun _ h => h⟩) l.length (List.replicate m 0) 0 (by omega) (by
          apply List.ext_getElem
          · simp
          · intro j h1 h2
            simp [cnt])
    subst hr
    refine ev_at (0 + l.length) fun k hk => ?_
    simp only [impl_Spread.f, impl_within_eq, Option.bind_some, hn, if_true]
    rw [if_pos (by omega), if_pos (by omega), show spreadv l m = (List.range m).map fun j => cnt l m j by simp [spreadv, hn]]
    exact h k hk
  · refine ⟨0, fun k _ => ?_⟩
    simp only [impl_Spread.f, impl_within_eq, Option.bind_some, spreadv]
    rw [if_neg hn, if_neg hn]
theorem spreadv_len (l : List Int) (n : Int) : (spreadv l n).length ≤ 3 := by
  unfold spreadv
  by_cases hn : inB n 1 3 = true
  · have hn' : 1 ≤ n ∧ n ≤ 3 := by simpa [inB] using hn
    rw [if_pos hn]
    simp
    omega
  · rw [if_neg hn]
    simp

theorem sameInts_self (l : List Int) (hl : l.length ≤ 4294967296) : Ev (fun k => laws_sameInts.f k l l) true := by
  obtain ⟨r, hr, h⟩ := loop_ex (σ := Unit) (L := fun k _ i => laws_sameInts.l0 k l l i) (n := l.length) (K := 0)
    (I := fun _ _ => True) (Post := fun _ _ r => r = true)
    (fun s hI => ⟨true, rfl, fun k => by
      simp only [laws_sameInts.l0]
      rw [if_neg (not_lt_cast _)]⟩)
    (fun s i hi hI => .inr ⟨(), trivial, fun k _ => by
      simp only [laws_sameInts.l0, if_true]
      rw [if_pos (lt_cast hi), if_pos (nn_cast i), if_pos (lt_cast hi), wrap_nat1 hi (by omega)], fun _ h => h⟩) l.length () 0 (by omega) trivial
  subst hr
  refine ev_at (0 + l.length) fun k hk => ?_
  simp only [laws_sameInts.f, if_true]
  exact h k hk

theorem at_ex (l : List Int) (hl : l.length ≤ 1048576) (hw : ∀ x ∈ l, (Lit.int .u8 x).wf = true) : ∃ t, laws_at.f l 2 = some t ∧ 0 ≤ t ∧ t ≤ 255 := by
  unfold laws_at.f
  by_cases h : (2 : Int) < (l.length : Int)
  · rw [if_pos h, if_pos (by omega)]
    have h2 : 2 < l.length := by omega
    have e : rd l 2 = l[2] := rd_nat l 2 h2
    have hx : 0 ≤ l[2] ∧ l[2] ≤ 255 := by
      have := hw l[2] (List.getElem_mem h2)
      simp [Lit.wf, IntKind.min, IntKind.max, IntKind.signed, IntKind.bits] at this
      omega
    rw [e, wrap_of (by omega) (by omega)]
    exact ⟨_, rfl, hx.1, hx.2⟩
  · rw [if_neg h]
    have w1 : wrap64 (2 * 31) = 62 := wrap_of (by omega) (by omega)
    have w2 : wrap64 ((l.length : Int) * 7) = (l.length : Int) * 7 := wrap_of (by omega) (by omega)
    have w3 : wrap64 (62 + (l.length : Int) * 7) = 62 + (l.length : Int) * 7 := wrap_of (by omega) (by omega)
    rw [w1, w2, w3, Int.tmod_eq_emod_of_nonneg (by omega)]
    exact ⟨_, rfl, Int.emod_nonneg _ (by omega), by omega⟩

theorem DrawMix_ex (l : List Int) (hl : l.length ≤ 140737488351232) : ∃ a, Ev (fun k => spec_DrawMix.f k l) a := by
  obtain ⟨h, K, hK⟩ := l1New_ex l hl
  obtain ⟨b, j, h', e, H1⟩ := l1Once_ex l 0 h 2 (rdOk_0 l hl)
  cases b with
  | true =>
    obtain ⟨a, j2, h2, e2, _⟩ := l1Raw_ex l j h' H1
    refine ⟨a, K, fun k hk => ?_⟩
    have := hK k hk
    simp only at this
    simp only [spec_DrawMix.f, this, e, e2, Option.bind_some, if_true]
  | false =>
    obtain ⟨a, j2, h2, e2, _⟩ := l1Below_ex l j h' 65536 H1
    refine ⟨a, K, fun k hk => ?_⟩
    have := hK k hk
    simp only at this
    simp only [spec_DrawMix.f, this, e, e2, Option.bind_some, Bool.false_eq_true, if_false]
theorem DrawStripeOf_ex (l : List Int) (hl : l.length ≤ 140737488351232) : ∃ a b, Ev (fun k => spec_DrawStripeOf.f k l) (a, b) := by
  obtain ⟨h, K, hK⟩ := l1New_ex l hl
  obtain ⟨a, j, h', e, _, _, _, H1⟩ := l1Below_ex l 0 h 1000 (rdOk_0 l hl)
  obtain ⟨b, j2, h2, e2, _⟩ := l1Below_ex l j h' 6 H1
  refine ⟨a, wrap64 (b - 1), K, fun k hk => ?_⟩
  have := hK k hk
  simp only at this
  simp only [spec_DrawStripeOf.f, this, e, e2, Option.bind_some]
theorem DrawSpread_ex (l : List Int) (hl : l.length ≤ 140737488351232) : ∃ q n, Ev (fun k => spec_DrawSpread.f k l) (q, n) ∧ q.length ≤ 8 := by
  obtain ⟨h, K, hK⟩ := l1New_ex l hl
  obtain ⟨c, j, h', e, c0, c1, _, H1⟩ := l1Below_ex l 0 h 9 (rdOk_0 l hl)
  have c2 := c1 (by omega)
  obtain ⟨m, rfl⟩ : ∃ m : Nat, c = m := ⟨c.toNat, by omega⟩
  have key : ∀ (m : Nat) (q : List Int) (j h : Int), RdOk l j → q.length + m ≤ 8 → ∃ q' n, q'.length ≤ 8 ∧ ∀ k, m < k → spec_DrawSpread.l0 k q (m : Int) l j h = some (q', n) := by
    intro m
    induction m with
    | zero =>
      intro q j h H hq
      obtain ⟨b, j2, h2, e2, _⟩ := l1Below_ex l j h 6 H
      refine ⟨q, wrap64 (b - 1), by omega, fun k hk => ?_⟩
      obtain ⟨k, rfl⟩ : ∃ m, k = m + 1 := ⟨k - 1, by omega⟩
      simp only [spec_DrawSpread.l0]
      rw [if_neg (by omega), e2, Option.bind_some]
    | succ m ih =>
      intro q j h H hq
      obtain ⟨b, j2, h2, e2, _, _, _, H2⟩ := l1Below_ex l j h 50 H
      obtain ⟨q', n, hq', hr⟩ := ih (q ++ [b]) j2 h2 H2 (by simp; omega)
      refine ⟨q', n, hq', fun k hk => ?_⟩
      obtain ⟨k, rfl⟩ : ∃ m, k = m + 1 := ⟨k - 1, by omega⟩
      simp only [spec_DrawSpread.l0]
      have w : wrap64 (((m + 1 : Nat) : Int) - 1) = (m : Int) := by rw [wrap_of (by omega) (by omega)]; omega
      rw [if_pos (by omega), e2, Option.bind_some, if_pos (by omega), w]
      exact hr k (by omega)
  obtain ⟨q, n, hq, hr⟩ := key m [] j h' H1 (by simp; omega)
  refine ⟨q, n, ⟨K + m + 1, fun k hk => ?_⟩, hq⟩
  have := hK k (by omega)
  simp only at this
  simp only [spec_DrawSpread.f, this, e, Option.bind_some]
  exact hr k (by omega)
theorem cnt_cons (t : Int) (l : List Int) (n : Int) (j : Nat) : cnt (t :: l) n j = cnt l n j + if stripev t n = (j : Int) then 1 else 0 := by
  unfold cnt
  by_cases h : stripev t n = (j : Int) <;> simp [List.filter_cons, h]
theorem spreadv_sum (l : List Int) (n : Int) (h : inB n 1 3 = true) : (spreadv l n).sum = l.length := by
  have hn : 1 ≤ n ∧ n ≤ 3 := by simpa [inB] using h
  unfold spreadv
  rw [if_pos h]
  have h3 : n = 1 ∨ n = 2 ∨ n = 3 := by omega
  induction l with
  | nil => rcases h3 with rfl | rfl | rfl <;> simp [cnt, List.range_succ]
  | cons t l ih =>
    have hr := low_nn t n hn.1
    have hc : ∀ j, cnt (t :: l) n j = cnt l n j + if stripev t n = (j : Int) then 1 else 0 := fun j => cnt_cons t l n j
    rw [List.length_cons]
    push_cast
    rw [← ih]
    rcases h3 with rfl | rfl | rfl
    · have e : stripev t 1 = 0 := by omega
      simp [List.range_succ, hc, e]
    · have e : stripev t 2 = 0 ∨ stripev t 2 = 1 := by omega
      rcases e with e | e <;> simp [List.range_succ, hc, e] <;> omega
    · have e : stripev t 3 = 0 ∨ stripev t 3 = 1 ∨ stripev t 3 = 2 := by omega
      rcases e with e | e | e <;> simp [List.range_succ, hc, e] <;> omega
theorem spreadv_nn (l : List Int) (n : Int) : ∀ x ∈ spreadv l n, 0 ≤ x ∧ x ≤ l.length := by
  unfold spreadv
  split
  · intro x hx
    obtain ⟨j, _, rfl⟩ := List.mem_map.1 hx
    exact cnt_le l n j
  · intro x hx
    simp at hx
theorem sum_take (p : List Int) (i : Nat) (h : i < p.length) : (p.take (i + 1)).sum = (p.take i).sum + p[i] := by
  rw [List.take_succ_eq_append_getElem h, List.sum_append]
  simp
theorem sum_bound (p : List Int) (B : Int) (hp : ∀ x ∈ p, 0 ≤ x ∧ x ≤ B) : 0 ≤ p.sum ∧ p.sum ≤ B * p.length := by
  induction p with
  | nil => simp
  | cons x p ih =>
    have h1 := ih (fun y hy => hp y (List.mem_cons_of_mem _ hy))
    have h2 := hp x List.mem_cons_self
    rw [List.sum_cons, List.length_cons]
    push_cast
    rw [Int.mul_add, Int.mul_one]
    omega
theorem FnStripes : ∀ (l0 : (List Int)), ((l0.length ≤ maxLen ∧ ∀ y5 ∈ l0, (Lit.int .u8 y5).wf = true)) → ∃ k, laws_FnStripes.f k l0 = some true := by
  intro l hg
  by_cases hb : (l.length : Int) > 1048576
  · refine ⟨0, ?_⟩
    simp only [laws_FnStripes.f, laws_big.f, Option.bind_some, decide_eq_true hb, if_true]
  have hl : l.length ≤ 140737488351232 := by omega
  obtain ⟨n, K1, h1⟩ := DrawMix_ex l hl
  obtain ⟨t, c, K2, h2⟩ := DrawStripeOf_ex l hl
  obtain ⟨q, j, ⟨K3, h3⟩, hq⟩ := DrawSpread_ex l hl
  obtain ⟨K4, h4⟩ := impl_Spread_ev q (by omega) j
  obtain ⟨K5, h5⟩ := spec_Spread_ev q (by omega) j
  have hlen := spreadv_len q j
  obtain ⟨K6, h6⟩ := sameInts_self (spreadv q j) (by omega)
  obtain ⟨u, hu, hu0, hu1⟩ := at_ex l (by omega) hg.2
  simp only at h1 h2 h3 h4 h5 h6
  have hmn := mixn_lt (low_lt n)
  have hls : low (low n : Int) = low n := low_self (low_lt n)
  have hs0 : 0 ≤ stripev t c ∧ (¬ c < 1 → stripev t c < c) := by
    by_cases hc : c < 1
    · unfold stripev
      rw [if_pos hc]
      exact ⟨by omega, fun h => absurd hc h⟩
    · have := low_nn t c (by omega)
      exact ⟨this.1, fun _ => this.2⟩
  have hnn := spreadv_nn q j
  have hsum : (spreadv q j).length = 0 ∨ (spreadv q j).sum = q.length := by
    by_cases hj : inB j 1 3 = true
    · exact .inr (spreadv_sum q j hj)
    · refine .inl ?_
      unfold spreadv
      rw [if_neg hj]
      rfl
  generalize hp : spreadv q j = p at h4 h5 h6 hlen hsum hnn
  -- the last test
  have hfin : (if (Go.bits .and .i64 (Go.bits .xor .i64 n (wrap64 (1 + (wrap64 (u * 257))))) 65535) = (Go.bits .and .i64 n 65535) then (some true) else ((impl_Mix.f (Go.bits .and .i64 (Go.bits .xor .i64 n (wrap64 (1 + (wrap64 (u * 257))))) 65535)).bind fun t228 => (some (t228 != ((mixn (low n) : Nat) : Int))))) = some true := by
    generalize Go.bits .xor .i64 n (wrap64 (1 + wrap64 (u * 257))) = x
    rw [low_eq x, low_eq n]
    by_cases e : (low x : Int) = (low n : Int)
    · rw [if_pos e]
    · rw [if_neg e, impl_Mix_eq, Option.bind_some, low_self (low_lt x)]
      have hne : ((mixn (low x) : Nat) : Int) ≠ ((mixn (low n) : Nat) : Int) := by
        intro h
        have h' : mixn (low x) = mixn (low n) := by omega
        have := mixn_inj (low_lt x) (low_lt n) h'
        omega
      simp [hne]
  obtain ⟨r, hr, hloop⟩ := loop_ex (σ := Int) (L := fun k s i => laws_FnStripes.l0 k l n ((mixn (low n) : Nat) : Int) c (stripev t c) q p s i) (n := p.length) (K := 0)
    (I := fun s i => s = (p.take i).sum) (Post := fun _ _ r => r = true)
    (fun s hI => ⟨true, rfl, fun k => by
      simp only [laws_FnStripes.l0]
      rw [if_neg (not_lt_cast _), hu, Option.bind_some]
      rw [List.take_length] at hI
      have hx : p.length = 0 ∨ s = q.length := by
        rcases hsum with h | h
        · exact .inl h
        · exact .inr (by rw [hI, h])
      simp only [hfin]
      (repeat' split) <;> first | rfl | (exfalso; omega)⟩)
    (fun s i hi hI => .inr ⟨(p.take (i + 1)).sum, rfl, fun k _ => by
      have h1 := sum_bound (p.take (i + 1)) 8 (fun x hx => by have := hnn x (List.mem_of_mem_take hx); omega)
      have h2 : (p.take (i + 1)).length ≤ p.length := List.length_take_le' _ _
      simp only [laws_FnStripes.l0]
      rw [if_pos (lt_cast hi), if_pos (nn_cast i), rd_nat _ _ hi, hI, ← sum_take _ _ hi, wrap_nat1 hi (by omega), wrap_of (by omega) (by omega)], fun _ h => h⟩) p.length 0 0 (by omega) (by simp)
  subst hr
  refine ⟨K1 + K2 + K3 + K4 + K5 + K6 + p.length + 2, ?_⟩
  generalize hm : K1 + K2 + K3 + K4 + K5 + K6 + p.length = m
  simp only [laws_FnStripes.f, laws_big.f, Option.bind_some, decide_eq_false hb, Bool.false_eq_true, if_false, h1 (m + 2) (by omega), h2 (m + 2) (by omega), h3 (m + 2) (by omega), h4 (m + 2) (by omega), h5 (m + 2) (by omega), h6 (m + 2) (by omega), impl_Mix_eq, spec_Mix_eq, impl_StripeOf_eq, spec_StripeOf_eq, if_true]
  rw [if_neg (by omega), if_neg (by omega), low_eq, hls]
  simp only [laws_FnStripes.j0, bne_self_eq_false, Bool.false_eq_true, if_false]
  exact hloop (m + 1) (by omega)

end Go.Proofs.Yteiabkojcfjldaa.Pure
