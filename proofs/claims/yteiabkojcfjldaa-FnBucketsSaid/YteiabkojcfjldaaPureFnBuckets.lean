/- A bucket never has more than it may; what is refilled in two parts is refilled in one; in any time no more is spent than it had at most, and what came. Conditions: none beyond the statement's own. -/
import Derived.Test.YteiabkojcfjldaaQFnBucketsx
set_option linter.unusedVariables false
set_option linter.unusedSimpArgs false
namespace Go.Proofs.Yteiabkojcfjldaa.Pure
open Go.RowKit Go.Proofs.Yteiabkojcfjldaa.QFnBuckets Go.Proofs.YteiabkojcfjldaaW.PrintWords Go.Proofs.YteiabkojcfjldaaW.PrintLast Go.Proofs.YteiabkojcfjldaaW.PrintMore


/-- A loop over an index: from a state that is good, with enough rounds, it comes to an end that meets what is told of it. -/
theorem loop_ex {σ β : Type} {L : Nat → σ → Int → Option β} {n K : Nat} {I : σ → Nat → Prop} {Post : σ → Nat → β → Prop}
    (hend : ∀ s, I s n → ∃ r, Post s n r ∧ ∀ k, L (k + 1) s (n : Int) = some r)
    (hstep : ∀ s (i : Nat), i < n → I s i → (∃ r, Post s i r ∧ ∀ k, K ≤ k → L (k + 1) s (i : Int) = some r) ∨
      ∃ s', I s' (i + 1) ∧ (∀ k, K ≤ k → L (k + 1) s (i : Int) = L k s' ((i : Int) + 1)) ∧ ∀ r, Post s' (i + 1) r → Post s i r) :
    ∀ (d : Nat) s (i : Nat), i + d = n → I s i → ∃ r, Post s i r ∧ ∀ k, K + d < k → L k s (i : Int) = some r := by
  intro d
  induction d with
  | zero =>
    intro s i hd hI
    obtain rfl : i = n := by omega
    obtain ⟨r, hp, hr⟩ := hend s hI
    refine ⟨r, hp, fun k hk => ?_⟩
    obtain ⟨k, rfl⟩ : ∃ m, k = m + 1 := ⟨k - 1, by omega⟩
    exact hr k
  | succ d ih =>
    intro s i hd hI
    rcases hstep s i (by omega) hI with ⟨r, hp, hr⟩ | ⟨s', hI', he, hp⟩
    · refine ⟨r, hp, fun k hk => ?_⟩
      obtain ⟨k, rfl⟩ : ∃ m, k = m + 1 := ⟨k - 1, by omega⟩
      exact hr k (by omega)
    · obtain ⟨r, hq, hr⟩ := ih s' (i + 1) (by omega) hI'
      refine ⟨r, hp r hq, fun k hk => ?_⟩
      obtain ⟨k, rfl⟩ : ∃ m, k = m + 1 := ⟨k - 1, by omega⟩
      rw [he k (by omega)]
      have := hr k (by omega)
      rw [Int.natCast_add] at this
      exact this
theorem ev_at {α : Type} {g : Nat → Option α} {r : α} (K : Nat) (h : ∀ k, K < k → g k = some r) : Ev g r := ⟨K + 1, fun k hk => h k (by omega)⟩
theorem wrap_of {x : Int} (h0 : -9223372036854775808 ≤ x) (h1 : x ≤ 9223372036854775807) : wrap64 x = x := by
  unfold wrap64
  omega
theorem wrap_nat1 {i n : Nat} (h : i < n) (hn : n ≤ 9223372036854775807) : wrap64 ((i : Int) + 1) = (i : Int) + 1 := wrap_of (by omega) (by omega)
theorem lt_cast {i n : Nat} (h : i < n) : (i : Int) < (n : Int) := by omega
theorem nn_cast (i : Nat) : 0 ≤ (i : Int) := by omega
theorem not_lt_cast (n : Nat) : ¬ (n : Int) < (n : Int) := by omega
/-- What is written cell by cell. -/
theorem fill_set {α : Type} (l : List α) (z : α) (i : Nat) (h : i < l.length) : (l.take i ++ List.replicate (l.length - i) z).set i l[i] = l.take (i + 1) ++ List.replicate (l.length - (i + 1)) z := by
  have e1 : l.length - i = (l.length - (i + 1)) + 1 := by omega
  have e2 : (l.take i).length = i := by rw [List.length_take]; omega
  rw [e1, List.replicate_succ, List.set_append_right _ _ (by omega), e2, Nat.sub_self, List.set_cons_zero, List.take_succ_eq_append_getElem h, List.append_assoc]
  rfl
theorem fill_len {α : Type} (l : List α) (z : α) (i : Nat) (h : i ≤ l.length) : (l.take i ++ List.replicate (l.length - i) z).length = l.length := by
  rw [List.length_append, List.length_take, List.length_replicate]
  omega

theorem band_range (x : Int) (m : Nat) (hm : m < 9223372036854775808) : 0 ≤ Go.bits .and .i64 x (m : Int) ∧ Go.bits .and .i64 x (m : Int) ≤ m := by
  have e1 : (BitVec.ofInt 64 (m : Int)).toNat = m := by
    rw [BitVec.ofInt_natCast, BitVec.toNat_ofNat]
    exact Nat.mod_eq_of_lt (by omega)
  have e2 : Go.bits .and .i64 x (m : Int) = IntKind.i64.wrap ((BitVec.ofInt 64 x &&& BitVec.ofInt 64 (m : Int)).toNat : Int) := rfl
  have h : (BitVec.ofInt 64 x).toNat &&& m ≤ m := Nat.and_le_right
  rw [e2, BitVec.toNat_and, e1, IntKind.wrap_i64]
  omega
/-- A reader's place is in what it reads. -/
def RdOk (s : List Int) (i : Int) : Prop := 0 ≤ i ∧ i ≤ s.length ∧ s.length ≤ 140737488351232
theorem l1Byte_ex (s : List Int) (i h : Int) (H : RdOk s i) : ∃ b j h', spec_l1Byte.f s i h = some (b, j, h') ∧ 0 ≤ b ∧ b ≤ 255 ∧ RdOk s j := by
  obtain ⟨h0, h1, h2⟩ := H
  unfold spec_l1Byte.f
  by_cases hc : i < (s.length : Int)
  · rw [if_pos hc, if_pos h0]
    refine ⟨_, _, _, rfl, (band_range _ 255 (by omega)).1, (band_range _ 255 (by omega)).2, ?_⟩
    rw [wrap_of (by omega) (by omega)]
    exact ⟨by omega, by omega, h2⟩
  · rw [if_neg hc]
    exact ⟨_, _, _, rfl, (band_range _ 255 (by omega)).1, (band_range _ 255 (by omega)).2, h0, h1, h2⟩
theorem l1Below_ex (s : List Int) (i h n : Int) (H : RdOk s i) : ∃ v j h', spec_l1Below.f s i h n = some (v, j, h') ∧ 0 ≤ v ∧ (0 < n → v < n) ∧ (n ≤ 0 → v = 0) ∧ RdOk s j := by
  unfold spec_l1Below.f
  by_cases h1 : n ≤ 0
  · rw [if_pos h1]
    exact ⟨0, i, h, rfl, by omega, fun _ => by omega, fun _ => rfl, H⟩
  · rw [if_neg h1]
    by_cases h2 : n ≤ 256
    · rw [if_pos h2]
      obtain ⟨b, j, h', e, b0, b1, H1⟩ := l1Byte_ex s i h H
      rw [e, Option.bind_some, if_neg (by omega), Int.tmod_eq_emod_of_nonneg b0]
      exact ⟨_, _, _, rfl, Int.emod_nonneg _ (by omega), fun _ => Int.emod_lt_of_pos _ (by omega), fun _ => by omega, H1⟩
    · rw [if_neg h2]
      obtain ⟨b, j, h', e, b0, b1, H1⟩ := l1Byte_ex s i h H
      obtain ⟨b', j', h'', e', b0', b1', H2⟩ := l1Byte_ex s j h' H1
      obtain ⟨b'', j'', h3, e'', b0'', b1'', H3⟩ := l1Byte_ex s j' h'' H2
      simp only [e, e', e'', Option.bind_some]
      have w1 : wrap64 (b * 65536) = b * 65536 := wrap_of (by omega) (by omega)
      have w2 : wrap64 (b' * 256) = b' * 256 := wrap_of (by omega) (by omega)
      have w3 : wrap64 (b * 65536 + b' * 256) = b * 65536 + b' * 256 := wrap_of (by omega) (by omega)
      have w4 : wrap64 (b * 65536 + b' * 256 + b'') = b * 65536 + b' * 256 + b'' := wrap_of (by omega) (by omega)
      rw [if_neg (by omega), w1, w2, w3, w4, Int.tmod_eq_emod_of_nonneg (by omega)]
      exact ⟨_, _, _, rfl, Int.emod_nonneg _ (by omega), fun _ => Int.emod_lt_of_pos _ (by omega), fun _ => by omega, H3⟩
theorem l1New_ex (l : List Int) (hl : l.length ≤ 140737488351232) : ∃ h, Ev (fun k => spec_l1New.f k l) (l, 0, h) := by
  obtain ⟨r, ⟨h, rfl⟩, hr⟩ := loop_ex (σ := Int) (L := fun k s i => spec_l1New.l0 k l s i) (n := l.length) (K := 0)
    (I := fun _ _ => True) (Post := fun _ _ r => ∃ h, r = (l, 0, h))
    (fun s _ => ⟨_, ⟨s, rfl⟩, fun k => by
      simp only [spec_l1New.l0]
      rw [if_neg (not_lt_cast _)]⟩)
    (fun s i hi _ => by
      by_cases h4 : (i : Int) < 4000
      · refine .inr ⟨Go.bits .and .i64 (wrap64 ((wrap64 ((wrap64 (s * 137)) + (wrap64 (rd l (i : Int))))) + 11)) 1073741823, trivial, fun k _ => ?_, fun _ h => h⟩
        simp only [spec_l1New.l0]
        rw [if_pos (lt_cast hi), if_pos h4, if_pos (nn_cast i), wrap_nat1 hi (by omega)]
      · refine .inl ⟨_, ⟨s, rfl⟩, fun k _ => ?_⟩
        simp only [spec_l1New.l0]
        rw [if_pos (lt_cast hi), if_neg h4]) l.length (wrap64 (140371 + (l.length : Int))) 0 (by omega) trivial
  exact ⟨h, ev_at (0 + l.length) fun k hk => hr k hk⟩
theorem rdOk_0 (l : List Int) (hl : l.length ≤ 140737488351232) : RdOk l 0 := ⟨by omega, by omega, hl⟩

theorem l1Once_ex (s : List Int) (i h n : Int) (H : RdOk s i) : ∃ b j h', spec_l1Once.f s i h n = some (b, j, h') ∧ RdOk s j := by
  obtain ⟨v, j, h', e, _, _, _, H1⟩ := l1Below_ex s i h n H
  exact ⟨v == 0, j, h', by simp only [spec_l1Once.f, e, Option.bind_some], H1⟩

theorem rd_nat (l : List Int) (i : Nat) (h : i < l.length) : rd l (i : Int) = l[i] := by
  simp [rd, List.getD_eq_getElem?_getD, h]

theorem l1Int_ex (s : List Int) (i h : Int) (l : List Int) (hl : 0 < l.length) (H : RdOk s i) : ∃ v j h', spec_l1Int.f s i h l = some (v, j, h') ∧ v ∈ l ∧ RdOk s j := by
  obtain ⟨v, j, h', e, v0, v1, _, H1⟩ := l1Below_ex s i h (l.length : Int) H
  have hv : v < (l.length : Int) := v1 (by omega)
  obtain ⟨m, rfl⟩ : ∃ m : Nat, v = m := ⟨v.toNat, by omega⟩
  have hm : m < l.length := by omega
  refine ⟨l[m], j, h', ?_, List.getElem_mem hm, H1⟩
  simp only [spec_l1Int.f, e, Option.bind_some]
  rw [if_pos v0, if_pos hv, rd_nat _ _ hm]

theorem l1Odd_ex (s : List Int) (i h : Int) (H : RdOk s i) : ∃ v j h', spec_l1Odd.f s i h = some (v, j, h') ∧ RdOk s j ∧ -9223372036854775808 ≤ v ∧ v ≤ 9223372036854775807 := by
  obtain ⟨v, j, h', e, hv, H1⟩ := l1Int_ex s i h [(-1), 0, 1, 2, 255, 256, 65535, 2147483647, 2147483648, 4294967295, 4294967296, (-2147483648), 9223372036854775807, (-9223372036854775808)] (by decide) H
  refine ⟨v, j, h', by simp only [spec_l1Odd.f, e, Option.bind_some], H1, ?_⟩
  simp only [List.mem_cons, List.not_mem_nil, or_false] at hv
  omega
theorem l1Raw_ex (s : List Int) (i h : Int) (H : RdOk s i) : ∃ v j h', spec_l1Raw.f s i h = some (v, j, h') ∧ RdOk s j ∧ -9223372036854775808 ≤ v ∧ v ≤ 9223372036854775807 := by
  obtain ⟨b, j, h', e, H1⟩ := l1Once_ex s i h 2 H
  cases b with
  | true =>
    obtain ⟨v, j2, h2, e2, H2, hv⟩ := l1Odd_ex s j h' H1
    exact ⟨v, j2, h2, by simp only [spec_l1Raw.f, e, e2, Option.bind_some, if_true], H2, hv⟩
  | false =>
    obtain ⟨v, j2, h2, e2, hv, H2⟩ := l1Int_ex s j h' [(-2147483648), (-3), (-1), 0, 1, 3, 7, 65536, 2147483647, 2147483648] (by decide) H1
    refine ⟨v, j2, h2, by simp only [spec_l1Raw.f, e, e2, Option.bind_some, Bool.false_eq_true, if_false], H2, ?_⟩
    simp only [List.mem_cons, List.not_mem_nil, or_false] at hv
    omega

def capv (n : Int) : Int := if n < 0 then 0 else if n > 2147483647 then 2147483647 else n
theorem capv_range (n : Int) : 0 ≤ capv n ∧ capv n ≤ 2147483647 := by unfold capv; (repeat' split) <;> omega
theorem capv_id {n : Int} (h0 : 0 ≤ n) (h1 : n ≤ 2147483647) : capv n = n := by unfold capv; (repeat' split) <;> omega
theorem spec_Cap_eq (a : Int) : spec_Cap.f a = some (capv a) := by unfold spec_Cap.f capv; (repeat' split) <;> rfl
theorem impl_Cap_eq (a : Int) : impl_Cap.f a = some (capv a) := by
  unfold impl_Cap.f capv mn mx
  congr 1
  (repeat' split) <;> omega

def addv (a b : Int) : Int := capv (capv a + capv b)
theorem wrap_add (a b : Int) : wrap64 (capv a + capv b) = capv a + capv b := by
  have := capv_range a
  have := capv_range b
  unfold wrap64
  omega

theorem spec_Add_eq (a b : Int) : spec_Add.f a b = some (addv a b) := by
  simp only [spec_Add.f, spec_Cap_eq, Option.bind_some, wrap_add, addv]
theorem impl_Add_eq (a b : Int) : impl_Add.f a b = some (addv a b) := by
  simp only [impl_Add.f, impl_Cap_eq, Option.bind_some, wrap_add, addv]

def subv (a b : Int) : Int := capv (capv a - capv b)
theorem wrap_sub (a b : Int) : wrap64 (capv a - capv b) = capv a - capv b := by
  have := capv_range a
  have := capv_range b
  unfold wrap64
  omega

theorem spec_Sub_eq (a b : Int) : spec_Sub.f a b = some (subv a b) := by
  simp only [spec_Sub.f, spec_Cap_eq, Option.bind_some, wrap_sub, subv]
theorem impl_Sub_eq (a b : Int) : impl_Sub.f a b = some (subv a b) := by
  simp only [impl_Sub.f, impl_Cap_eq, Option.bind_some, wrap_sub, subv]

def mulv (a b : Int) : Int := capv (capv a * capv b)
theorem wrap_mul (a b : Int) : wrap64 (capv a * capv b) = capv a * capv b := by
  have h1 := capv_range a
  have h2 := capv_range b
  have h3 : 0 ≤ capv a * capv b := Int.mul_nonneg h1.1 h2.1
  have h4 : capv a * capv b ≤ 2147483647 * 2147483647 := Int.mul_le_mul h1.2 h2.2 h2.1 (by decide)
  generalize capv a * capv b = p at h3 h4
  unfold wrap64
  omega

theorem spec_Mul_eq (a b : Int) : spec_Mul.f a b = some (mulv a b) := by
  simp only [spec_Mul.f, spec_Cap_eq, Option.bind_some, wrap_mul, mulv]
theorem impl_Mul_eq (a b : Int) : impl_Mul.f a b = some (mulv a b) := by
  simp only [impl_Mul.f, impl_Cap_eq, Option.bind_some, wrap_mul, mulv]

def inB (a b c : Int) : Bool := decide (b ≤ a) && decide (a ≤ c)
theorem impl_within_eq (a b c : Int) : impl_within.f a b c = some (inB a b c) := by
  unfold impl_within.f inB
  by_cases h : a ≥ b
  · rw [if_pos h]
    simp [show b ≤ a from h]
  · rw [if_neg h]
    simp [show ¬ b ≤ a from h]

theorem spec_l1In_eq (a b c : Int) : spec_l1In.f a b c = some (inB a b c) := by
  unfold spec_l1In.f inB
  by_cases h : a ≥ b
  · rw [if_pos h]
    simp [show b ≤ a from h]
  · rw [if_neg h]
    simp [show ¬ b ≤ a from h]

def bucketOkV (r b t a : Int) : Bool := inB r 0 99 && inB b 0 999 && inB t 0 b && inB a 0 2147483647
theorem spec_BucketOk_eq (r b t a : Int) : spec_BucketOk.f r b t a = some (bucketOkV r b t a) := by
  simp only [spec_BucketOk.f, spec_l1In_eq, Option.bind_some]
  unfold bucketOkV
  cases inB r 0 99 <;> cases inB b 0 999 <;> cases inB t 0 b <;> simp
theorem impl_BucketOk_eq (r b t a : Int) : impl_BucketOk.f r b t a = some (bucketOkV r b t a) := by
  simp only [impl_BucketOk.f, impl_within_eq, Option.bind_some]
  unfold bucketOkV
  cases inB r 0 99 <;> cases inB b 0 999 <;> cases inB t 0 b <;> simp
theorem bucketOkV_iff (r b t a : Int) : bucketOkV r b t a = true ↔ (0 ≤ r ∧ r ≤ 99) ∧ (0 ≤ b ∧ b ≤ 999) ∧ (0 ≤ t ∧ t ≤ b) ∧ (0 ≤ a ∧ a ≤ 2147483647) := by
  simp [bucketOkV, inB, and_assoc]

def refillOk (r b t a n : Int) : Bool := bucketOkV r b t a && inB n a 2147483647
def refillT (r b t a n : Int) : Int := mn (addv t (mulv r (subv n a))) b
def refillV (r b t a n : Int) : Int × Int × Int × Int := if refillOk r b t a n then (r, b, refillT r b t a n, n) else (r, b, t, a)
theorem spec_Refill_eq (k : Nat) (r b t a n : Int) : spec_Refill.f (k + 1) r b t a n = some (refillV r b t a n) := by
  simp only [spec_Refill.f, spec_BucketOk_eq, Option.bind_some, spec_Refill.j0, spec_Sub_eq, spec_Mul_eq, spec_Add_eq]
  unfold refillV refillOk refillT
  by_cases hb : bucketOkV r b t a = true
  · rw [if_pos hb]
    by_cases h1 : n < a
    · have hi : inB n a 2147483647 = false := by simp [inB]; omega
      rw [if_pos h1]
      simp [hi]
    · rw [if_neg h1]
      by_cases h2 : n > 2147483647
      · have hi : inB n a 2147483647 = false := by simp [inB]; omega
        simp [hi, h2]
      · have hi : inB n a 2147483647 = true := by simp [inB]; omega
        simp only [hb, hi, decide_eq_false h2, Bool.and_true, if_true, Bool.false_eq_true, if_false]
        unfold mn
        by_cases h3 : addv t (mulv r (subv n a)) > b
        · rw [if_pos h3, if_pos h3]
        · rw [if_neg h3, if_neg h3]
  · rw [if_neg hb]
    simp [hb]
theorem impl_Refill_eq (k : Nat) (r b t a n : Int) : impl_Refill.f (k + 1) r b t a n = some (refillV r b t a n) := by
  simp only [impl_Refill.f, impl_BucketOk_eq, impl_within_eq, Option.bind_some, impl_Refill.j0, impl_Sub_eq, impl_Mul_eq, impl_Add_eq]
  unfold refillV refillOk refillT
  by_cases hb : bucketOkV r b t a = true
  · rw [if_pos hb]
    by_cases hi : inB n a 2147483647 = true <;> simp [hb, hi]
  · rw [if_neg hb]
    simp [hb]

def mostInV (r b t : Int) : Int := addv b (mulv r t)
theorem spec_MostIn_eq (r b t a n : Int) : spec_MostIn.f r b t a n = some (mostInV r b n) := by
  simp only [spec_MostIn.f, spec_Mul_eq, spec_Add_eq, Option.bind_some, mostInV]
theorem impl_MostIn_eq (r b t a n : Int) : impl_MostIn.f r b t a n = some (mostInV r b n) := by
  simp only [impl_MostIn.f, impl_Mul_eq, impl_Add_eq, Option.bind_some, mostInV]

theorem l7Draw_ex (s : List Int) (i h : Int) (H : RdOk s i) : ∃ r b t a j h', spec_l7Draw.f s i h = some (r, b, t, a, j, h') ∧ RdOk s j := by
  obtain ⟨v1, j1, h1, e1, _, H1⟩ := l1Int_ex s i h [0, 1, 2, 99] (by decide) H
  obtain ⟨v2, j2, h2, e2, _, H2⟩ := l1Int_ex s j1 h1 [0, 1, 3, 8, 999] (by decide) H1
  obtain ⟨v3, j3, h3, e3, _, H3⟩ := l1Int_ex s j2 h2 [0, 3, 2147483647] (by decide) H2
  obtain ⟨v4, j4, h4, e4, _, _, _, H4⟩ := l1Below_ex s j3 h3 (wrap64 (v2 + 1)) H3
  exact ⟨v1, v2, v4, v3, j4, h4, by simp only [spec_l7Draw.f, e1, e2, spec_BucketNew.f, e3, e4, Option.bind_some], H4⟩
theorem l7Any_ex (s : List Int) (i h : Int) (H : RdOk s i) : ∃ r b t a j h', spec_l7Any.f s i h = some (r, b, t, a, j, h') ∧ RdOk s j := by
  obtain ⟨r, b, t, a, j1, h1, e1, H1⟩ := l7Draw_ex s i h H
  obtain ⟨v, j2, h2, e2, _, _, _, H2⟩ := l1Below_ex s j1 h1 12 H1
  simp only [spec_l7Any.f, e1, e2, Option.bind_some]
  by_cases c0 : v = 0
  · obtain ⟨x, j3, h3, e3, _, H3⟩ := l1Int_ex s j2 h2 [(-1), 99, 100] (by decide) H2
    rw [if_pos c0, e3]
    exact ⟨_, _, _, _, _, _, rfl, H3⟩
  rw [if_neg c0]
  by_cases c1 : v = 1
  · obtain ⟨x, j3, h3, e3, _, H3⟩ := l1Int_ex s j2 h2 [(-1), 999, 1000] (by decide) H2
    rw [if_pos c1, e3]
    exact ⟨_, _, _, _, _, _, rfl, H3⟩
  rw [if_neg c1]
  by_cases c2 : v = 2
  · obtain ⟨x, j3, h3, e3, _, H3⟩ := l1Int_ex s j2 h2 [(-1), wrap64 (b + 1)] (by simp) H2
    rw [if_pos c2, e3]
    exact ⟨_, _, _, _, _, _, rfl, H3⟩
  rw [if_neg c2]
  by_cases c3 : v = 3
  · obtain ⟨x, j3, h3, e3, H3, _⟩ := l1Raw_ex s j2 h2 H2
    rw [if_pos c3, e3]
    exact ⟨_, _, _, _, _, _, rfl, H3⟩
  rw [if_neg c3]
  exact ⟨_, _, _, _, _, _, rfl, H2⟩
theorem DrawRefill_ex (l : List Int) (hl : l.length ≤ 140737488351232) : ∃ r b t a n, Ev (fun k => spec_DrawRefill.f k l) (r, b, t, a, n) := by
  obtain ⟨h, K, hK⟩ := l1New_ex l hl
  obtain ⟨r, b, t, a, j1, h1, e1, H1⟩ := l7Any_ex l 0 h (rdOk_0 l hl)
  obtain ⟨c, j2, h2, e2, H2⟩ := l1Once_ex l j1 h1 2 H1
  cases c with
  | true =>
    obtain ⟨v, j3, h3, e3, _⟩ := l1Raw_ex l j2 h2 H2
    refine ⟨r, b, t, a, v, K, fun k hk => ?_⟩
    have := hK k hk
    simp only at this
    simp only [spec_DrawRefill.f, this, e1, e2, e3, Option.bind_some, if_true]
  | false =>
    obtain ⟨v, j3, h3, e3, _⟩ := l1Below_ex l j2 h2 6 H2
    refine ⟨r, b, t, a, wrap64 ((wrap64 ((Int.tmod a 2000000000) + v)) - 1), K, fun k hk => ?_⟩
    have := hK k hk
    simp only at this
    simp only [spec_DrawRefill.f, this, e1, e2, e3, Option.bind_some, Bool.false_eq_true, if_false]
theorem DrawSpend_ex (l : List Int) (hl : l.length ≤ 140737488351232) : ∃ r b t a n, Ev (fun k => spec_DrawSpend.f k l) (r, b, t, a, n) := by
  obtain ⟨h, K, hK⟩ := l1New_ex l hl
  obtain ⟨r, b, t, a, j1, h1, e1, H1⟩ := l7Any_ex l 0 h (rdOk_0 l hl)
  obtain ⟨v, j3, h3, e3, _⟩ := l1Int_ex l j1 h1 [0, 1, 2, 3, (-1), 1000] (by decide) H1
  refine ⟨r, b, t, a, v, K, fun k hk => ?_⟩
  have := hK k hk
  simp only at this
  simp only [spec_DrawSpend.f, this, e1, e3, Option.bind_some]
theorem DrawBucketOk_ex (l : List Int) (hl : l.length ≤ 140737488351232) : ∃ r b t a, Ev (fun k => spec_DrawBucketOk.f k l) (r, b, t, a) := by
  obtain ⟨h, K, hK⟩ := l1New_ex l hl
  obtain ⟨r, b, t, a, j1, h1, e1, H1⟩ := l7Any_ex l 0 h (rdOk_0 l hl)
  refine ⟨r, b, t, a, K, fun k hk => ?_⟩
  have := hK k hk
  simp only at this
  simp only [spec_DrawBucketOk.f, this, e1, Option.bind_some]
theorem DrawMostIn_ex (l : List Int) (hl : l.length ≤ 140737488351232) : ∃ r b t a n, Ev (fun k => spec_DrawMostIn.f k l) (r, b, t, a, n) := by
  obtain ⟨h, K, hK⟩ := l1New_ex l hl
  obtain ⟨r, b, t, a, j1, h1, e1, H1⟩ := l7Any_ex l 0 h (rdOk_0 l hl)
  obtain ⟨v, j3, h3, e3, _⟩ := l1Raw_ex l j1 h1 H1
  refine ⟨r, b, t, a, v, K, fun k hk => ?_⟩
  have := hK k hk
  simp only at this
  simp only [spec_DrawMostIn.f, this, e1, e3, Option.bind_some]
theorem DrawBucketNew_ex (l : List Int) (hl : l.length ≤ 140737488351232) : ∃ a b, Ev (fun k => spec_DrawBucketNew.f k l) (a, b) := by
  obtain ⟨h, K, hK⟩ := l1New_ex l hl
  obtain ⟨v, j1, h1, e1, H1, _⟩ := l1Raw_ex l 0 h (rdOk_0 l hl)
  obtain ⟨u, j3, h3, e3, _⟩ := l1Int_ex l j1 h1 [0, 3, 999, 1000, (-1)] (by decide) H1
  refine ⟨v, u, K, fun k hk => ?_⟩
  have := hK k hk
  simp only at this
  simp only [spec_DrawBucketNew.f, this, e1, e3, Option.bind_some]
/-- What a spending answers. -/
def spendV (r b t a n : Int) : Int × Int × Int × Int × Bool := if bucketOkV r b t a && inB n 0 t then (r, b, wrap64 (t - n), a, true) else (r, b, t, a, false)
theorem spec_Spend_eq (r b t a n : Int) : spec_Spend.f r b t a n = some (spendV r b t a n) := by
  simp only [spec_Spend.f, spec_BucketOk_eq, Option.bind_some]
  unfold spendV inB
  cases bucketOkV r b t a
  · simp
  · by_cases h1 : n < 0
    · rw [if_pos rfl, if_pos h1, decide_eq_false (by omega)]
      simp
    · by_cases h2 : n > t
      · rw [if_pos rfl, if_neg h1, if_pos h2, decide_eq_false (p := n ≤ t) (by omega)]
        simp
      · rw [if_pos rfl, if_neg h1, if_neg h2, decide_eq_true (p := 0 ≤ n) (by omega), decide_eq_true (p := n ≤ t) (by omega)]
        simp
theorem impl_Spend_eq (r b t a n : Int) : impl_Spend.f r b t a n = some (spendV r b t a n) := by
  simp only [impl_Spend.f, impl_BucketOk_eq, impl_within_eq, Option.bind_some]
  unfold spendV
  cases bucketOkV r b t a <;> cases inB n 0 t <;> simp
theorem MostIn_all (r b t a n : Int) : ∃ v, impl_MostIn.f r b t a n = some v ∧ spec_MostIn.f r b t a n = some v := ⟨_, impl_MostIn_eq r b t a n, spec_MostIn_eq r b t a n⟩
/-- Refilling a right bucket, told without caps. -/
theorem refillT_eq (r b t a n : Int) (h : bucketOkV r b t a = true) (h1 : a ≤ n) (h2 : n ≤ 2147483647) : refillT r b t a n = if t + r * (n - a) > b then b else t + r * (n - a) := by
  have hb := (bucketOkV_iff r b t a).1 h
  have hs : subv n a = n - a := by
    unfold subv
    rw [capv_id (n := n) (by omega) (by omega), capv_id (n := a) (by omega) (by omega), capv_id (n := n - a) (by omega) (by omega)]
  have hp : 0 ≤ r * (n - a) := Int.mul_nonneg (by omega) (by omega)
  unfold refillT mulv addv
  rw [hs, capv_id (n := r) (by omega) (by omega), capv_id (n := n - a) (by omega) (by omega), capv_id (n := t) (by omega) (by omega)]
  generalize r * (n - a) = p at *
  unfold capv mn
  (repeat' split) <;> omega
/-- What is refilled. -/
theorem refill_laws (r b t a n : Int) (h : bucketOkV r b t a = true) (h1 : a ≤ n) (h2 : n ≤ 2147483647) :
    refillV r b t a n = (r, b, refillT r b t a n, n) ∧ t ≤ refillT r b t a n ∧ bucketOkV r b (refillT r b t a n) n = true ∧ refillT r b t a n ≤ mostInV r b (n - a) ∧
      ∀ m, a ≤ m → m ≤ n → refillT r b (refillT r b t a m) m n = refillT r b t a n := by
  have hb := (bucketOkV_iff r b t a).1 h
  have hT : ∀ n, a ≤ n → n ≤ 2147483647 → t ≤ refillT r b t a n ∧ refillT r b t a n ≤ b := by
    intro n h1 h2
    have hp : 0 ≤ r * (n - a) := Int.mul_nonneg (by omega) (by omega)
    rw [refillT_eq r b t a n h h1 h2]
    generalize r * (n - a) = p at *
    split <;> omega
  have ok : ∀ n, a ≤ n → n ≤ 2147483647 → bucketOkV r b (refillT r b t a n) n = true := by
    intro n h1 h2
    have := hT n h1 h2
    exact (bucketOkV_iff _ _ _ _).2 ⟨hb.1, hb.2.1, by omega, by omega⟩
  refine ⟨?_, (hT n h1 h2).1, ok n h1 h2, ?_, fun m m1 m2 => ?_⟩
  · unfold refillV refillOk
    rw [h, if_pos (by simp [inB]; omega)]
  · have hp : 0 ≤ r * (n - a) := Int.mul_nonneg (by omega) (by omega)
    rw [refillT_eq r b t a n h h1 h2]
    unfold mostInV addv mulv
    rw [capv_id (n := r) (by omega) (by omega), capv_id (n := n - a) (by omega) (by omega), capv_id (n := b) (by omega) (by omega)]
    generalize r * (n - a) = p at *
    unfold capv
    (repeat' split) <;> omega
  · have hm := hT m m1 (by omega)
    rw [refillT_eq r b _ m n (ok m m1 (by omega)) m2 h2, refillT_eq r b t a n h h1 h2, refillT_eq r b t a m h m1 (by omega)]
    have hp : 0 ≤ r * (m - a) := Int.mul_nonneg (by omega) (by omega)
    have hq : 0 ≤ r * (n - m) := Int.mul_nonneg (by omega) (by omega)
    have hs : r * (n - a) = r * (m - a) + r * (n - m) := by rw [← Int.mul_add]; congr 1; omega
    rw [hs]
    generalize r * (m - a) = p at *
    generalize r * (n - m) = q at *
    (repeat' split) <;> omega
theorem buckets_j1 (k : Nat) (r b t a n : Int) (hb : bucketOkV r b t a = true) :
    laws_FnBuckets.j1 (k + 1 + 1) n false r b t a (refillV r b t a n).1 (refillV r b t a n).2.1 (refillV r b t a n).2.2.1 (refillV r b t a n).2.2.2 = some true := by
  have hb' := (bucketOkV_iff r b t a).1 hb
  simp only [laws_FnBuckets.j1, impl_BucketOk_eq, impl_Refill_eq, impl_MostIn_eq, Option.bind_some, Bool.false_eq_true, if_false]
  by_cases hn : a ≤ n ∧ n ≤ 2147483647
  · obtain ⟨e, h1, h2, h3, h4⟩ := refill_laws r b t a n hb hn.1 hn.2
    have w1 : wrap64 (n - a) = n - a := wrap_of (by omega) (by omega)
    have w2 : Int.tdiv (n - a) 2 = (n - a) / 2 := Int.tdiv_eq_ediv_of_nonneg (by omega)
    have w3 : wrap64 ((n - a) / 2) = (n - a) / 2 := wrap_of (by omega) (by omega)
    have w4 : wrap64 (a + (n - a) / 2) = a + (n - a) / 2 := wrap_of (by omega) (by omega)
    rw [w1, w2, w3, w4]
    generalize hm : a + (n - a) / 2 = m
    obtain ⟨f, g1, g2, g3, g4⟩ := refill_laws r b t a m hb (by omega) (by omega)
    obtain ⟨f', _, _, _, _⟩ := refill_laws r b (refillT r b t a m) m n g2 (by omega) hn.2
    rw [e, f]
    simp only
    rw [f', h4 m (by omega) (by omega)]
    simp only
    rw [if_pos h2, if_pos h1, if_neg (by omega), if_neg (by omega), if_pos trivial]
    simp [h3]
  · have e : refillV r b t a n = (r, b, t, a) := by
      unfold refillV refillOk
      rw [if_neg]
      simp only [hb, Bool.true_and, inB, Bool.and_eq_true, decide_eq_true_eq]
      exact hn
    rw [e]
    simp only
    rw [if_pos hb, if_pos (Int.le_refl _)]
    by_cases c1 : n < a
    · rw [if_pos c1]
    · rw [if_neg c1, if_pos (by omega)]
theorem buckets_j0 (k : Nat) (r b t a n r' b' t' a' q : Int) :
    laws_FnBuckets.j0 (k + 1 + 1 + 1) n q (spendV r' b' t' a' q).2.2.2.2 false r b t a (refillV r b t a n).1 (refillV r b t a n).2.1 (refillV r b t a n).2.2.1 (refillV r b t a n).2.2.2 r' b' t' a'
      (spendV r' b' t' a' q).1 (spendV r' b' t' a' q).2.1 (spendV r' b' t' a' q).2.2.1 (spendV r' b' t' a' q).2.2.2.1 = some true := by
  simp only [laws_FnBuckets.j0, impl_BucketOk_eq, Option.bind_some, Bool.false_eq_true, if_false]
  by_cases hb : bucketOkV r b t a = true
  case neg =>
    have e : refillV r b t a n = (r, b, t, a) := by
      unfold refillV refillOk
      rw [if_neg]
      simp [hb]
    rw [if_neg hb, e]
    simp
  rw [if_pos hb]
  have hj := buckets_j1 k r b t a n hb
  by_cases hs : (bucketOkV r' b' t' a' && inB q 0 t') = true
  · have e : spendV r' b' t' a' q = (r', b', wrap64 (t' - q), a', true) := by unfold spendV; rw [if_pos hs]
    rw [e]
    simp only
    simp only [Bool.and_eq_true, inB, decide_eq_true_eq] at hs
    have hc := (bucketOkV_iff _ _ _ _).1 hs.1
    have w1 : wrap64 (t' - q) = t' - q := wrap_of (by omega) (by omega)
    have w2 : wrap64 (t' - q + q) = t' := by rw [show t' - q + q = t' by omega]; exact wrap_of (by omega) (by omega)
    rw [if_pos trivial, w1, if_pos ((bucketOkV_iff _ _ _ _).2 ⟨hc.1, hc.2.1, by omega, hc.2.2.2⟩), if_pos w2]
    exact hj
  · have e : spendV r' b' t' a' q = (r', b', t', a', false) := by unfold spendV; rw [if_neg hs]
    rw [e]
    simp only [beq_self_eq_true, Bool.not_true, Bool.or_self, Bool.false_eq_true, if_false]
    exact hj
theorem FnBuckets : ∀ (l0 : (List Int)), ((l0.length ≤ maxLen ∧ ∀ y5 ∈ l0, (Lit.int .u8 y5).wf = true)) → ∃ k, laws_FnBuckets.f k l0 = some true := by
  intro l hg
  by_cases hb : (l.length : Int) > 1048576
  · refine ⟨0, ?_⟩
    simp [laws_FnBuckets.f, laws_big.f, hb]
  have hl : l.length ≤ 140737488351232 := by omega
  obtain ⟨r, b, t, a, n, K1, h1⟩ := DrawRefill_ex l hl
  obtain ⟨r', b', t', a', q, K2, h2⟩ := DrawSpend_ex l hl
  obtain ⟨c1, c2, c3, c4, K3, h3⟩ := DrawBucketOk_ex l hl
  obtain ⟨e1, e2, e3, e4, e5, K4, h4⟩ := DrawMostIn_ex l hl
  obtain ⟨u, v, K5, h5⟩ := DrawBucketNew_ex l hl
  simp only at h1 h2 h3 h4 h5
  generalize hk : K1 + K2 + K3 + K4 + K5 = k
  refine ⟨k + 1 + 1 + 1, ?_⟩
  simp only [laws_FnBuckets.f, laws_big.f, Option.bind_some, h1 (k + 1 + 1 + 1) (by omega), h2 (k + 1 + 1 + 1) (by omega), h3 (k + 1 + 1 + 1) (by omega), h4 (k + 1 + 1 + 1) (by omega), h5 (k + 1 + 1 + 1) (by omega),
    impl_Refill_eq, spec_Refill_eq, impl_Spend_eq, spec_Spend_eq, impl_BucketOk_eq, spec_BucketOk_eq, impl_MostIn_eq, spec_MostIn_eq, impl_BucketNew.f, spec_BucketNew.f]
  rw [if_neg (by simpa using hb)]
  simp only [beq_self_eq_true, Bool.not_true, Bool.or_self, Bool.false_eq_true, if_false, bne_self_eq_false, if_true]
  exact buckets_j0 k r b t a n r' b' t' a' q

end Go.Proofs.Yteiabkojcfjldaa.Pure
