/- What is added, taken away or multiplied stays within bounds, and is just that, if it is within. Conditions: none beyond the statement's own. -/
import Derived.Test.YteiabkojcfjldaaQFnAmountsx
set_option linter.unusedVariables false
set_option linter.unusedSimpArgs false
namespace Go.Proofs.Yteiabkojcfjldaa.Pure
open Go.RowKit Go.Proofs.Yteiabkojcfjldaa.QFnAmounts Go.Proofs.YteiabkojcfjldaaW.PrintWords Go.Proofs.YteiabkojcfjldaaW.PrintLast Go.Proofs.YteiabkojcfjldaaW.PrintMore


/-- A loop over an index: from a state that is good, with enough rounds, it comes to an end that meets what is told of it. -/
theorem loop_ex {σ β : Type} {L : Nat → σ → Int → Option β} {n K : Nat} {I : σ → Nat → Prop} {Post : σ → Nat → β → Prop}
    (hend : ∀ s, I s n → ∃ r, Post s n r ∧ ∀ k, L (k + 1) s (n : Int) = some r)
    (hstep : ∀ s (i : Nat), i < n → I s i → (∃ r, Post s i r ∧ ∀ k, K ≤ k → L (k + 1) s (i : Int) = some r) ∨
      ∃ s', I s' (i + 1) ∧ (∀ k, K ≤ k → L (k + 1) s (i : Int) = L k s' ((i : Int) + 1)) ∧ ∀ r, Post s' (i + 1) r → Post s i r) :
    ∀ (d : Nat) s (i : Nat), i + d = n → I s i → ∃ r, Post s i r ∧ ∀ k, K + d < k → L k s (i : Int) = some r := by
  intro d
  induction d with
  | zero =>
    intro s i hd hI
    obtain rfl : i = n := by omega
    obtain ⟨r, hp, hr⟩ := hend s hI
    refine ⟨r, hp, fun k hk => ?_⟩
    obtain ⟨k, rfl⟩ : ∃ m, k = m + 1 := ⟨k - 1, by omega⟩
    exact hr k
  | succ d ih =>
    intro s i hd hI
    rcases hstep s i (by omega) hI with ⟨r, hp, hr⟩ | ⟨s', hI', he, hp⟩
    · refine ⟨r, hp, fun k hk => ?_⟩
      obtain ⟨k, rfl⟩ : ∃ m, k = m + 1 := ⟨k - 1, by omega⟩
      exact hr k (by omega)
    · obtain ⟨r, hq, hr⟩ := ih s' (i + 1) (by omega) hI'
      refine ⟨r, hp r hq, fun k hk => ?_⟩
      obtain ⟨k, rfl⟩ : ∃ m, k = m + 1 := ⟨k - 1, by omega⟩
      rw [he k (by omega)]
      have := hr k (by omega)
      rw [Int.natCast_add] at this
      exact this
theorem ev_at {α : Type} {g : Nat → Option α} {r : α} (K : Nat) (h : ∀ k, K < k → g k = some r) : Ev g r := ⟨K + 1, fun k hk => h k (by omega)⟩
theorem wrap_of {x : Int} (h0 : -9223372036854775808 ≤ x) (h1 : x ≤ 9223372036854775807) : wrap64 x = x := by
  unfold wrap64
  omega
theorem wrap_nat1 {i n : Nat} (h : i < n) (hn : n ≤ 9223372036854775807) : wrap64 ((i : Int) + 1) = (i : Int) + 1 := wrap_of (by omega) (by omega)
theorem lt_cast {i n : Nat} (h : i < n) : (i : Int) < (n : Int) := by omega
theorem nn_cast (i : Nat) : 0 ≤ (i : Int) := by omega
theorem not_lt_cast (n : Nat) : ¬ (n : Int) < (n : Int) := by omega
/-- What is written cell by cell. -/
theorem fill_set {α : Type} (l : List α) (z : α) (i : Nat) (h : i < l.length) : (l.take i ++ List.replicate (l.length - i) z).set i l[i] = l.take (i + 1) ++ List.replicate (l.length - (i + 1)) z := by
  have e1 : l.length - i = (l.length - (i + 1)) + 1 := by omega
  have e2 : (l.take i).length = i := by rw [List.length_take]; omega
  rw [e1, List.replicate_succ, List.set_append_right _ _ (by omega), e2, Nat.sub_self, List.set_cons_zero, List.take_succ_eq_append_getElem h, List.append_assoc]
  rfl
theorem fill_len {α : Type} (l : List α) (z : α) (i : Nat) (h : i ≤ l.length) : (l.take i ++ List.replicate (l.length - i) z).length = l.length := by
  rw [List.length_append, List.length_take, List.length_replicate]
  omega

theorem band_range (x : Int) (m : Nat) (hm : m < 9223372036854775808) : 0 ≤ Go.bits .and .i64 x (m : Int) ∧ Go.bits .and .i64 x (m : Int) ≤ m := by
  have e1 : (BitVec.ofInt 64 (m : Int)).toNat = m := by
    rw [BitVec.ofInt_natCast, BitVec.toNat_ofNat]
    exact Nat.mod_eq_of_lt (by omega)
  have e2 : Go.bits .and .i64 x (m : Int) = IntKind.i64.wrap ((BitVec.ofInt 64 x &&& BitVec.ofInt 64 (m : Int)).toNat : Int) := rfl
  have h : (BitVec.ofInt 64 x).toNat &&& m ≤ m := Nat.and_le_right
  rw [e2, BitVec.toNat_and, e1, IntKind.wrap_i64]
  omega
/-- A reader's place is in what it reads. -/
def RdOk (s : List Int) (i : Int) : Prop := 0 ≤ i ∧ i ≤ s.length ∧ s.length ≤ 140737488351232
theorem l1Byte_ex (s : List Int) (i h : Int) (H : RdOk s i) : ∃ b j h', spec_l1Byte.f s i h = some (b, j, h') ∧ 0 ≤ b ∧ b ≤ 255 ∧ RdOk s j := by
  obtain ⟨h0, h1, h2⟩ := H
  unfold spec_l1Byte.f
  by_cases hc : i < (s.length : Int)
  · rw [if_pos hc, if_pos h0]
    refine ⟨_, _, _, rfl, (band_range _ 255 (by omega)).1, (band_range _ 255 (by omega)).2, ?_⟩
    rw [wrap_of (by omega) (by omega)]
    exact ⟨by omega, by omega, h2⟩
  · rw [if_neg hc]
    exact ⟨_, _, _, rfl, (band_range _ 255 (by omega)).1, (band_range _ 255 (by omega)).2, h0, h1, h2⟩
theorem l1Below_ex (s : List Int) (i h n : Int) (H : RdOk s i) : ∃ v j h', spec_l1Below.f s i h n = some (v, j, h') ∧ 0 ≤ v ∧ (0 < n → v < n) ∧ (n ≤ 0 → v = 0) ∧ RdOk s j := by
  unfold spec_l1Below.f
  by_cases h1 : n ≤ 0
  · rw [if_pos h1]
    exact ⟨0, i, h, rfl, by omega, fun _ => by omega, fun _ => rfl, H⟩
  · rw [if_neg h1]
    by_cases h2 : n ≤ 256
    · rw [if_pos h2]
      obtain ⟨b, j, h', e, b0, b1, H1⟩ := l1Byte_ex s i h H
      rw [e, Option.bind_some, if_neg (by omega), Int.tmod_eq_emod_of_nonneg b0]
      exact ⟨_, _, _, rfl, Int.emod_nonneg _ (by omega), fun _ => Int.emod_lt_of_pos _ (by omega), fun _ => by omega, H1⟩
    · rw [if_neg h2]
      obtain ⟨b, j, h', e, b0, b1, H1⟩ := l1Byte_ex s i h H
      obtain ⟨b', j', h'', e', b0', b1', H2⟩ := l1Byte_ex s j h' H1
      obtain ⟨b'', j'', h3, e'', b0'', b1'', H3⟩ := l1Byte_ex s j' h'' H2
      simp only [e, e', e'', Option.bind_some]
      have w1 : wrap64 (b * 65536) = b * 65536 := wrap_of (by omega) (by omega)
      have w2 : wrap64 (b' * 256) = b' * 256 := wrap_of (by omega) (by omega)
      have w3 : wrap64 (b * 65536 + b' * 256) = b * 65536 + b' * 256 := wrap_of (by omega) (by omega)
      have w4 : wrap64 (b * 65536 + b' * 256 + b'') = b * 65536 + b' * 256 + b'' := wrap_of (by omega) (by omega)
      rw [if_neg (by omega), w1, w2, w3, w4, Int.tmod_eq_emod_of_nonneg (by omega)]
      exact ⟨_, _, _, rfl, Int.emod_nonneg _ (by omega), fun _ => Int.emod_lt_of_pos _ (by omega), fun _ => by omega, H3⟩
theorem l1New_ex (l : List Int) (hl : l.length ≤ 140737488351232) : ∃ h, Ev (fun k => spec_l1New.f k l) (l, 0, h) := by
  obtain ⟨r, ⟨h, rfl⟩, hr⟩ := loop_ex (σ := Int) (L := fun k s i => spec_l1New.l0 k l s i) (n := l.length) (K := 0)
    (I := fun _ _ => True) (Post := fun _ _ r => ∃ h, r = (l, 0, h))
    (fun s _ => ⟨_, ⟨s, rfl⟩, fun k => by
      simp only [spec_l1New.l0]
      rw [if_neg (not_lt_cast _)]⟩)
    (fun s i hi _ => by
      by_cases h4 : (i : Int) < 4000
      · refine .inr ⟨Go.bits .and .i64 (wrap64 ((wrap64 ((wrap64 (s * 137)) + (wrap64 (rd l (i : Int))))) + 11)) 1073741823, trivial, fun k _ => ?_, fun _ h => h⟩
        simp only [spec_l1New.l0]
        rw [if_pos (lt_cast hi), if_pos h4, if_pos (nn_cast i), wrap_nat1 hi (by omega)]
      · refine .inl ⟨_, ⟨s, rfl⟩, fun k _ => ?_⟩
        simp only [spec_l1New.l0]
        rw [if_pos (lt_cast hi), if_neg h4]) l.length (wrap64 (140371 + (l.length : Int))) 0 (by omega) trivial
  exact ⟨h, ev_at (0 + l.length) fun k hk => hr k hk⟩
theorem rdOk_0 (l : List Int) (hl : l.length ≤ 140737488351232) : RdOk l 0 := ⟨by omega, by omega, hl⟩

theorem l1Once_ex (s : List Int) (i h n : Int) (H : RdOk s i) : ∃ b j h', spec_l1Once.f s i h n = some (b, j, h') ∧ RdOk s j := by
  obtain ⟨v, j, h', e, _, _, _, H1⟩ := l1Below_ex s i h n H
  exact ⟨v == 0, j, h', by simp only [spec_l1Once.f, e, Option.bind_some], H1⟩

theorem rd_nat (l : List Int) (i : Nat) (h : i < l.length) : rd l (i : Int) = l[i] := by
  simp [rd, List.getD_eq_getElem?_getD, h]

theorem l1Int_ex (s : List Int) (i h : Int) (l : List Int) (hl : 0 < l.length) (H : RdOk s i) : ∃ v j h', spec_l1Int.f s i h l = some (v, j, h') ∧ v ∈ l ∧ RdOk s j := by
  obtain ⟨v, j, h', e, v0, v1, _, H1⟩ := l1Below_ex s i h (l.length : Int) H
  have hv : v < (l.length : Int) := v1 (by omega)
  obtain ⟨m, rfl⟩ : ∃ m : Nat, v = m := ⟨v.toNat, by omega⟩
  have hm : m < l.length := by omega
  refine ⟨l[m], j, h', ?_, List.getElem_mem hm, H1⟩
  simp only [spec_l1Int.f, e, Option.bind_some]
  rw [if_pos v0, if_pos hv, rd_nat _ _ hm]

theorem l1Odd_ex (s : List Int) (i h : Int) (H : RdOk s i) : ∃ v j h', spec_l1Odd.f s i h = some (v, j, h') ∧ RdOk s j ∧ -9223372036854775808 ≤ v ∧ v ≤ 9223372036854775807 := by
  obtain ⟨v, j, h', e, hv, H1⟩ := l1Int_ex s i h [(-1), 0, 1, 2, 255, 256, 65535, 2147483647, 2147483648, 4294967295, 4294967296, (-2147483648), 9223372036854775807, (-9223372036854775808)] (by decide) H
  refine ⟨v, j, h', by simp only [spec_l1Odd.f, e, Option.bind_some], H1, ?_⟩
  simp only [List.mem_cons, List.not_mem_nil, or_false] at hv
  omega
theorem l1Raw_ex (s : List Int) (i h : Int) (H : RdOk s i) : ∃ v j h', spec_l1Raw.f s i h = some (v, j, h') ∧ RdOk s j ∧ -9223372036854775808 ≤ v ∧ v ≤ 9223372036854775807 := by
  obtain ⟨b, j, h', e, H1⟩ := l1Once_ex s i h 2 H
  cases b with
  | true =>
    obtain ⟨v, j2, h2, e2, H2, hv⟩ := l1Odd_ex s j h' H1
    exact ⟨v, j2, h2, by simp only [spec_l1Raw.f, e, e2, Option.bind_some, if_true], H2, hv⟩
  | false =>
    obtain ⟨v, j2, h2, e2, hv, H2⟩ := l1Int_ex s j h' [(-2147483648), (-3), (-1), 0, 1, 3, 7, 65536, 2147483647, 2147483648] (by decide) H1
    refine ⟨v, j2, h2, by simp only [spec_l1Raw.f, e, e2, Option.bind_some, Bool.false_eq_true, if_false], H2, ?_⟩
    simp only [List.mem_cons, List.not_mem_nil, or_false] at hv
    omega

theorem DrawAdd_ex (l : List Int) (hl : l.length ≤ 140737488351232) : ∃ a b, Ev (fun k => spec_DrawAdd.f k l) (a, b) := by
  obtain ⟨h, K, hK⟩ := l1New_ex l hl
  obtain ⟨a, j, h', e, H1, _⟩ := l1Raw_ex l 0 h (rdOk_0 l hl)
  obtain ⟨b, j2, h2, e2, H2, _⟩ := l1Raw_ex l j h' H1
  refine ⟨a, b, K, fun k hk => ?_⟩
  have := hK k hk
  simp only at this
  simp only [spec_DrawAdd.f, this, e, e2, Option.bind_some]

theorem DrawSub_ex (l : List Int) (hl : l.length ≤ 140737488351232) : ∃ a b, Ev (fun k => spec_DrawSub.f k l) (a, b) := by
  obtain ⟨h, K, hK⟩ := l1New_ex l hl
  obtain ⟨a, j, h', e, H1, _⟩ := l1Raw_ex l 0 h (rdOk_0 l hl)
  obtain ⟨b, j2, h2, e2, H2, _⟩ := l1Raw_ex l j h' H1
  refine ⟨a, b, K, fun k hk => ?_⟩
  have := hK k hk
  simp only at this
  simp only [spec_DrawSub.f, this, e, e2, Option.bind_some]

theorem DrawMul_ex (l : List Int) (hl : l.length ≤ 140737488351232) : ∃ a b, Ev (fun k => spec_DrawMul.f k l) (a, b) := by
  obtain ⟨h, K, hK⟩ := l1New_ex l hl
  obtain ⟨a, j, h', e, H1, _⟩ := l1Raw_ex l 0 h (rdOk_0 l hl)
  obtain ⟨b, j2, h2, e2, H2, _⟩ := l1Raw_ex l j h' H1
  refine ⟨a, b, K, fun k hk => ?_⟩
  have := hK k hk
  simp only at this
  simp only [spec_DrawMul.f, this, e, e2, Option.bind_some]

def capv (n : Int) : Int := if n < 0 then 0 else if n > 2147483647 then 2147483647 else n
theorem capv_range (n : Int) : 0 ≤ capv n ∧ capv n ≤ 2147483647 := by unfold capv; (repeat' split) <;> omega
theorem capv_id {n : Int} (h0 : 0 ≤ n) (h1 : n ≤ 2147483647) : capv n = n := by unfold capv; (repeat' split) <;> omega
theorem spec_Cap_eq (a : Int) : spec_Cap.f a = some (capv a) := by unfold spec_Cap.f capv; (repeat' split) <;> rfl
theorem impl_Cap_eq (a : Int) : impl_Cap.f a = some (capv a) := by
  unfold impl_Cap.f capv mn mx
  congr 1
  (repeat' split) <;> omega

def addv (a b : Int) : Int := capv (capv a + capv b)
theorem wrap_add (a b : Int) : wrap64 (capv a + capv b) = capv a + capv b := by
  have := capv_range a
  have := capv_range b
  unfold wrap64
  omega

theorem spec_Add_eq (a b : Int) : spec_Add.f a b = some (addv a b) := by
  simp only [spec_Add.f, spec_Cap_eq, Option.bind_some, wrap_add, addv]
theorem impl_Add_eq (a b : Int) : impl_Add.f a b = some (addv a b) := by
  simp only [impl_Add.f, impl_Cap_eq, Option.bind_some, wrap_add, addv]

def subv (a b : Int) : Int := capv (capv a - capv b)
theorem wrap_sub (a b : Int) : wrap64 (capv a - capv b) = capv a - capv b := by
  have := capv_range a
  have := capv_range b
  unfold wrap64
  omega

theorem spec_Sub_eq (a b : Int) : spec_Sub.f a b = some (subv a b) := by
  simp only [spec_Sub.f, spec_Cap_eq, Option.bind_some, wrap_sub, subv]
theorem impl_Sub_eq (a b : Int) : impl_Sub.f a b = some (subv a b) := by
  simp only [impl_Sub.f, impl_Cap_eq, Option.bind_some, wrap_sub, subv]

def mulv (a b : Int) : Int := capv (capv a * capv b)
theorem wrap_mul (a b : Int) : wrap64 (capv a * capv b) = capv a * capv b := by
  have h1 := capv_range a
  have h2 := capv_range b
  have h3 : 0 ≤ capv a * capv b := Int.mul_nonneg h1.1 h2.1
  have h4 : capv a * capv b ≤ 2147483647 * 2147483647 := Int.mul_le_mul h1.2 h2.2 h2.1 (by decide)
  generalize capv a * capv b = p at h3 h4
  unfold wrap64
  omega

theorem spec_Mul_eq (a b : Int) : spec_Mul.f a b = some (mulv a b) := by
  simp only [spec_Mul.f, spec_Cap_eq, Option.bind_some, wrap_mul, mulv]
theorem impl_Mul_eq (a b : Int) : impl_Mul.f a b = some (mulv a b) := by
  simp only [impl_Mul.f, impl_Cap_eq, Option.bind_some, wrap_mul, mulv]

theorem amounts (a b : Int) : addv a b ≥ capv a ∧ addv b a = addv a b ∧ subv (addv a b) b ≤ capv a ∧ mulv a 1 = capv a := by
  have h1 := capv_range a
  have h2 := capv_range b
  have e1 : capv 1 = 1 := capv_id (by omega) (by omega)
  refine ⟨?_, ?_, ?_, ?_⟩
  · unfold addv
    generalize capv a = x at *
    generalize capv b = y at *
    unfold capv
    (repeat' split) <;> omega
  · unfold addv
    rw [Int.add_comm]
  · have h3 : addv a b ≤ capv a + capv b ∧ 0 ≤ addv a b ∧ addv a b ≤ 2147483647 := by
      unfold addv
      generalize capv a = x at *
      generalize capv b = y at *
      unfold capv
      (repeat' split) <;> omega
    unfold subv
    rw [capv_id h3.2.1 h3.2.2]
    generalize addv a b = z at *
    generalize capv a = x at *
    generalize capv b = y at *
    unfold capv
    (repeat' split) <;> omega
  · unfold mulv
    rw [e1, Int.mul_one, capv_id h1.1 h1.2]
theorem takes (c d : Int) : subv c d ≤ capv c ∧ (subv c d = 0 ∨ addv (subv c d) d = capv c) := by
  have h1 := capv_range c
  have h2 := capv_range d
  have h3 : 0 ≤ subv c d ∧ subv c d ≤ 2147483647 ∧ subv c d ≤ capv c ∧ (subv c d = 0 ∨ subv c d + capv d = capv c) := by
    unfold subv
    generalize capv c = x at *
    generalize capv d = y at *
    unfold capv
    (repeat' split) <;> omega
  refine ⟨h3.2.2.1, ?_⟩
  rcases h3.2.2.2 with h | h
  · exact .inl h
  · refine .inr ?_
    unfold addv
    rw [capv_id h3.1 h3.2.1, h, capv_id h1.1 h1.2]
theorem FnAmounts : ∀ (l0 : (List Int)), ((l0.length ≤ maxLen ∧ ∀ y5 ∈ l0, (Lit.int .u8 y5).wf = true)) → ∃ k, laws_FnAmounts.f k l0 = some true := by
  intro l hg
  by_cases hb : (l.length : Int) > 1048576
  · refine ⟨0, ?_⟩
    simp only [laws_FnAmounts.f, laws_big.f, Option.bind_some, decide_eq_true hb, if_true]
  · have hl : l.length ≤ 140737488351232 := by omega
    obtain ⟨a, b, K1, h1⟩ := DrawAdd_ex l hl
    obtain ⟨c, d, K2, h2⟩ := DrawSub_ex l hl
    obtain ⟨e, f, K3, h3⟩ := DrawMul_ex l hl
    simp only at h1 h2 h3
    refine ⟨K1 + K2 + K3 + 1, ?_⟩
    generalize hm : K1 + K2 + K3 = m
    obtain ⟨g1, g2, g3, g4⟩ := amounts a b
    obtain ⟨g5, g6⟩ := takes c d
    have g7 : mulv f e = mulv e f := by unfold mulv; rw [Int.mul_comm]
    have g8 : capv (mulv e f) = mulv e f := by
      have := capv_range (capv e * capv f)
      unfold mulv
      exact capv_id this.1 this.2
    simp only [laws_FnAmounts.f, laws_big.f, Option.bind_some, decide_eq_false hb, Bool.false_eq_true, if_false, h1 (m + 1) (by omega), h2 (m + 1) (by omega), h3 (m + 1) (by omega), impl_Add_eq, impl_Sub_eq, impl_Mul_eq, impl_Cap_eq, spec_Add_eq, spec_Sub_eq, spec_Mul_eq, spec_Cap_eq, if_true, bne_self_eq_false]
    simp only [laws_FnAmounts.j0, Option.bind_some, Bool.false_eq_true, if_false, impl_Add_eq, impl_Sub_eq, impl_Mul_eq, impl_Cap_eq, g2, g4, g7, g8, if_true, if_pos g1, if_pos g5, decide_eq_true g3]
    rcases g6 with g6 | g6
    · rw [if_pos g6]
    · by_cases hz : subv c d = 0
      · rw [if_pos hz]
      · rw [if_neg hz, if_pos g6]

end Go.Proofs.Yteiabkojcfjldaa.Pure
