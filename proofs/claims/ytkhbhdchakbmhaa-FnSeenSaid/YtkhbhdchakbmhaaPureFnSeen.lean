/- What failed, and how long it took, is as of some thing; more things never take that away. Conditions: none beyond the statement's own. -/
import Derived.Test.YtkhbhdchakbmhaaQFnSeenx
set_option linter.unusedVariables false
set_option linter.unusedSimpArgs false
namespace Go.Proofs.Ytkhbhdchakbmhaa.Pure
open Go.RowKit Go.Proofs.Ytkhbhdchakbmhaa.QFnSeen Go.Proofs.YtkhbhdchakbmhaaW.PrintWords Go.Proofs.YtkhbhdchakbmhaaW.PrintLast Go.Proofs.YtkhbhdchakbmhaaW.PrintMore


theorem rdIS (l : List S29) (i : Nat) (h : i < l.length) : rd_T29 l (i : Int) = l[i] := by
  simp [rd_T29, List.getD_eq_getElem?_getD, h]

/-- A loop over an index: from a state that is good, with enough rounds, it comes to an end that meets what is told of it. -/
theorem loop_ex {σ β : Type} {L : Nat → σ → Int → Option β} {n K : Nat} {I : σ → Nat → Prop} {Post : σ → Nat → β → Prop}
    (hend : ∀ s, I s n → ∃ r, Post s n r ∧ ∀ k, L (k + 1) s (n : Int) = some r)
    (hstep : ∀ s (i : Nat), i < n → I s i → (∃ r, Post s i r ∧ ∀ k, K ≤ k → L (k + 1) s (i : Int) = some r) ∨
      ∃ s', I s' (i + 1) ∧ (∀ k, K ≤ k → L (k + 1) s (i : Int) = L k s' ((i : Int) + 1)) ∧ ∀ r, Post s' (i + 1) r → Post s i r) :
    ∀ (d : Nat) s (i : Nat), i + d = n → I s i → ∃ r, Post s i r ∧ ∀ k, K + d < k → L k s (i : Int) = some r := by
  intro d
  induction d with
  | zero =>
    intro s i hd hI
    obtain rfl : i = n := by omega
    obtain ⟨r, hp, hr⟩ := hend s hI
    refine ⟨r, hp, fun k hk => ?_⟩
    obtain ⟨k, rfl⟩ : ∃ m, k = m + 1 := ⟨k - 1, by omega⟩
    exact hr k
  | succ d ih =>
    intro s i hd hI
    rcases hstep s i (by omega) hI with ⟨r, hp, hr⟩ | ⟨s', hI', he, hp⟩
    · refine ⟨r, hp, fun k hk => ?_⟩
      obtain ⟨k, rfl⟩ : ∃ m, k = m + 1 := ⟨k - 1, by omega⟩
      exact hr k (by omega)
    · obtain ⟨r, hq, hr⟩ := ih s' (i + 1) (by omega) hI'
      refine ⟨r, hp r hq, fun k hk => ?_⟩
      obtain ⟨k, rfl⟩ : ∃ m, k = m + 1 := ⟨k - 1, by omega⟩
      rw [he k (by omega)]
      have := hr k (by omega)
      rw [Int.natCast_add] at this
      exact this
theorem ev_at {α : Type} {g : Nat → Option α} {r : α} (K : Nat) (h : ∀ k, K < k → g k = some r) : Ev g r := ⟨K + 1, fun k hk => h k (by omega)⟩
theorem wrap_of {x : Int} (h0 : -9223372036854775808 ≤ x) (h1 : x ≤ 9223372036854775807) : wrap64 x = x := by
  unfold wrap64
  omega
theorem wrap_nat1 {i n : Nat} (h : i < n) (hn : n ≤ 9223372036854775807) : wrap64 ((i : Int) + 1) = (i : Int) + 1 := wrap_of (by omega) (by omega)
theorem lt_cast {i n : Nat} (h : i < n) : (i : Int) < (n : Int) := by omega
theorem nn_cast (i : Nat) : 0 ≤ (i : Int) := by omega
theorem not_lt_cast (n : Nat) : ¬ (n : Int) < (n : Int) := by omega
/-- What is written cell by cell. -/
theorem fill_set {α : Type} (l : List α) (z : α) (i : Nat) (h : i < l.length) : (l.take i ++ List.replicate (l.length - i) z).set i l[i] = l.take (i + 1) ++ List.replicate (l.length - (i + 1)) z := by
  have e1 : l.length - i = (l.length - (i + 1)) + 1 := by omega
  have e2 : (l.take i).length = i := by rw [List.length_take]; omega
  rw [e1, List.replicate_succ, List.set_append_right _ _ (by omega), e2, Nat.sub_self, List.set_cons_zero, List.take_succ_eq_append_getElem h, List.append_assoc]
  rfl
theorem fill_len {α : Type} (l : List α) (z : α) (i : Nat) (h : i ≤ l.length) : (l.take i ++ List.replicate (l.length - i) z).length = l.length := by
  rw [List.length_append, List.length_take, List.length_replicate]
  omega

def errV (l : List S29) : Int := ((l.filter fun x => x.f4).length : Int)
theorem errV_take (l : List S29) (i : Nat) (h : i < l.length) : errV (l.take (i + 1)) = errV (l.take i) + if l[i].f4 then 1 else 0 := by
  unfold errV
  rw [List.take_succ_eq_append_getElem h, List.filter_append]
  by_cases c : l[i].f4 = true <;> simp [c]
theorem errV_range (l : List S29) : 0 ≤ errV l ∧ errV l ≤ l.length := by
  unfold errV
  have := List.length_filter_le (fun x : S29 => x.f4) l
  omega
theorem spec_Errors_at (l : List S29) (hl : l.length ≤ 1048576) : ∀ k, l.length < k → spec_Errors.f k l = some (errV l) := by
  obtain ⟨r, hr, h⟩ := loop_ex (σ := Int) (L := fun k s i => spec_Errors.l0 k l s i) (n := l.length) (K := 0)
    (I := fun s i => s = errV (l.take i)) (Post := fun _ _ r => r = errV l)
    (fun s hI => ⟨_, rfl, fun k => by
      simp only [spec_Errors.l0]
      rw [if_neg (not_lt_cast _), hI, List.take_length]⟩)
    (fun s i hi hI => .inr ⟨errV (l.take (i + 1)), rfl, fun k hk => by
      have hb := errV_range (l.take i)
      have hb2 : (l.take i).length ≤ l.length := List.length_take_le' _ _
      simp only [spec_Errors.l0]
      rw [if_pos (lt_cast hi), if_pos (nn_cast i), rdIS _ _ hi, wrap_nat1 hi (by omega), errV_take _ _ hi, hI, wrap_of (by omega) (by omega)]
      by_cases c : l[i].f4 = true <;> simp [c], fun _ h => h⟩) l.length 0 0 (by omega) (by simp [errV])
  subst hr
  exact fun k hk => h k (by omega)
theorem impl_Errors_at (l : List S29) (hl : l.length ≤ 1048576) : ∀ k, l.length < k → impl_Errors.f k l = some (errV l) := by
  obtain ⟨r, hr, h⟩ := loop_ex (σ := Int) (L := fun k s i => impl_Errors.l0 k s l l.length i) (n := l.length) (K := 0)
    (I := fun s i => s = errV (l.take i)) (Post := fun _ _ r => r = errV l)
    (fun s hI => ⟨_, rfl, fun k => by
      simp only [impl_Errors.l0]
      rw [if_neg (not_lt_cast _), hI, List.take_length]⟩)
    (fun s i hi hI => .inr ⟨errV (l.take (i + 1)), rfl, fun k hk => by
      have hb := errV_range (l.take i)
      have hb2 : (l.take i).length ≤ l.length := List.length_take_le' _ _
      simp only [impl_Errors.l0]
      rw [if_pos (lt_cast hi), if_pos (nn_cast i), if_pos (lt_cast hi), rdIS _ _ hi, wrap_nat1 hi (by omega), errV_take _ _ hi, hI, wrap_of (by omega) (by omega)]
      by_cases c : l[i].f4 = true <;> simp [c], fun _ h => h⟩) l.length 0 0 (by omega) (by simp [errV])
  subst hr
  exact fun k hk => h k (by omega)

def capv (n : Int) : Int := if n < 0 then 0 else if n > 2147483647 then 2147483647 else n
theorem capv_range (n : Int) : 0 ≤ capv n ∧ capv n ≤ 2147483647 := by unfold capv; (repeat' split) <;> omega
theorem capv_id {n : Int} (h0 : 0 ≤ n) (h1 : n ≤ 2147483647) : capv n = n := by unfold capv; (repeat' split) <;> omega
theorem spec_Cap_eq (a : Int) : spec_Cap.f a = some (capv a) := by unfold spec_Cap.f capv; (repeat' split) <;> rfl
theorem impl_Cap_eq (a : Int) : impl_Cap.f a = some (capv a) := by
  unfold impl_Cap.f capv mn mx
  congr 1
  (repeat' split) <;> omega

def subv (a b : Int) : Int := capv (capv a - capv b)
theorem wrap_sub (a b : Int) : wrap64 (capv a - capv b) = capv a - capv b := by
  have := capv_range a
  have := capv_range b
  unfold wrap64
  omega

theorem spec_Sub_eq (a b : Int) : spec_Sub.f a b = some (subv a b) := by
  simp only [spec_Sub.f, spec_Cap_eq, Option.bind_some, wrap_sub, subv]
theorem impl_Sub_eq (a b : Int) : impl_Sub.f a b = some (subv a b) := by
  simp only [impl_Sub.f, impl_Cap_eq, Option.bind_some, wrap_sub, subv]

theorem spec_LengthOf_eq (a b c d : Int) (e : Bool) (l : List S47) : spec_LengthOf.f a b c d e l = some (subv d c) := by
  simp only [spec_LengthOf.f, spec_Sub_eq, Option.bind_some]
theorem impl_LengthOf_eq (a b c d : Int) (e : Bool) (l : List S47) : impl_LengthOf.f a b c d e l = some (subv d c) := by
  simp only [impl_LengthOf.f, impl_Sub_eq, Option.bind_some]

def lenV (x : S29) : Int := subv x.f3 x.f2
def longV (l : List S29) : Int := l.foldl (fun n x => mx n (lenV x)) 0
theorem longV_take (l : List S29) (i : Nat) (h : i < l.length) : longV (l.take (i + 1)) = mx (longV (l.take i)) (lenV l[i]) := by
  unfold longV
  rw [List.take_succ_eq_append_getElem h, List.foldl_append]
  rfl
theorem spec_Longest_at (l : List S29) (hl : l.length ≤ 1048576) : ∀ k, l.length < k → spec_Longest.f k l = some (longV l) := by
  obtain ⟨r, hr, h⟩ := loop_ex (σ := Int) (L := fun k s i => spec_Longest.l0 k l s i) (n := l.length) (K := 0)
    (I := fun s i => s = longV (l.take i)) (Post := fun _ _ r => r = longV l)
    (fun s hI => ⟨_, rfl, fun k => by
      simp only [spec_Longest.l0]
      rw [if_neg (not_lt_cast _), hI, List.take_length]⟩)
    (fun s i hi hI => .inr ⟨longV (l.take (i + 1)), rfl, fun k hk => by
      simp only [spec_Longest.l0]
      rw [if_pos (lt_cast hi), if_pos (nn_cast i), rdIS _ _ hi, spec_LengthOf_eq, Option.bind_some, Option.bind_some, wrap_nat1 hi (by omega), longV_take _ _ hi, hI]
      show (if lenV l[i] > _ then _ else _) = _
      unfold mx
      by_cases hc : longV (l.take i) < lenV l[i]
      · rw [if_pos hc, if_pos hc]
        rfl
      · rw [if_neg hc, if_neg hc], fun _ h => h⟩) l.length 0 0 (by omega) (by simp [longV])
  subst hr
  exact fun k hk => h k (by omega)
theorem impl_Longest_at (l : List S29) (hl : l.length ≤ 1048576) : ∀ k, l.length < k → impl_Longest.f k l = some (longV l) := by
  obtain ⟨r, hr, h⟩ := loop_ex (σ := Int) (L := fun k s i => impl_Longest.l0 k s l l.length i) (n := l.length) (K := 0)
    (I := fun s i => s = longV (l.take i)) (Post := fun _ _ r => r = longV l)
    (fun s hI => ⟨_, rfl, fun k => by
      simp only [impl_Longest.l0]
      rw [if_neg (not_lt_cast _), hI, List.take_length]⟩)
    (fun s i hi hI => .inr ⟨longV (l.take (i + 1)), rfl, fun k hk => by
      simp only [impl_Longest.l0]
      rw [if_pos (lt_cast hi), if_pos (nn_cast i), if_pos (lt_cast hi), rdIS _ _ hi, impl_LengthOf_eq, Option.bind_some, wrap_nat1 hi (by omega), longV_take _ _ hi, hI]
      rfl, fun _ h => h⟩) l.length 0 0 (by omega) (by simp [longV])
  subst hr
  exact fun k hk => h k (by omega)

theorem band_range (x : Int) (m : Nat) (hm : m < 9223372036854775808) : 0 ≤ Go.bits .and .i64 x (m : Int) ∧ Go.bits .and .i64 x (m : Int) ≤ m := by
  have e1 : (BitVec.ofInt 64 (m : Int)).toNat = m := by
    rw [BitVec.ofInt_natCast, BitVec.toNat_ofNat]
    exact Nat.mod_eq_of_lt (by omega)
  have e2 : Go.bits .and .i64 x (m : Int) = IntKind.i64.wrap ((BitVec.ofInt 64 x &&& BitVec.ofInt 64 (m : Int)).toNat : Int) := rfl
  have h : (BitVec.ofInt 64 x).toNat &&& m ≤ m := Nat.and_le_right
  rw [e2, BitVec.toNat_and, e1, IntKind.wrap_i64]
  omega
/-- A reader's place is in what it reads. -/
def RdOk (s : List Int) (i : Int) : Prop := 0 ≤ i ∧ i ≤ s.length ∧ s.length ≤ 140737488351232
theorem l1Byte_ex (s : List Int) (i h : Int) (H : RdOk s i) : ∃ b j h', spec_l1Byte.f s i h = some (b, j, h') ∧ 0 ≤ b ∧ b ≤ 255 ∧ RdOk s j := by
  obtain ⟨h0, h1, h2⟩ := H
  unfold spec_l1Byte.f
  by_cases hc : i < (s.length : Int)
  · rw [if_pos hc, if_pos h0]
    refine ⟨_, _, _, rfl, (band_range _ 255 (by omega)).1, (band_range _ 255 (by omega)).2, ?_⟩
    rw [wrap_of (by omega) (by omega)]
    exact ⟨by omega, by omega, h2⟩
  · rw [if_neg hc]
    exact ⟨_, _, _, rfl, (band_range _ 255 (by omega)).1, (band_range _ 255 (by omega)).2, h0, h1, h2⟩
theorem l1Below_ex (s : List Int) (i h n : Int) (H : RdOk s i) : ∃ v j h', spec_l1Below.f s i h n = some (v, j, h') ∧ 0 ≤ v ∧ (0 < n → v < n) ∧ (n ≤ 0 → v = 0) ∧ RdOk s j := by
  unfold spec_l1Below.f
  by_cases h1 : n ≤ 0
  · rw [if_pos h1]
    exact ⟨0, i, h, rfl, by omega, fun _ => by omega, fun _ => rfl, H⟩
  · rw [if_neg h1]
    by_cases h2 : n ≤ 256
    · rw [if_pos h2]
      obtain ⟨b, j, h', e, b0, b1, H1⟩ := l1Byte_ex s i h H
      rw [e, Option.bind_some, if_neg (by omega), Int.tmod_eq_emod_of_nonneg b0]
      exact ⟨_, _, _, rfl, Int.emod_nonneg _ (by omega), fun _ => Int.emod_lt_of_pos _ (by omega), fun _ => by omega, H1⟩
    · rw [if_neg h2]
      obtain ⟨b, j, h', e, b0, b1, H1⟩ := l1Byte_ex s i h H
      obtain ⟨b', j', h'', e', b0', b1', H2⟩ := l1Byte_ex s j h' H1
      obtain ⟨b'', j'', h3, e'', b0'', b1'', H3⟩ := l1Byte_ex s j' h'' H2
      simp only [e, e', e'', Option.bind_some]
      have w1 : wrap64 (b * 65536) = b * 65536 := wrap_of (by omega) (by omega)
      have w2 : wrap64 (b' * 256) = b' * 256 := wrap_of (by omega) (by omega)
      have w3 : wrap64 (b * 65536 + b' * 256) = b * 65536 + b' * 256 := wrap_of (by omega) (by omega)
      have w4 : wrap64 (b * 65536 + b' * 256 + b'') = b * 65536 + b' * 256 + b'' := wrap_of (by omega) (by omega)
      rw [if_neg (by omega), w1, w2, w3, w4, Int.tmod_eq_emod_of_nonneg (by omega)]
      exact ⟨_, _, _, rfl, Int.emod_nonneg _ (by omega), fun _ => Int.emod_lt_of_pos _ (by omega), fun _ => by omega, H3⟩
theorem l1New_ex (l : List Int) (hl : l.length ≤ 140737488351232) : ∃ h, Ev (fun k => spec_l1New.f k l) (l, 0, h) := by
  obtain ⟨r, ⟨h, rfl⟩, hr⟩ := loop_ex (σ := Int) (L := fun k s i => spec_l1New.l0 k l s i) (n := l.length) (K := 0)
    (I := fun _ _ => True) (Post := fun _ _ r => ∃ h, r = (l, 0, h))
    (fun s _ => ⟨_, ⟨s, rfl⟩, fun k => by
      simp only [spec_l1New.l0]
      rw [if_neg (not_lt_cast _)]⟩)
    (fun s i hi _ => by
      by_cases h4 : (i : Int) < 4000
      · refine .inr ⟨Go.bits .and .i64 (wrap64 ((wrap64 ((wrap64 (s * 137)) + (wrap64 (rd l (i : Int))))) + 11)) 1073741823, trivial, fun k _ => ?_, fun _ h => h⟩
        simp only [spec_l1New.l0]
        rw [if_pos (lt_cast hi), if_pos h4, if_pos (nn_cast i), wrap_nat1 hi (by omega)]
      · refine .inl ⟨_, ⟨s, rfl⟩, fun k _ => ?_⟩
        simp only [spec_l1New.l0]
        rw [if_pos (lt_cast hi), if_neg h4]) l.length (wrap64 (140371 + (l.length : Int))) 0 (by omega) trivial
  exact ⟨h, ev_at (0 + l.length) fun k hk => hr k hk⟩
theorem rdOk_0 (l : List Int) (hl : l.length ≤ 140737488351232) : RdOk l 0 := ⟨by omega, by omega, hl⟩

theorem l1Once_ex (s : List Int) (i h n : Int) (H : RdOk s i) : ∃ b j h', spec_l1Once.f s i h n = some (b, j, h') ∧ RdOk s j := by
  obtain ⟨v, j, h', e, _, _, _, H1⟩ := l1Below_ex s i h n H
  exact ⟨v == 0, j, h', by simp only [spec_l1Once.f, e, Option.bind_some], H1⟩

theorem rd_nat (l : List Int) (i : Nat) (h : i < l.length) : rd l (i : Int) = l[i] := by
  simp [rd, List.getD_eq_getElem?_getD, h]

theorem l1Int_ex (s : List Int) (i h : Int) (l : List Int) (hl : 0 < l.length) (H : RdOk s i) : ∃ v j h', spec_l1Int.f s i h l = some (v, j, h') ∧ v ∈ l ∧ RdOk s j := by
  obtain ⟨v, j, h', e, v0, v1, _, H1⟩ := l1Below_ex s i h (l.length : Int) H
  have hv : v < (l.length : Int) := v1 (by omega)
  obtain ⟨m, rfl⟩ : ∃ m : Nat, v = m := ⟨v.toNat, by omega⟩
  have hm : m < l.length := by omega
  refine ⟨l[m], j, h', ?_, List.getElem_mem hm, H1⟩
  simp only [spec_l1Int.f, e, Option.bind_some]
  rw [if_pos v0, if_pos hv, rd_nat _ _ hm]

theorem l1Str_ex (s : List Int) (i h : Int) (l : List ByteArray) (hl : 0 < l.length) (H : RdOk s i) : ∃ v j h', spec_l1Str.f s i h l = some (v, j, h') ∧ v ∈ l ∧ RdOk s j := by
  obtain ⟨v, j, h', e, v0, v1, _, H1⟩ := l1Below_ex s i h (l.length : Int) H
  have hv : v < (l.length : Int) := v1 (by omega)
  obtain ⟨m, rfl⟩ : ∃ m : Nat, v = m := ⟨v.toNat, by omega⟩
  have hm : m < l.length := by omega
  refine ⟨l[m], j, h', ?_, List.getElem_mem hm, H1⟩
  simp only [spec_l1Str.f, e, Option.bind_some]
  rw [if_pos v0, if_pos hv]
  simp [rdOf, List.getD_eq_getElem?_getD, hm]

theorem l2One_ex (s : List Int) (i h : Int) (a : ByteArray) (H : RdOk s i) : ∃ x b c d j h', spec_l2One.f s i h a = some (x, b, c, d, j, h') ∧ RdOk s j := by
  obtain ⟨o, j, h', e, H1⟩ := l1Once_ex s i h 2 H
  cases o with
  | true =>
    obtain ⟨v, j2, h2, e2, _, H2⟩ := l1Int_ex s j h' [0, 1, 5, 200, 500] (by decide) H1
    exact ⟨a, true, v, ⟨#[]⟩, j2, h2, by simp only [spec_l2One.f, e, e2, Option.bind_some, if_true], H2⟩
  | false =>
    obtain ⟨v, j2, h2, e2, _, H2⟩ := l1Str_ex s j h' [(⟨#[97]⟩ : ByteArray), (⟨#[98]⟩ : ByteArray), (⟨#[111, 107]⟩ : ByteArray), (⟨#[]⟩ : ByteArray)] (by decide) H1
    exact ⟨a, false, 0, v, j2, h2, by simp only [spec_l2One.f, e, e2, Option.bind_some, Bool.false_eq_true, if_false], H2⟩
theorem l2Draw_ex (s : List Int) (i h : Int) (H : RdOk s i) : ∃ l j h', (∀ k, 5 < k → spec_l2Draw.f k s i h = some (l, j, h')) ∧ l.length ≤ 5 ∧ RdOk s j := by
  obtain ⟨ys, hys⟩ : ∃ ys : List ByteArray, ys = [(⟨#[99, 111, 100, 101]⟩ : ByteArray), (⟨#[102, 97, 105, 108, 101, 100]⟩ : ByteArray), (⟨#[107]⟩ : ByteArray), (⟨#[112, 97, 116, 104]⟩ : ByteArray), (⟨#[117, 115, 101, 114]⟩ : ByteArray)] := ⟨_, rfl⟩
  have hn : ys.length = 5 := by rw [hys]; rfl
  obtain ⟨⟨l, j, h'⟩, ⟨hl, hj⟩, hr⟩ := loop_ex (σ := List S47 × Int × Int) (L := fun k x i => spec_l2Draw.l0 k x.1 ys ys.length i s x.2.1 x.2.2) (n := ys.length) (K := 0)
    (I := fun x i => x.1.length ≤ i ∧ RdOk s x.2.1) (Post := fun _ _ r => r.1.length ≤ 5 ∧ RdOk s r.2.1)
    (fun x hI => ⟨x, ⟨by omega, hI.2⟩, fun k => by
      simp only [spec_l2Draw.l0]
      rw [if_neg (not_lt_cast _)]⟩)
    (fun x i hi hI => by
      obtain ⟨o, j, h', e, H1⟩ := l1Once_ex s x.2.1 x.2.2 4 hI.2
      cases o with
      | true =>
        obtain ⟨a, b, c, d, j2, h2, e2, H2⟩ := l2One_ex s j h' (rdOf ByteArray.empty ys (i : Int)) H1
        refine .inr ⟨(x.1 ++ [(⟨a, b, c, d⟩ : S47)], j2, h2), ⟨by simp; omega, H2⟩, fun k _ => ?_, fun _ h => h⟩
        simp only [spec_l2Draw.l0]
        rw [if_pos (lt_cast hi), if_pos (nn_cast i), if_pos (lt_cast hi), e, Option.bind_some, if_pos rfl, e2, Option.bind_some, if_pos (by omega), wrap_nat1 hi (by omega)]
      | false =>
        refine .inr ⟨(x.1, j, h'), ⟨by simp only; omega, H1⟩, fun k _ => ?_, fun _ h => h⟩
        simp only [spec_l2Draw.l0]
        rw [if_pos (lt_cast hi), if_pos (nn_cast i), if_pos (lt_cast hi), e, Option.bind_some, if_neg (by simp), wrap_nat1 hi (by omega)]) ys.length ([], i, h) 0 (by omega) ⟨by simp, H⟩
  refine ⟨l, j, h', fun k hk => ?_, hl, hj⟩
  have := hr k (by omega)
  simp only [spec_l2Draw.f, Option.bind_some]
  rw [← hys]
  exact this

theorem l3Draw_ex (s : List Int) (i h : Int) (H : RdOk s i) : ∃ a b c d e l j h', (∀ k, 5 < k → spec_l3Draw.f k s i h = some (a, b, c, d, e, l, j, h')) ∧ l.length ≤ 5 ∧ RdOk s j := by
  obtain ⟨v1, j1, h1, e1, _, _, _, H1⟩ := l1Below_ex s i h 5 H
  obtain ⟨v2, j2, h2, e2, _, _, _, H2⟩ := l1Below_ex s j1 h1 9 H1
  obtain ⟨v3, j3, h3, e3, _, _, _, H3⟩ := l1Below_ex s j2 h2 9 H2
  obtain ⟨v4, j4, h4, e4, H4⟩ := l1Once_ex s j3 h3 4 H3
  obtain ⟨l, j5, h5, e5, hl, H5⟩ := l2Draw_ex s j4 h4 H4
  obtain ⟨v6, j6, h6, e6, _, H6⟩ := l1Int_ex s j5 h5 [0, 1, 5, 20] (by decide) H5
  refine ⟨wrap64 (1 + v1), wrap64 (1 + v2), v3, wrap64 (v3 + v6), v4, l, j6, h6, fun k hk => ?_, hl, H6⟩
  simp only [spec_l3Draw.f, e1, e2, e3, e4, e5 k hk, e6, Option.bind_some]
theorem l3List_ex (s : List Int) (i h : Int) (H : RdOk s i) : ∃ l j h', (∀ k, 12 < k → spec_l3List.f k s i h = some (l, j, h')) ∧ l.length ≤ 8 ∧ RdOk s j := by
  obtain ⟨c, j1, h1, e1, c0, c1, _, H1⟩ := l1Below_ex s i h 5 H
  have c2 := c1 (by omega)
  obtain ⟨m, rfl⟩ : ∃ m : Nat, c = m := ⟨c.toNat, by omega⟩
  have key : ∀ (m : Nat) (x : List S29) (j h : Int), RdOk s j → x.length + m ≤ 8 → ∃ l j' h', (∀ k, 6 + m < k → spec_l3List.l0 k x (m : Int) s j h = some (l, j', h')) ∧ l.length ≤ 8 ∧ RdOk s j' := by
    intro m
    induction m with
    | zero =>
      intro x j h hj hx
      refine ⟨x, j, h, fun k hk => ?_, by omega, hj⟩
      obtain ⟨k, rfl⟩ : ∃ q, k = q + 1 := ⟨k - 1, by omega⟩
      simp only [spec_l3List.l0]
      rw [if_neg (by omega)]
    | succ m ih =>
      intro x j h hj hx
      obtain ⟨a, b, c, d, e, l, j2, h2, e2, _, H2⟩ := l3Draw_ex s j h hj
      obtain ⟨l', j3, h3, e3, hl3, H3⟩ := ih (x ++ [(⟨a, b, c, d, e, l⟩ : S29)]) j2 h2 H2 (by simp; omega)
      refine ⟨l', j3, h3, fun k hk => ?_, hl3, H3⟩
      obtain ⟨k, rfl⟩ : ∃ q, k = q + 1 := ⟨k - 1, by omega⟩
      have w : wrap64 (((m + 1 : Nat) : Int) - 1) = (m : Int) := by rw [wrap_of (by omega) (by omega)]; omega
      simp only [spec_l3List.l0]
      rw [if_pos (by omega), e2 k (by omega), Option.bind_some, if_pos (by omega), w]
      exact e3 k (by omega)
  obtain ⟨l, j2, h2, e2, hl, H2⟩ := key m [] j1 h1 H1 (by simp; omega)
  refine ⟨l, j2, h2, fun k hk => ?_, hl, H2⟩
  simp only [spec_l3List.f, e1, Option.bind_some]
  exact e2 k (by omega)
theorem DrawErrors_ex (l : List Int) (hl : l.length ≤ 140737488351232) : ∃ x, Ev (fun k => spec_DrawErrors.f k l) x ∧ x.length ≤ 8 := by
  obtain ⟨h, K, hK⟩ := l1New_ex l hl
  obtain ⟨x, j, h', e, hx, _⟩ := l3List_ex l 0 h (rdOk_0 l hl)
  refine ⟨x, ⟨K + 13, fun k hk => ?_⟩, hx⟩
  have := hK k (by omega)
  simp only at this
  simp only [spec_DrawErrors.f, this, e k (by omega), Option.bind_some]

theorem l1Odd_ex (s : List Int) (i h : Int) (H : RdOk s i) : ∃ v j h', spec_l1Odd.f s i h = some (v, j, h') ∧ RdOk s j ∧ -9223372036854775808 ≤ v ∧ v ≤ 9223372036854775807 := by
  obtain ⟨v, j, h', e, hv, H1⟩ := l1Int_ex s i h [(-1), 0, 1, 2, 255, 256, 65535, 2147483647, 2147483648, 4294967295, 4294967296, (-2147483648), 9223372036854775807, (-9223372036854775808)] (by decide) H
  refine ⟨v, j, h', by simp only [spec_l1Odd.f, e, Option.bind_some], H1, ?_⟩
  simp only [List.mem_cons, List.not_mem_nil, or_false] at hv
  omega
theorem l1Raw_ex (s : List Int) (i h : Int) (H : RdOk s i) : ∃ v j h', spec_l1Raw.f s i h = some (v, j, h') ∧ RdOk s j ∧ -9223372036854775808 ≤ v ∧ v ≤ 9223372036854775807 := by
  obtain ⟨b, j, h', e, H1⟩ := l1Once_ex s i h 2 H
  cases b with
  | true =>
    obtain ⟨v, j2, h2, e2, H2, hv⟩ := l1Odd_ex s j h' H1
    exact ⟨v, j2, h2, by simp only [spec_l1Raw.f, e, e2, Option.bind_some, if_true], H2, hv⟩
  | false =>
    obtain ⟨v, j2, h2, e2, hv, H2⟩ := l1Int_ex s j h' [(-2147483648), (-3), (-1), 0, 1, 3, 7, 65536, 2147483647, 2147483648] (by decide) H1
    refine ⟨v, j2, h2, by simp only [spec_l1Raw.f, e, e2, Option.bind_some, Bool.false_eq_true, if_false], H2, ?_⟩
    simp only [List.mem_cons, List.not_mem_nil, or_false] at hv
    omega

theorem l1Names_ex (s : List Int) (i h : Int) (H : RdOk s i) : ∃ v j h', spec_l1Names.f s i h = some (v, j, h') ∧ RdOk s j := by
  obtain ⟨v, j, h', e, _, H1⟩ := l1Str_ex s i h [(⟨#[107]⟩ : ByteArray), (⟨#[112, 97, 116, 104]⟩ : ByteArray), (⟨#[99, 111, 100, 101]⟩ : ByteArray), (⟨#[117, 115, 101, 114]⟩ : ByteArray)] (by decide) H
  exact ⟨v, j, h', by simp only [spec_l1Names.f, e, Option.bind_some], H1⟩
theorem l1AnyName_ex (s : List Int) (i h : Int) (H : RdOk s i) : ∃ v j h', spec_l1AnyName.f s i h = some (v, j, h') ∧ RdOk s j := by
  obtain ⟨o, j, h', e, H1⟩ := l1Once_ex s i h 2 H
  cases o with
  | true =>
    obtain ⟨v, j2, h2, e2, H2⟩ := l1Names_ex s j h' H1
    exact ⟨v, j2, h2, by simp only [spec_l1AnyName.f, e, e2, Option.bind_some, if_true], H2⟩
  | false =>
    obtain ⟨v, j2, h2, e2, _, H2⟩ := l1Str_ex s j h' [(⟨#[]⟩ : ByteArray), (⟨#[75]⟩ : ByteArray), (⟨#[110, 105, 110, 101, 99, 104, 97, 114, 115]⟩ : ByteArray), (⟨#[101, 105, 103, 104, 116, 97, 98, 99]⟩ : ByteArray), (⟨#[97, 32, 98]⟩ : ByteArray), (⟨#[97, 49]⟩ : ByteArray), (⟨#[102, 97, 105, 108, 101, 100]⟩ : ByteArray), (⟨#[102, 97, 105, 108, 101, 100, 120]⟩ : ByteArray)] (by decide) H1
    exact ⟨v, j2, h2, by simp only [spec_l1AnyName.f, e, e2, Option.bind_some, Bool.false_eq_true, if_false], H2⟩
theorem l1Plain_ex (s : List Int) (i h : Int) (H : RdOk s i) : ∃ v j h', spec_l1Plain.f s i h = some (v, j, h') ∧ RdOk s j := by
  obtain ⟨o, j, h', e, H1⟩ := l1Once_ex s i h 6 H
  cases o with
  | true =>
    obtain ⟨v, j2, h2, e2, _, H2⟩ := l1Str_ex s j h' [(⟨#[]⟩ : ByteArray), (⟨#[34]⟩ : ByteArray), (⟨#[127]⟩ : ByteArray), (⟨#[31]⟩ : ByteArray), (⟨#[116, 119, 101, 110, 116, 121, 32, 98, 121, 116, 101, 115, 32, 97, 114, 101, 32, 104, 101, 114, 101]⟩ : ByteArray), (⟨#[116, 119, 101, 110, 116, 121, 98, 121, 116, 101, 115, 97, 114, 101, 104, 101, 114, 101, 50, 48]⟩ : ByteArray), (⟨#[126, 32]⟩ : ByteArray)] (by decide) H1
    exact ⟨v, j2, h2, by simp only [spec_l1Plain.f, e, e2, Option.bind_some, if_true], H2⟩
  | false =>
    obtain ⟨v, j2, h2, e2, _, H2⟩ := l1Str_ex s j h' [(⟨#[97]⟩ : ByteArray), (⟨#[98]⟩ : ByteArray), (⟨#[111, 107]⟩ : ByteArray), (⟨#[120, 32, 121]⟩ : ByteArray)] (by decide) H1
    exact ⟨v, j2, h2, by simp only [spec_l1Plain.f, e, e2, Option.bind_some, Bool.false_eq_true, if_false], H2⟩
theorem l2Any_ex (s : List Int) (i h : Int) (H : RdOk s i) : ∃ l j h', (∀ k, 5 < k → spec_l2Any.f k s i h = some (l, j, h')) ∧ l.length ≤ 9 ∧ RdOk s j := by
  obtain ⟨l, j1, h1, e1, hl, H1⟩ := l2Draw_ex s i h H
  obtain ⟨v, j2, h2, e2, _, _, _, H2⟩ := l1Below_ex s j1 h1 8 H1
  by_cases c0 : v = 0
  · obtain ⟨n, j3, h3, e3, H3⟩ := l1AnyName_ex s j2 h2 H2
    obtain ⟨o, j4, h4, e4, H4⟩ := l1Once_ex s j3 h3 2 H3
    obtain ⟨r, j5, h5, e5, H5, _⟩ := l1Raw_ex s j4 h4 H4
    obtain ⟨p, j6, h6, e6, H6⟩ := l1Plain_ex s j5 h5 H5
    refine ⟨l ++ [(⟨n, o, r, p⟩ : S47)], j6, h6, fun k hk => ?_, by simp; omega, H6⟩
    simp only [spec_l2Any.f, e1 k hk, e2, e3, e4, e5, e6, Option.bind_some]
    rw [if_pos c0, if_pos (by omega)]
  by_cases c1 : v = 1
  · obtain ⟨n, j3, h3, e3, _, H3⟩ := l1Str_ex s j2 h2 [(⟨#[97]⟩ : ByteArray), (⟨#[122, 111, 111]⟩ : ByteArray)] (by decide) H2
    obtain ⟨a, b, c, d, j4, h4, e4, H4⟩ := l2One_ex s j3 h3 n H3
    refine ⟨l ++ [(⟨a, b, c, d⟩ : S47)], j4, h4, fun k hk => ?_, by simp; omega, H4⟩
    simp only [spec_l2Any.f, e1 k hk, e2, e3, e4, Option.bind_some]
    rw [if_neg c0, if_pos c1, if_pos (by omega)]
  by_cases c2 : v = 2
  · obtain ⟨a, b, c, d, j3, h3, e3, H3⟩ := l2One_ex s j2 h2 ⟨#[118]⟩ H2
    obtain ⟨a', b', c', d', j4, h4, e4, H4⟩ := l2One_ex s j3 h3 ⟨#[119]⟩ H3
    obtain ⟨a2, b2, c2', d2, j5, h5, e5, H5⟩ := l2One_ex s j4 h4 ⟨#[120]⟩ H4
    obtain ⟨a3, b3, c3, d3, j6, h6, e6, H6⟩ := l2One_ex s j5 h5 ⟨#[121]⟩ H5
    refine ⟨l ++ [(⟨a, b, c, d⟩ : S47), ⟨a', b', c', d'⟩, ⟨a2, b2, c2', d2⟩, ⟨a3, b3, c3, d3⟩], j6, h6, fun k hk => ?_, by simp; omega, H6⟩
    simp only [spec_l2Any.f, e1 k hk, e2, e3, e4, e5, e6, Option.bind_some]
    rw [if_neg c0, if_neg c1, if_pos c2, if_pos (by simp; omega)]
  · refine ⟨l, j2, h2, fun k hk => ?_, by omega, H2⟩
    simp only [spec_l2Any.f, e1 k hk, e2, Option.bind_some]
    rw [if_neg c0, if_neg c1, if_neg c2]
theorem l3Any_ex (s : List Int) (i h : Int) (H : RdOk s i) : ∃ a b c d e l j h', (∀ k, 5 < k → spec_l3Any.f k s i h = some (a, b, c, d, e, l, j, h')) ∧ l.length ≤ 9 ∧ RdOk s j := by
  obtain ⟨a, b, c, d, e, l, j1, h1, e1, hl, H1⟩ := l3Draw_ex s i h H
  obtain ⟨v, j2, h2, e2, _, _, _, H2⟩ := l1Below_ex s j1 h1 12 H1
  by_cases c0 : v = 0
  · obtain ⟨x, j3, h3, e3, _, H3⟩ := l1Int_ex s j2 h2 [0, 999, 1000] (by decide) H2
    refine ⟨x, b, c, d, e, l, j3, h3, fun k hk => ?_, by omega, H3⟩
    simp only [spec_l3Any.f, e1 k hk, e2, e3, Option.bind_some]
    rw [if_pos c0]
  by_cases c1 : v = 1
  · obtain ⟨x, j3, h3, e3, _, H3⟩ := l1Int_ex s j2 h2 [0, 999, 1000] (by decide) H2
    refine ⟨a, x, c, d, e, l, j3, h3, fun k hk => ?_, by omega, H3⟩
    simp only [spec_l3Any.f, e1 k hk, e2, e3, Option.bind_some]
    rw [if_neg c0, if_pos c1]
  by_cases c2 : v = 2
  · obtain ⟨x, j3, h3, e3, _, H3⟩ := l1Int_ex s j2 h2 [(-1), 99999, 100000] (by decide) H2
    refine ⟨a, b, x, d, e, l, j3, h3, fun k hk => ?_, by omega, H3⟩
    simp only [spec_l3Any.f, e1 k hk, e2, e3, Option.bind_some]
    rw [if_neg c0, if_neg c1, if_pos c2]
  by_cases c3 : v = 3
  · obtain ⟨x, j3, h3, e3, H3, _⟩ := l1Raw_ex s j2 h2 H2
    refine ⟨a, b, c, x, e, l, j3, h3, fun k hk => ?_, by omega, H3⟩
    simp only [spec_l3Any.f, e1 k hk, e2, e3, Option.bind_some]
    rw [if_neg c0, if_neg c1, if_neg c2, if_pos c3]
  by_cases c4 : v = 4
  · obtain ⟨x, j3, h3, e3, hx, H3⟩ := l2Any_ex s j2 h2 H2
    refine ⟨a, b, c, d, e, x, j3, h3, fun k hk => ?_, hx, H3⟩
    simp only [spec_l3Any.f, e1 k hk, e2, e3 k hk, Option.bind_some]
    rw [if_neg c0, if_neg c1, if_neg c2, if_neg c3, if_pos c4]
  by_cases c5 : v = 5
  · obtain ⟨x, j3, h3, e3, _, H3⟩ := l1Str_ex s j2 h2 [(⟨#[116, 119, 101, 110, 116, 121, 98, 121, 116, 101, 115, 97, 114, 101, 104, 101, 114, 101, 50, 48]⟩ : ByteArray), (⟨#[116, 119, 101, 110, 116, 121, 98, 121, 116, 101, 115, 97, 114, 101, 104, 101, 114, 101, 50]⟩ : ByteArray), (⟨#[]⟩ : ByteArray)] (by decide) H2
    refine ⟨a, b, c, d, e, [(⟨(⟨#[97, 97, 97, 97, 97, 97, 97, 97]⟩ : ByteArray), false, 0, (⟨#[116, 119, 101, 110, 116, 121, 98, 121, 116, 101, 115, 97, 114, 101, 104, 101, 114, 101, 50, 48]⟩ : ByteArray)⟩ : S47), (⟨(⟨#[98, 98, 98, 98, 98, 98, 98, 98]⟩ : ByteArray), false, 0, (⟨#[116, 119, 101, 110, 116, 121, 98, 121, 116, 101, 115, 97, 114, 101, 104, 101, 114, 101, 50, 48]⟩ : ByteArray)⟩ : S47), (⟨(⟨#[99, 99, 99, 99, 99, 99, 99, 99]⟩ : ByteArray), false, 0, x⟩ : S47)], j3, h3, fun k hk => ?_, by simp, H3⟩
    simp only [spec_l3Any.f, e1 k hk, e2, e3, Option.bind_some]
    rw [if_neg c0, if_neg c1, if_neg c2, if_neg c3, if_neg c4, if_pos c5]
  · refine ⟨a, b, c, d, e, l, j2, h2, fun k hk => ?_, by omega, H2⟩
    simp only [spec_l3Any.f, e1 k hk, e2, Option.bind_some]
    rw [if_neg c0, if_neg c1, if_neg c2, if_neg c3, if_neg c4, if_neg c5]
theorem DrawLongest_ex (l : List Int) (hl : l.length ≤ 140737488351232) : ∃ x, Ev (fun k => spec_DrawLongest.f k l) x ∧ x.length ≤ 9 := by
  obtain ⟨h, K, hK⟩ := l1New_ex l hl
  obtain ⟨x, j, h', e, hx, H1⟩ := l3List_ex l 0 h (rdOk_0 l hl)
  obtain ⟨a, b, c, d, f, q, j2, h2, e2, _, _⟩ := l3Any_ex l j h' H1
  refine ⟨x ++ [(⟨a, b, c, d, f, q⟩ : S29)], ⟨K + 13, fun k hk => ?_⟩, by simp; omega⟩
  have := hK k (by omega)
  simp only at this
  simp only [spec_DrawLongest.f, this, e k (by omega), e2 k (by omega), Option.bind_some]
  rw [if_pos (by omega)]

theorem at_ex (l : List Int) (hl : l.length ≤ 1048576) (hw : ∀ x ∈ l, (Lit.int .u8 x).wf = true) : ∃ t, laws_at.f l 2 = some t ∧ 0 ≤ t ∧ t ≤ 255 := by
  unfold laws_at.f
  by_cases h : (2 : Int) < (l.length : Int)
  · rw [if_pos h, if_pos (by omega)]
    have h2 : 2 < l.length := by omega
    have e : rd l 2 = l[2] := rd_nat l 2 h2
    have hx : 0 ≤ l[2] ∧ l[2] ≤ 255 := by
      have := hw l[2] (List.getElem_mem h2)
      simp [Lit.wf, IntKind.min, IntKind.max, IntKind.signed, IntKind.bits] at this
      omega
    rw [e, wrap_of (by omega) (by omega)]
    exact ⟨_, rfl, hx.1, hx.2⟩
  · rw [if_neg h]
    have w1 : wrap64 (2 * 31) = 62 := wrap_of (by omega) (by omega)
    have w2 : wrap64 ((l.length : Int) * 7) = (l.length : Int) * 7 := wrap_of (by omega) (by omega)
    have w3 : wrap64 (62 + (l.length : Int) * 7) = 62 + (l.length : Int) * 7 := wrap_of (by omega) (by omega)
    rw [w1, w2, w3, Int.tmod_eq_emod_of_nonneg (by omega)]
    exact ⟨_, rfl, Int.emod_nonneg _ (by omega), by omega⟩

theorem errV_split (l : List S29) (m : Nat) : errV l = errV (l.take m) + errV (l.drop m) := by
  unfold errV
  have h : l.filter (fun x => x.f4) = (l.take m).filter (fun x => x.f4) ++ (l.drop m).filter (fun x => x.f4) := by
    rw [← List.filter_append, List.take_append_drop]
  rw [h, List.length_append]
  push_cast
  rfl
theorem long_from (l : List S29) : ∀ n : Int, l.foldl (fun n x => mx n (lenV x)) n = mx n (l.foldl (fun n x => mx n (lenV x)) n) ∧ (0 ≤ n → l.foldl (fun n x => mx n (lenV x)) n = mx n (longV l)) := by
  induction l with
  | nil =>
    intro n
    refine ⟨?_, fun h => ?_⟩
    · simp only [List.foldl_nil]
      unfold mx
      split <;> rfl
    · show n = mx n 0
      unfold mx
      rw [if_neg (by omega)]
  | cons x l ih =>
    intro n
    have h1 := ih (mx n (lenV x))
    refine ⟨?_, fun h => ?_⟩
    · rw [List.foldl_cons]
      have := h1.1
      generalize l.foldl (fun n x => mx n (lenV x)) (mx n (lenV x)) = z at *
      unfold mx at *
      (repeat' split at *) <;> omega
    · have a := (ih (mx n (lenV x))).2 (by unfold mx; split <;> omega)
      have b := (ih (mx 0 (lenV x))).2 (by unfold mx; split <;> omega)
      rw [List.foldl_cons, a]
      have e : longV (x :: l) = mx (mx 0 (lenV x)) (longV l) := b
      rw [e]
      have hz : 0 ≤ longV l := by
        have := (ih 0).1
        unfold longV
        generalize l.foldl (fun n x => mx n (lenV x)) 0 = z at *
        unfold mx at this
        split at this <;> omega
      generalize longV l = z at *
      generalize lenV x = y at *
      unfold mx
      (repeat' split) <;> omega
theorem longV_nn (l : List S29) : 0 ≤ longV l := by
  have := (long_from l 0).1
  unfold longV
  generalize l.foldl (fun n x => mx n (lenV x)) 0 = z at *
  unfold mx at this
  split at this <;> omega
theorem longV_split (l : List S29) (m : Nat) : longV l = mx (longV (l.take m)) (longV (l.drop m)) := by
  have h : longV l = (l.drop m).foldl (fun n x => mx n (lenV x)) (longV (l.take m)) := by
    unfold longV
    rw [← List.foldl_append, List.take_append_drop]
  rw [h]
  exact (long_from (l.drop m) _).2 (longV_nn _)
theorem seen_end (x y : List S29) (k : Nat) (c : Int) (hx : x.length ≤ 8) (hy : y.length ≤ 9) (hk : 20 ≤ k) (m1 : 0 ≤ c) (m2 : c < (x.length : Int) + 1) : (if ((x.length : Int) + 1) = 0 then (none) else ((impl_Errors.f k x).bind fun t437 => ((spec_Errors.f k x).bind fun t438 => (if t437 = t438 then ((impl_Longest.f k y).bind fun t439 => ((spec_Longest.f k y).bind fun t440 => (if t439 = t440 then ((impl_Errors.f k x).bind fun t441 => (if 0 ≤ c then (if c ≤ (x.length : Int) then ((impl_Errors.f k (x.take c.toNat)).bind fun t446 => ((impl_Errors.f k (x.drop c.toNat)).bind fun t451 => (if t441 = (wrap64 (t446 + t451)) then ((impl_Longest.f k (x.take c.toNat)).bind fun t456 => ((impl_Longest.f k x).bind fun t457 => (if t456 ≤ t457 then ((impl_Longest.f k (x.drop c.toNat)).bind fun t462 => ((impl_Longest.f k x).bind fun t463 => (if t462 ≤ t463 then ((impl_Longest.f k x).bind fun t464 => ((impl_Longest.f k (x.take c.toNat)).bind fun t469 => (if t464 = t469 then (some true) else ((impl_Longest.f k x).bind fun t470 => ((impl_Longest.f k (x.drop c.toNat)).bind fun t475 => (some (t470 == t475))))))) else (some false)))) else (some false)))) else (some false)))) else (none)) else (none))) else (some false)))) else (some false))))) = some true := by
  have lt : (x.take c.toNat).length ≤ 8 := by rw [List.length_take]; omega
  have ld : (x.drop c.toNat).length ≤ 8 := by rw [List.length_drop]; omega
  have a1 := impl_Errors_at x (by omega) k (by omega)
  have a2 := spec_Errors_at x (by omega) k (by omega)
  have a3 := impl_Longest_at y (by omega) k (by omega)
  have a4 := spec_Longest_at y (by omega) k (by omega)
  have a5 := impl_Errors_at (x.take c.toNat) (by omega) k (by omega)
  have a6 := impl_Errors_at (x.drop c.toNat) (by omega) k (by omega)
  have a7 := impl_Longest_at x (by omega) k (by omega)
  have a8 := impl_Longest_at (x.take c.toNat) (by omega) k (by omega)
  have a9 := impl_Longest_at (x.drop c.toNat) (by omega) k (by omega)
  have e := errV_split x c.toNat
  have s := longV_split x c.toNat
  have r1 := errV_range (x.take c.toNat)
  have r2 := errV_range (x.drop c.toNat)
  have w2 : wrap64 (errV (x.take c.toNat) + errV (x.drop c.toNat)) = errV (x.take c.toNat) + errV (x.drop c.toNat) := wrap_of (by omega) (by omega)
  rw [if_neg (by omega), a1, Option.bind_some, a2, Option.bind_some, if_pos rfl, a3, Option.bind_some, a4, Option.bind_some, if_pos rfl, Option.bind_some, if_pos m1, if_pos (by omega), a5, Option.bind_some, a6, Option.bind_some, w2, if_pos e, a8, Option.bind_some, a7, Option.bind_some]
  clear a1 a2 a3 a4 a5 a6 r1 r2 w2 e lt ld
  rw [s]
  generalize longV (x.take c.toNat) = p at *
  generalize longV (x.drop c.toNat) = q at *
  unfold mx
  by_cases h : p < q
  · rw [if_pos h, if_pos (by omega), a9, Option.bind_some, Option.bind_some, if_pos (by omega), Option.bind_some, Option.bind_some, if_neg (by omega), Option.bind_some, Option.bind_some]
    simp
  · rw [if_neg h, if_pos (by omega), a9, Option.bind_some, Option.bind_some, if_pos (by omega), Option.bind_some, Option.bind_some, if_pos rfl]
theorem FnSeen : ∀ (l0 : (List Int)), ((l0.length ≤ maxLen ∧ ∀ y5 ∈ l0, (Lit.int .u8 y5).wf = true)) → ∃ k, laws_FnSeen.f k l0 = some true := by
  intro l hg
  by_cases hb : (l.length : Int) > 1048576
  · refine ⟨0, ?_⟩
    simp [laws_FnSeen.f, laws_big.f, hb]
  have hl : l.length ≤ 140737488351232 := by omega
  obtain ⟨x, ⟨K1, h1⟩, hx⟩ := DrawErrors_ex l hl
  obtain ⟨y, ⟨K2, h2⟩, hy⟩ := DrawLongest_ex l hl
  obtain ⟨t, h3, t0, t1⟩ := at_ex l (by omega) hg.2
  simp only at h1 h2
  obtain ⟨k, hk⟩ : ∃ k, k = K1 + K2 + 20 := ⟨_, rfl⟩
  refine ⟨k, ?_⟩
  have w1 : wrap64 ((x.length : Int) + 1) = (x.length : Int) + 1 := wrap_of (by omega) (by omega)
  have m0 : Int.tmod t ((x.length : Int) + 1) = t % ((x.length : Int) + 1) := Int.tmod_eq_emod_of_nonneg t0
  have m1 : 0 ≤ t % ((x.length : Int) + 1) := Int.emod_nonneg _ (by omega)
  have m2 : t % ((x.length : Int) + 1) < (x.length : Int) + 1 := Int.emod_lt_of_pos _ (by omega)
  have e0 : laws_big.f l = some false := by unfold laws_big.f; rw [decide_eq_false hb]
  unfold laws_FnSeen.f
  rw [e0, Option.bind_some, if_neg (by decide), h1 k (by omega), Option.bind_some, h2 k (by omega), Option.bind_some, h3, Option.bind_some, w1, m0]
  clear h1 h2 h3 e0 m0 w1
  generalize t % ((x.length : Int) + 1) = c at *
  exact seen_end x y k c hx hy (by omega) m1 m2

end Go.Proofs.Ytkhbhdchakbmhaa.Pure
