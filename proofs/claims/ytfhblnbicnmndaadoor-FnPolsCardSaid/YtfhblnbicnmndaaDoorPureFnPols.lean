/- Of drawn rules, bent or not, which may be is as the document has it; each is the same as itself. Conditions: none beyond the statement's own. -/
import Derived.Test.YtfhblnbicnmndaaDoorQFnPolsx
set_option linter.unusedVariables false
set_option linter.unusedSimpArgs false
namespace Go.Proofs.YtfhblnbicnmndaaDoor.Pure
open Go.RowKit Go.Proofs.YtfhblnbicnmndaaDoor.QFnPols Go.Proofs.YtfhblnbicnmndaaDoorW.PrintWords Go.Proofs.YtfhblnbicnmndaaDoorW.PrintLast Go.Proofs.YtfhblnbicnmndaaDoorW.PrintMore


/-- A loop over an index: from a state that is good, with enough rounds, it comes to an end that meets what is told of it. -/
theorem loop_ex {σ β : Type} {L : Nat → σ → Int → Option β} {n K : Nat} {I : σ → Nat → Prop} {Post : σ → Nat → β → Prop}
    (hend : ∀ s, I s n → ∃ r, Post s n r ∧ ∀ k, L (k + 1) s (n : Int) = some r)
    (hstep : ∀ s (i : Nat), i < n → I s i → (∃ r, Post s i r ∧ ∀ k, K ≤ k → L (k + 1) s (i : Int) = some r) ∨
      ∃ s', I s' (i + 1) ∧ (∀ k, K ≤ k → L (k + 1) s (i : Int) = L k s' ((i : Int) + 1)) ∧ ∀ r, Post s' (i + 1) r → Post s i r) :
    ∀ (d : Nat) s (i : Nat), i + d = n → I s i → ∃ r, Post s i r ∧ ∀ k, K + d < k → L k s (i : Int) = some r := by
  intro d
  induction d with
  | zero =>
    intro s i hd hI
    obtain rfl : i = n := by omega
    obtain ⟨r, hp, hr⟩ := hend s hI
    refine ⟨r, hp, fun k hk => ?_⟩
    obtain ⟨k, rfl⟩ : ∃ m, k = m + 1 := ⟨k - 1, by omega⟩
    exact hr k
  | succ d ih =>
    intro s i hd hI
    rcases hstep s i (by omega) hI with ⟨r, hp, hr⟩ | ⟨s', hI', he, hp⟩
    · refine ⟨r, hp, fun k hk => ?_⟩
      obtain ⟨k, rfl⟩ : ∃ m, k = m + 1 := ⟨k - 1, by omega⟩
      exact hr k (by omega)
    · obtain ⟨r, hq, hr⟩ := ih s' (i + 1) (by omega) hI'
      refine ⟨r, hp r hq, fun k hk => ?_⟩
      obtain ⟨k, rfl⟩ : ∃ m, k = m + 1 := ⟨k - 1, by omega⟩
      rw [he k (by omega)]
      have := hr k (by omega)
      rw [Int.natCast_add] at this
      exact this
theorem ev_at {α : Type} {g : Nat → Option α} {r : α} (K : Nat) (h : ∀ k, K < k → g k = some r) : Ev g r := ⟨K + 1, fun k hk => h k (by omega)⟩
theorem wrap_of {x : Int} (h0 : -9223372036854775808 ≤ x) (h1 : x ≤ 9223372036854775807) : wrap64 x = x := by
  unfold wrap64
  omega
theorem wrap_nat1 {i n : Nat} (h : i < n) (hn : n ≤ 9223372036854775807) : wrap64 ((i : Int) + 1) = (i : Int) + 1 := wrap_of (by omega) (by omega)
theorem lt_cast {i n : Nat} (h : i < n) : (i : Int) < (n : Int) := by omega
theorem nn_cast (i : Nat) : 0 ≤ (i : Int) := by omega
theorem not_lt_cast (n : Nat) : ¬ (n : Int) < (n : Int) := by omega
/-- What is written cell by cell. -/
theorem fill_set {α : Type} (l : List α) (z : α) (i : Nat) (h : i < l.length) : (l.take i ++ List.replicate (l.length - i) z).set i l[i] = l.take (i + 1) ++ List.replicate (l.length - (i + 1)) z := by
  have e1 : l.length - i = (l.length - (i + 1)) + 1 := by omega
  have e2 : (l.take i).length = i := by rw [List.length_take]; omega
  rw [e1, List.replicate_succ, List.set_append_right _ _ (by omega), e2, Nat.sub_self, List.set_cons_zero, List.take_succ_eq_append_getElem h, List.append_assoc]
  rfl
theorem fill_len {α : Type} (l : List α) (z : α) (i : Nat) (h : i ≤ l.length) : (l.take i ++ List.replicate (l.length - i) z).length = l.length := by
  rw [List.length_append, List.length_take, List.length_replicate]
  omega

theorem band_range (x : Int) (m : Nat) (hm : m < 9223372036854775808) : 0 ≤ Go.bits .and .i64 x (m : Int) ∧ Go.bits .and .i64 x (m : Int) ≤ m := by
  have e1 : (BitVec.ofInt 64 (m : Int)).toNat = m := by
    rw [BitVec.ofInt_natCast, BitVec.toNat_ofNat]
    exact Nat.mod_eq_of_lt (by omega)
  have e2 : Go.bits .and .i64 x (m : Int) = IntKind.i64.wrap ((BitVec.ofInt 64 x &&& BitVec.ofInt 64 (m : Int)).toNat : Int) := rfl
  have h : (BitVec.ofInt 64 x).toNat &&& m ≤ m := Nat.and_le_right
  rw [e2, BitVec.toNat_and, e1, IntKind.wrap_i64]
  omega
/-- A reader's place is in what it reads. -/
def RdOk (s : List Int) (i : Int) : Prop := 0 ≤ i ∧ i ≤ s.length ∧ s.length ≤ 140737488351232
theorem l1Byte_ex (s : List Int) (i h : Int) (H : RdOk s i) : ∃ b j h', spec_l1Byte.f s i h = some (b, j, h') ∧ 0 ≤ b ∧ b ≤ 255 ∧ RdOk s j := by
  obtain ⟨h0, h1, h2⟩ := H
  unfold spec_l1Byte.f
  by_cases hc : i < (s.length : Int)
  · rw [if_pos hc, if_pos h0]
    refine ⟨_, _, _, rfl, (band_range _ 255 (by omega)).1, (band_range _ 255 (by omega)).2, ?_⟩
    rw [wrap_of (by omega) (by omega)]
    exact ⟨by omega, by omega, h2⟩
  · rw [if_neg hc]
    exact ⟨_, _, _, rfl, (band_range _ 255 (by omega)).1, (band_range _ 255 (by omega)).2, h0, h1, h2⟩
theorem l1Below_ex (s : List Int) (i h n : Int) (H : RdOk s i) : ∃ v j h', spec_l1Below.f s i h n = some (v, j, h') ∧ 0 ≤ v ∧ (0 < n → v < n) ∧ (n ≤ 0 → v = 0) ∧ RdOk s j := by
  unfold spec_l1Below.f
  by_cases h1 : n ≤ 0
  · rw [if_pos h1]
    exact ⟨0, i, h, rfl, by omega, fun _ => by omega, fun _ => rfl, H⟩
  · rw [if_neg h1]
    by_cases h2 : n ≤ 256
    · rw [if_pos h2]
      obtain ⟨b, j, h', e, b0, b1, H1⟩ := l1Byte_ex s i h H
      rw [e, Option.bind_some, if_neg (by omega), Int.tmod_eq_emod_of_nonneg b0]
      exact ⟨_, _, _, rfl, Int.emod_nonneg _ (by omega), fun _ => Int.emod_lt_of_pos _ (by omega), fun _ => by omega, H1⟩
    · rw [if_neg h2]
      obtain ⟨b, j, h', e, b0, b1, H1⟩ := l1Byte_ex s i h H
      obtain ⟨b', j', h'', e', b0', b1', H2⟩ := l1Byte_ex s j h' H1
      obtain ⟨b'', j'', h3, e'', b0'', b1'', H3⟩ := l1Byte_ex s j' h'' H2
      simp only [e, e', e'', Option.bind_some]
      have w1 : wrap64 (b * 65536) = b * 65536 := wrap_of (by omega) (by omega)
      have w2 : wrap64 (b' * 256) = b' * 256 := wrap_of (by omega) (by omega)
      have w3 : wrap64 (b * 65536 + b' * 256) = b * 65536 + b' * 256 := wrap_of (by omega) (by omega)
      have w4 : wrap64 (b * 65536 + b' * 256 + b'') = b * 65536 + b' * 256 + b'' := wrap_of (by omega) (by omega)
      rw [if_neg (by omega), w1, w2, w3, w4, Int.tmod_eq_emod_of_nonneg (by omega)]
      exact ⟨_, _, _, rfl, Int.emod_nonneg _ (by omega), fun _ => Int.emod_lt_of_pos _ (by omega), fun _ => by omega, H3⟩
theorem l1New_ex (l : List Int) (hl : l.length ≤ 140737488351232) : ∃ h, Ev (fun k => spec_l1New.f k l) (l, 0, h) := by
  obtain ⟨r, ⟨h, rfl⟩, hr⟩ := loop_ex (σ := Int) (L := fun k s i => spec_l1New.l0 k l s i) (n := l.length) (K := 0)
    (I := fun _ _ => True) (Post := fun _ _ r => ∃ h, r = (l, 0, h))
    (fun s _ => ⟨_, ⟨s, rfl⟩, fun k => by
      simp only [spec_l1New.l0]
      rw [if_neg (not_lt_cast _)]⟩)
    (fun s i hi _ => by
      by_cases h4 : (i : Int) < 4000
      · refine .inr ⟨Go.bits .and .i64 (wrap64 ((wrap64 ((wrap64 (s * 137)) + (wrap64 (rd l (i : Int))))) + 11)) 1073741823, trivial, fun k _ => ?_, fun _ h => h⟩
        simp only [spec_l1New.l0]
        rw [if_pos (lt_cast hi), if_pos h4, if_pos (nn_cast i), wrap_nat1 hi (by omega)]
      · refine .inl ⟨_, ⟨s, rfl⟩, fun k _ => ?_⟩
        simp only [spec_l1New.l0]
        rw [if_pos (lt_cast hi), if_neg h4]) l.length (wrap64 (140371 + (l.length : Int))) 0 (by omega) trivial
  exact ⟨h, ev_at (0 + l.length) fun k hk => hr k hk⟩
theorem rdOk_0 (l : List Int) (hl : l.length ≤ 140737488351232) : RdOk l 0 := ⟨by omega, by omega, hl⟩

theorem l1Once_ex (s : List Int) (i h n : Int) (H : RdOk s i) : ∃ b j h', spec_l1Once.f s i h n = some (b, j, h') ∧ RdOk s j := by
  obtain ⟨v, j, h', e, _, _, _, H1⟩ := l1Below_ex s i h n H
  exact ⟨v == 0, j, h', by simp only [spec_l1Once.f, e, Option.bind_some], H1⟩

theorem rd_nat (l : List Int) (i : Nat) (h : i < l.length) : rd l (i : Int) = l[i] := by
  simp [rd, List.getD_eq_getElem?_getD, h]

theorem l1Int_ex (s : List Int) (i h : Int) (l : List Int) (hl : 0 < l.length) (H : RdOk s i) : ∃ v j h', spec_l1Int.f s i h l = some (v, j, h') ∧ v ∈ l ∧ RdOk s j := by
  obtain ⟨v, j, h', e, v0, v1, _, H1⟩ := l1Below_ex s i h (l.length : Int) H
  have hv : v < (l.length : Int) := v1 (by omega)
  obtain ⟨m, rfl⟩ : ∃ m : Nat, v = m := ⟨v.toNat, by omega⟩
  have hm : m < l.length := by omega
  refine ⟨l[m], j, h', ?_, List.getElem_mem hm, H1⟩
  simp only [spec_l1Int.f, e, Option.bind_some]
  rw [if_pos v0, if_pos hv, rd_nat _ _ hm]

theorem l1Odd_ex (s : List Int) (i h : Int) (H : RdOk s i) : ∃ v j h', spec_l1Odd.f s i h = some (v, j, h') ∧ RdOk s j ∧ -9223372036854775808 ≤ v ∧ v ≤ 9223372036854775807 := by
  obtain ⟨v, j, h', e, hv, H1⟩ := l1Int_ex s i h [(-1), 0, 1, 2, 255, 256, 65535, 2147483647, 2147483648, 4294967295, 4294967296, (-2147483648), 9223372036854775807, (-9223372036854775808)] (by decide) H
  refine ⟨v, j, h', by simp only [spec_l1Odd.f, e, Option.bind_some], H1, ?_⟩
  simp only [List.mem_cons, List.not_mem_nil, or_false] at hv
  omega
theorem l1Raw_ex (s : List Int) (i h : Int) (H : RdOk s i) : ∃ v j h', spec_l1Raw.f s i h = some (v, j, h') ∧ RdOk s j ∧ -9223372036854775808 ≤ v ∧ v ≤ 9223372036854775807 := by
  obtain ⟨b, j, h', e, H1⟩ := l1Once_ex s i h 2 H
  cases b with
  | true =>
    obtain ⟨v, j2, h2, e2, H2, hv⟩ := l1Odd_ex s j h' H1
    exact ⟨v, j2, h2, by simp only [spec_l1Raw.f, e, e2, Option.bind_some, if_true], H2, hv⟩
  | false =>
    obtain ⟨v, j2, h2, e2, hv, H2⟩ := l1Int_ex s j h' [(-2147483648), (-3), (-1), 0, 1, 3, 7, 65536, 2147483647, 2147483648] (by decide) H1
    refine ⟨v, j2, h2, by simp only [spec_l1Raw.f, e, e2, Option.bind_some, Bool.false_eq_true, if_false], H2, ?_⟩
    simp only [List.mem_cons, List.not_mem_nil, or_false] at hv
    omega

theorem l1Str_ex (s : List Int) (i h : Int) (l : List ByteArray) (hl : 0 < l.length) (H : RdOk s i) : ∃ v j h', spec_l1Str.f s i h l = some (v, j, h') ∧ v ∈ l ∧ RdOk s j := by
  obtain ⟨v, j, h', e, v0, v1, _, H1⟩ := l1Below_ex s i h (l.length : Int) H
  have hv : v < (l.length : Int) := v1 (by omega)
  obtain ⟨m, rfl⟩ : ∃ m : Nat, v = m := ⟨v.toNat, by omega⟩
  have hm : m < l.length := by omega
  refine ⟨l[m], j, h', ?_, List.getElem_mem hm, H1⟩
  simp only [spec_l1Str.f, e, Option.bind_some]
  rw [if_pos v0, if_pos hv]
  simp [rdOf, List.getD_eq_getElem?_getD, hm]

theorem s_of {l : List ByteArray} {v : ByteArray} (h : v ∈ l) (hl : (l.all fun s => decide (s.size ≤ 100)) = true) : v.size ≤ 100 := by
  have := List.all_eq_true.1 hl v h
  simpa using this
theorem g1Names (s : List Int) (i h : Int) (H : RdOk s i) : ∃ v j h', spec_l1Names.f s i h = some (v, j, h') ∧ v.size ≤ 100 ∧ RdOk s j := by
  obtain ⟨v, j, h', e, hv, H1⟩ := l1Str_ex s i h [(⟨#[107]⟩ : ByteArray), (⟨#[112, 97, 116, 104]⟩ : ByteArray), (⟨#[99, 111, 100, 101]⟩ : ByteArray), (⟨#[117, 115, 101, 114]⟩ : ByteArray)] (by decide) H
  exact ⟨v, j, h', by simp only [spec_l1Names.f, e, Option.bind_some], s_of hv (by decide), H1⟩
theorem g1AnyName (s : List Int) (i h : Int) (H : RdOk s i) : ∃ v j h', spec_l1AnyName.f s i h = some (v, j, h') ∧ v.size ≤ 100 ∧ RdOk s j := by
  obtain ⟨o, j, h', e, H1⟩ := l1Once_ex s i h 2 H
  cases o with
  | true =>
    obtain ⟨v, j2, h2, e2, hv, H2⟩ := g1Names s j h' H1
    exact ⟨v, j2, h2, by simp only [spec_l1AnyName.f, e, e2, Option.bind_some, if_true], hv, H2⟩
  | false =>
    obtain ⟨v, j2, h2, e2, hv, H2⟩ := l1Str_ex s j h' [(⟨#[]⟩ : ByteArray), (⟨#[75]⟩ : ByteArray), (⟨#[110, 105, 110, 101, 99, 104, 97, 114, 115]⟩ : ByteArray), (⟨#[101, 105, 103, 104, 116, 97, 98, 99]⟩ : ByteArray), (⟨#[97, 32, 98]⟩ : ByteArray), (⟨#[97, 49]⟩ : ByteArray), (⟨#[102, 97, 105, 108, 101, 100]⟩ : ByteArray), (⟨#[102, 97, 105, 108, 101, 100, 120]⟩ : ByteArray)] (by decide) H1
    exact ⟨v, j2, h2, by simp only [spec_l1AnyName.f, e, e2, Option.bind_some, Bool.false_eq_true, if_false], s_of hv (by decide), H2⟩
theorem g1Plain (s : List Int) (i h : Int) (H : RdOk s i) : ∃ v j h', spec_l1Plain.f s i h = some (v, j, h') ∧ v.size ≤ 100 ∧ RdOk s j := by
  obtain ⟨o, j, h', e, H1⟩ := l1Once_ex s i h 6 H
  cases o with
  | true =>
    obtain ⟨v, j2, h2, e2, hv, H2⟩ := l1Str_ex s j h' [(⟨#[]⟩ : ByteArray), (⟨#[34]⟩ : ByteArray), (⟨#[127]⟩ : ByteArray), (⟨#[31]⟩ : ByteArray), (⟨#[116, 119, 101, 110, 116, 121, 32, 98, 121, 116, 101, 115, 32, 97, 114, 101, 32, 104, 101, 114, 101]⟩ : ByteArray), (⟨#[116, 119, 101, 110, 116, 121, 98, 121, 116, 101, 115, 97, 114, 101, 104, 101, 114, 101, 50, 48]⟩ : ByteArray), (⟨#[126, 32]⟩ : ByteArray)] (by decide) H1
    exact ⟨v, j2, h2, by simp only [spec_l1Plain.f, e, e2, Option.bind_some, if_true], s_of hv (by decide), H2⟩
  | false =>
    obtain ⟨v, j2, h2, e2, hv, H2⟩ := l1Str_ex s j h' [(⟨#[97]⟩ : ByteArray), (⟨#[98]⟩ : ByteArray), (⟨#[111, 107]⟩ : ByteArray), (⟨#[120, 32, 121]⟩ : ByteArray)] (by decide) H1
    exact ⟨v, j2, h2, by simp only [spec_l1Plain.f, e, e2, Option.bind_some, Bool.false_eq_true, if_false], s_of hv (by decide), H2⟩

mutual
def pT26 : S26 → Nat
  | ⟨_, _, _, _, l⟩ => 2 + l.length + pTs26 l
def pTs26 : List S26 → Nat
  | [] => 0
  | x :: l => pT26 x + pTs26 l
end
mutual
def pN26 : S26 → Nat
  | ⟨_, _, _, _, l⟩ => 1 + pNs26 l
def pNs26 : List S26 → Nat
  | [] => 0
  | x :: l => pN26 x + pNs26 l
end
theorem pT26_mem {l : List S26} {x : S26} (h : x ∈ l) : pT26 x ≤ pTs26 l := by
  induction l with
  | nil => exact absurd h (by simp)
  | cons y l ih =>
    rw [pTs26]
    rcases List.mem_cons.1 h with rfl | h
    · omega
    · have := ih h
      omega
theorem pN26_mem {l : List S26} {x : S26} (h : x ∈ l) : pN26 x ≤ pNs26 l := by
  induction l with
  | nil => exact absurd h (by simp)
  | cons y l ih =>
    rw [pNs26]
    rcases List.mem_cons.1 h with rfl | h
    · omega
    · have := ih h
      omega
theorem pN26_pos (x : S26) : 1 ≤ pN26 x := by
  obtain ⟨a, b, c, d, l⟩ := x
  rw [pN26]
  omega
theorem pNs26_len (l : List S26) : l.length ≤ pNs26 l := by
  induction l with
  | nil => simp
  | cons y l ih =>
    have := pN26_pos y
    rw [pNs26, List.length_cons]
    omega
theorem pNs26_app (l m : List S26) : pNs26 (l ++ m) = pNs26 l + pNs26 m := by
  induction l with
  | nil => simp [pNs26]
  | cons y l ih =>
    rw [List.cons_append, pNs26, pNs26, ih]
    omega
theorem pNs26_take (l : List S26) (i : Nat) (h : i < l.length) : pNs26 (l.take (i + 1)) = pNs26 (l.take i) + pN26 l[i] := by
  rw [List.take_succ_eq_append_getElem h, pNs26_app, pNs26, pNs26]
  omega
theorem pNs26_drop (l : List S26) (i : Nat) (h : i < l.length) : pNs26 (l.drop i) = pN26 l[i] + pNs26 (l.drop (i + 1)) := by
  rw [List.drop_eq_getElem_cons h, pNs26]
theorem pNs26_le (l : List S26) (i : Nat) : pNs26 (l.take i) ≤ pNs26 l := by
  have := pNs26_app (l.take i) (l.drop i)
  rw [List.take_append_drop] at this
  omega
theorem ind26 {P : S26 → Prop} (h : ∀ a b c d l, (∀ x ∈ l, P x) → P ⟨a, b, c, d, l⟩) : ∀ x, P x
  | ⟨a, b, c, d, l⟩ => h a b c d l (fun x hx => ind26 h x)
termination_by x => SizeOf.sizeOf x
decreasing_by
  have := List.sizeOf_lt_of_mem hx
  simp
  omega
theorem rdP26 (l : List S26) (i : Nat) (h : i < l.length) : rd_T26 l (i : Int) = l[i] := by
  simp [rd_T26, List.getD_eq_getElem?_getD, h]

def inB (a b c : Int) : Bool := decide (b ≤ a) && decide (a ≤ c)
theorem impl_within_eq (a b c : Int) : impl_within.f a b c = some (inB a b c) := by
  unfold impl_within.f inB
  by_cases h : a ≥ b
  · rw [if_pos h]
    simp [show b ≤ a from h]
  · rw [if_neg h]
    simp [show ¬ b ≤ a from h]

theorem spec_l1In_eq (a b c : Int) : spec_l1In.f a b c = some (inB a b c) := by
  unfold spec_l1In.f inB
  by_cases h : a ≥ b
  · rw [if_pos h]
    simp [show b ≤ a from h]
  · rw [if_neg h]
    simp [show ¬ b ≤ a from h]

theorem wrap_idx {i n : Int} (h0 : 0 ≤ i) (h : i < n) (hn : n ≤ 140737488351232) : wrap64 (i + 1) = i + 1 := by
  unfold wrap64
  omega
theorem wrap_bt (s : ByteArray) (i : Int) : wrap64 (bt s i) = bt s i := by
  have := bt_range s i
  unfold wrap64
  omega

theorem name_loops (s : ByteArray) (hn : (s.size : Int) ≤ 140737488351232) (d : Nat) : ∀ (i : Int), 0 ≤ i → (s.size : Int) - i ≤ d →
    ∃ r, (∀ k, d < k → spec_NameOk.l0 k s i = some r) ∧ ∀ k, d < k → impl_NameOk.l0 k s i = some r := by
  induction d with
  | zero =>
    intro i h0 hd
    refine ⟨inB s.size 1 8, fun k hk => ?_, fun k hk => ?_⟩ <;>
    · obtain ⟨k, rfl⟩ : ∃ m, k = m + 1 := ⟨k - 1, by omega⟩
      simp only [spec_NameOk.l0, impl_NameOk.l0, spec_l1In_eq, impl_within_eq, Option.bind_some]
      rw [if_neg (by omega)]
  | succ d ih =>
    intro i h0 hd
    by_cases hlt : i < (s.size : Int)
    · obtain ⟨r, hs, hi⟩ := ih (i + 1) (by omega) (by omega)
      refine ⟨if bt s i < 97 then false else if bt s i > 122 then false else r, fun k hk => ?_, fun k hk => ?_⟩
      · obtain ⟨k, rfl⟩ : ∃ m, k = m + 1 := ⟨k - 1, by omega⟩
        simp only [spec_NameOk.l0]
        rw [if_pos hlt, if_pos h0, wrap_idx h0 hlt hn, hs k (by omega)]
        (repeat' split) <;> rfl
      · obtain ⟨k, rfl⟩ : ∃ m, k = m + 1 := ⟨k - 1, by omega⟩
        simp only [impl_NameOk.l0]
        rw [if_pos hlt, if_pos h0, wrap_idx h0 hlt hn, hi k (by omega)]
        (repeat' split) <;> rfl
    · refine ⟨inB s.size 1 8, fun k hk => ?_, fun k hk => ?_⟩ <;>
      · obtain ⟨k, rfl⟩ : ∃ m, k = m + 1 := ⟨k - 1, by omega⟩
        simp only [spec_NameOk.l0, impl_NameOk.l0, spec_l1In_eq, impl_within_eq, Option.bind_some]
        rw [if_neg hlt]
theorem name_both (s : ByteArray) (hn : s.size ≤ 140737488351232) : ∃ r, Ev (fun k => spec_NameOk.f k s) r ∧ Ev (fun k => impl_NameOk.f k s) r := by
  obtain ⟨r, hs, hi⟩ := name_loops s (by omega) s.size 0 (by omega) (by omega)
  exact ⟨r, ⟨s.size + 1, fun k hk => hs k (by omega)⟩, ⟨s.size + 1, fun k hk => hi k (by omega)⟩⟩

def plainC (c : Int) : Bool := inB c 32 126 && !decide (c = 34)
theorem plainC_iff (c : Int) : plainC c = true ↔ (32 ≤ c ∧ c ≤ 126) ∧ c ≠ 34 := by simp [plainC, inB]
theorem plain_spec (c : Int) (r : Bool) : (if c < 32 then some false else (if c > 126 then some false else (if c = 34 then some false else some r))) = some (if plainC c then r else false) := by
  by_cases h : plainC c = true
  · have h' := (plainC_iff c).1 h
    rw [if_pos h, if_neg (by omega), if_neg (by omega), if_neg (by omega)]
  · have h' : ¬ ((32 ≤ c ∧ c ≤ 126) ∧ c ≠ 34) := fun k => h ((plainC_iff c).2 k)
    rw [if_neg h]
    (repeat' split) <;> first | rfl | (exfalso; omega)
theorem plain_impl (c : Int) (r : Bool) : (if inB c 32 126 = true then (if c = 34 then some false else some r) else some false) = some (if plainC c then r else false) := by
  unfold plainC
  by_cases h1 : inB c 32 126 = true <;> by_cases h2 : c = 34 <;> simp [h1, h2]
theorem plain_loops (s : ByteArray) (hn : (s.size : Int) ≤ 140737488351232) (d : Nat) : ∀ (i : Int), 0 ≤ i → (s.size : Int) - i ≤ d →
    ∃ r, (∀ k, d < k → spec_PlainOk.l0 k s i = some r) ∧ ∀ k, d < k → impl_PlainOk.l0 k s i = some r := by
  induction d with
  | zero =>
    intro i h0 hd
    refine ⟨decide ((s.size : Int) ≤ 20), fun k hk => ?_, fun k hk => ?_⟩ <;>
    · obtain ⟨k, rfl⟩ : ∃ m, k = m + 1 := ⟨k - 1, by omega⟩
      simp only [spec_PlainOk.l0, impl_PlainOk.l0]
      rw [if_neg (by omega)]
  | succ d ih =>
    intro i h0 hd
    by_cases hlt : i < (s.size : Int)
    · obtain ⟨r, hs, hi⟩ := ih (i + 1) (by omega) (by omega)
      refine ⟨if plainC (bt s i) then r else false, fun k hk => ?_, fun k hk => ?_⟩
      · obtain ⟨k, rfl⟩ : ∃ m, k = m + 1 := ⟨k - 1, by omega⟩
        simp only [spec_PlainOk.l0]
        rw [if_pos hlt, if_pos h0, wrap_idx h0 hlt hn, hs k (by omega)]
        exact plain_spec _ _
      · obtain ⟨k, rfl⟩ : ∃ m, k = m + 1 := ⟨k - 1, by omega⟩
        simp only [impl_PlainOk.l0]
        rw [if_pos hlt, if_pos h0, wrap_idx h0 hlt hn, hi k (by omega), wrap_bt, impl_within_eq, Option.bind_some]
        exact plain_impl _ _
    · refine ⟨decide ((s.size : Int) ≤ 20), fun k hk => ?_, fun k hk => ?_⟩ <;>
      · obtain ⟨k, rfl⟩ : ∃ m, k = m + 1 := ⟨k - 1, by omega⟩
        simp only [spec_PlainOk.l0, impl_PlainOk.l0]
        rw [if_neg hlt]
theorem plain_both (s : ByteArray) (hn : s.size ≤ 140737488351232) : ∃ r, Ev (fun k => spec_PlainOk.f k s) r ∧ Ev (fun k => impl_PlainOk.f k s) r := by
  obtain ⟨r, hs, hi⟩ := plain_loops s (by omega) s.size 0 (by omega) (by omega)
  exact ⟨r, ⟨s.size + 1, fun k hk => hs k (by omega)⟩, ⟨s.size + 1, fun k hk => hi k (by omega)⟩⟩

def headv (a b : Int) (c d : ByteArray) (n : Int) (x y : Bool) : Bool :=
  if a = 1 then decide (b = 0) && ((c.toList == []) && ((d.toList == []) && (n == 0))) else
  if a = 2 then decide (b = 0) && ((c.toList == []) && ((d.toList == []) && (n == 0))) else
  if a = 6 then decide (b = 0) && ((c.toList == []) && ((d.toList == []) && (n == 0))) else
  if a = 3 then inB b 0 2147483647 && ((c.toList == []) && ((d.toList == []) && (n == 0))) else
  if a = 4 then decide (b = 0) && (x && (y && (n == 0))) else
  if a = 5 then inB b 0 2147483647 && (x && ((d.toList == []) && (n == 0))) else
  if a = 7 then decide (b = 0) && ((c.toList == []) && ((d.toList == []) && inB n 1 4)) else
  if a = 8 then decide (b = 0) && ((c.toList == []) && ((d.toList == []) && inB n 1 4)) else
  if a = 9 then decide (b = 0) && ((c.toList == []) && ((d.toList == []) && (n == 1))) else false
theorem head_bothV (a b : Int) (c d : ByteArray) (l : List S26) (hc : c.size ≤ 1048576) (hd : d.size ≤ 1048576) :
    ∃ x y, ∀ k, 1048580 < k → spec_l5One.f k a b c d l = some (headv a b c d l.length x y) ∧ impl_polHeadOk.f k a b c d l = some (headv a b c d l.length x y) := by
  obtain ⟨x, hx1, hx2⟩ := name_loops c (by omega) c.size 0 (by omega) (by omega)
  obtain ⟨y, hy1, hy2⟩ := plain_loops d (by omega) d.size 0 (by omega) (by omega)
  refine ⟨x, y, fun k hk => ?_⟩
  obtain ⟨k, rfl⟩ : ∃ m, k = m + 1 + 1 + 1 := ⟨k - 3, by omega⟩
  have e1 : spec_NameOk.f (k + 1 + 1) c = some x := hx1 _ (by omega)
  have e2 : impl_NameOk.f (k + 1) c = some x := hx2 _ (by omega)
  have e3 : spec_PlainOk.f (k + 1 + 1) d = some y := hy1 _ (by omega)
  have e4 : impl_PlainOk.f (k + 1) d = some y := hy2 _ (by omega)
  have key : (a = 1 ∨ a = 2 ∨ a = 6 ∨ a = 9) ∨ a = 3 ∨ a = 4 ∨ a = 5 ∨ (a = 7 ∨ a = 8) ∨ (a ≠ 1 ∧ a ≠ 2 ∧ a ≠ 6 ∧ a ≠ 9 ∧ a ≠ 3 ∧ a ≠ 4 ∧ a ≠ 5 ∧ a ≠ 7 ∧ a ≠ 8) := by omega
  rcases key with (rfl | rfl | rfl | rfl) | rfl | rfl | rfl | (rfl | rfl) | ⟨n1, n2, n6, n9, n3, n4, n5, n7, n8⟩
  case inl.inl | inl.inr.inl | inl.inr.inr.inl | inl.inr.inr.inr | inr.inr.inr.inr.inl.inl | inr.inr.inr.inr.inl.inr =>
    by_cases hb : b = 0 <;> by_cases hc : c.toList = [] <;> by_cases hd : d.toList = [] <;>
      simp [spec_l5One.f, spec_l5One.j0, impl_polHeadOk.f, impl_polHeadOk.j0, impl_polHeadOk.j1, impl_polHeadOk.j2, headv, spec_l1In_eq, impl_within_eq, hb, hc, hd]
  case inr.inl =>
    cases hb : inB b 0 2147483647 <;> by_cases hb0 : b = 0 <;> by_cases hc : c.toList = [] <;> by_cases hd : d.toList = [] <;>
      simp_all [spec_l5One.f, spec_l5One.j0, impl_polHeadOk.f, impl_polHeadOk.j0, impl_polHeadOk.j1, impl_polHeadOk.j2, headv, spec_l1In_eq, impl_within_eq]
  case inr.inr.inl =>
    cases x <;> cases y <;> by_cases hb : b = 0 <;> by_cases hc : c.toList = [] <;>
      simp [spec_l5One.f, spec_l5One.j0, impl_polHeadOk.f, impl_polHeadOk.j0, impl_polHeadOk.j1, impl_polHeadOk.j2, headv, spec_l1In_eq, impl_within_eq, hb, hc, e1, e2, e3, e4]
  case inr.inr.inr.inl =>
    cases hb : inB b 0 2147483647 <;> cases x <;> by_cases hb0 : b = 0 <;> by_cases hc : c.toList = [] <;> by_cases hd : d.toList = [] <;>
      simp_all [spec_l5One.f, spec_l5One.j0, impl_polHeadOk.f, impl_polHeadOk.j0, impl_polHeadOk.j1, impl_polHeadOk.j2, headv, spec_l1In_eq, impl_within_eq]
  case inr.inr.inr.inr.inr =>
    have i1 : (a == 1) = false := by simpa using n1
    have i2 : (a == 2) = false := by simpa using n2
    have i6 : (a == 6) = false := by simpa using n6
    have i7 : (a == 7) = false := by simpa using n7
    have i8 : (a == 8) = false := by simpa using n8
    by_cases hb : b = 0 <;> by_cases hc : c.toList = [] <;>
      simp [spec_l5One.f, spec_l5One.j0, impl_polHeadOk.f, impl_polHeadOk.j0, impl_polHeadOk.j1, impl_polHeadOk.j2, headv, n1, n2, n3, n4, n5, n6, n7, n8, n9, i1, i2, i6, i7, i8, hb, hc]
theorem head_both (a b : Int) (c d : ByteArray) (l : List S26) (hc : c.size ≤ 1048576) (hd : d.size ≤ 1048576) :
    ∃ r, ∀ k, 1048580 < k → spec_l5One.f k a b c d l = some r ∧ impl_polHeadOk.f k a b c d l = some r := by
  obtain ⟨x, y, h⟩ := head_bothV a b c d l hc hd
  exact ⟨_, h⟩

/-- The same for a loop over a function that is told by a number: the end is the same for each that is large enough. -/
theorem loop_exm {σ β ι : Type} {ok : ι → Prop} {L : ι → Nat → σ → Int → Option β} {n : Nat} {I : σ → Nat → Prop} {Post : σ → Nat → β → Prop}
    (hend : ∀ s, I s n → ∃ r, Post s n r ∧ ∀ m, ok m → ∀ k, L m (k + 1) s (n : Int) = some r)
    (hstep : ∀ s (i : Nat), i < n → I s i → (∃ r, Post s i r ∧ ∀ m, ok m → ∀ k, L m (k + 1) s (i : Int) = some r) ∨
      ∃ s', I s' (i + 1) ∧ (∀ m, ok m → ∀ k, L m (k + 1) s (i : Int) = L m k s' ((i : Int) + 1)) ∧ ∀ r, Post s' (i + 1) r → Post s i r) :
    ∀ (d : Nat) s (i : Nat), i + d = n → I s i → ∃ r, Post s i r ∧ ∀ m, ok m → ∀ k, d < k → L m k s (i : Int) = some r := by
  intro d
  induction d with
  | zero =>
    intro s i hd hI
    obtain rfl : i = n := by omega
    obtain ⟨r, hp, hr⟩ := hend s hI
    refine ⟨r, hp, fun m hm k hk => ?_⟩
    obtain ⟨k, rfl⟩ : ∃ m, k = m + 1 := ⟨k - 1, by omega⟩
    exact hr m hm k
  | succ d ih =>
    intro s i hd hI
    rcases hstep s i (by omega) hI with ⟨r, hp, hr⟩ | ⟨s', hI', he, hp⟩
    · refine ⟨r, hp, fun m hm k hk => ?_⟩
      obtain ⟨k, rfl⟩ : ∃ m, k = m + 1 := ⟨k - 1, by omega⟩
      exact hr m hm k
    · obtain ⟨r, hq, hr⟩ := ih s' (i + 1) (by omega) hI'
      refine ⟨r, hp r hq, fun m hm k hk => ?_⟩
      obtain ⟨k, rfl⟩ : ∃ m, k = m + 1 := ⟨k - 1, by omega⟩
      rw [he m hm k]
      have := hr m hm k (by omega)
      rw [Int.natCast_add] at this
      exact this

theorem spec_PolCount_at : ∀ (x : S26), pN26 x ≤ 1048577 → ∀ k, pT26 x < k → spec_PolCount.f k x.f0 x.f1 x.f2 x.f3 x.f4 = some (pN26 x : Int) := by
  intro x
  induction x using ind26 with
  | _ a b c d l ih =>
  intro hn k hk
  rw [pT26] at hk
  rw [pN26] at hn ⊢
  obtain ⟨k, rfl⟩ : ∃ m, k = m + 1 := ⟨k - 1, by omega⟩
  have hl := pNs26_len l
  obtain ⟨r, hr, h⟩ := loop_ex (σ := Int) (L := fun j s i => spec_PolCount.l0 j s i a b c d l) (n := l.length) (K := pTs26 l + 1)
    (I := fun s i => s = 1 + (pNs26 (l.take i) : Int)) (Post := fun _ _ r => r = 1 + (pNs26 l : Int))
    (fun s hI => ⟨_, rfl, fun k => by
      simp only [spec_PolCount.l0]
      rw [if_neg (not_lt_cast _), hI, List.take_length]⟩)
    (fun s i hi hI => .inr ⟨_, rfl, fun j hj => by
      have hx := List.getElem_mem hi
      have hT := pT26_mem hx
      have hN := pN26_mem hx
      have hk1 := pNs26_take l i hi
      have hk2 := pNs26_le l (i + 1)
      simp only [spec_PolCount.l0]
      rw [if_pos (lt_cast hi), if_pos (nn_cast i), rdP26 _ _ hi, ih l[i] hx (by omega) j (by omega), Option.bind_some, wrap_nat1 hi (by omega), hI, wrap_of (by omega) (by omega), hk1]
      congr 1
      push_cast
      omega, fun _ h => h⟩) l.length 1 0 (by omega) (by simp [pNs26])
  subst hr
  have h2 := h k (by omega)
  simp only [spec_PolCount.f]
  refine h2.trans ?_
  push_cast
  rfl

mutual
def fitI : S26 → Prop
  | ⟨_, _, c, d, l⟩ => c.size ≤ 1048576 ∧ d.size ≤ 1048576 ∧ fitIs l
def fitIs : List S26 → Prop
  | [] => True
  | x :: l => fitI x ∧ fitIs l
end
theorem fitIs_iff (l : List S26) : fitIs l ↔ ∀ x ∈ l, fitI x := by
  induction l with
  | nil => simp [fitIs]
  | cons x l ih => simp [fitIs, ih]
theorem polOk_tree : ∀ (x : S26), pN26 x ≤ 1048577 → fitI x → ∀ n : Int, 0 ≤ n → n ≤ 5 → ∃ (q : Bool) (p : Int),
    (∀ k, 2 * pT26 x + 1048600 < k → spec_l5Deep.f k x.f0 x.f1 x.f2 x.f3 x.f4 n = some q) ∧
    (∀ k, 2 * pT26 x + 1048600 < k → impl_polParts.f k x.f0 x.f1 x.f2 x.f3 x.f4 n = some p) ∧
    1 ≤ p ∧ p ≤ 13 ∧ (p ≤ 12 → q = true ∧ p = pN26 x) ∧ (q = true → (pN26 x : Int) ≤ 12 → p = pN26 x) := by
  intro x
  induction x using ind26 with
  | _ a b c d l ih =>
  intro hn hf n hn0 hn5
  rw [fitI] at hf
  obtain ⟨hfc, hfd, hfl⟩ := hf
  rw [pN26] at hn
  simp only [pN26, pT26]
  have hl := pNs26_len l
  by_cases c1 : n > 4
  · refine ⟨false, 13, fun k hk => ?_, fun k hk => ?_, by omega, by omega, by omega, by simp⟩
    · obtain ⟨k, rfl⟩ : ∃ m, k = m + 1 + 1 := ⟨k - 2, by omega⟩
      simp only [spec_l5Deep.f, spec_l5Deep.j0]
      rw [if_pos c1, if_pos (by simp)]
    · obtain ⟨k, rfl⟩ : ∃ m, k = m + 1 + 1 := ⟨k - 2, by omega⟩
      simp only [impl_polParts.f, impl_polParts.j0]
      rw [if_pos c1, if_pos (by simp)]
  obtain ⟨h, hh⟩ := head_both a b c d l hfc hfd
  have w1 : wrap64 (n + 1) = n + 1 := wrap_of (by omega) (by omega)
  cases h with
  | false =>
    refine ⟨false, 13, fun k hk => ?_, fun k hk => ?_, by omega, by omega, by omega, by simp⟩
    · obtain ⟨k, rfl⟩ : ∃ m, k = m + 1 + 1 := ⟨k - 2, by omega⟩
      simp only [spec_l5Deep.f, spec_l5Deep.j0]
      rw [if_neg c1, (hh (k + 1) (by omega)).1, Option.bind_some, if_pos (by simp)]
    · obtain ⟨k, rfl⟩ : ∃ m, k = m + 1 + 1 := ⟨k - 2, by omega⟩
      simp only [impl_polParts.f, impl_polParts.j0]
      rw [if_neg c1, (hh (k + 1) (by omega)).2, Option.bind_some, if_pos (by simp)]
  | true =>
    -- all below are right
    obtain ⟨q, hq, hsp⟩ := loop_ex (σ := Unit) (L := fun j _ i => spec_l5Deep.l0 j n i a b c d l) (n := l.length) (K := 2 * pTs26 l + 1048601)
      (I := fun _ _ => True) (Post := fun _ i (r : Bool) => r = true ↔ ∀ j (hj : j < l.length), i ≤ j → ∀ k, 2 * pT26 l[j] + 1048600 < k → spec_l5Deep.f k l[j].f0 l[j].f1 l[j].f2 l[j].f3 l[j].f4 (n + 1) = some true)
      (fun s hI => ⟨true, ⟨fun _ j hj hij => by omega, fun _ => rfl⟩, fun k => by
        simp only [spec_l5Deep.l0]
        rw [if_neg (not_lt_cast _)]⟩)
      (fun s i hi hI => by
        have hx := List.getElem_mem hi
        have hT := pT26_mem hx
        have hN := pN26_mem hx
        obtain ⟨q, p, hq, hp, _⟩ := ih l[i] hx (by omega) ((fitIs_iff l).1 hfl _ hx) (n + 1) (by omega) (by omega)
        cases q with
        | false =>
          refine .inl ⟨false, ⟨fun hz => absurd hz (by simp), fun hz => ?_⟩, fun k hk => ?_⟩
          · have := hz i hi (Nat.le_refl _) (2 * pT26 l[i] + 1048601) (by omega)
            rw [hq _ (by omega)] at this
            exact absurd this (by simp)
          · simp only [spec_l5Deep.l0]
            rw [if_pos (lt_cast hi), if_pos (nn_cast i), rdP26 _ _ hi, w1, hq k (by omega), Option.bind_some, if_neg (by decide)]
        | true =>
          refine .inr ⟨(), trivial, fun k hk => ?_, fun r hr => ⟨fun hz j hj hij => ?_, fun hz => hr.2 fun j hj hij => hz j hj (by omega)⟩⟩
          · simp only [spec_l5Deep.l0]
            rw [if_pos (lt_cast hi), if_pos (nn_cast i), rdP26 _ _ hi, w1, hq k (by omega), Option.bind_some, if_pos rfl, wrap_nat1 hi (by omega)]
          · rcases Nat.lt_or_ge i j with hlt | hge
            · exact hr.1 hz j hj hlt
            · obtain rfl : i = j := by omega
              exact hq) l.length () 0 (by omega) trivial
    obtain ⟨p, hp, him⟩ := loop_ex (σ := Int) (L := fun j s i => impl_polParts.l0 j n s l l.length i) (n := l.length) (K := 2 * pTs26 l + 1048601)
      (I := fun s _ => 1 ≤ s ∧ s ≤ 12) (Post := fun s i r => s ≤ r ∧ r ≤ 13 ∧ (r ≤ 12 → r = s + pNs26 (l.drop i) ∧ ∀ j (hj : j < l.length), i ≤ j → ∀ k, 2 * pT26 l[j] + 1048600 < k → spec_l5Deep.f k l[j].f0 l[j].f1 l[j].f2 l[j].f3 l[j].f4 (n + 1) = some true) ∧
        ((∀ j (hj : j < l.length), i ≤ j → ∀ k, 2 * pT26 l[j] + 1048600 < k → spec_l5Deep.f k l[j].f0 l[j].f1 l[j].f2 l[j].f3 l[j].f4 (n + 1) = some true) → s + (pNs26 (l.drop i) : Int) ≤ 12 → r = s + pNs26 (l.drop i)))
      (fun s hI => ⟨s, ⟨by omega, by omega, fun _ => ⟨by rw [List.drop_length]; simp [pNs26], fun j hj hij => by omega⟩, fun _ _ => by rw [List.drop_length]; simp [pNs26]⟩, fun k => by
        simp only [impl_polParts.l0]
        rw [if_neg (not_lt_cast _)]⟩)
      (fun s i hi hI => by
        have hx := List.getElem_mem hi
        have hT := pT26_mem hx
        have hN := pN26_mem hx
        have hdr := pNs26_drop l i hi
        obtain ⟨q, p, hq, hp, p1, p13, hp1, hp2⟩ := ih l[i] hx (by omega) ((fitIs_iff l).1 hfl _ hx) (n + 1) (by omega) (by omega)
        have w2 : wrap64 (s + p) = s + p := wrap_of (by omega) (by omega)
        by_cases c2 : s + p ≥ 13
        · refine .inl ⟨13, ⟨by omega, by omega, by omega, fun hz hz2 => ?_⟩, fun k hk => ?_⟩
          · have hq1 := hz i hi (Nat.le_refl _) (2 * pT26 l[i] + 1048601) (by omega)
            rw [hq _ (by omega)] at hq1
            have := hp2 (Option.some.inj hq1) (by omega)
            omega
          · simp only [impl_polParts.l0]
            rw [if_pos (lt_cast hi), if_pos (nn_cast i), if_pos (lt_cast hi), rdP26 _ _ hi, w1, hp k (by omega), Option.bind_some, w2, if_pos c2]
        · obtain ⟨q1, q2⟩ := hp1 (by omega)
          refine .inr ⟨s + p, ⟨by omega, by omega⟩, fun k hk => ?_, fun r hr => ⟨by omega, by omega, fun hz => ⟨?_, fun j hj hij => ?_⟩, fun hz hz2 => ?_⟩⟩
          · simp only [impl_polParts.l0]
            rw [if_pos (lt_cast hi), if_pos (nn_cast i), if_pos (lt_cast hi), rdP26 _ _ hi, w1, hp k (by omega), Option.bind_some, w2, if_neg c2, wrap_nat1 hi (by omega)]
          · have := (hr.2.2.1 hz).1
            omega
          · rcases Nat.lt_or_ge i j with hlt | hge
            · exact (hr.2.2.1 hz).2 j hj hlt
            · obtain rfl : i = j := by omega
              rw [q1] at hq
              exact hq
          · have := hr.2.2.2 (fun j hj hij => hz j hj (by omega)) (by omega)
            omega) l.length 1 0 (by omega) ⟨by omega, by omega⟩
    rw [List.drop_zero] at hp
    obtain ⟨p1, p2, p3, p4⟩ := hp
    refine ⟨q, p, fun k hk => ?_, fun k hk => ?_, p1, p2, fun hz => ⟨hq.2 (p3 hz).2, ?_⟩, fun hz hz2 => ?_⟩
    · obtain ⟨k, rfl⟩ : ∃ m, k = m + 1 + 1 := ⟨k - 2, by omega⟩
      simp only [spec_l5Deep.f, spec_l5Deep.j0]
      rw [if_neg c1, (hh (k + 1) (by omega)).1, Option.bind_some, if_neg (by decide)]
      exact hsp k (by omega)
    · obtain ⟨k, rfl⟩ : ∃ m, k = m + 1 + 1 := ⟨k - 2, by omega⟩
      simp only [impl_polParts.f, impl_polParts.j0]
      rw [if_neg c1, (hh (k + 1) (by omega)).2, Option.bind_some, if_neg (by decide)]
      exact him k (by omega)
    · have := (p3 hz).1
      push_cast
      omega
    · have := p4 (hq.1 hz) (by push_cast at hz2; omega)
      push_cast
      omega
theorem polOk_both (x : S26) (hn : pN26 x ≤ 1048577) (hf : fitI x) : ∃ r, ∀ k, 2 * pT26 x + 1048600 < k → spec_PolOk.f k x.f0 x.f1 x.f2 x.f3 x.f4 = some r ∧ impl_PolOk.f k x.f0 x.f1 x.f2 x.f3 x.f4 = some r := by
  obtain ⟨q, p, hq, hp, p1, p2, p3, p4⟩ := polOk_tree x hn hf 1 (by omega) (by omega)
  refine ⟨decide (p ≤ 12), fun k hk => ⟨?_, ?_⟩⟩
  · simp only [spec_PolOk.f, spec_PolCount_at x hn k (by omega), hq k hk, Option.bind_some]
    by_cases c : (pN26 x : Int) ≤ 12
    · rw [if_pos c]
      cases q with
      | true =>
        have := p4 rfl c
        rw [decide_eq_true (by omega)]
      | false =>
        rw [decide_eq_false]
        intro hz
        exact absurd (p3 hz).1 (by simp)
    · rw [if_neg c, decide_eq_false]
      intro hz
      have := (p3 hz).2
      omega
  · simp only [impl_PolOk.f, hp k hk, Option.bind_some]

/-- A drawn rule is small. -/
def DrawOk (d B K : Nat) : Prop := ∀ (s : List Int) (i h : Int), RdOk s i → ∃ a b c e l j h', (∀ k, K < k → spec_l5Draw.f k s i h (d : Int) = some (a, b, c, e, l, j, h')) ∧ pN26 ⟨a, b, c, e, l⟩ ≤ B ∧ fitI ⟨a, b, c, e, l⟩ ∧ RdOk s j
theorem fitI_mk {a b : Int} {c e : ByteArray} {l : List S26} (hc : c.size ≤ 100) (he : e.size ≤ 100) (hl : ∀ x ∈ l, fitI x) : fitI ⟨a, b, c, e, l⟩ := by
  rw [fitI]
  exact ⟨by omega, by omega, (fitIs_iff l).2 hl⟩
theorem e_sz : (⟨#[]⟩ : ByteArray).size ≤ 100 := by decide
theorem j1_leaf (d : Int) (s : List Int) (i h q : Int) (H : RdOk s i) (h7 : q ≠ 7) (h8 : q ≠ 8) (h9 : q ≠ 9) :
    ∃ b c e j h', (∀ k, 1 < k → spec_l5Draw.j1 k d s i h q 0 ⟨#[]⟩ ⟨#[]⟩ = some (q, b, c, e, [], j, h')) ∧ c.size ≤ 100 ∧ e.size ≤ 100 ∧ RdOk s j := by
  by_cases c3 : q = 3
  · obtain ⟨v, j, h', e1, _, H1⟩ := l1Int_ex s i h [0, 1, 5, 20] (by decide) H
    refine ⟨v, ⟨#[]⟩, ⟨#[]⟩, j, h', fun k hk => ?_, e_sz, e_sz, H1⟩
    obtain ⟨k, rfl⟩ : ∃ m, k = m + 1 := ⟨k - 1, by omega⟩
    simp only [spec_l5Draw.j1, e1, Option.bind_some]
    rw [if_pos c3]
  by_cases c4 : q = 4
  · obtain ⟨v, j, h', e1, hv, H1⟩ := g1Names s i h H
    obtain ⟨u, j2, h2, e2, hu, H2⟩ := l1Str_ex s j h' [(⟨#[97]⟩ : ByteArray), (⟨#[98]⟩ : ByteArray), (⟨#[111, 107]⟩ : ByteArray)] (by decide) H1
    refine ⟨0, v, u, j2, h2, fun k hk => ?_, hv, s_of hu (by decide), H2⟩
    obtain ⟨k, rfl⟩ : ∃ m, k = m + 1 := ⟨k - 1, by omega⟩
    simp only [spec_l5Draw.j1, e1, e2, Option.bind_some]
    rw [if_neg c3, if_pos c4]
  by_cases c5 : q = 5
  · obtain ⟨v, j, h', e1, hv, H1⟩ := g1Names s i h H
    obtain ⟨u, j2, h2, e2, _, H2⟩ := l1Int_ex s j h' [0, 1, 200, 500] (by decide) H1
    refine ⟨u, v, ⟨#[]⟩, j2, h2, fun k hk => ?_, hv, e_sz, H2⟩
    obtain ⟨k, rfl⟩ : ∃ m, k = m + 1 := ⟨k - 1, by omega⟩
    simp only [spec_l5Draw.j1, e1, e2, Option.bind_some]
    rw [if_neg c3, if_neg c4, if_pos c5]
  · refine ⟨0, ⟨#[]⟩, ⟨#[]⟩, i, h, fun k hk => ?_, e_sz, e_sz, H⟩
    obtain ⟨k, rfl⟩ : ∃ m, k = m + 1 + 1 := ⟨k - 2, by omega⟩
    have b8 : (q == 8) = false := by simpa using h8
    simp only [spec_l5Draw.j1]
    rw [if_neg c3, if_neg c4, if_neg c5, if_neg h7, b8]
    simp only [spec_l5Draw.j2]
    rw [if_neg (by decide), if_neg h9]
theorem leafOk {s : List Int} {i h q : Int} (d : Int) (H : RdOk s i) (h7 : q ≠ 7) (h8 : q ≠ 8) (h9 : q ≠ 9) : ∃ b c e j h', (∀ k, 1 < k → spec_l5Draw.j1 k d s i h q 0 ⟨#[]⟩ ⟨#[]⟩ = some (q, b, c, e, [], j, h')) ∧ pN26 ⟨q, b, c, e, []⟩ = 1 ∧ fitI ⟨q, b, c, e, []⟩ ∧ RdOk s j := by
  obtain ⟨b, c, e, j, h', e1, hc, he, H1⟩ := j1_leaf d s i h q H h7 h8 h9
  exact ⟨b, c, e, j, h', e1, by rw [pN26, pNs26], fitI_mk hc he (fun x hx => nomatch hx), H1⟩
theorem draw1 : DrawOk 1 1 10 := by
  intro s i h H
  obtain ⟨q, j, h', e0, hq, H1⟩ := l1Int_ex s i h [1, 2, 3, 4, 5, 6, 6, 7, 8, 9] (by decide) H
  by_cases c : q ≥ 7
  · obtain ⟨v, j2, h2, e2, v0, v1, _, H2⟩ := l1Below_ex s j h' 6 H1
    have v2 := v1 (by omega)
    have w : wrap64 (1 + v) = 1 + v := wrap_of (by omega) (by omega)
    obtain ⟨b, c', e, j3, h3, e3, n3, f3, H3⟩ := leafOk (h := h2) (q := 1 + v) 1 H2 (by omega) (by omega) (by omega)
    refine ⟨1 + v, b, c', e, [], j3, h3, fun k hk => ?_, by omega, f3, H3⟩
    obtain ⟨k, rfl⟩ : ∃ m, k = m + 1 + 1 := ⟨k - 2, by omega⟩
    show spec_l5Draw.f (k + 1 + 1) s i h 1 = _
    simp only [spec_l5Draw.f, spec_l5Draw.j0, e0, e2, Option.bind_some, w, e3 k (by omega)]
    rw [if_pos trivial, if_pos (decide_eq_true c)]
  · have hq' : 1 ≤ q := by
      simp only [List.mem_cons, List.not_mem_nil, or_false] at hq
      omega
    obtain ⟨b, c', e, j3, h3, e3, n3, f3, H3⟩ := leafOk (h := h') (q := q) 1 H1 (by omega) (by omega) (by omega)
    refine ⟨q, b, c', e, [], j3, h3, fun k hk => ?_, by omega, f3, H3⟩
    obtain ⟨k, rfl⟩ : ∃ m, k = m + 1 + 1 := ⟨k - 2, by omega⟩
    show spec_l5Draw.f (k + 1 + 1) s i h 1 = _
    simp only [spec_l5Draw.f, spec_l5Draw.j0, e0, Option.bind_some, e3 k (by omega)]
    rw [if_pos trivial, if_neg (by rw [decide_eq_false c]; decide)]
theorem l5l0 (d B K : Nat) (hd : d ≤ 2) (ih : DrawOk d B K) (s : List Int) (q : Int) : ∀ (m : Nat) (i h : Int) (acc : List S26), RdOk s i → m ≤ 2 → acc.length + m ≤ 4 → (∀ x ∈ acc, fitI x) →
    ∃ l j h', (∀ k, K + m < k → spec_l5Draw.l0 k ((d + 1 : Nat) : Int) (m : Int) s i h q 0 ⟨#[]⟩ ⟨#[]⟩ acc = some (q, 0, ⟨#[]⟩, ⟨#[]⟩, l, j, h')) ∧ pNs26 l ≤ pNs26 acc + m * B ∧ (∀ x ∈ l, fitI x) ∧ RdOk s j := by
  intro m
  induction m with
  | zero =>
    intro i h acc H _ hl hf
    refine ⟨acc, i, h, fun k hk => ?_, by omega, hf, H⟩
    obtain ⟨k, rfl⟩ : ∃ q, k = q + 1 := ⟨k - 1, by omega⟩
    simp only [spec_l5Draw.l0]
    rw [if_neg (by omega)]
  | succ m im =>
    intro i h acc H hm hl hf
    obtain ⟨a, b, c, e, l1, j, h1, e1, n1, f1, H1⟩ := ih s i h H
    obtain ⟨l, j2, h2, e2, n2, f2, H2⟩ := im j h1 (acc ++ [(⟨a, b, c, e, l1⟩ : S26)]) H1 (by omega) (by simp; omega) (fun x hx => by
      rcases List.mem_append.1 hx with hx | hx
      · exact hf x hx
      · rw [List.mem_singleton.1 hx]
        exact f1)
    refine ⟨l, j2, h2, fun k hk => ?_, ?_, f2, H2⟩
    · obtain ⟨k, rfl⟩ : ∃ q, k = q + 1 := ⟨k - 1, by omega⟩
      have w1 : wrap64 (((d + 1 : Nat) : Int) - 1) = (d : Int) := by rw [wrap_of (by omega) (by omega)]; omega
      have w2 : wrap64 (((m + 1 : Nat) : Int) - 1) = (m : Int) := by rw [wrap_of (by omega) (by omega)]; omega
      simp only [spec_l5Draw.l0]
      rw [if_pos (by omega), w1, e1 k (by omega), Option.bind_some, if_pos (by omega), w2]
      exact e2 k (by omega)
    · rw [pNs26_app, pNs26, pNs26] at n2
      rw [Nat.succ_mul]
      omega
theorem drawS (d B K : Nat) (h1 : 1 ≤ d) (hd : d ≤ 2) (ih : DrawOk d B K) : DrawOk (d + 1) (1 + 2 * B) (K + 10) := by
  intro s i h H
  obtain ⟨q, j, h', e0, hq, H1⟩ := l1Int_ex s i h [1, 2, 3, 4, 5, 6, 6, 7, 8, 9] (by decide) H
  have hd1 : ¬ (((d + 1 : Nat) : Int) = 1) := by omega
  have start : ∀ k r, spec_l5Draw.j1 k ((d + 1 : Nat) : Int) s j h' q 0 ⟨#[]⟩ ⟨#[]⟩ = r → spec_l5Draw.f (k + 1 + 1) s i h ((d + 1 : Nat) : Int) = r := by
    intro k r hr
    simp only [spec_l5Draw.f, spec_l5Draw.j0, e0, Option.bind_some]
    rw [if_neg hd1, if_neg (by decide)]
    exact hr
  by_cases c78 : q = 7 ∨ q = 8
  · obtain ⟨v, j2, h2, e2, v0, v1, _, H2⟩ := l1Below_ex s j h' 2 H1
    have v2 := v1 (by omega)
    obtain ⟨m, hm, hm2⟩ : ∃ m : Nat, wrap64 (1 + v) = (m : Int) ∧ m ≤ 2 := ⟨(1 + v).toNat, by rw [wrap_of (by omega) (by omega)]; omega, by omega⟩
    obtain ⟨l, j3, h3, e3, n3, f3, H3⟩ := l5l0 d B K hd ih s q m j2 h2 [] H2 hm2 (by simp; omega) (fun x hx => nomatch hx)
    refine ⟨q, 0, ⟨#[]⟩, ⟨#[]⟩, l, j3, h3, fun k hk => ?_, ?_, fitI_mk e_sz e_sz f3, H3⟩
    · obtain ⟨k, rfl⟩ : ∃ m, k = m + 1 + 1 + 1 + 1 := ⟨k - 4, by omega⟩
      have e4 := e3 k (by omega)
      refine start (k + 1 + 1) _ ?_
      simp only [spec_l5Draw.j1]
      have j2t : spec_l5Draw.j2 (k + 1) ((d + 1 : Nat) : Int) q true s j h' q 0 ⟨#[]⟩ ⟨#[]⟩ = some (q, 0, ⟨#[]⟩, ⟨#[]⟩, l, j3, h3) := by
        simp only [spec_l5Draw.j2]
        rw [if_pos trivial, e2, Option.bind_some, hm]
        exact e4
      rcases c78 with c7 | c8
      · have b7 : (q == 7) = true := by simpa using c7
        rw [if_neg (by omega), if_neg (by omega), if_neg (by omega), if_pos c7, b7]
        exact j2t
      · have b8 : (q == 8) = true := by simpa using c8
        rw [if_neg (by omega), if_neg (by omega), if_neg (by omega), if_neg (by omega), b8]
        exact j2t
    · have := Nat.mul_le_mul_right B hm2
      rw [pNs26] at n3
      rw [pN26]
      omega
  by_cases c9 : q = 9
  · obtain ⟨a, b, c, e, l1, j2, h2, e2, n2, f2, H2⟩ := ih s j h' H1
    refine ⟨q, 0, ⟨#[]⟩, ⟨#[]⟩, [(⟨a, b, c, e, l1⟩ : S26)], j2, h2, fun k hk => ?_, ?_, fitI_mk e_sz e_sz (fun x hx => by rw [List.mem_singleton.1 hx]; exact f2), H2⟩
    · obtain ⟨k, rfl⟩ : ∃ m, k = m + 1 + 1 + 1 + 1 := ⟨k - 4, by omega⟩
      have w1 : wrap64 (((d + 1 : Nat) : Int) - 1) = (d : Int) := by rw [wrap_of (by omega) (by omega)]; omega
      refine start (k + 1 + 1) _ ?_
      have b8 : (q == 8) = false := by simp; omega
      simp only [spec_l5Draw.j1]
      rw [if_neg (by omega), if_neg (by omega), if_neg (by omega), if_neg (by omega), b8]
      simp only [spec_l5Draw.j2]
      rw [if_neg (by decide), if_pos c9, w1, e2 k (by omega), Option.bind_some, if_pos (by decide)]
      rfl
    · rw [pN26, pNs26, pNs26]
      omega
  · obtain ⟨b, c', e, j3, h3, e3, n3, f3, H3⟩ := leafOk (h := h') (q := q) ((d + 1 : Nat) : Int) H1 (by omega) (by omega) c9
    refine ⟨q, b, c', e, [], j3, h3, fun k hk => ?_, by omega, f3, H3⟩
    obtain ⟨k, rfl⟩ : ∃ m, k = m + 1 + 1 := ⟨k - 2, by omega⟩
    exact start k _ (e3 k (by omega))
theorem draw2 : DrawOk 2 3 20 := drawS 1 1 10 (by omega) (by omega) draw1
theorem draw3 : DrawOk 3 7 30 := drawS 2 3 20 (by omega) (by omega) draw2
theorem l5Any_ex (s : List Int) (i h : Int) (H : RdOk s i) : ∃ a b c e l j h', (∀ k, 50 < k → spec_l5Any.f k s i h = some (a, b, c, e, l, j, h')) ∧ pN26 ⟨a, b, c, e, l⟩ ≤ 100 ∧ fitI ⟨a, b, c, e, l⟩ ∧ RdOk s j := by
  obtain ⟨a, b, c, e, l, j, h1, e1, n1, f1, H1⟩ := draw3 s i h H
  have e1' : ∀ k, 30 < k → spec_l5Draw.f k s i h 3 = some (a, b, c, e, l, j, h1) := e1
  obtain ⟨v, j2, h2, e2, _, _, _, H2⟩ := l1Below_ex s j h1 14 H1
  have g1 := f1
  have m1 := n1
  rw [fitI] at g1
  rw [pN26] at m1
  obtain ⟨gc, ge, gl⟩ := g1
  have ll := pNs26_len l
  by_cases c0 : v = 0
  · obtain ⟨x, j3, h3, e3, _, H3⟩ := l1Int_ex s j2 h2 [0, 1, 7, 9, 10] (by decide) H2
    refine ⟨x, b, c, e, l, j3, h3, fun k hk => ?_, by rw [pN26]; omega, by rw [fitI]; exact ⟨gc, ge, gl⟩, H3⟩
    simp only [spec_l5Any.f, e1' k (by omega), e2, e3, Option.bind_some]
    rw [if_pos c0]
  by_cases c1 : v = 1
  · obtain ⟨x, j3, h3, e3, H3, _⟩ := l1Raw_ex s j2 h2 H2
    refine ⟨a, x, c, e, l, j3, h3, fun k hk => ?_, by rw [pN26]; omega, by rw [fitI]; exact ⟨gc, ge, gl⟩, H3⟩
    simp only [spec_l5Any.f, e1' k (by omega), e2, e3, Option.bind_some]
    rw [if_neg c0, if_pos c1]
  by_cases c2 : v = 2
  · obtain ⟨x, j3, h3, e3, hx, H3⟩ := g1AnyName s j2 h2 H2
    refine ⟨a, b, x, e, l, j3, h3, fun k hk => ?_, by rw [pN26]; omega, by rw [fitI]; exact ⟨by omega, ge, gl⟩, H3⟩
    simp only [spec_l5Any.f, e1' k (by omega), e2, e3, Option.bind_some]
    rw [if_neg c0, if_neg c1, if_pos c2]
  by_cases c3 : v = 3
  · obtain ⟨x, j3, h3, e3, hx, H3⟩ := g1Plain s j2 h2 H2
    refine ⟨a, b, c, x, l, j3, h3, fun k hk => ?_, by rw [pN26]; omega, by rw [fitI]; exact ⟨gc, by omega, gl⟩, H3⟩
    simp only [spec_l5Any.f, e1' k (by omega), e2, e3, Option.bind_some]
    rw [if_neg c0, if_neg c1, if_neg c2, if_pos c3]
  by_cases c4 : v = 4
  · obtain ⟨a2, b2, c2', d2, l2, j3, h3, e3, n3, f3, H3⟩ := draw2 s j2 h2 H2
    have e3' : ∀ k, 20 < k → spec_l5Draw.f k s j2 h2 2 = some (a2, b2, c2', d2, l2, j3, h3) := e3
    obtain ⟨a3, b3, c3', d3, l3, j4, h4, e4, n4, f4, H4⟩ := draw2 s j3 h3 H3
    have e4' : ∀ k, 20 < k → spec_l5Draw.f k s j3 h3 2 = some (a3, b3, c3', d3, l3, j4, h4) := e4
    refine ⟨a, b, c, e, l ++ [(⟨a2, b2, c2', d2, l2⟩ : S26), (⟨a3, b3, c3', d3, l3⟩ : S26)], j4, h4, fun k hk => ?_, ?_, ?_, H4⟩
    · simp only [spec_l5Any.f, e1' k (by omega), e2, e3' k (by omega), e4' k (by omega), Option.bind_some]
      rw [if_neg c0, if_neg c1, if_neg c2, if_neg c3, if_pos c4, if_pos (by simp; omega)]
    · rw [pN26, pNs26_app, pNs26, pNs26, pNs26]
      omega
    · rw [fitI, fitIs_iff]
      refine ⟨gc, ge, fun x hx => ?_⟩
      rcases List.mem_append.1 hx with hx | hx
      · exact (fitIs_iff l).1 gl x hx
      · simp only [List.mem_cons, List.not_mem_nil, or_false] at hx
        rcases hx with rfl | rfl
        · exact f3
        · exact f4
  by_cases c5 : v = 5
  · refine ⟨9, 0, ⟨#[]⟩, ⟨#[]⟩, [(⟨9, 0, ⟨#[]⟩, ⟨#[]⟩, [(⟨9, 0, ⟨#[]⟩, ⟨#[]⟩, [(⟨a, b, c, e, l⟩ : S26)]⟩ : S26)]⟩ : S26)], j2, h2, fun k hk => ?_, ?_, ?_, H2⟩
    · obtain ⟨k, rfl⟩ : ∃ m, k = m + 1 + 1 + 1 + 1 := ⟨k - 4, by omega⟩
      simp only [spec_l5Any.f, e1' (k + 1 + 1 + 1 + 1) (by omega), e2, Option.bind_some]
      rw [if_neg c0, if_neg c1, if_neg c2, if_neg c3, if_neg c4, if_pos c5]
      have w0 : wrap64 (0 + 1) = 1 := wrap_of (by omega) (by omega)
      have w1 : wrap64 (1 + 1) = 2 := wrap_of (by omega) (by omega)
      have w2 : wrap64 (2 + 1) = 3 := wrap_of (by omega) (by omega)
      rw [spec_l5Any.l0, if_pos (by decide), w0, spec_l5Any.l0, if_pos (by decide), w1, spec_l5Any.l0, if_pos (by decide), w2, spec_l5Any.l0, if_neg (by decide)]
    · simp only [pN26, pNs26]
      omega
    · simp only [fitI, fitIs]
      have := e_sz
      exact ⟨by omega, by omega, ⟨by omega, by omega, ⟨by omega, by omega, ⟨gc, ge, gl⟩, trivial⟩, trivial⟩, trivial⟩
  by_cases c6 : v = 6
  · refine ⟨7, 0, ⟨#[]⟩, ⟨#[]⟩, [(⟨a, b, c, e, l⟩ : S26), (⟨a, b, c, e, l⟩ : S26), (⟨a, b, c, e, l⟩ : S26), (⟨a, b, c, e, l⟩ : S26)], j2, h2, fun k hk => ?_, ?_, ?_, H2⟩
    · simp only [spec_l5Any.f, e1' k (by omega), e2, Option.bind_some]
      rw [if_neg c0, if_neg c1, if_neg c2, if_neg c3, if_neg c4, if_neg c5, if_pos c6]
    · simp only [pN26, pNs26]
      omega
    · simp only [fitI, fitIs]
      have := e_sz
      exact ⟨by omega, by omega, ⟨gc, ge, gl⟩, ⟨gc, ge, gl⟩, ⟨gc, ge, gl⟩, ⟨gc, ge, gl⟩, trivial⟩
  · refine ⟨a, b, c, e, l, j2, h2, fun k hk => ?_, by omega, f1, H2⟩
    simp only [spec_l5Any.f, e1' k (by omega), e2, Option.bind_some]
    rw [if_neg c0, if_neg c1, if_neg c2, if_neg c3, if_neg c4, if_neg c5, if_neg c6]
theorem l5Copy_at : ∀ (x : S26), pN26 x ≤ 1048577 → ∀ k, 2 * pT26 x < k → spec_l5Copy.f k x.f0 x.f1 x.f2 x.f3 x.f4 = some (x.f0, x.f1, x.f2, x.f3, x.f4) := by
  intro x
  induction x using ind26 with
  | _ a b c d l ih =>
  intro hn k hk
  rw [pT26] at hk
  rw [pN26] at hn
  obtain ⟨k, rfl⟩ : ∃ m, k = m + 1 := ⟨k - 1, by omega⟩
  have hl := pNs26_len l
  obtain ⟨r, hr, h⟩ := loop_ex (σ := List S26) (L := fun j s i => spec_l5Copy.l0 j i a b c d l a b c d s) (n := l.length) (K := 2 * pTs26 l + 1)
    (I := fun s i => s = l.take i) (Post := fun _ _ r => r = (a, b, c, d, l))
    (fun s hI => ⟨_, rfl, fun k => by
      simp only [spec_l5Copy.l0]
      rw [if_neg (not_lt_cast _), hI, List.take_length]⟩)
    (fun s i hi hI => .inr ⟨l.take (i + 1), rfl, fun j hj => by
      have hx := List.getElem_mem hi
      have hT := pT26_mem hx
      have hN := pN26_mem hx
      have hs : s.length ≤ l.length := by rw [hI]; exact List.length_take_le' _ _
      simp only [spec_l5Copy.l0]
      rw [if_pos (lt_cast hi), if_pos (nn_cast i), rdP26 _ _ hi, ih l[i] hx (by omega) j (by omega), Option.bind_some, if_pos (by omega), wrap_nat1 hi (by omega), hI, List.take_succ_eq_append_getElem hi]
      show spec_l5Copy.l0 j ((i : Int) + 1) a b c d l a b c d (l.take i ++ [(⟨l[i].f0, l[i].f1, l[i].f2, l[i].f3, l[i].f4⟩ : S26)]) = _
      rw [show (⟨l[i].f0, l[i].f1, l[i].f2, l[i].f3, l[i].f4⟩ : S26) = l[i] from by generalize l[i] = z; cases z; rfl], fun _ h => h⟩) l.length [] 0 (by omega) (by simp)
  subst hr
  simp only [spec_l5Copy.f]
  exact h k (by omega)

mutual
def hrv : S26 → Bool
  | ⟨a, _, _, _, l⟩ => decide (a = 6) || hrs l
def hrs : List S26 → Bool
  | [] => false
  | x :: l => hrv x || hrs l
end
theorem hrs_drop (l : List S26) (i : Nat) (h : i < l.length) : hrs (l.drop i) = (hrv l[i] || hrs (l.drop (i + 1))) := by
  rw [List.drop_eq_getElem_cons h, hrs]
theorem hasRate_at : ∀ (x : S26), pN26 x ≤ 1048577 → ∀ k, pT26 x < k →
    spec_HasRate.f k x.f0 x.f1 x.f2 x.f3 x.f4 = some (hrv x) ∧ impl_HasRate.f k x.f0 x.f1 x.f2 x.f3 x.f4 = some (hrv x) := by
  intro x
  induction x using ind26 with
  | _ a b c d l ih =>
  intro hn k hk
  rw [pT26] at hk
  rw [pN26] at hn
  obtain ⟨k, rfl⟩ : ∃ m, k = m + 1 := ⟨k - 1, by omega⟩
  simp only [spec_HasRate.f, impl_HasRate.f, hrv]
  by_cases ha : a = 6
  · rw [if_pos ha, if_pos ha]
    simp [ha]
  rw [if_neg ha, if_neg ha]
  have e : decide (a = 6) = false := decide_eq_false ha
  rw [e, Bool.false_or]
  have hl := pNs26_len l
  constructor
  · obtain ⟨r, hr, h⟩ := loop_ex (σ := Unit) (L := fun j _ i => spec_HasRate.l0 j i a b c d l) (n := l.length) (K := pTs26 l + 1)
      (I := fun _ _ => True) (Post := fun _ i r => r = hrs (l.drop i))
      (fun s hI => ⟨false, by rw [List.drop_length, hrs], fun k => by
        simp only [spec_HasRate.l0]
        rw [if_neg (not_lt_cast _)]⟩)
      (fun s i hi hI => by
        have hx := List.getElem_mem hi
        have hT := pT26_mem hx
        have hN := pN26_mem hx
        by_cases hv : hrv l[i] = true
        · refine .inl ⟨true, by rw [hrs_drop l i hi, hv]; rfl, fun j hj => ?_⟩
          simp only [spec_HasRate.l0]
          rw [if_pos (lt_cast hi), if_pos (nn_cast i), rdP26 _ _ hi, (ih l[i] hx (by omega) j (by omega)).1, Option.bind_some, if_pos hv]
        · refine .inr ⟨(), trivial, fun j hj => ?_, fun r hr => by rw [hrs_drop l i hi, Bool.eq_false_iff.mpr hv, Bool.false_or]; exact hr⟩
          simp only [spec_HasRate.l0]
          rw [if_pos (lt_cast hi), if_pos (nn_cast i), rdP26 _ _ hi, (ih l[i] hx (by omega) j (by omega)).1, Option.bind_some, if_neg hv, wrap_nat1 hi (by omega)]) l.length () 0 (by omega) trivial
    rw [List.drop_zero] at hr
    subst hr
    exact h k (by omega)
  · obtain ⟨r, hr, h⟩ := loop_ex (σ := Unit) (L := fun j _ i => impl_Pol_45.l0 (fun b0 b1 b2 b3 b4 => impl_HasRate.f k b0 b1 b2 b3 b4) j l l.length i) (n := l.length) (K := 0)
      (I := fun _ _ => True) (Post := fun _ i r => decide (r ≥ 0) = hrs (l.drop i))
      (fun s hI => ⟨-1, by rw [List.drop_length, hrs]; rfl, fun k => by
        simp only [impl_Pol_45.l0]
        rw [if_neg (not_lt_cast _)]⟩)
      (fun s i hi hI => by
        have hx := List.getElem_mem hi
        have hT := pT26_mem hx
        have hN := pN26_mem hx
        by_cases hv : hrv l[i] = true
        · refine .inl ⟨(i : Int), by rw [hrs_drop l i hi, hv, Bool.true_or]; exact decide_eq_true (by omega), fun j hj => ?_⟩
          simp only [impl_Pol_45.l0]
          rw [if_pos (lt_cast hi), if_pos (nn_cast i), if_pos (lt_cast hi), rdP26 _ _ hi, (ih l[i] hx (by omega) k (by omega)).2, Option.bind_some, if_pos hv]
        · refine .inr ⟨(), trivial, fun j hj => ?_, fun r hr => by rw [hrs_drop l i hi, Bool.eq_false_iff.mpr hv, Bool.false_or]; exact hr⟩
          simp only [impl_Pol_45.l0]
          rw [if_pos (lt_cast hi), if_pos (nn_cast i), if_pos (lt_cast hi), rdP26 _ _ hi, (ih l[i] hx (by omega) k (by omega)).2, Option.bind_some, if_neg hv, wrap_nat1 hi (by omega)]) l.length () 0 (by omega) trivial
    rw [List.drop_zero] at hr
    have h2 := h k (by omega)
    simp only [impl_Pol_31.f, impl_Pol_45.f]
    rw [← hr]
    exact congrArg (fun (z : Option Int) => (z.bind fun t => some (decide (t ≥ 0))).bind fun t => some t) h2
theorem hasRate_both (x : S26) (hn : pN26 x ≤ 1048577) : ∃ r, ∀ k, 2 * pT26 x + 1048600 < k → spec_HasRate.f k x.f0 x.f1 x.f2 x.f3 x.f4 = some r ∧ impl_HasRate.f k x.f0 x.f1 x.f2 x.f3 x.f4 = some r :=
  ⟨hrv x, fun k hk => hasRate_at x hn k (by omega)⟩

mutual
def spv : S26 → S26 → Bool
  | ⟨a, b, c, d, l⟩, y => decide (a = y.f0) && (decide (b = y.f1) && (decide (c.toList = y.f2.toList) && (decide (d.toList = y.f3.toList) && (decide ((l.length : Int) = (y.f4.length : Int)) && spvs l y.f4))))
def spvs : List S26 → List S26 → Bool
  | [], _ => true
  | x :: l, m => spv x (m.headD z26) && spvs l m.tail
end
theorem spvs_drop (l m : List S26) (i : Nat) (h : i < l.length) (h' : i < m.length) : spvs (l.drop i) (m.drop i) = (spv l[i] m[i] && spvs (l.drop (i + 1)) (m.drop (i + 1))) := by
  rw [List.drop_eq_getElem_cons h, List.drop_eq_getElem_cons h', spvs]
  rfl
theorem samePol_at : ∀ (x : S26), pN26 x ≤ 1048577 → ∀ (y : S26) k, 2 * pT26 x < k →
    spec_SamePol.f k x.f0 x.f1 x.f2 x.f3 x.f4 y.f0 y.f1 y.f2 y.f3 y.f4 = some (spv x y) ∧ impl_SamePol.f k x.f0 x.f1 x.f2 x.f3 x.f4 y.f0 y.f1 y.f2 y.f3 y.f4 = some (spv x y) := by
  intro x
  induction x using ind26 with
  | _ a b c d l ih =>
  intro hn y k hk
  rw [pT26] at hk
  rw [pN26] at hn
  obtain ⟨a', b', c', d', l'⟩ := y
  obtain ⟨k, rfl⟩ : ∃ m, k = m + 1 + 1 := ⟨k - 2, by omega⟩
  have hl := pNs26_len l
  simp only [spec_SamePol.f, spec_SamePol.j0, impl_SamePol.f, impl_Pol_30.f, spv]
  by_cases h1 : a = a'
  · by_cases h2 : b = b'
    · by_cases h3 : c.toList = c'.toList
      · by_cases h4 : d.toList = d'.toList
        · by_cases h5 : (l.length : Int) = (l'.length : Int)
          · have h6 : ((l.length : Int) != (l'.length : Int)) = false := by simp [h5]
            rw [if_pos h1, if_pos h1, if_pos h2, if_pos h2, if_pos h3, if_pos h3, if_pos h4, if_pos h4, if_pos h5, h6, if_neg (by decide), decide_eq_true h1, decide_eq_true h2, decide_eq_true h3, decide_eq_true h4, decide_eq_true h5]
            simp only [Bool.true_and]
            constructor
            · obtain ⟨r, hr, h⟩ := loop_ex (σ := Unit) (L := fun j _ i => spec_SamePol.l0 j i a b c d l a' b' c' d' l') (n := l.length) (K := 2 * pTs26 l + 1)
                (I := fun _ _ => True) (Post := fun _ i r => r = spvs (l.drop i) (l'.drop i))
                (fun s hI => ⟨true, by rw [List.drop_length, spvs], fun k => by
                  simp only [spec_SamePol.l0]
                  rw [if_neg (not_lt_cast _)]⟩)
                (fun s i hi hI => by
                  have hx := List.getElem_mem hi
                  have hT := pT26_mem hx
                  have hN := pN26_mem hx
                  have hi' : i < l'.length := by omega
                  by_cases hv : spv l[i] l'[i] = true
                  · refine .inr ⟨(), trivial, fun j hj => ?_, fun r hr => by rw [spvs_drop l l' i hi hi', hv, Bool.true_and]; exact hr⟩
                    simp only [spec_SamePol.l0]
                    rw [if_pos (lt_cast hi), if_pos (nn_cast i), if_pos (lt_cast hi'), rdP26 _ _ hi, rdP26 _ _ hi', (ih l[i] hx (by omega) l'[i] j (by omega)).1, Option.bind_some, if_pos hv, wrap_nat1 hi (by omega)]
                  · refine .inl ⟨false, by rw [spvs_drop l l' i hi hi', Bool.eq_false_iff.mpr hv]; rfl, fun j hj => ?_⟩
                    simp only [spec_SamePol.l0]
                    rw [if_pos (lt_cast hi), if_pos (nn_cast i), if_pos (lt_cast hi'), rdP26 _ _ hi, rdP26 _ _ hi', (ih l[i] hx (by omega) l'[i] j (by omega)).1, Option.bind_some, if_neg hv]) l.length () 0 (by omega) trivial
              rw [List.drop_zero, List.drop_zero] at hr
              subst hr
              exact h k (by omega)
            · obtain ⟨r, hr, h⟩ := loop_ex (σ := Unit) (L := fun j _ i => impl_Pol_30.l0 (fun b0 b1 b2 b3 b4 b5 b6 b7 b8 b9 => impl_SamePol.f (k + 1) b0 b1 b2 b3 b4 b5 b6 b7 b8 b9) j l' l l.length i) (n := l.length) (K := 0)
                (I := fun _ _ => True) (Post := fun _ i r => r = spvs (l.drop i) (l'.drop i))
                (fun s hI => ⟨true, by rw [List.drop_length, spvs], fun k => by
                  simp only [impl_Pol_30.l0]
                  rw [if_neg (not_lt_cast _)]⟩)
                (fun s i hi hI => by
                  have hx := List.getElem_mem hi
                  have hT := pT26_mem hx
                  have hN := pN26_mem hx
                  have hi' : i < l'.length := by omega
                  by_cases hv : spv l[i] l'[i] = true
                  · refine .inr ⟨(), trivial, fun j hj => ?_, fun r hr => by rw [spvs_drop l l' i hi hi', hv, Bool.true_and]; exact hr⟩
                    simp only [impl_Pol_30.l0]
                    rw [if_pos (lt_cast hi), if_pos (nn_cast i), if_pos (lt_cast hi), if_pos (lt_cast hi'), rdP26 _ _ hi, rdP26 _ _ hi', (ih l[i] hx (by omega) l'[i] (k + 1) (by omega)).2, Option.bind_some, if_pos hv, wrap_nat1 hi (by omega)]
                  · refine .inl ⟨false, by rw [spvs_drop l l' i hi hi', Bool.eq_false_iff.mpr hv]; rfl, fun j hj => ?_⟩
                    simp only [impl_Pol_30.l0]
                    rw [if_pos (lt_cast hi), if_pos (nn_cast i), if_pos (lt_cast hi), if_pos (lt_cast hi'), rdP26 _ _ hi, rdP26 _ _ hi', (ih l[i] hx (by omega) l'[i] (k + 1) (by omega)).2, Option.bind_some, if_neg hv]) l.length () 0 (by omega) trivial
              rw [List.drop_zero, List.drop_zero] at hr
              subst hr
              have h7 := h (k + 1) (by omega)
              exact congrArg (fun (z : Option Bool) => z.bind fun t => some t) h7
          · have h6 : ((l.length : Int) != (l'.length : Int)) = true := by simpa using h5
            rw [h6]
            simp [h1, h2, h3, h4, h5]
        · simp [h1, h2, h3, h4]
      · simp [h1, h2, h3]
    · simp [h1, h2]
  · simp [h1]

mutual
/-- All kinds are known ones, and what is told as a number is one. -/
def okI : S26 → Prop
  | ⟨a, b, _, _, l⟩ => (1 ≤ a ∧ a ≤ 9 ∧ (a = 3 ∨ a = 5 → 0 ≤ b ∧ b ≤ 2147483647)) ∧ okIs l
def okIs : List S26 → Prop
  | [] => True
  | x :: l => okI x ∧ okIs l
end
theorem okIs_iff (l : List S26) : okIs l ↔ ∀ x ∈ l, okI x := by
  induction l with
  | nil => simp [okIs]
  | cons x l ih => simp [okIs, ih]
theorem headv_true {a b : Int} {c d : ByteArray} {n : Int} {x y : Bool} (h : headv a b c d n x y = true) : 1 ≤ a ∧ a ≤ 9 ∧ (a = 3 ∨ a = 5 → 0 ≤ b ∧ b ≤ 2147483647) := by
  unfold headv at h
  have hB : inB b 0 2147483647 = true → 0 ≤ b ∧ b ≤ 2147483647 := by
    intro z
    simpa [inB] using z
  by_cases h1 : a = 1
  · exact ⟨by omega, by omega, fun z => by omega⟩
  by_cases h2 : a = 2
  · exact ⟨by omega, by omega, fun z => by omega⟩
  by_cases h6 : a = 6
  · exact ⟨by omega, by omega, fun z => by omega⟩
  rw [if_neg h1, if_neg h2, if_neg h6] at h
  by_cases h3 : a = 3
  · rw [if_pos h3, Bool.and_eq_true] at h
    exact ⟨by omega, by omega, fun _ => hB h.1⟩
  rw [if_neg h3] at h
  by_cases h4 : a = 4
  · exact ⟨by omega, by omega, fun z => by omega⟩
  rw [if_neg h4] at h
  by_cases h5 : a = 5
  · rw [if_pos h5, Bool.and_eq_true] at h
    exact ⟨by omega, by omega, fun _ => hB h.1⟩
  rw [if_neg h5] at h
  by_cases h7 : a = 7
  · exact ⟨by omega, by omega, fun z => by omega⟩
  by_cases h8 : a = 8
  · exact ⟨by omega, by omega, fun z => by omega⟩
  by_cases h9 : a = 9
  · exact ⟨by omega, by omega, fun z => by omega⟩
  rw [if_neg h7, if_neg h8, if_neg h9] at h
  cases h
theorem deep_ok : ∀ (x : S26), pN26 x ≤ 1048577 → fitI x → ∀ (n : Int) (k : Nat), 2 * pT26 x + 1048600 < k → spec_l5Deep.f k x.f0 x.f1 x.f2 x.f3 x.f4 n = some true → okI x := by
  intro x
  induction x using ind26 with
  | _ a b c d l ih =>
  intro hn hf n k hk h
  rw [fitI] at hf
  obtain ⟨hfc, hfd, hfl⟩ := hf
  rw [pN26] at hn
  rw [pT26] at hk
  have hl := pNs26_len l
  obtain ⟨k, rfl⟩ : ∃ m, k = m + 1 + 1 := ⟨k - 2, by omega⟩
  simp only [spec_l5Deep.f] at h
  by_cases c1 : n > 4
  · rw [if_pos c1] at h
    simp only [spec_l5Deep.j0] at h
    rw [if_pos trivial] at h
    cases h
  rw [if_neg c1] at h
  obtain ⟨p, q, hh⟩ := head_bothV a b c d l hfc hfd
  rw [(hh (k + 1) (by omega)).1, Option.bind_some] at h
  simp only [spec_l5Deep.j0] at h
  cases hv : headv a b c d l.length p q with
  | false =>
    rw [hv, if_pos (by decide)] at h
    cases h
  | true =>
    rw [hv, if_neg (by decide)] at h
    rw [okI]
    refine ⟨headv_true hv, (okIs_iff l).2 ?_⟩
    have key : ∀ (e i m : Nat), i + e = l.length → 2 * pTs26 l + 1048601 + e < m → spec_l5Deep.l0 m n (i : Int) a b c d l = some true → ∀ j (hj : j < l.length), i ≤ j → okI l[j] := by
      intro e
      induction e with
      | zero => intro i m hi hm _ j hj hij; omega
      | succ e ihe =>
        intro i m hi hm hz j hj hij
        have hil : i < l.length := by omega
        have hx := List.getElem_mem hil
        have hT := pT26_mem hx
        have hN := pN26_mem hx
        obtain ⟨m, rfl⟩ : ∃ q, m = q + 1 := ⟨m - 1, by omega⟩
        simp only [spec_l5Deep.l0] at hz
        rw [if_pos (lt_cast hil), if_pos (nn_cast i), rdP26 _ _ hil] at hz
        obtain ⟨t, ht, hz⟩ := Option.bind_eq_some_iff.mp hz
        cases t with
        | false =>
          rw [if_neg (by decide)] at hz
          cases hz
        | true =>
          rw [if_pos rfl, wrap_nat1 hil (by omega)] at hz
          rcases Nat.lt_or_ge i j with hlt | hge
          · exact ihe (i + 1) m (by omega) (by omega) (by rw [Int.natCast_add]; exact hz) j hj hlt
          · obtain rfl : i = j := by omega
            exact ih l[i] hx (by omega) ((fitIs_iff l).1 hfl _ hx) (wrap64 (n + 1)) m (by omega) ht
    intro y hy
    obtain ⟨j, hj, rfl⟩ := List.getElem_of_mem hy
    exact key l.length 0 k (by omega) (by omega) h j hj (by omega)
theorem polOk_kinds (x : S26) (hn : pN26 x ≤ 1048577) (hf : fitI x) (k : Nat) (hk : 2 * pT26 x + 1048600 < k) (h : spec_PolOk.f k x.f0 x.f1 x.f2 x.f3 x.f4 = some true) : okI x := by
  unfold spec_PolOk.f at h
  obtain ⟨t, _, h⟩ := Option.bind_eq_some_iff.mp h
  by_cases c : t ≤ 12
  · rw [if_pos c] at h
    obtain ⟨q, hq, h⟩ := Option.bind_eq_some_iff.mp h
    obtain rfl := Option.some.inj h
    exact deep_ok x hn hf 1 k hk hq
  · rw [if_neg c] at h
    cases h

def dec (u : Nat) : ByteArray := ⟨(Lib.decDigits u).toArray⟩
theorem dec_one {u : Nat} (h : u < 10) : dec u = strOfNums [48 + (u : Int)] := by
  have e : (48 + (u : Int)).toNat = 48 + u := by omega
  unfold dec strOfNums
  rw [Lib.decDigits_one h, List.map_cons, List.map_nil, e]
theorem dec_more {u : Nat} (h : ¬ u < 10) (s : ByteArray) : dec u ++ s = dec (u / 10) ++ (strOfNums [48 + ((u % 10 : Nat) : Int)] ++ s) := by
  have e : Lib.decDigits u = Lib.decDigits (u / 10) ++ [UInt8.ofNat (48 + u % 10)] := by rw [Lib.decDigits, dif_neg h]
  have e2 : (48 + ((u % 10 : Nat) : Int)).toNat = 48 + u % 10 := by omega
  apply ByteArray.ext
  simp only [ByteArray.data_append]
  unfold dec strOfNums
  rw [e]
  simp only [List.map_cons, List.map_nil, e2]
  apply Array.ext'
  simp
theorem dec_size (u : Nat) : (dec u).size = Lib.nDigits u := by
  unfold dec
  rw [← Lib.decDigits_length]
  simp [ByteArray.size]
theorem nDigits_le (u : Nat) (h : u < 10000000000000000000) : Lib.nDigits u ≤ 19 := by
  have key : ∀ (j u : Nat), u < 10 ^ (j + 1) → Lib.nDigits u ≤ j + 1 := by
    intro j
    induction j with
    | zero => intro u h; rw [Lib.nDigits_small (by omega)]; omega
    | succ j ih =>
      intro u h
      by_cases hu : u < 10
      · rw [Lib.nDigits_small hu]; omega
      · rw [Lib.nDigits_big hu]
        have := ih (u / 10) (by rw [Nat.pow_succ] at h; omega)
        omega
  exact key 18 u (by omega)
theorem pos_ne {s : ByteArray} (h : 0 < s.size) : s.toList ≠ [] := by
  intro e
  rw [ByteArray.toList_eq] at e
  have h1 := congrArg List.length e
  rw [Array.length_toList] at h1
  have h2 : s.data.size = 0 := h1
  have h3 : s.size = s.data.size := rfl
  omega
def itoaV (n : Int) : ByteArray := ⟨(Lib.itoa n).toArray⟩
theorem empty_append (s : ByteArray) : s ++ (⟨#[]⟩ : ByteArray) = s := by
  apply ByteArray.ext
  simp [ByteArray.data_append]
theorem impl_NumText_at (n : Int) (h0 : -9223372036854775808 ≤ n) (h1 : n ≤ 9223372036854775807) : impl_NumText.f n = some (itoaV n) := by
  simp only [impl_NumText.f, strconv_Itoa.f]
  rw [if_pos h0, if_pos h1]
  rfl
theorem i64_range {x : Int} (h : (Lit.int .i64 x).wf = true) : -9223372036854775808 ≤ x ∧ x ≤ 9223372036854775807 := by
  simp [Lit.wf, IntKind.min, IntKind.max, IntKind.signed, IntKind.bits] at h
  omega

/-- What the reference's text of a number is, behind its digits. -/
def signed (n : Int) (s : ByteArray) : ByteArray := if n < 0 then (⟨#[45]⟩ : ByteArray) ++ s else s
theorem numText_loop (n : Int) : ∀ (u : Nat) (x : Int) (s : ByteArray) (k : Nat), 0 < u → u ≤ 9223372036854775808 → x = (u : Int) ∨ x = -(u : Int) → -9223372036854775808 ≤ x → x ≤ 9223372036854775807 → Lib.nDigits u + s.size ≤ 1000 → Lib.nDigits u + 1 ≤ k →
    spec_NumText.l0 k n s x = some (signed n (dec u ++ s)) := by
  intro u
  induction u using Nat.strongRecOn with
  | _ u ih =>
    intro x s k hu hb hx h0 h1 hs hk
    obtain ⟨k, rfl⟩ : ∃ q, k = q + 1 := ⟨k - 1, by omega⟩
    have hd : (if Int.tmod x 10 < 0 then wrap64 (-(Int.tmod x 10)) else Int.tmod x 10) = ((u % 10 : Nat) : Int) := by
      rcases hx with rfl | rfl
      · rw [Int.tmod_eq_emod_of_nonneg (by omega), if_neg (by omega)]
        omega
      · rw [Int.neg_tmod, Int.tmod_eq_emod_of_nonneg (by omega)]
        split
        · rw [wrap_of (by omega) (by omega)]
          omega
        · omega
    have hq : wrap64 (Int.tdiv x 10) = (((u / 10 : Nat)) : Int) ∧ x = (u : Int) ∨ wrap64 (Int.tdiv x 10) = -(((u / 10 : Nat)) : Int) ∧ x = -(u : Int) := by
      rcases hx with rfl | rfl
      · left
        rw [Int.tdiv_eq_ediv_of_nonneg (by omega), wrap_of (by omega) (by omega)]
        omega
      · right
        rw [Int.neg_tdiv, Int.tdiv_eq_ediv_of_nonneg (by omega), wrap_of (by omega) (by omega)]
        omega
    have hone : ∀ d : Int, d = ((u % 10 : Nat) : Int) → (wrap64 (48 + d)) % 256 = 48 + ((u % 10 : Nat) : Int) := by
      intro d e
      rw [e, wrap_of (by omega) (by omega)]
      omega
    have hsz : (strOfNums [48 + ((u % 10 : Nat) : Int)]).size = 1 := by rw [strOfNums_size]; rfl
    have hnd : 1 ≤ Lib.nDigits u := Lib.nDigits_pos u
    have hround : spec_NumText.l0 (k + 1) n s x = spec_NumText.l0 k n (strOfNums [48 + ((u % 10 : Nat) : Int)] ++ s) (wrap64 (Int.tdiv x 10)) := by
      simp only [spec_NumText.l0, Option.bind_some]
      rw [if_neg (by rcases hx with rfl | rfl <;> omega)]
      by_cases hneg : Int.tmod x 10 < 0
      · rw [if_pos hneg] at hd
        rw [if_pos hneg, hone _ hd, if_pos (by rw [hsz]; omega)]
      · rw [if_neg hneg] at hd
        rw [if_neg hneg, hone _ hd, if_pos (by rw [hsz]; omega)]
    rw [hround]
    by_cases h10 : u < 10
    · have hz : wrap64 (Int.tdiv x 10) = 0 := by omega
      rw [hz]
      obtain ⟨k, rfl⟩ : ∃ q, k = q + 1 := ⟨k - 1, by omega⟩
      simp only [spec_NumText.l0]
      rw [if_pos trivial]
      rw [dec_one h10]
      have e : u % 10 = u := by omega
      rw [e] at hsz ⊢
      unfold signed
      by_cases hn : n < 0
      · rw [if_pos hn, if_pos hn, if_pos (by rw [ByteArray.size_append, hsz]; omega)]
      · rw [if_neg hn, if_neg hn]
    · have hnb := Lib.nDigits_big h10
      rw [dec_more h10]
      have hsz2 : (strOfNums [48 + ((u % 10 : Nat) : Int)] ++ s).size = 1 + s.size := by rw [ByteArray.size_append, hsz]
      exact ih (u / 10) (by omega) _ _ k (by omega) (by omega) (by omega) (by omega) (by omega) (by omega) (by omega)
theorem signed_dec (n : Int) : signed n (dec n.natAbs) = itoaV n := by
  unfold signed itoaV Lib.itoa dec
  by_cases h : n < 0
  · rw [if_pos h, if_pos h]
    apply ByteArray.ext
    simp [ByteArray.data_append]
  · rw [if_neg h, if_neg h]
    have e : n.natAbs = n.toNat := by omega
    rw [e]
theorem spec_NumText_at (n : Int) (h0 : -9223372036854775808 ≤ n) (h1 : n ≤ 9223372036854775807) (k : Nat) (hk : 21 ≤ k) : spec_NumText.f k n = some (itoaV n) := by
  unfold spec_NumText.f
  by_cases hz : n = 0
  · subst hz
    rw [if_pos rfl]
    have e : Lib.itoa 0 = [48] := by
      unfold Lib.itoa
      rw [if_neg (by omega)]
      exact Lib.decDigits_one (by omega)
    unfold itoaV
    rw [e]
  · rw [if_neg hz]
    have h19 := nDigits_le n.natAbs (by omega)
    rw [numText_loop n n.natAbs n ⟨#[]⟩ k (by omega) (by omega) (by omega) h0 h1 (by have e : (⟨#[]⟩ : ByteArray).size = 0 := rfl; rw [e]; omega) (by omega), empty_append, signed_dec]

def tAll : ByteArray := ⟨#[97, 108, 108]⟩
def tErr : ByteArray := ⟨#[101, 114, 114]⟩
def tLong : ByteArray := ⟨#[108, 111, 110, 103, 32]⟩
def tText : ByteArray := ⟨#[116, 101, 120, 116, 32]⟩
def tSQ : ByteArray := ⟨#[32, 34]⟩
def tQ : ByteArray := ⟨#[34]⟩
def tNum : ByteArray := ⟨#[110, 117, 109, 32]⟩
def tSp : ByteArray := ⟨#[32]⟩
def tRate : ByteArray := ⟨#[114, 97, 116, 101]⟩
def tAnd : ByteArray := ⟨#[97, 110, 100, 40]⟩
def tOr : ByteArray := ⟨#[111, 114, 40]⟩
def tNot : ByteArray := ⟨#[110, 111, 116, 40]⟩
def tEnd : ByteArray := ⟨#[41]⟩
def tSep : ByteArray := ⟨#[44, 32]⟩
def wordT (a : Int) : ByteArray := if a = 9 then tNot else if a = 8 then tOr else tAnd
def headT (a b : Int) (c d J : ByteArray) : ByteArray :=
  if a = 1 then tAll else if a = 2 then tErr else if a = 3 then tLong ++ itoaV b else if a = 4 then (((tText ++ c) ++ tSQ) ++ d) ++ tQ else if a = 5 then ((tNum ++ c) ++ tSp) ++ itoaV b else if a = 6 then tRate else (wordT a ++ J) ++ tEnd
mutual
def tv : S26 → ByteArray
  | ⟨a, b, c, d, l⟩ => headT a b c d (joinT l)
def joinT : List S26 → ByteArray
  | [] => ⟨#[]⟩
  | x :: l => tv x ++ tailT l
def tailT : List S26 → ByteArray
  | [] => ⟨#[]⟩
  | x :: l => (tSep ++ tv x) ++ tailT l
end
theorem app_assoc' (a b c : ByteArray) : a ++ (b ++ c) = (a ++ b) ++ c := by
  apply ByteArray.ext
  simp only [ByteArray.data_append, Array.append_assoc]
theorem joinT_hd (l : List S26) (h : 0 < l.length) : joinT l = tv l[0] ++ tailT (l.drop (0 + 1)) := by
  cases l with
  | nil => exact absurd h (by simp)
  | cons x l => rw [joinT]; rfl
theorem tailT_data (l : List S26) : (tailT l).data.toList = Lib.joinTail tSep.data.toList ((l.map tv).map (·.data.toList)) := by
  induction l with
  | nil => rfl
  | cons x l ih =>
    rw [tailT, List.map_cons, List.map_cons]
    simp only [ByteArray.data_append, Array.toList_append]
    rw [ih]
    unfold Lib.joinTail
    simp
theorem joinT_data (l : List S26) : Lib.join ((l.map tv).map (·.data.toList)) tSep.data.toList = (joinT l).data.toList := by
  cases l with
  | nil => rfl
  | cons x l =>
    rw [joinT, List.map_cons, List.map_cons, Lib.join_cons, ← tailT_data]
    simp only [ByteArray.data_append, Array.toList_append]
theorem size_data (s : ByteArray) : s.data.toList.length = s.size := by
  rw [Array.length_toList]
  rfl
theorem mk_data (s : ByteArray) : (⟨s.data.toList.toArray⟩ : ByteArray) = s := by
  apply ByteArray.ext
  simp
theorem join_at (l : List S26) (hs : (joinT l).size ≤ 140737488355328) (hl : l.length ≤ 140737488355328) : strings_Join.f (l.map tv) (⟨#[44, 32]⟩ : ByteArray) = some (joinT l) := by
  unfold strings_Join.f
  have e : Lib.join ((l.map tv).map (·.data.toList)) (⟨#[44, 32]⟩ : ByteArray).data.toList = (joinT l).data.toList := joinT_data l
  rw [e, size_data, if_pos hs, if_pos (by rw [List.length_map]; exact hl), mk_data]
theorem len3 (x y z : UInt8) : (⟨#[x, y, z]⟩ : ByteArray).size = 3 := rfl
theorem len4 (x y z u : UInt8) : (⟨#[x, y, z, u]⟩ : ByteArray).size = 4 := rfl
theorem len5 (x y z u v : UInt8) : (⟨#[x, y, z, u, v]⟩ : ByteArray).size = 5 := rfl
theorem len2 (x y : UInt8) : (⟨#[x, y]⟩ : ByteArray).size = 2 := rfl
theorem len1 (x : UInt8) : (⟨#[x]⟩ : ByteArray).size = 1 := rfl
theorem wordT_size (a : Int) : (wordT a).size ≤ 4 ∧ 3 ≤ (wordT a).size := by
  unfold wordT
  split
  · exact ⟨by decide, by decide⟩
  · split
    · exact ⟨by decide, by decide⟩
    · exact ⟨by decide, by decide⟩
theorem itoaV_sz (n : Int) (h0 : -9223372036854775808 ≤ n) (h1 : n ≤ 9223372036854775807) : (itoaV n).size ≤ 21 := by
  have := Lib.itoa_length_le n h0 h1
  show (Lib.itoa n).toArray.size ≤ 21
  rw [List.size_toArray]
  exact this
theorem headT_size (a b : Int) (c d J : ByteArray) (hc : c.size ≤ 1048576) (hd : d.size ≤ 1048576) (ha : 1 ≤ a ∧ a ≤ 9 ∧ (a = 3 ∨ a = 5 → 0 ≤ b ∧ b ≤ 2147483647)) : (headT a b c d J).size + 2 ≤ 2200010 + J.size ∧ 0 < (headT a b c d J).size := by
  unfold headT
  have e1 : tAll.size = 3 := rfl
  have e2 : tErr.size = 3 := rfl
  have e3 : tLong.size = 5 := rfl
  have e4 : tText.size = 5 := rfl
  have e5 : tSQ.size = 2 := rfl
  have e6 : tQ.size = 1 := rfl
  have e7 : tNum.size = 4 := rfl
  have e8 : tSp.size = 1 := rfl
  have e9 : tRate.size = 4 := rfl
  have e0 : tEnd.size = 1 := rfl
  have hw := wordT_size a
  by_cases h1 : a = 1
  · rw [if_pos h1]; omega
  by_cases h2 : a = 2
  · rw [if_neg h1, if_pos h2]; omega
  by_cases h3 : a = 3
  · have hb := ha.2.2 (.inl h3)
    have := itoaV_sz b (by omega) (by omega)
    rw [if_neg h1, if_neg h2, if_pos h3, ByteArray.size_append]; omega
  by_cases h4 : a = 4
  · rw [if_neg h1, if_neg h2, if_neg h3, if_pos h4]
    simp only [ByteArray.size_append]
    omega
  by_cases h5 : a = 5
  · have hb := ha.2.2 (.inr h5)
    have := itoaV_sz b (by omega) (by omega)
    rw [if_neg h1, if_neg h2, if_neg h3, if_neg h4, if_pos h5]
    simp only [ByteArray.size_append]
    omega
  by_cases h6 : a = 6
  · rw [if_neg h1, if_neg h2, if_neg h3, if_neg h4, if_neg h5, if_pos h6]; omega
  · rw [if_neg h1, if_neg h2, if_neg h3, if_neg h4, if_neg h5, if_neg h6]
    simp only [ByteArray.size_append]
    omega
theorem tv_size : ∀ (x : S26), fitI x → okI x → (tv x).size + 2 ≤ 2200010 * pN26 x ∧ 0 < (tv x).size := by
  intro x
  induction x using ind26 with
  | _ a b c d l ih =>
  intro hf ho
  rw [fitI] at hf
  rw [okI] at ho
  have htail : ∀ (m : List S26), (∀ x ∈ m, x ∈ l) → (tailT m).size ≤ 2200010 * pNs26 m := by
    intro m
    induction m with
    | nil => intro _; rw [tailT]; exact Nat.zero_le _
    | cons y m ihm =>
      intro hm
      have hy := hm y (List.mem_cons_self ..)
      have h1 := (ih y hy ((fitIs_iff l).1 hf.2.2 y hy) ((okIs_iff l).1 ho.2 y hy)).1
      have h2 := ihm (fun z hz => hm z (List.mem_cons_of_mem _ hz))
      have e : tSep.size = 2 := rfl
      rw [tailT, pNs26, ByteArray.size_append, ByteArray.size_append]
      omega
  have hjoin : (joinT l).size ≤ 2200010 * pNs26 l := by
    cases l with
    | nil => rw [joinT]; exact Nat.zero_le _
    | cons y m =>
      have hy : y ∈ y :: m := List.mem_cons_self ..
      have h1 := (ih y hy ((fitIs_iff _).1 hf.2.2 y hy) ((okIs_iff _).1 ho.2 y hy)).1
      have h2 := htail m (fun z hz => List.mem_cons_of_mem _ hz)
      rw [joinT, pNs26, ByteArray.size_append]
      omega
  have hh := headT_size a b c d (joinT l) hf.1 hf.2.1 ho.1
  rw [tv, pN26]
  omega
theorem joinT_size (l : List S26) (hf : ∀ x ∈ l, fitI x) (ho : ∀ x ∈ l, okI x) : (joinT l).size ≤ 2200010 * pNs26 l ∧ (tailT l).size ≤ 2200010 * pNs26 l := by
  induction l with
  | nil => rw [joinT, tailT]; exact ⟨Nat.zero_le _, Nat.zero_le _⟩
  | cons y m ih =>
    have h := ih (fun z hz => hf z (List.mem_cons_of_mem _ hz)) (fun z hz => ho z (List.mem_cons_of_mem _ hz))
    have h1 := (tv_size y (hf y (List.mem_cons_self ..)) (ho y (List.mem_cons_self ..))).1
    have e : tSep.size = 2 := rfl
    rw [joinT, tailT, pNs26, ByteArray.size_append, ByteArray.size_append, ByteArray.size_append]
    omega
theorem tv_at : ∀ (x : S26), pN26 x ≤ 1048577 → fitI x → okI x → ∀ k, 2 * pT26 x + 30 < k →
    spec_l5Text.f k x.f0 x.f1 x.f2 x.f3 x.f4 = some (tv x) ∧ impl_polText.f k x.f0 x.f1 x.f2 x.f3 x.f4 = some (tv x) := by
  intro x
  induction x using ind26 with
  | _ a b c d l ih =>
  intro hn hf ho k hk
  rw [fitI] at hf
  rw [okI] at ho
  rw [pN26] at hn
  rw [pT26] at hk
  have hl := pNs26_len l
  have hfl := (fitIs_iff l).1 hf.2.2
  have hol := (okIs_iff l).1 ho.2
  obtain ⟨k, rfl⟩ : ∃ m, k = m + 1 + 1 + 1 := ⟨k - 3, by omega⟩
  have hJ := joinT_size l hfl hol
  have e2 : (⟨#[44, 32]⟩ : ByteArray).size = 2 := rfl
  -- the loops
  have hspec : ∀ s : ByteArray, s.size ≤ 4 → ∀ k, 2 * pTs26 l + 31 + l.length < k → spec_l5Text.l0 k s 0 a b c d l = some ((s ++ joinT l) ++ (⟨#[41]⟩ : ByteArray)) := by
    intro s hs
    obtain ⟨r, hr, h⟩ := loop_ex (σ := ByteArray) (L := fun j s i => spec_l5Text.l0 j s i a b c d l) (n := l.length) (K := 2 * pTs26 l + 31)
      (I := fun s i => s.size ≤ 4 + 2200010 * pNs26 (l.take i)) (Post := fun s i r => r = (s ++ (if i = 0 then joinT l else tailT (l.drop i))) ++ (⟨#[41]⟩ : ByteArray))
      (fun s hI => ⟨_, rfl, fun k => by
        simp only [spec_l5Text.l0]
        rw [List.take_length] at hI
        rw [if_neg (not_lt_cast _), if_pos (by omega)]
        have e : s ++ (if l.length = 0 then joinT l else tailT (l.drop l.length)) = s := by
          rw [List.drop_length]
          by_cases hz : l.length = 0
          · rw [if_pos hz, List.length_eq_zero_iff.1 hz, joinT, empty_append]
          · rw [if_neg hz, tailT, empty_append]
        rw [e]⟩)
      (fun s i hi hI => by
        have hx := List.getElem_mem hi
        have hT := pT26_mem hx
        have hN := pN26_mem hx
        have htk := pNs26_take l i hi
        have hle := pNs26_le l (i + 1)
        have hsz := (tv_size l[i] (hfl _ hx) (hol _ hx)).1
        have hd : l.drop i = l[i] :: l.drop (i + 1) := List.drop_eq_getElem_cons hi
        by_cases h0 : i = 0
        · subst h0
          refine .inr ⟨s ++ tv l[0], by simp only [ByteArray.size_append]; omega, fun k hk => ?_, fun r hr => ?_⟩
          · simp only [spec_l5Text.l0]
            rw [if_pos (lt_cast hi), if_neg (by omega), if_pos (nn_cast 0), rdP26 _ _ hi, (ih l[0] hx (by omega) (hfl _ hx) (hol _ hx) k (by omega)).1, Option.bind_some, if_pos (by omega), wrap_nat1 hi (by omega)]
          · rw [hr, if_neg (by omega), if_pos rfl]
            rw [joinT_hd l hi, app_assoc']
        · refine .inr ⟨(s ++ (⟨#[44, 32]⟩ : ByteArray)) ++ tv l[i], by simp only [ByteArray.size_append]; omega, fun k hk => ?_, fun r hr => ?_⟩
          · simp only [spec_l5Text.l0]
            rw [if_pos (lt_cast hi), if_pos (by omega), if_pos (by omega), if_pos (nn_cast i), rdP26 _ _ hi, (ih l[i] hx (by omega) (hfl _ hx) (hol _ hx) k (by omega)).1, Option.bind_some, if_pos (by rw [ByteArray.size_append]; omega), wrap_nat1 hi (by omega)]
          · rw [hr, if_neg (by omega), if_neg h0, hd, tailT, app_assoc', app_assoc']
            rfl) l.length s 0 (by omega) (by omega)
    rw [if_pos rfl] at hr
    subst hr
    exact fun k hk => h k (by omega)
  have himpl : ∀ s : ByteArray, s.size ≤ 4 → ∀ k, 2 * pTs26 l + 31 + l.length < k → impl_polText.l0 k s ([] : List ByteArray) l (l.length : Int) 0 = some ((s ++ joinT l) ++ (⟨#[41]⟩ : ByteArray)) := by
    intro s hs
    obtain ⟨r, hr, h⟩ := loop_ex (σ := List ByteArray) (L := fun j m i => impl_polText.l0 j s m l (l.length : Int) i) (n := l.length) (K := 2 * pTs26 l + 31)
      (I := fun m i => m = (l.take i).map tv) (Post := fun _ _ r => r = (s ++ joinT l) ++ (⟨#[41]⟩ : ByteArray))
      (fun m hI => ⟨_, rfl, fun k => by
        simp only [impl_polText.l0]
        rw [List.take_length] at hI
        rw [if_neg (not_lt_cast _), hI, join_at l (by omega) (by omega), Option.bind_some, if_pos (by omega), if_pos (by rw [ByteArray.size_append]; omega)]⟩)
      (fun m i hi hI => by
        have hx := List.getElem_mem hi
        have hT := pT26_mem hx
        have hN := pN26_mem hx
        have hm : m.length = i := by rw [hI, List.length_map, List.length_take]; omega
        refine .inr ⟨m ++ [tv l[i]], by rw [hI, List.take_succ_eq_append_getElem hi, List.map_append]; rfl, fun k hk => ?_, fun r hr => hr⟩
        simp only [impl_polText.l0]
        rw [if_pos (lt_cast hi), if_pos (nn_cast i), if_pos (lt_cast hi), rdP26 _ _ hi, (ih l[i] hx (by omega) (hfl _ hx) (hol _ hx) k (by omega)).2, Option.bind_some, if_pos (by omega), wrap_nat1 hi (by omega)]) l.length [] 0 (by omega) rfl
    subst hr
    exact fun k hk => h k (by omega)
  obtain ⟨a1, a9, hb⟩ := ho.1
  have ec := hf.1
  have ed := hf.2.1
  simp only [spec_l5Text.f, impl_polText.f, tv, headT]
  by_cases h1 : a = 1
  · rw [if_pos h1, if_pos h1, if_pos h1]; exact ⟨rfl, rfl⟩
  rw [if_neg h1, if_neg h1, if_neg h1]
  by_cases h2 : a = 2
  · rw [if_pos h2, if_pos h2, if_pos h2]; exact ⟨rfl, rfl⟩
  rw [if_neg h2, if_neg h2, if_neg h2]
  by_cases h3 : a = 3
  · have hb2 := hb (.inl h3)
    have hz := itoaV_sz b (by omega) (by omega)
    rw [if_pos h3, if_pos h3, if_pos h3, spec_NumText_at b (by omega) (by omega) _ (by omega), impl_NumText_at b (by omega) (by omega), Option.bind_some, if_pos (by omega)]
    exact ⟨rfl, rfl⟩
  rw [if_neg h3, if_neg h3, if_neg h3]
  by_cases h4 : a = 4
  · have q1 : ((⟨#[116, 101, 120, 116, 32]⟩ : ByteArray) ++ c).size = 5 + c.size := by rw [ByteArray.size_append]; rfl
    have q2 : (((⟨#[116, 101, 120, 116, 32]⟩ : ByteArray) ++ c) ++ (⟨#[32, 34]⟩ : ByteArray)).size = 5 + c.size + 2 := by rw [ByteArray.size_append, q1]; rfl
    have q3 : ((((⟨#[116, 101, 120, 116, 32]⟩ : ByteArray) ++ c) ++ (⟨#[32, 34]⟩ : ByteArray)) ++ d).size = 5 + c.size + 2 + d.size := by rw [ByteArray.size_append, q2]
    rw [if_pos h4, if_pos h4, if_pos h4, if_pos (by omega), if_pos (by omega), if_pos (by omega), if_pos (by omega)]
    exact ⟨rfl, rfl⟩
  rw [if_neg h4, if_neg h4, if_neg h4]
  by_cases h5 : a = 5
  · have hb2 := hb (.inr h5)
    have hz := itoaV_sz b (by omega) (by omega)
    have q1 : ((⟨#[110, 117, 109, 32]⟩ : ByteArray) ++ c).size = 4 + c.size := by rw [ByteArray.size_append]; rfl
    have q2 : (((⟨#[110, 117, 109, 32]⟩ : ByteArray) ++ c) ++ (⟨#[32]⟩ : ByteArray)).size = 4 + c.size + 1 := by rw [ByteArray.size_append, q1]; rfl
    rw [if_pos h5, if_pos h5, if_pos h5]
    constructor
    · rw [if_pos (by omega), if_pos (by omega), spec_NumText_at b (by omega) (by omega) _ (by omega), Option.bind_some, if_pos (by omega)]
      rfl
    · rw [if_pos (by omega), if_pos (by omega), impl_NumText_at b (by omega) (by omega), Option.bind_some, if_pos (by omega)]
      rfl
  rw [if_neg h5, if_neg h5, if_neg h5]
  by_cases h6 : a = 6
  · rw [if_pos h6, if_pos h6, if_pos h6]; exact ⟨rfl, rfl⟩
  rw [if_neg h6, if_neg h6, if_neg h6]
  have s4 : (⟨#[97, 110, 100, 40]⟩ : ByteArray).size ≤ 4 := by decide
  have s3 : (⟨#[111, 114, 40]⟩ : ByteArray).size ≤ 4 := by decide
  have s5 : (⟨#[110, 111, 116, 40]⟩ : ByteArray).size ≤ 4 := by decide
  simp only [spec_l5Text.j0, impl_polText.j0]
  have hcase : a = 7 ∨ a = 8 ∨ a = 9 := by omega
  obtain ⟨k, rfl⟩ : ∃ m, k = m + 1 := ⟨k - 1, by omega⟩
  rcases hcase with rfl | rfl | rfl
  · rw [if_neg (by decide), if_pos rfl, if_neg (by decide)]
    simp only [spec_l5Text.j1]
    rw [hspec _ s4 _ (by omega), himpl _ s4 _ (by omega)]
    exact ⟨rfl, rfl⟩
  · rw [if_pos rfl, if_neg (by decide), if_neg (by decide), if_pos rfl]
    simp only [spec_l5Text.j1]
    rw [hspec _ s3 _ (by omega), himpl _ s3 _ (by omega)]
    exact ⟨rfl, rfl⟩
  · rw [if_neg (by decide), if_pos rfl, if_neg (by decide), if_neg (by decide)]
    simp only [spec_l5Text.j1]
    rw [hspec _ s5 _ (by omega), himpl _ s5 _ (by omega)]
    exact ⟨rfl, rfl⟩
theorem polText_both (x : S26) (hn : pN26 x ≤ 1048577) (hf : fitI x) : ∃ ok r, (∀ k, 2 * pT26 x + 1048600 < k → spec_PolOk.f k x.f0 x.f1 x.f2 x.f3 x.f4 = some ok ∧ impl_PolOk.f k x.f0 x.f1 x.f2 x.f3 x.f4 = some ok) ∧
    (∀ k, 2 * pT26 x + 1048600 < k → spec_PolText.f k x.f0 x.f1 x.f2 x.f3 x.f4 = some r ∧ impl_PolText.f k x.f0 x.f1 x.f2 x.f3 x.f4 = some r) ∧ (ok = true → 0 < r.size) ∧ (ok = false → r = ⟨#[]⟩) := by
  obtain ⟨ok, hok⟩ := polOk_both x hn hf
  cases ok with
  | false =>
    refine ⟨false, ⟨#[]⟩, hok, fun k hk => ?_, fun h => (by cases h), fun _ => rfl⟩
    obtain ⟨h1, h2⟩ := hok k hk
    simp only [spec_PolText.f, impl_PolText.f, h1, h2, Option.bind_some]
    rw [if_neg (by decide)]
    exact ⟨rfl, rfl⟩
  | true =>
    have ho := polOk_kinds x hn hf (2 * pT26 x + 1048601) (by omega) (hok _ (by omega)).1
    refine ⟨true, tv x, hok, fun k hk => ?_, fun _ => (tv_size x hf ho).2, fun h => (by cases h)⟩
    obtain ⟨h1, h2⟩ := hok k hk
    obtain ⟨t1, t2⟩ := tv_at x hn hf ho k (by omega)
    simp only [spec_PolText.f, impl_PolText.f, h1, h2, t1, t2, Option.bind_some, if_true]
    exact ⟨trivial, trivial⟩
theorem polText_r (x : S26) (hn : pN26 x ≤ 1048577) (hf : fitI x) : ∃ r, ∀ k, 2 * pT26 x + 1048600 < k → spec_PolText.f k x.f0 x.f1 x.f2 x.f3 x.f4 = some r ∧ impl_PolText.f k x.f0 x.f1 x.f2 x.f3 x.f4 = some r := by
  obtain ⟨_, r, _, h, _⟩ := polText_both x hn hf
  exact ⟨r, h⟩

theorem impl_PolCount_at : ∀ (x : S26), pN26 x ≤ 1048577 → ∀ k, pT26 x < k → impl_PolCount.f k x.f0 x.f1 x.f2 x.f3 x.f4 = some (pN26 x : Int) := by
  intro x
  induction x using ind26 with
  | _ a b c d l ih =>
  intro hn k hk
  rw [pT26] at hk
  rw [pN26] at hn ⊢
  obtain ⟨k, rfl⟩ : ∃ m, k = m + 1 := ⟨k - 1, by omega⟩
  have hl := pNs26_len l
  obtain ⟨r, hr, h⟩ := loop_ex (σ := Int) (L := fun j s i => impl_PolCount.l0 j s l l.length i) (n := l.length) (K := pTs26 l + 1)
    (I := fun s i => s = 1 + (pNs26 (l.take i) : Int)) (Post := fun _ _ r => r = 1 + (pNs26 l : Int))
    (fun s hI => ⟨_, rfl, fun k => by
      simp only [impl_PolCount.l0]
      rw [if_neg (not_lt_cast _), hI, List.take_length]⟩)
    (fun s i hi hI => .inr ⟨_, rfl, fun j hj => by
      have hx := List.getElem_mem hi
      have hT := pT26_mem hx
      have hN := pN26_mem hx
      have hk1 := pNs26_take l i hi
      have hk2 := pNs26_le l (i + 1)
      simp only [impl_PolCount.l0]
      rw [if_pos (lt_cast hi), if_pos (nn_cast i), if_pos (lt_cast hi), rdP26 _ _ hi, ih l[i] hx (by omega) j (by omega), Option.bind_some, wrap_nat1 hi (by omega), hI, wrap_of (by omega) (by omega), hk1]
      congr 1
      push_cast
      omega, fun _ h => h⟩) l.length 1 0 (by omega) (by simp [pNs26])
  subst hr
  have h2 := h k (by omega)
  simp only [impl_PolCount.f]
  refine h2.trans ?_
  push_cast
  rfl

theorem spv_self : ∀ x, spv x x = true := by
  intro x
  induction x using ind26 with
  | _ a b c d l ih =>
  have hs : ∀ m : List S26, (∀ x ∈ m, spv x x = true) → spvs m m = true := by
    intro m hm
    induction m with
    | nil => rw [spvs]
    | cons y m im =>
      rw [spvs]
      show (spv y y && spvs m m) = true
      rw [hm y List.mem_cons_self, im (fun x hx => hm x (List.mem_cons_of_mem _ hx))]
      rfl
  rw [spv]
  simp [hs l ih]
theorem FnPols : ∀ (l0 : (List Int)), ((l0.length ≤ maxLen ∧ ∀ y5 ∈ l0, (Lit.int .u8 y5).wf = true)) → ∃ k, laws_FnPols.f k l0 = some true := by
  intro l hg
  by_cases hb : (l.length : Int) > 1048576
  · refine ⟨0, ?_⟩
    simp [laws_FnPols.f, laws_big.f, hb]
  have hl : l.length ≤ 140737488351232 := by omega
  obtain ⟨h, K, hK⟩ := l1New_ex l hl
  simp only at hK
  have H0 := rdOk_0 l hl
  obtain ⟨a, b, c, e, q, j1, h1, e1, n1, f1, H1⟩ := l5Any_ex l 0 h H0
  obtain ⟨o, j2, h2, e2, H2⟩ := l1Once_ex l j1 h1 2 H1
  obtain ⟨X, hX⟩ : ∃ X : S26, X = ⟨a, b, c, e, q⟩ := ⟨_, rfl⟩
  have hs : ∃ Y : S26, ∀ k, 50 + 2 * pT26 X < k → K ≤ k → spec_DrawSamePol.f k l = some (a, b, c, e, q, Y.f0, Y.f1, Y.f2, Y.f3, Y.f4) := by
    cases o with
    | true =>
      refine ⟨X, fun k hk hk2 => ?_⟩
      have hc := l5Copy_at X (by rw [hX]; omega) k (by omega)
      rw [hX] at hc ⊢
      simp only at hc ⊢
      simp only [spec_DrawSamePol.f, hK k hk2, Option.bind_some, e1 k (by omega), e2, if_true, hc]
    | false =>
      obtain ⟨a', b', c', e', q', j3, h3, e3, _, _, _⟩ := l5Any_ex l j2 h2 H2
      refine ⟨⟨a', b', c', e', q'⟩, fun k hk hk2 => ?_⟩
      simp only [spec_DrawSamePol.f, hK k hk2, Option.bind_some, e1 k (by omega), e2, Bool.false_eq_true, if_false, e3 k (by omega)]
  obtain ⟨Y, hY⟩ := hs
  have nX : pN26 X ≤ 1048577 := by rw [hX]; omega
  have fX : fitI X := by rw [hX]; exact f1
  obtain ⟨ok, r, q1, q2, r1, r2⟩ := polText_both X nX fX
  obtain ⟨hr, q3⟩ := hasRate_both X nX
  have tl : (r.toList != ([] : List UInt8)) = ok := by
    cases ok with
    | true => simpa using pos_ne (r1 rfl)
    | false => rw [r2 rfl, ByteArray.toList_eq]; rfl
  obtain ⟨k, hk⟩ : ∃ k, k = K + 2 * pT26 X + 1048700 := ⟨_, rfl⟩
  have z1 := q1 k (by omega)
  have z2 := q2 k (by omega)
  have z3 := q3 k (by omega)
  have z4 := samePol_at X nX Y k (by omega)
  have z5 := samePol_at X nX X k (by omega)
  have z6 := spec_PolCount_at X nX k (by omega)
  have z7 := impl_PolCount_at X nX k (by omega)
  have p1 := pN26_pos X
  have hy := hY k (by omega) (by omega)
  rw [spv_self X] at z5
  generalize pN26 X = n at p1 z6 z7
  generalize spv X Y = sv at z4
  have xe : X.f0 = a ∧ X.f1 = b ∧ X.f2 = c ∧ X.f3 = e ∧ X.f4 = q := by rw [hX]; exact ⟨rfl, rfl, rfl, rfl, rfl⟩
  obtain ⟨x0, x1, x2, x3, x4⟩ := xe
  rw [x0, x1, x2, x3, x4] at z1 z2 z3 z4 z5 z6 z7
  have e0 : laws_big.f l = some false := by unfold laws_big.f; rw [decide_eq_false hb]
  have d1 := e1 k (by omega)
  have d2 := hK k (by omega)
  have w1 : spec_DrawPolOk.f k l = some (a, b, c, e, q) := by simp only [spec_DrawPolOk.f, d2, Option.bind_some, d1]
  have w2 : spec_DrawPolCount.f k l = some (a, b, c, e, q) := by simp only [spec_DrawPolCount.f, d2, Option.bind_some, d1]
  have w3 : spec_DrawHasRate.f k l = some (a, b, c, e, q) := by simp only [spec_DrawHasRate.f, d2, Option.bind_some, d1]
  have w4 : spec_DrawPolText.f k l = some (a, b, c, e, q) := by simp only [spec_DrawPolText.f, d2, Option.bind_some, d1]
  refine ⟨k, ?_⟩
  simp only [laws_FnPols.f, e0, Option.bind_some, w1, w2, w3, w4, hy, z1.1, z1.2, z2.1, z2.2, z3.1, z3.2, z4.1, z4.2, z5.2, z6, z7, tl]
  rw [if_neg (by decide), if_pos (by simp), if_pos (by simp), if_pos trivial, if_pos trivial, if_pos (by omega), if_pos (by simp), if_pos trivial]
  simp

end Go.Proofs.YtfhblnbicnmndaaDoor.Pure
