/- Of drawn names and what is said by them, which may be is as the document has it; what is found is of the name. Conditions: none beyond the statement's own. -/
import Derived.Test.YtkhbhdchakbmhaaDoorQFnAttrsx
set_option linter.unusedVariables false
set_option linter.unusedSimpArgs false
namespace Go.Proofs.YtkhbhdchakbmhaaDoor.Pure
open Go.RowKit Go.Proofs.YtkhbhdchakbmhaaDoor.QFnAttrs Go.Proofs.YtkhbhdchakbmhaaDoorW.PrintWords Go.Proofs.YtkhbhdchakbmhaaDoorW.PrintLast Go.Proofs.YtkhbhdchakbmhaaDoorW.PrintMore


/-- A loop over an index: from a state that is good, with enough rounds, it comes to an end that meets what is told of it. -/
theorem loop_ex {σ β : Type} {L : Nat → σ → Int → Option β} {n K : Nat} {I : σ → Nat → Prop} {Post : σ → Nat → β → Prop}
    (hend : ∀ s, I s n → ∃ r, Post s n r ∧ ∀ k, L (k + 1) s (n : Int) = some r)
    (hstep : ∀ s (i : Nat), i < n → I s i → (∃ r, Post s i r ∧ ∀ k, K ≤ k → L (k + 1) s (i : Int) = some r) ∨
      ∃ s', I s' (i + 1) ∧ (∀ k, K ≤ k → L (k + 1) s (i : Int) = L k s' ((i : Int) + 1)) ∧ ∀ r, Post s' (i + 1) r → Post s i r) :
    ∀ (d : Nat) s (i : Nat), i + d = n → I s i → ∃ r, Post s i r ∧ ∀ k, K + d < k → L k s (i : Int) = some r := by
  intro d
  induction d with
  | zero =>
    intro s i hd hI
    obtain rfl : i = n := by omega
    obtain ⟨r, hp, hr⟩ := hend s hI
    refine ⟨r, hp, fun k hk => ?_⟩
    obtain ⟨k, rfl⟩ : ∃ m, k = m + 1 := ⟨k - 1, by omega⟩
    exact hr k
  | succ d ih =>
    intro s i hd hI
    rcases hstep s i (by omega) hI with ⟨r, hp, hr⟩ | ⟨s', hI', he, hp⟩
    · refine ⟨r, hp, fun k hk => ?_⟩
      obtain ⟨k, rfl⟩ : ∃ m, k = m + 1 := ⟨k - 1, by omega⟩
      exact hr k (by omega)
    · obtain ⟨r, hq, hr⟩ := ih s' (i + 1) (by omega) hI'
      refine ⟨r, hp r hq, fun k hk => ?_⟩
      obtain ⟨k, rfl⟩ : ∃ m, k = m + 1 := ⟨k - 1, by omega⟩
      rw [he k (by omega)]
      have := hr k (by omega)
      rw [Int.natCast_add] at this
      exact this
theorem ev_at {α : Type} {g : Nat → Option α} {r : α} (K : Nat) (h : ∀ k, K < k → g k = some r) : Ev g r := ⟨K + 1, fun k hk => h k (by omega)⟩
theorem wrap_of {x : Int} (h0 : -9223372036854775808 ≤ x) (h1 : x ≤ 9223372036854775807) : wrap64 x = x := by
  unfold wrap64
  omega
theorem wrap_nat1 {i n : Nat} (h : i < n) (hn : n ≤ 9223372036854775807) : wrap64 ((i : Int) + 1) = (i : Int) + 1 := wrap_of (by omega) (by omega)
theorem lt_cast {i n : Nat} (h : i < n) : (i : Int) < (n : Int) := by omega
theorem nn_cast (i : Nat) : 0 ≤ (i : Int) := by omega
theorem not_lt_cast (n : Nat) : ¬ (n : Int) < (n : Int) := by omega
/-- What is written cell by cell. -/
theorem fill_set {α : Type} (l : List α) (z : α) (i : Nat) (h : i < l.length) : (l.take i ++ List.replicate (l.length - i) z).set i l[i] = l.take (i + 1) ++ List.replicate (l.length - (i + 1)) z := by
  have e1 : l.length - i = (l.length - (i + 1)) + 1 := by omega
  have e2 : (l.take i).length = i := by rw [List.length_take]; omega
  rw [e1, List.replicate_succ, List.set_append_right _ _ (by omega), e2, Nat.sub_self, List.set_cons_zero, List.take_succ_eq_append_getElem h, List.append_assoc]
  rfl
theorem fill_len {α : Type} (l : List α) (z : α) (i : Nat) (h : i ≤ l.length) : (l.take i ++ List.replicate (l.length - i) z).length = l.length := by
  rw [List.length_append, List.length_take, List.length_replicate]
  omega

theorem band_range (x : Int) (m : Nat) (hm : m < 9223372036854775808) : 0 ≤ Go.bits .and .i64 x (m : Int) ∧ Go.bits .and .i64 x (m : Int) ≤ m := by
  have e1 : (BitVec.ofInt 64 (m : Int)).toNat = m := by
    rw [BitVec.ofInt_natCast, BitVec.toNat_ofNat]
    exact Nat.mod_eq_of_lt (by omega)
  have e2 : Go.bits .and .i64 x (m : Int) = IntKind.i64.wrap ((BitVec.ofInt 64 x &&& BitVec.ofInt 64 (m : Int)).toNat : Int) := rfl
  have h : (BitVec.ofInt 64 x).toNat &&& m ≤ m := Nat.and_le_right
  rw [e2, BitVec.toNat_and, e1, IntKind.wrap_i64]
  omega
/-- A reader's place is in what it reads. -/
def RdOk (s : List Int) (i : Int) : Prop := 0 ≤ i ∧ i ≤ s.length ∧ s.length ≤ 140737488351232
theorem l1Byte_ex (s : List Int) (i h : Int) (H : RdOk s i) : ∃ b j h', spec_l1Byte.f s i h = some (b, j, h') ∧ 0 ≤ b ∧ b ≤ 255 ∧ RdOk s j := by
  obtain ⟨h0, h1, h2⟩ := H
  unfold spec_l1Byte.f
  by_cases hc : i < (s.length : Int)
  · rw [if_pos hc, if_pos h0]
    refine ⟨_, _, _, rfl, (band_range _ 255 (by omega)).1, (band_range _ 255 (by omega)).2, ?_⟩
    rw [wrap_of (by omega) (by omega)]
    exact ⟨by omega, by omega, h2⟩
  · rw [if_neg hc]
    exact ⟨_, _, _, rfl, (band_range _ 255 (by omega)).1, (band_range _ 255 (by omega)).2, h0, h1, h2⟩
theorem l1Below_ex (s : List Int) (i h n : Int) (H : RdOk s i) : ∃ v j h', spec_l1Below.f s i h n = some (v, j, h') ∧ 0 ≤ v ∧ (0 < n → v < n) ∧ (n ≤ 0 → v = 0) ∧ RdOk s j := by
  unfold spec_l1Below.f
  by_cases h1 : n ≤ 0
  · rw [if_pos h1]
    exact ⟨0, i, h, rfl, by omega, fun _ => by omega, fun _ => rfl, H⟩
  · rw [if_neg h1]
    by_cases h2 : n ≤ 256
    · rw [if_pos h2]
      obtain ⟨b, j, h', e, b0, b1, H1⟩ := l1Byte_ex s i h H
      rw [e, Option.bind_some, if_neg (by omega), Int.tmod_eq_emod_of_nonneg b0]
      exact ⟨_, _, _, rfl, Int.emod_nonneg _ (by omega), fun _ => Int.emod_lt_of_pos _ (by omega), fun _ => by omega, H1⟩
    · rw [if_neg h2]
      obtain ⟨b, j, h', e, b0, b1, H1⟩ := l1Byte_ex s i h H
      obtain ⟨b', j', h'', e', b0', b1', H2⟩ := l1Byte_ex s j h' H1
      obtain ⟨b'', j'', h3, e'', b0'', b1'', H3⟩ := l1Byte_ex s j' h'' H2
      simp only [e, e', e'', Option.bind_some]
      have w1 : wrap64 (b * 65536) = b * 65536 := wrap_of (by omega) (by omega)
      have w2 : wrap64 (b' * 256) = b' * 256 := wrap_of (by omega) (by omega)
      have w3 : wrap64 (b * 65536 + b' * 256) = b * 65536 + b' * 256 := wrap_of (by omega) (by omega)
      have w4 : wrap64 (b * 65536 + b' * 256 + b'') = b * 65536 + b' * 256 + b'' := wrap_of (by omega) (by omega)
      rw [if_neg (by omega), w1, w2, w3, w4, Int.tmod_eq_emod_of_nonneg (by omega)]
      exact ⟨_, _, _, rfl, Int.emod_nonneg _ (by omega), fun _ => Int.emod_lt_of_pos _ (by omega), fun _ => by omega, H3⟩
theorem l1New_ex (l : List Int) (hl : l.length ≤ 140737488351232) : ∃ h, Ev (fun k => spec_l1New.f k l) (l, 0, h) := by
  obtain ⟨r, ⟨h, rfl⟩, hr⟩ := loop_ex (σ := Int) (L := fun k s i => spec_l1New.l0 k l s i) (n := l.length) (K := 0)
    (I := fun _ _ => True) (Post := fun _ _ r => ∃ h, r = (l, 0, h))
    (fun s _ => ⟨_, ⟨s, rfl⟩, fun k => by
      simp only [spec_l1New.l0]
      rw [if_neg (not_lt_cast _)]⟩)
    (fun s i hi _ => by
      by_cases h4 : (i : Int) < 4000
      · refine .inr ⟨Go.bits .and .i64 (wrap64 ((wrap64 ((wrap64 (s * 137)) + (wrap64 (rd l (i : Int))))) + 11)) 1073741823, trivial, fun k _ => ?_, fun _ h => h⟩
        simp only [spec_l1New.l0]
        rw [if_pos (lt_cast hi), if_pos h4, if_pos (nn_cast i), wrap_nat1 hi (by omega)]
      · refine .inl ⟨_, ⟨s, rfl⟩, fun k _ => ?_⟩
        simp only [spec_l1New.l0]
        rw [if_pos (lt_cast hi), if_neg h4]) l.length (wrap64 (140371 + (l.length : Int))) 0 (by omega) trivial
  exact ⟨h, ev_at (0 + l.length) fun k hk => hr k hk⟩
theorem rdOk_0 (l : List Int) (hl : l.length ≤ 140737488351232) : RdOk l 0 := ⟨by omega, by omega, hl⟩

theorem l1Once_ex (s : List Int) (i h n : Int) (H : RdOk s i) : ∃ b j h', spec_l1Once.f s i h n = some (b, j, h') ∧ RdOk s j := by
  obtain ⟨v, j, h', e, _, _, _, H1⟩ := l1Below_ex s i h n H
  exact ⟨v == 0, j, h', by simp only [spec_l1Once.f, e, Option.bind_some], H1⟩

theorem rd_nat (l : List Int) (i : Nat) (h : i < l.length) : rd l (i : Int) = l[i] := by
  simp [rd, List.getD_eq_getElem?_getD, h]

theorem l1Int_ex (s : List Int) (i h : Int) (l : List Int) (hl : 0 < l.length) (H : RdOk s i) : ∃ v j h', spec_l1Int.f s i h l = some (v, j, h') ∧ v ∈ l ∧ RdOk s j := by
  obtain ⟨v, j, h', e, v0, v1, _, H1⟩ := l1Below_ex s i h (l.length : Int) H
  have hv : v < (l.length : Int) := v1 (by omega)
  obtain ⟨m, rfl⟩ : ∃ m : Nat, v = m := ⟨v.toNat, by omega⟩
  have hm : m < l.length := by omega
  refine ⟨l[m], j, h', ?_, List.getElem_mem hm, H1⟩
  simp only [spec_l1Int.f, e, Option.bind_some]
  rw [if_pos v0, if_pos hv, rd_nat _ _ hm]

theorem l1Odd_ex (s : List Int) (i h : Int) (H : RdOk s i) : ∃ v j h', spec_l1Odd.f s i h = some (v, j, h') ∧ RdOk s j ∧ -9223372036854775808 ≤ v ∧ v ≤ 9223372036854775807 := by
  obtain ⟨v, j, h', e, hv, H1⟩ := l1Int_ex s i h [(-1), 0, 1, 2, 255, 256, 65535, 2147483647, 2147483648, 4294967295, 4294967296, (-2147483648), 9223372036854775807, (-9223372036854775808)] (by decide) H
  refine ⟨v, j, h', by simp only [spec_l1Odd.f, e, Option.bind_some], H1, ?_⟩
  simp only [List.mem_cons, List.not_mem_nil, or_false] at hv
  omega
theorem l1Raw_ex (s : List Int) (i h : Int) (H : RdOk s i) : ∃ v j h', spec_l1Raw.f s i h = some (v, j, h') ∧ RdOk s j ∧ -9223372036854775808 ≤ v ∧ v ≤ 9223372036854775807 := by
  obtain ⟨b, j, h', e, H1⟩ := l1Once_ex s i h 2 H
  cases b with
  | true =>
    obtain ⟨v, j2, h2, e2, H2, hv⟩ := l1Odd_ex s j h' H1
    exact ⟨v, j2, h2, by simp only [spec_l1Raw.f, e, e2, Option.bind_some, if_true], H2, hv⟩
  | false =>
    obtain ⟨v, j2, h2, e2, hv, H2⟩ := l1Int_ex s j h' [(-2147483648), (-3), (-1), 0, 1, 3, 7, 65536, 2147483647, 2147483648] (by decide) H1
    refine ⟨v, j2, h2, by simp only [spec_l1Raw.f, e, e2, Option.bind_some, Bool.false_eq_true, if_false], H2, ?_⟩
    simp only [List.mem_cons, List.not_mem_nil, or_false] at hv
    omega

theorem l1Str_ex (s : List Int) (i h : Int) (l : List ByteArray) (hl : 0 < l.length) (H : RdOk s i) : ∃ v j h', spec_l1Str.f s i h l = some (v, j, h') ∧ v ∈ l ∧ RdOk s j := by
  obtain ⟨v, j, h', e, v0, v1, _, H1⟩ := l1Below_ex s i h (l.length : Int) H
  have hv : v < (l.length : Int) := v1 (by omega)
  obtain ⟨m, rfl⟩ : ∃ m : Nat, v = m := ⟨v.toNat, by omega⟩
  have hm : m < l.length := by omega
  refine ⟨l[m], j, h', ?_, List.getElem_mem hm, H1⟩
  simp only [spec_l1Str.f, e, Option.bind_some]
  rw [if_pos v0, if_pos hv]
  simp [rdOf, List.getD_eq_getElem?_getD, hm]

/-- What is drawn is small. -/
def gA (x : S28) : Prop := x.f0.size ≤ 100 ∧ x.f3.size ≤ 100
theorem s_of {l : List ByteArray} {v : ByteArray} (h : v ∈ l) (hl : (l.all fun s => decide (s.size ≤ 100)) = true) : v.size ≤ 100 := by
  have := List.all_eq_true.1 hl v h
  simpa using this
theorem g1Names (s : List Int) (i h : Int) (H : RdOk s i) : ∃ v j h', spec_l1Names.f s i h = some (v, j, h') ∧ v.size ≤ 100 ∧ RdOk s j := by
  obtain ⟨v, j, h', e, hv, H1⟩ := l1Str_ex s i h [(⟨#[107]⟩ : ByteArray), (⟨#[112, 97, 116, 104]⟩ : ByteArray), (⟨#[99, 111, 100, 101]⟩ : ByteArray), (⟨#[117, 115, 101, 114]⟩ : ByteArray)] (by decide) H
  exact ⟨v, j, h', by simp only [spec_l1Names.f, e, Option.bind_some], s_of hv (by decide), H1⟩
theorem g1AnyName (s : List Int) (i h : Int) (H : RdOk s i) : ∃ v j h', spec_l1AnyName.f s i h = some (v, j, h') ∧ v.size ≤ 100 ∧ RdOk s j := by
  obtain ⟨o, j, h', e, H1⟩ := l1Once_ex s i h 2 H
  cases o with
  | true =>
    obtain ⟨v, j2, h2, e2, hv, H2⟩ := g1Names s j h' H1
    exact ⟨v, j2, h2, by simp only [spec_l1AnyName.f, e, e2, Option.bind_some, if_true], hv, H2⟩
  | false =>
    obtain ⟨v, j2, h2, e2, hv, H2⟩ := l1Str_ex s j h' [(⟨#[]⟩ : ByteArray), (⟨#[75]⟩ : ByteArray), (⟨#[110, 105, 110, 101, 99, 104, 97, 114, 115]⟩ : ByteArray), (⟨#[101, 105, 103, 104, 116, 97, 98, 99]⟩ : ByteArray), (⟨#[97, 32, 98]⟩ : ByteArray), (⟨#[97, 49]⟩ : ByteArray), (⟨#[102, 97, 105, 108, 101, 100]⟩ : ByteArray), (⟨#[102, 97, 105, 108, 101, 100, 120]⟩ : ByteArray)] (by decide) H1
    exact ⟨v, j2, h2, by simp only [spec_l1AnyName.f, e, e2, Option.bind_some, Bool.false_eq_true, if_false], s_of hv (by decide), H2⟩
theorem g1Plain (s : List Int) (i h : Int) (H : RdOk s i) : ∃ v j h', spec_l1Plain.f s i h = some (v, j, h') ∧ v.size ≤ 100 ∧ RdOk s j := by
  obtain ⟨o, j, h', e, H1⟩ := l1Once_ex s i h 6 H
  cases o with
  | true =>
    obtain ⟨v, j2, h2, e2, hv, H2⟩ := l1Str_ex s j h' [(⟨#[]⟩ : ByteArray), (⟨#[34]⟩ : ByteArray), (⟨#[127]⟩ : ByteArray), (⟨#[31]⟩ : ByteArray), (⟨#[116, 119, 101, 110, 116, 121, 32, 98, 121, 116, 101, 115, 32, 97, 114, 101, 32, 104, 101, 114, 101]⟩ : ByteArray), (⟨#[116, 119, 101, 110, 116, 121, 98, 121, 116, 101, 115, 97, 114, 101, 104, 101, 114, 101, 50, 48]⟩ : ByteArray), (⟨#[126, 32]⟩ : ByteArray)] (by decide) H1
    exact ⟨v, j2, h2, by simp only [spec_l1Plain.f, e, e2, Option.bind_some, if_true], s_of hv (by decide), H2⟩
  | false =>
    obtain ⟨v, j2, h2, e2, hv, H2⟩ := l1Str_ex s j h' [(⟨#[97]⟩ : ByteArray), (⟨#[98]⟩ : ByteArray), (⟨#[111, 107]⟩ : ByteArray), (⟨#[120, 32, 121]⟩ : ByteArray)] (by decide) H1
    exact ⟨v, j2, h2, by simp only [spec_l1Plain.f, e, e2, Option.bind_some, Bool.false_eq_true, if_false], s_of hv (by decide), H2⟩
theorem g2One (s : List Int) (i h : Int) (a : ByteArray) (ha : a.size ≤ 100) (H : RdOk s i) : ∃ x b c d j h', spec_l2One.f s i h a = some (x, b, c, d, j, h') ∧ gA ⟨x, b, c, d⟩ ∧ RdOk s j := by
  obtain ⟨o, j, h', e, H1⟩ := l1Once_ex s i h 2 H
  cases o with
  | true =>
    obtain ⟨v, j2, h2, e2, _, H2⟩ := l1Int_ex s j h' [0, 1, 5, 200, 500] (by decide) H1
    exact ⟨a, true, v, ⟨#[]⟩, j2, h2, by simp only [spec_l2One.f, e, e2, Option.bind_some, if_true], ⟨ha, by show (⟨#[]⟩ : ByteArray).size ≤ 100; decide⟩, H2⟩
  | false =>
    obtain ⟨v, j2, h2, e2, hv, H2⟩ := l1Str_ex s j h' [(⟨#[97]⟩ : ByteArray), (⟨#[98]⟩ : ByteArray), (⟨#[111, 107]⟩ : ByteArray), (⟨#[]⟩ : ByteArray)] (by decide) H1
    exact ⟨a, false, 0, v, j2, h2, by simp only [spec_l2One.f, e, e2, Option.bind_some, Bool.false_eq_true, if_false], ⟨ha, s_of hv (by decide)⟩, H2⟩
theorem g2Draw (s : List Int) (i h : Int) (H : RdOk s i) : ∃ l j h', (∀ k, 5 < k → spec_l2Draw.f k s i h = some (l, j, h')) ∧ l.length ≤ 5 ∧ (∀ x ∈ l, gA x) ∧ RdOk s j := by
  obtain ⟨ys, hys⟩ : ∃ ys : List ByteArray, ys = [(⟨#[99, 111, 100, 101]⟩ : ByteArray), (⟨#[102, 97, 105, 108, 101, 100]⟩ : ByteArray), (⟨#[107]⟩ : ByteArray), (⟨#[112, 97, 116, 104]⟩ : ByteArray), (⟨#[117, 115, 101, 114]⟩ : ByteArray)] := ⟨_, rfl⟩
  have hn : ys.length = 5 := by rw [hys]; rfl
  have hg : ∀ y ∈ ys, y.size ≤ 100 := fun y hy => s_of hy (by rw [hys]; decide)
  obtain ⟨⟨l, j, h'⟩, ⟨hl, hgl, hj⟩, hr⟩ := loop_ex (σ := List S28 × Int × Int) (L := fun k x i => spec_l2Draw.l0 k x.1 ys ys.length i s x.2.1 x.2.2) (n := ys.length) (K := 0)
    (I := fun x i => x.1.length ≤ i ∧ (∀ y ∈ x.1, gA y) ∧ RdOk s x.2.1) (Post := fun _ _ r => r.1.length ≤ 5 ∧ (∀ y ∈ r.1, gA y) ∧ RdOk s r.2.1)
    (fun x hI => ⟨x, ⟨by omega, hI.2⟩, fun k => by
      simp only [spec_l2Draw.l0]
      rw [if_neg (not_lt_cast _)]⟩)
    (fun x i hi hI => by
      obtain ⟨o, j, h', e, H1⟩ := l1Once_ex s x.2.1 x.2.2 4 hI.2.2
      cases o with
      | true =>
        have hy : (rdOf ByteArray.empty ys (i : Int)).size ≤ 100 := by
          have e3 : rdOf ByteArray.empty ys (i : Int) = ys[i] := by simp [rdOf, List.getD_eq_getElem?_getD, hi]
          rw [e3]
          exact hg _ (List.getElem_mem hi)
        obtain ⟨a, b, c, d, j2, h2, e2, hq, H2⟩ := g2One s j h' (rdOf ByteArray.empty ys (i : Int)) hy H1
        refine .inr ⟨(x.1 ++ [(⟨a, b, c, d⟩ : S28)], j2, h2), ⟨by simp; omega, fun y hy => ?_, H2⟩, fun k _ => ?_, fun _ h => h⟩
        · rcases List.mem_append.1 hy with hy | hy
          · exact hI.2.1 y hy
          · rw [List.mem_singleton.1 hy]
            exact hq
        · simp only [spec_l2Draw.l0]
          rw [if_pos (lt_cast hi), if_pos (nn_cast i), if_pos (lt_cast hi), e, Option.bind_some, if_pos rfl, e2, Option.bind_some, if_pos (by omega), wrap_nat1 hi (by omega)]
      | false =>
        refine .inr ⟨(x.1, j, h'), ⟨by simp only; omega, hI.2.1, H1⟩, fun k _ => ?_, fun _ h => h⟩
        simp only [spec_l2Draw.l0]
        rw [if_pos (lt_cast hi), if_pos (nn_cast i), if_pos (lt_cast hi), e, Option.bind_some, if_neg (by simp), wrap_nat1 hi (by omega)]) ys.length ([], i, h) 0 (by omega) ⟨by simp, fun y hy => (nomatch hy), H⟩
  refine ⟨l, j, h', fun k hk => ?_, hl, hgl, hj⟩
  have := hr k (by omega)
  simp only [spec_l2Draw.f, Option.bind_some]
  rw [← hys]
  exact this
theorem g_snoc {l : List S28} {m : List S28} (h : ∀ x ∈ l, gA x) (k : ∀ x ∈ m, gA x) : ∀ x ∈ l ++ m, gA x := by
  intro x hx
  rcases List.mem_append.1 hx with hx | hx
  · exact h x hx
  · exact k x hx
theorem g_one {a : ByteArray} {b : Bool} {c : Int} {d : ByteArray} (h : a.size ≤ 100) (k : d.size ≤ 100) : ∀ x ∈ [(⟨a, b, c, d⟩ : S28)], gA x := by
  intro x hx
  rw [List.mem_singleton.1 hx]
  exact ⟨h, k⟩

theorem g2Any (s : List Int) (i h : Int) (H : RdOk s i) : ∃ l j h', (∀ k, 5 < k → spec_l2Any.f k s i h = some (l, j, h')) ∧ l.length ≤ 9 ∧ (∀ x ∈ l, gA x) ∧ RdOk s j := by
  obtain ⟨l, j1, h1, e1, hl, hg, H1⟩ := g2Draw s i h H
  obtain ⟨v, j2, h2, e2, _, _, _, H2⟩ := l1Below_ex s j1 h1 8 H1
  by_cases c0 : v = 0
  · obtain ⟨n, j3, h3, e3, hn, H3⟩ := g1AnyName s j2 h2 H2
    obtain ⟨o, j4, h4, e4, H4⟩ := l1Once_ex s j3 h3 2 H3
    obtain ⟨r, j5, h5, e5, H5, _⟩ := l1Raw_ex s j4 h4 H4
    obtain ⟨p, j6, h6, e6, hp, H6⟩ := g1Plain s j5 h5 H5
    refine ⟨l ++ [(⟨n, o, r, p⟩ : S28)], j6, h6, fun k hk => ?_, by simp; omega, g_snoc hg (g_one hn hp), H6⟩
    simp only [spec_l2Any.f, e1 k hk, e2, e3, e4, e5, e6, Option.bind_some]
    rw [if_pos c0, if_pos (by omega)]
  by_cases c1 : v = 1
  · obtain ⟨n, j3, h3, e3, hn, H3⟩ := l1Str_ex s j2 h2 [(⟨#[97]⟩ : ByteArray), (⟨#[122, 111, 111]⟩ : ByteArray)] (by decide) H2
    obtain ⟨a, b, c, d, j4, h4, e4, q4, H4⟩ := g2One s j3 h3 n (s_of hn (by decide)) H3
    refine ⟨l ++ [(⟨a, b, c, d⟩ : S28)], j4, h4, fun k hk => ?_, by simp; omega, g_snoc hg (g_one q4.1 q4.2), H4⟩
    simp only [spec_l2Any.f, e1 k hk, e2, e3, e4, Option.bind_some]
    rw [if_neg c0, if_pos c1, if_pos (by omega)]
  by_cases c2 : v = 2
  · obtain ⟨a, b, c, d, j3, h3, e3, q3, H3⟩ := g2One s j2 h2 ⟨#[118]⟩ (by decide) H2
    obtain ⟨a', b', c', d', j4, h4, e4, q4, H4⟩ := g2One s j3 h3 ⟨#[119]⟩ (by decide) H3
    obtain ⟨a2, b2, c2', d2, j5, h5, e5, q5, H5⟩ := g2One s j4 h4 ⟨#[120]⟩ (by decide) H4
    obtain ⟨a3, b3, c3, d3, j6, h6, e6, q6, H6⟩ := g2One s j5 h5 ⟨#[121]⟩ (by decide) H5
    refine ⟨l ++ [(⟨a, b, c, d⟩ : S28), ⟨a', b', c', d'⟩, ⟨a2, b2, c2', d2⟩, ⟨a3, b3, c3, d3⟩], j6, h6, fun k hk => ?_, by simp; omega, g_snoc hg ?_, H6⟩
    · simp only [spec_l2Any.f, e1 k hk, e2, e3, e4, e5, e6, Option.bind_some]
      rw [if_neg c0, if_neg c1, if_pos c2, if_pos (by simp; omega)]
    · intro x hx
      simp only [List.mem_cons, List.not_mem_nil, or_false] at hx
      rcases hx with rfl | rfl | rfl | rfl
      · exact q3
      · exact q4
      · exact q5
      · exact q6
  · refine ⟨l, j2, h2, fun k hk => ?_, by omega, hg, H2⟩
    simp only [spec_l2Any.f, e1 k hk, e2, Option.bind_some]
    rw [if_neg c0, if_neg c1, if_neg c2]

theorem g2Attr (s : List Int) (i h : Int) (H : RdOk s i) : ∃ a b c d j h', spec_l2Attr.f s i h = some (a, b, c, d, j, h') ∧ a.size ≤ 100 ∧ d.size ≤ 100 ∧ RdOk s j := by
  obtain ⟨n, j1, h1, e1, hn, H1⟩ := g1Names s i h H
  obtain ⟨a, b, c, d, j2, h2, e2, q2, H2⟩ := g2One s j1 h1 n hn H1
  obtain ⟨v, j3, h3, e3, _, _, _, H3⟩ := l1Below_ex s j2 h2 6 H2
  by_cases c0 : v = 0
  · obtain ⟨m, j4, h4, e4, hm, H4⟩ := g1AnyName s j3 h3 H3
    refine ⟨m, b, c, d, j4, h4, ?_, hm, q2.2, H4⟩
    simp only [spec_l2Attr.f, e1, e2, e3, e4, Option.bind_some]
    rw [if_pos c0]
  by_cases c1 : v = 1
  · obtain ⟨m, j4, h4, e4, H4, _⟩ := l1Raw_ex s j3 h3 H3
    refine ⟨a, b, m, d, j4, h4, ?_, q2.1, q2.2, H4⟩
    simp only [spec_l2Attr.f, e1, e2, e3, e4, Option.bind_some]
    rw [if_neg c0, if_pos c1]
  by_cases c2 : v = 2
  · obtain ⟨m, j4, h4, e4, hm, H4⟩ := g1Plain s j3 h3 H3
    refine ⟨a, b, c, m, j4, h4, ?_, q2.1, hm, H4⟩
    simp only [spec_l2Attr.f, e1, e2, e3, e4, Option.bind_some]
    rw [if_neg c0, if_neg c1, if_pos c2]
  · refine ⟨a, b, c, d, j3, h3, ?_, q2.1, q2.2, H3⟩
    simp only [spec_l2Attr.f, e1, e2, e3, Option.bind_some]
    rw [if_neg c0, if_neg c1, if_neg c2]

def inB (a b c : Int) : Bool := decide (b ≤ a) && decide (a ≤ c)
theorem impl_within_eq (a b c : Int) : impl_within.f a b c = some (inB a b c) := by
  unfold impl_within.f inB
  by_cases h : a ≥ b
  · rw [if_pos h]
    simp [show b ≤ a from h]
  · rw [if_neg h]
    simp [show ¬ b ≤ a from h]

theorem spec_l1In_eq (a b c : Int) : spec_l1In.f a b c = some (inB a b c) := by
  unfold spec_l1In.f inB
  by_cases h : a ≥ b
  · rw [if_pos h]
    simp [show b ≤ a from h]
  · rw [if_neg h]
    simp [show ¬ b ≤ a from h]

theorem wrap_idx {i n : Int} (h0 : 0 ≤ i) (h : i < n) (hn : n ≤ 140737488351232) : wrap64 (i + 1) = i + 1 := by
  unfold wrap64
  omega
theorem wrap_bt (s : ByteArray) (i : Int) : wrap64 (bt s i) = bt s i := by
  have := bt_range s i
  unfold wrap64
  omega

theorem name_loops (s : ByteArray) (hn : (s.size : Int) ≤ 140737488351232) (d : Nat) : ∀ (i : Int), 0 ≤ i → (s.size : Int) - i ≤ d →
    ∃ r, (∀ k, d < k → spec_NameOk.l0 k s i = some r) ∧ ∀ k, d < k → impl_NameOk.l0 k s i = some r := by
  induction d with
  | zero =>
    intro i h0 hd
    refine ⟨inB s.size 1 8, fun k hk => ?_, fun k hk => ?_⟩ <;>
    · obtain ⟨k, rfl⟩ : ∃ m, k = m + 1 := ⟨k - 1, by omega⟩
      simp only [spec_NameOk.l0, impl_NameOk.l0, spec_l1In_eq, impl_within_eq, Option.bind_some]
      rw [if_neg (by omega)]
  | succ d ih =>
    intro i h0 hd
    by_cases hlt : i < (s.size : Int)
    · obtain ⟨r, hs, hi⟩ := ih (i + 1) (by omega) (by omega)
      refine ⟨if bt s i < 97 then false else if bt s i > 122 then false else r, fun k hk => ?_, fun k hk => ?_⟩
      · obtain ⟨k, rfl⟩ : ∃ m, k = m + 1 := ⟨k - 1, by omega⟩
        simp only [spec_NameOk.l0]
        rw [if_pos hlt, if_pos h0, wrap_idx h0 hlt hn, hs k (by omega)]
        (repeat' split) <;> rfl
      · obtain ⟨k, rfl⟩ : ∃ m, k = m + 1 := ⟨k - 1, by omega⟩
        simp only [impl_NameOk.l0]
        rw [if_pos hlt, if_pos h0, wrap_idx h0 hlt hn, hi k (by omega)]
        (repeat' split) <;> rfl
    · refine ⟨inB s.size 1 8, fun k hk => ?_, fun k hk => ?_⟩ <;>
      · obtain ⟨k, rfl⟩ : ∃ m, k = m + 1 := ⟨k - 1, by omega⟩
        simp only [spec_NameOk.l0, impl_NameOk.l0, spec_l1In_eq, impl_within_eq, Option.bind_some]
        rw [if_neg hlt]
theorem name_both (s : ByteArray) (hn : s.size ≤ 140737488351232) : ∃ r, Ev (fun k => spec_NameOk.f k s) r ∧ Ev (fun k => impl_NameOk.f k s) r := by
  obtain ⟨r, hs, hi⟩ := name_loops s (by omega) s.size 0 (by omega) (by omega)
  exact ⟨r, ⟨s.size + 1, fun k hk => hs k (by omega)⟩, ⟨s.size + 1, fun k hk => hi k (by omega)⟩⟩

def plainC (c : Int) : Bool := inB c 32 126 && !decide (c = 34)
theorem plainC_iff (c : Int) : plainC c = true ↔ (32 ≤ c ∧ c ≤ 126) ∧ c ≠ 34 := by simp [plainC, inB]
theorem plain_spec (c : Int) (r : Bool) : (if c < 32 then some false else (if c > 126 then some false else (if c = 34 then some false else some r))) = some (if plainC c then r else false) := by
  by_cases h : plainC c = true
  · have h' := (plainC_iff c).1 h
    rw [if_pos h, if_neg (by omega), if_neg (by omega), if_neg (by omega)]
  · have h' : ¬ ((32 ≤ c ∧ c ≤ 126) ∧ c ≠ 34) := fun k => h ((plainC_iff c).2 k)
    rw [if_neg h]
    (repeat' split) <;> first | rfl | (exfalso; omega)
theorem plain_impl (c : Int) (r : Bool) : (if inB c 32 126 = true then (if c = 34 then some false else some r) else some false) = some (if plainC c then r else false) := by
  unfold plainC
  by_cases h1 : inB c 32 126 = true <;> by_cases h2 : c = 34 <;> simp [h1, h2]
theorem plain_loops (s : ByteArray) (hn : (s.size : Int) ≤ 140737488351232) (d : Nat) : ∀ (i : Int), 0 ≤ i → (s.size : Int) - i ≤ d →
    ∃ r, (∀ k, d < k → spec_PlainOk.l0 k s i = some r) ∧ ∀ k, d < k → impl_PlainOk.l0 k s i = some r := by
  induction d with
  | zero =>
    intro i h0 hd
    refine ⟨decide ((s.size : Int) ≤ 20), fun k hk => ?_, fun k hk => ?_⟩ <;>
    · obtain ⟨k, rfl⟩ : ∃ m, k = m + 1 := ⟨k - 1, by omega⟩
      simp only [spec_PlainOk.l0, impl_PlainOk.l0]
      rw [if_neg (by omega)]
  | succ d ih =>
    intro i h0 hd
    by_cases hlt : i < (s.size : Int)
    · obtain ⟨r, hs, hi⟩ := ih (i + 1) (by omega) (by omega)
      refine ⟨if plainC (bt s i) then r else false, fun k hk => ?_, fun k hk => ?_⟩
      · obtain ⟨k, rfl⟩ : ∃ m, k = m + 1 := ⟨k - 1, by omega⟩
        simp only [spec_PlainOk.l0]
        rw [if_pos hlt, if_pos h0, wrap_idx h0 hlt hn, hs k (by omega)]
        exact plain_spec _ _
      · obtain ⟨k, rfl⟩ : ∃ m, k = m + 1 := ⟨k - 1, by omega⟩
        simp only [impl_PlainOk.l0]
        rw [if_pos hlt, if_pos h0, wrap_idx h0 hlt hn, hi k (by omega), wrap_bt, impl_within_eq, Option.bind_some]
        exact plain_impl _ _
    · refine ⟨decide ((s.size : Int) ≤ 20), fun k hk => ?_, fun k hk => ?_⟩ <;>
      · obtain ⟨k, rfl⟩ : ∃ m, k = m + 1 := ⟨k - 1, by omega⟩
        simp only [spec_PlainOk.l0, impl_PlainOk.l0]
        rw [if_neg hlt]
theorem plain_both (s : ByteArray) (hn : s.size ≤ 140737488351232) : ∃ r, Ev (fun k => spec_PlainOk.f k s) r ∧ Ev (fun k => impl_PlainOk.f k s) r := by
  obtain ⟨r, hs, hi⟩ := plain_loops s (by omega) s.size 0 (by omega) (by omega)
  exact ⟨r, ⟨s.size + 1, fun k hk => hs k (by omega)⟩, ⟨s.size + 1, fun k hk => hi k (by omega)⟩⟩

theorem attrOk_both (a : ByteArray) (b : Bool) (c : Int) (e : ByteArray) (ha : a.size ≤ 1048576) (he : e.size ≤ 1048576) :
    ∃ r, ∀ k, 1048576 < k → spec_AttrOk.f k a b c e = some r ∧ impl_AttrOk.f k a b c e = some r := by
  obtain ⟨n, hn1, hn2⟩ := name_loops a (by omega) a.size 0 (by omega) (by omega)
  obtain ⟨p, hp1, hp2⟩ := plain_loops e (by omega) e.size 0 (by omega) (by omega)
  refine ⟨n && (if b then inB c 0 2147483647 && (e.toList == ([] : List UInt8)) else decide (c = 0) && p), fun k hk => ?_⟩
  have e1 : spec_NameOk.f k a = some n := hn1 k (by omega)
  have e2 : impl_NameOk.f k a = some n := hn2 k (by omega)
  have e3 : spec_PlainOk.f k e = some p := hp1 k (by omega)
  have e4 : impl_PlainOk.f k e = some p := hp2 k (by omega)
  constructor
  · simp only [spec_AttrOk.f, e1, e3, spec_l1In_eq, Option.bind_some]
    cases n <;> cases b <;> simp
    · by_cases hc : c = 0 <;> simp [hc]
    · cases inB c 0 2147483647 <;> simp
  · simp only [impl_AttrOk.f, e2, e4, impl_within_eq, Option.bind_some]
    cases n <;> cases b <;> simp
    · cases p <;> simp
      by_cases hc : c = 0 <;> simp [hc]
    · cases inB c 0 2147483647 <;> simp

/-- Two loops that go side by side. -/
theorem loop_two {σ β : Type} {L L' : Nat → σ → Int → Option β} {n K : Nat} {I : σ → Nat → Prop}
    (hend : ∀ s, I s n → ∃ r, ∀ k, L (k + 1) s (n : Int) = some r ∧ L' (k + 1) s (n : Int) = some r)
    (hstep : ∀ s (i : Nat), i < n → I s i → (∃ r, ∀ k, K ≤ k → L (k + 1) s (i : Int) = some r ∧ L' (k + 1) s (i : Int) = some r) ∨
      ∃ s', I s' (i + 1) ∧ ∀ k, K ≤ k → L (k + 1) s (i : Int) = L k s' ((i : Int) + 1) ∧ L' (k + 1) s (i : Int) = L' k s' ((i : Int) + 1)) :
    ∀ (d : Nat) s (i : Nat), i + d = n → I s i → ∃ r, ∀ k, K + d < k → L k s (i : Int) = some r ∧ L' k s (i : Int) = some r := by
  intro d
  induction d with
  | zero =>
    intro s i hd hI
    obtain rfl : i = n := by omega
    obtain ⟨r, hr⟩ := hend s hI
    refine ⟨r, fun k hk => ?_⟩
    obtain ⟨k, rfl⟩ : ∃ m, k = m + 1 := ⟨k - 1, by omega⟩
    exact hr k
  | succ d ih =>
    intro s i hd hI
    rcases hstep s i (by omega) hI with ⟨r, hr⟩ | ⟨s', hI', he⟩
    · refine ⟨r, fun k hk => ?_⟩
      obtain ⟨k, rfl⟩ : ∃ m, k = m + 1 := ⟨k - 1, by omega⟩
      exact hr k (by omega)
    · obtain ⟨r, hr⟩ := ih s' (i + 1) (by omega) hI'
      refine ⟨r, fun k hk => ?_⟩
      obtain ⟨k, rfl⟩ : ∃ m, k = m + 1 := ⟨k - 1, by omega⟩
      rw [(he k (by omega)).1, (he k (by omega)).2]
      have := hr k (by omega)
      rw [Int.natCast_add] at this
      exact this

theorem rdIA (l : List S28) (i : Nat) (h : i < l.length) : rd_T28 l (i : Int) = l[i] := by
  simp [rd_T28, List.getD_eq_getElem?_getD, h]

theorem attrsOk_both (l : List S28) (hl : l.length ≤ 1048576) (hf : ∀ x ∈ l, x.f0.size ≤ 1048576 ∧ x.f3.size ≤ 1048576) :
    ∃ r, Ev (fun k => spec_AttrsOk.f k l) r ∧ Ev (fun k => impl_AttrsOk.f k l) r := by
  obtain ⟨r, h⟩ := loop_two (σ := Unit) (L := fun k _ i => spec_AttrsOk.l0 k l i) (L' := fun k _ i => impl_AttrsOk.l0 k l l l.length i) (n := l.length) (K := 1048577) (I := fun _ _ => True)
    (fun s _ => ⟨decide ((l.length : Int) ≤ 4), fun k => by
      simp only [spec_AttrsOk.l0, impl_AttrsOk.l0]
      rw [if_neg (not_lt_cast _), if_neg (not_lt_cast _)]
      exact ⟨rfl, rfl⟩⟩)
    (fun s i hi _ => by
      obtain ⟨f1, f2⟩ := hf l[i] (List.getElem_mem hi)
      obtain ⟨r, hr⟩ := attrOk_both l[i].f0 l[i].f1 l[i].f2 l[i].f3 f1 f2
      let T (z : Option Bool) : Option Bool := if r = true then (if (i : Int) > 0 then (if 0 ≤ (wrap64 ((i : Int) - 1)) then (if (wrap64 ((i : Int) - 1)) < (l.length : Int) then (if ((Op.bytesLess (((rd_T28 l (wrap64 ((i : Int) - 1))).f0).toList) ((l[i].f0).toList)) = true) then z else (some false)) else (none)) else (none)) else z) else (some false)
      have hT : (∃ q, ∀ z, T z = some q) ∨ ∀ z, T z = z := by
        cases r with
        | false => exact .inl ⟨false, fun z => if_neg (by decide)⟩
        | true =>
          by_cases hz : (i : Int) > 0
          · have e1 : wrap64 ((i : Int) - 1) = ((i - 1 : Nat) : Int) := by rw [wrap_of (by omega) (by omega)]; omega
            by_cases hc : Op.bytesLess (((rd_T28 l (wrap64 ((i : Int) - 1))).f0).toList) (l[i].f0.toList) = true
            · exact .inr fun z => by
                show (if true = true then _ else _) = _
                rw [if_pos rfl, if_pos hz, if_pos (by omega), if_pos (by omega), if_pos hc]
            · exact .inl ⟨false, fun z => by
                show (if true = true then _ else _) = _
                rw [if_pos rfl, if_pos hz, if_pos (by omega), if_pos (by omega), if_neg hc]⟩
          · exact .inr fun z => by
              show (if true = true then _ else _) = _
              rw [if_pos rfl, if_neg hz]
      have hs : ∀ k, 1048577 ≤ k → spec_AttrsOk.l0 (k + 1) l (i : Int) = T (spec_AttrsOk.l0 k l ((i : Int) + 1)) := by
        intro k hk
        simp only [spec_AttrsOk.l0]
        rw [if_pos (lt_cast hi), if_pos (nn_cast i), rdIA _ _ hi, (hr k (by omega)).1, Option.bind_some, wrap_nat1 hi (by omega)]
      have hi' : ∀ k, 1048577 ≤ k → impl_AttrsOk.l0 (k + 1) l l l.length (i : Int) = T (impl_AttrsOk.l0 k l l l.length ((i : Int) + 1)) := by
        intro k hk
        simp only [impl_AttrsOk.l0]
        rw [if_pos (lt_cast hi), if_pos (nn_cast i), if_pos (lt_cast hi), rdIA _ _ hi, (hr k (by omega)).2, Option.bind_some, wrap_nat1 hi (by omega)]
      rcases hT with ⟨q, hq⟩ | hq
      · exact .inl ⟨q, fun k hk => ⟨(hs k hk).trans (hq _), (hi' k hk).trans (hq _)⟩⟩
      · exact .inr ⟨(), trivial, fun k hk => ⟨(hs k hk).trans (hq _), (hi' k hk).trans (hq _)⟩⟩) l.length () 0 (by omega) trivial
  exact ⟨r, ev_at (1048577 + l.length) fun k hk => (h k hk).1, ev_at (1048577 + l.length) fun k hk => (h k hk).2⟩

def dec (u : Nat) : ByteArray := ⟨(Lib.decDigits u).toArray⟩
theorem dec_one {u : Nat} (h : u < 10) : dec u = strOfNums [48 + (u : Int)] := by
  have e : (48 + (u : Int)).toNat = 48 + u := by omega
  unfold dec strOfNums
  rw [Lib.decDigits_one h, List.map_cons, List.map_nil, e]
theorem dec_more {u : Nat} (h : ¬ u < 10) (s : ByteArray) : dec u ++ s = dec (u / 10) ++ (strOfNums [48 + ((u % 10 : Nat) : Int)] ++ s) := by
  have e : Lib.decDigits u = Lib.decDigits (u / 10) ++ [UInt8.ofNat (48 + u % 10)] := by rw [Lib.decDigits, dif_neg h]
  have e2 : (48 + ((u % 10 : Nat) : Int)).toNat = 48 + u % 10 := by omega
  apply ByteArray.ext
  simp only [ByteArray.data_append]
  unfold dec strOfNums
  rw [e]
  simp only [List.map_cons, List.map_nil, e2]
  apply Array.ext'
  simp
theorem dec_size (u : Nat) : (dec u).size = Lib.nDigits u := by
  unfold dec
  rw [← Lib.decDigits_length]
  simp [ByteArray.size]
theorem nDigits_le (u : Nat) (h : u < 10000000000000000000) : Lib.nDigits u ≤ 19 := by
  have key : ∀ (j u : Nat), u < 10 ^ (j + 1) → Lib.nDigits u ≤ j + 1 := by
    intro j
    induction j with
    | zero => intro u h; rw [Lib.nDigits_small (by omega)]; omega
    | succ j ih =>
      intro u h
      by_cases hu : u < 10
      · rw [Lib.nDigits_small hu]; omega
      · rw [Lib.nDigits_big hu]
        have := ih (u / 10) (by rw [Nat.pow_succ] at h; omega)
        omega
  exact key 18 u (by omega)
/-- What the reference's text of a number is, behind its digits. -/
def signed (n : Int) (s : ByteArray) : ByteArray := if n < 0 then (⟨#[45]⟩ : ByteArray) ++ s else s
theorem numText_loop (n : Int) : ∀ (u : Nat) (x : Int) (s : ByteArray) (k : Nat), 0 < u → u ≤ 9223372036854775808 → x = (u : Int) ∨ x = -(u : Int) → -9223372036854775808 ≤ x → x ≤ 9223372036854775807 → Lib.nDigits u + s.size ≤ 1000 → Lib.nDigits u + 1 ≤ k →
    spec_NumText.l0 k n s x = some (signed n (dec u ++ s)) := by
  intro u
  induction u using Nat.strongRecOn with
  | _ u ih =>
    intro x s k hu hb hx h0 h1 hs hk
    obtain ⟨k, rfl⟩ : ∃ q, k = q + 1 := ⟨k - 1, by omega⟩
    have hd : (if Int.tmod x 10 < 0 then wrap64 (-(Int.tmod x 10)) else Int.tmod x 10) = ((u % 10 : Nat) : Int) := by
      rcases hx with rfl | rfl
      · rw [Int.tmod_eq_emod_of_nonneg (by omega), if_neg (by omega)]
        omega
      · rw [Int.neg_tmod, Int.tmod_eq_emod_of_nonneg (by omega)]
        split
        · rw [wrap_of (by omega) (by omega)]
          omega
        · omega
    have hq : wrap64 (Int.tdiv x 10) = (((u / 10 : Nat)) : Int) ∧ x = (u : Int) ∨ wrap64 (Int.tdiv x 10) = -(((u / 10 : Nat)) : Int) ∧ x = -(u : Int) := by
      rcases hx with rfl | rfl
      · left
        rw [Int.tdiv_eq_ediv_of_nonneg (by omega), wrap_of (by omega) (by omega)]
        omega
      · right
        rw [Int.neg_tdiv, Int.tdiv_eq_ediv_of_nonneg (by omega), wrap_of (by omega) (by omega)]
        omega
    have hone : ∀ d : Int, d = ((u % 10 : Nat) : Int) → (wrap64 (48 + d)) % 256 = 48 + ((u % 10 : Nat) : Int) := by
      intro d e
      rw [e, wrap_of (by omega) (by omega)]
      omega
    have hsz : (strOfNums [48 + ((u % 10 : Nat) : Int)]).size = 1 := by rw [strOfNums_size]; rfl
    have hnd : 1 ≤ Lib.nDigits u := Lib.nDigits_pos u
    have hround : spec_NumText.l0 (k + 1) n s x = spec_NumText.l0 k n (strOfNums [48 + ((u % 10 : Nat) : Int)] ++ s) (wrap64 (Int.tdiv x 10)) := by
      simp only [spec_NumText.l0, Option.bind_some]
      rw [if_neg (by rcases hx with rfl | rfl <;> omega)]
      by_cases hneg : Int.tmod x 10 < 0
      · rw [if_pos hneg] at hd
        rw [if_pos hneg, hone _ hd, if_pos (by rw [hsz]; omega)]
      · rw [if_neg hneg] at hd
        rw [if_neg hneg, hone _ hd, if_pos (by rw [hsz]; omega)]
    rw [hround]
    by_cases h10 : u < 10
    · have hz : wrap64 (Int.tdiv x 10) = 0 := by omega
      rw [hz]
      obtain ⟨k, rfl⟩ : ∃ q, k = q + 1 := ⟨k - 1, by omega⟩
      simp only [spec_NumText.l0]
      rw [if_pos trivial]
      rw [dec_one h10]
      have e : u % 10 = u := by omega
      rw [e] at hsz ⊢
      unfold signed
      by_cases hn : n < 0
      · rw [if_pos hn, if_pos hn, if_pos (by rw [ByteArray.size_append, hsz]; omega)]
      · rw [if_neg hn, if_neg hn]
    · have hnb := Lib.nDigits_big h10
      rw [dec_more h10]
      have hsz2 : (strOfNums [48 + ((u % 10 : Nat) : Int)] ++ s).size = 1 + s.size := by rw [ByteArray.size_append, hsz]
      exact ih (u / 10) (by omega) _ _ k (by omega) (by omega) (by omega) (by omega) (by omega) (by omega) (by omega)
theorem pos_ne {s : ByteArray} (h : 0 < s.size) : s.toList ≠ [] := by
  intro e
  rw [ByteArray.toList_eq] at e
  have h1 := congrArg List.length e
  rw [Array.length_toList] at h1
  have h2 : s.data.size = 0 := h1
  have h3 : s.size = s.data.size := rfl
  omega
def itoaV (n : Int) : ByteArray := ⟨(Lib.itoa n).toArray⟩
theorem empty_append (s : ByteArray) : s ++ (⟨#[]⟩ : ByteArray) = s := by
  apply ByteArray.ext
  simp [ByteArray.data_append]
theorem signed_dec (n : Int) : signed n (dec n.natAbs) = itoaV n := by
  unfold signed itoaV Lib.itoa dec
  by_cases h : n < 0
  · rw [if_pos h, if_pos h]
    apply ByteArray.ext
    simp [ByteArray.data_append]
  · rw [if_neg h, if_neg h]
    have e : n.natAbs = n.toNat := by omega
    rw [e]
theorem spec_NumText_at (n : Int) (h0 : -9223372036854775808 ≤ n) (h1 : n ≤ 9223372036854775807) (k : Nat) (hk : 21 ≤ k) : spec_NumText.f k n = some (itoaV n) := by
  unfold spec_NumText.f
  by_cases hz : n = 0
  · subst hz
    rw [if_pos rfl]
    have e : Lib.itoa 0 = [48] := by
      unfold Lib.itoa
      rw [if_neg (by omega)]
      exact Lib.decDigits_one (by omega)
    unfold itoaV
    rw [e]
  · rw [if_neg hz]
    have h19 := nDigits_le n.natAbs (by omega)
    rw [numText_loop n n.natAbs n ⟨#[]⟩ k (by omega) (by omega) (by omega) h0 h1 (by have e : (⟨#[]⟩ : ByteArray).size = 0 := rfl; rw [e]; omega) (by omega), empty_append, signed_dec]
theorem impl_NumText_at (n : Int) (h0 : -9223372036854775808 ≤ n) (h1 : n ≤ 9223372036854775807) : impl_NumText.f n = some (itoaV n) := by
  simp only [impl_NumText.f, strconv_Itoa.f]
  rw [if_pos h0, if_pos h1]
  rfl
theorem i64_range {x : Int} (h : (Lit.int .i64 x).wf = true) : -9223372036854775808 ≤ x ∧ x ≤ 9223372036854775807 := by
  simp [Lit.wf, IntKind.min, IntKind.max, IntKind.signed, IntKind.bits] at h
  omega

theorem itoaV_size (n : Int) (h0 : -9223372036854775808 ≤ n) (h1 : n ≤ 9223372036854775807) : (itoaV n).size ≤ 21 := by
  have := Lib.itoa_length_le n h0 h1
  show (Lib.itoa n).toArray.size ≤ 21
  rw [List.size_toArray]
  exact this
theorem one_lit (x : UInt8) : (⟨#[x]⟩ : ByteArray).size = 1 := rfl
theorem two_lit (x y : UInt8) : (⟨#[x, y]⟩ : ByteArray).size = 2 := rfl
theorem attrText_both (a : ByteArray) (b : Bool) (c : Int) (e : ByteArray) (ha : a.size ≤ 1048576) (he : e.size ≤ 1048576) :
    ∃ ok r, (∀ k, 1048576 < k → spec_AttrOk.f k a b c e = some ok ∧ impl_AttrOk.f k a b c e = some ok) ∧ (∀ k, 1048576 < k → spec_AttrText.f k a b c e = some r ∧ impl_AttrText.f k a b c e = some r) ∧ r.size ≤ 4194304 ∧ (ok = true → 0 < r.size) ∧ (ok = false → r = ⟨#[]⟩) := by
  obtain ⟨ok, hok⟩ := attrOk_both a b c e ha he
  cases ok with
  | false =>
    refine ⟨false, ⟨#[]⟩, hok, fun k hk => ?_, by decide, (fun h => by cases h), fun _ => rfl⟩
    obtain ⟨h1, h2⟩ := hok k hk
    constructor
    · simp only [spec_AttrText.f, h1, Option.bind_some]
      rw [if_neg (by decide)]
    · simp only [impl_AttrText.f, h2, Option.bind_some]
      rw [if_neg (by decide)]
  | true =>
    cases b with
    | true =>
      have hc : 0 ≤ c ∧ c ≤ 2147483647 := by
        obtain ⟨h1, _⟩ := hok 1048577 (by omega)
        unfold spec_AttrOk.f at h1
        obtain ⟨q, _, h1⟩ := Option.bind_eq_some_iff.mp h1
        cases q with
        | false => rw [if_neg (by decide)] at h1; cases h1
        | true =>
          rw [if_pos rfl, if_pos rfl] at h1
          unfold spec_l1In.f at h1
          by_cases h0 : c ≥ 0
          · rw [if_pos h0, Option.bind_some] at h1
            by_cases h2 : c ≤ 2147483647
            · exact ⟨h0, h2⟩
            · rw [decide_eq_false h2, if_neg (by decide)] at h1
              cases h1
          · rw [if_neg h0, Option.bind_some, if_neg (by decide)] at h1
            cases h1
      have hs := itoaV_size c (by omega) (by omega)
      have s1 : ((a ++ (⟨#[61]⟩ : ByteArray)) ++ itoaV c).size = a.size + 1 + (itoaV c).size := by rw [ByteArray.size_append, ByteArray.size_append, one_lit]
      have s2 : (a ++ (⟨#[61]⟩ : ByteArray)).size = a.size + 1 := by rw [ByteArray.size_append, one_lit]
      refine ⟨true, (a ++ (⟨#[61]⟩ : ByteArray)) ++ itoaV c, hok, fun k hk => ?_, by omega, fun _ => by omega, fun h => by cases h⟩
      obtain ⟨h1, h2⟩ := hok k hk
      constructor
      · simp only [spec_AttrText.f, h1, Option.bind_some, spec_NumText_at c (by omega) (by omega) k (by omega), if_true]
        rw [if_pos (by omega), if_pos (by omega)]
      · simp only [impl_AttrText.f, h2, Option.bind_some, impl_NumText_at c (by omega) (by omega), if_true]
        rw [if_pos (by omega), if_pos (by omega)]
    | false =>
      have s2 : (a ++ (⟨#[61, 34]⟩ : ByteArray)).size = a.size + 2 := by rw [ByteArray.size_append, two_lit]
      have s3 : ((a ++ (⟨#[61, 34]⟩ : ByteArray)) ++ e).size = a.size + 2 + e.size := by rw [ByteArray.size_append, s2]
      have s4 : (((a ++ (⟨#[61, 34]⟩ : ByteArray)) ++ e) ++ (⟨#[34]⟩ : ByteArray)).size = a.size + 2 + e.size + 1 := by rw [ByteArray.size_append, s3, one_lit]
      refine ⟨true, ((a ++ (⟨#[61, 34]⟩ : ByteArray)) ++ e) ++ (⟨#[34]⟩ : ByteArray), hok, fun k hk => ?_, by omega, fun _ => by omega, fun h => by cases h⟩
      obtain ⟨h1, h2⟩ := hok k hk
      constructor
      · simp only [spec_AttrText.f, h1, Option.bind_some, if_true, Bool.false_eq_true, if_false]
        rw [if_pos (by omega), if_pos (by omega), if_pos (by omega)]
      · simp only [impl_AttrText.f, h2, Option.bind_some, if_true, Bool.false_eq_true, if_false]
        rw [if_pos (by omega), if_pos (by omega), if_pos (by omega)]

theorem findAttr_both (l : List S28) (key : ByteArray) (hl : l.length ≤ 4294967296) :
    ∃ r, Ev (fun k => spec_FindAttr.f k l key) r ∧ Ev (fun k => impl_FindAttr.f k l key) r := by
  obtain ⟨r, h⟩ := loop_two (σ := Unit) (L := fun k _ i => spec_FindAttr.l0 k l key i) (L' := fun k _ i => impl_FindAttr.l0 k key l l.length i) (n := l.length) (K := 0) (I := fun _ _ => True)
    (fun s _ => ⟨_, fun k => by
      simp only [spec_FindAttr.l0, impl_FindAttr.l0]
      rw [if_neg (not_lt_cast _), if_neg (not_lt_cast _)]
      exact ⟨rfl, rfl⟩⟩)
    (fun s i hi _ => by
      by_cases hc : l[i].f0.toList = key.toList
      · refine .inl ⟨(l[i].f0, l[i].f1, l[i].f2, l[i].f3, true), fun k hk => ?_⟩
        simp only [spec_FindAttr.l0, impl_FindAttr.l0]
        rw [if_pos (lt_cast hi), if_pos (nn_cast i), rdIA _ _ hi, if_pos hc]
        rw [if_pos (lt_cast hi), if_pos (nn_cast i), if_pos (lt_cast hi), if_pos hc]
        exact ⟨rfl, rfl⟩
      · refine .inr ⟨(), trivial, fun k hk => ?_⟩
        simp only [spec_FindAttr.l0, impl_FindAttr.l0]
        rw [if_pos (lt_cast hi), if_pos (nn_cast i), rdIA _ _ hi, if_neg hc, wrap_nat1 hi (by omega)]
        rw [if_pos (lt_cast hi), if_pos (nn_cast i), if_pos (lt_cast hi), if_neg hc]
        exact ⟨rfl, rfl⟩) l.length () 0 (by omega) trivial
  exact ⟨r, ev_at (0 + l.length) fun k hk => (h k hk).1, ev_at (0 + l.length) fun k hk => (h k hk).2⟩

theorem findAttr_key (key : ByteArray) (l : List S28) (n : Int) : ∀ (k : Nat) (i : Int) (r : ByteArray × Bool × Int × ByteArray × Bool), impl_FindAttr.l0 k key l n i = some r → r.2.2.2.2 = true → r.1.toList = key.toList := by
  intro k
  induction k with
  | zero =>
    intro i r h
    simp [impl_FindAttr.l0] at h
  | succ k ih =>
    intro i r h hr
    simp only [impl_FindAttr.l0] at h
    by_cases h1 : i < n
    · rw [if_pos h1] at h
      by_cases h2 : 0 ≤ i
      · rw [if_pos h2] at h
        by_cases h3 : i < (l.length : Int)
        · rw [if_pos h3] at h
          by_cases h4 : (rd_T28 l i).f0.toList = key.toList
          · rw [if_pos h4] at h
            obtain rfl := Option.some.inj h
            exact h4
          · rw [if_neg h4] at h
            exact ih _ _ h hr
        · rw [if_neg h3] at h
          cases h
      · rw [if_neg h2] at h
        cases h
    · rw [if_neg h1] at h
      obtain rfl := Option.some.inj h
      cases hr

def attrSizeV (a : ByteArray) (b : Bool) (e : ByteArray) : Int := if b then (a.size : Int) + 4 else (a.size : Int) + (e.size : Int)
theorem spec_AttrSize_eq (a : ByteArray) (b : Bool) (c : Int) (e : ByteArray) (ha : a.size ≤ 1048576) (he : e.size ≤ 1048576) : spec_AttrSize.f a b c e = some (attrSizeV a b e) := by
  unfold spec_AttrSize.f attrSizeV
  rw [wrap_of (by omega) (by omega), wrap_of (by omega) (by omega)]
  cases b <;> rfl
theorem impl_AttrSize_eq (a : ByteArray) (b : Bool) (c : Int) (e : ByteArray) (ha : a.size ≤ 1048576) (he : e.size ≤ 1048576) : impl_AttrSize.f a b c e = some (attrSizeV a b e) := by
  unfold impl_AttrSize.f attrSizeV
  rw [wrap_of (by omega) (by omega), wrap_of (by omega) (by omega)]
  cases b <;> rfl
theorem attrSizeV_range (a : ByteArray) (b : Bool) (e : ByteArray) (ha : a.size ≤ 1048576) (he : e.size ≤ 1048576) : 0 ≤ attrSizeV a b e ∧ attrSizeV a b e ≤ 2097152 := by
  unfold attrSizeV
  split <;> omega

theorem FnAttrs : ∀ (l0 : (List Int)), ((l0.length ≤ maxLen ∧ ∀ y5 ∈ l0, (Lit.int .u8 y5).wf = true)) → ∃ k, laws_FnAttrs.f k l0 = some true := by
  intro l hg
  by_cases hb : (l.length : Int) > 1048576
  · refine ⟨0, ?_⟩
    simp [laws_FnAttrs.f, laws_big.f, hb]
  have hl : l.length ≤ 140737488351232 := by omega
  obtain ⟨h, K, hK⟩ := l1New_ex l hl
  simp only at hK
  have H0 := rdOk_0 l hl
  obtain ⟨a, b, c, d, j1, h1, e1, ha, hd, _⟩ := g2Attr l 0 h H0
  obtain ⟨m, j2, h2, e2, hm, hgm, H2⟩ := g2Any l 0 h H0
  obtain ⟨key, j3, h3, e3, hk3, _⟩ := g1AnyName l j2 h2 H2
  obtain ⟨ok, r, hok, hr, _, hr1, hr2⟩ := attrText_both a b c d (by omega) (by omega)
  obtain ⟨q, ⟨K1, q1⟩, ⟨K2, q2⟩⟩ := attrsOk_both m (by omega) (fun x hx => ⟨by have := (hgm x hx).1; omega, by have := (hgm x hx).2; omega⟩)
  obtain ⟨f, ⟨K3, f1⟩, ⟨K4, f2⟩⟩ := findAttr_both m key (by omega)
  simp only at q1 q2 f1 f2
  obtain ⟨k, hk⟩ : ∃ k, k = K + K1 + K2 + K3 + K4 + 1048600 := ⟨_, rfl⟩
  have fk : f.2.2.2.2 = true → f.1.toList = key.toList := by
    have := f2 k (by omega)
    unfold impl_FindAttr.f at this
    exact findAttr_key key m _ k _ f this
  obtain ⟨x0, x1, x2, x3, x4⟩ := f
  have s1 := spec_AttrSize_eq a b c d (by omega) (by omega)
  have s2 := impl_AttrSize_eq a b c d (by omega) (by omega)
  have s3 : (a.size : Int) ≤ attrSizeV a b d := by unfold attrSizeV; split <;> omega
  have tl : (r.toList != ([] : List UInt8)) = ok := by
    cases ok with
    | true => simpa using pos_ne (hr1 rfl)
    | false => rw [hr2 rfl, ByteArray.toList_eq]; rfl
  refine ⟨k + 1, ?_⟩
  have hj : ∀ n, 1048576 < n → laws_FnAttrs.j0 (n + 1) key x4 false a b c d x0 x1 x2 x3 = some true := by
    intro n hn
    simp only [laws_FnAttrs.j0, (hr n hn).2, (hok n hn).2, s2, Option.bind_some, tl]
    rw [if_neg (by decide), if_pos (by simp)]
    cases x4 with
    | true => rw [if_pos rfl, if_pos (fk rfl), decide_eq_true s3]
    | false => rw [if_neg (by decide), decide_eq_true s3]
  simp only [laws_FnAttrs.f, laws_big.f, Option.bind_some, spec_DrawAttrOk.f, spec_DrawAttrsOk.f, spec_DrawFindAttr.f, hK (k + 1) (by omega), e1, e2 (k + 1) (by omega), e3, f1 (k + 1) (by omega), f2 (k + 1) (by omega),
    (hok (k + 1) (by omega)).1, (hok (k + 1) (by omega)).2, q1 (k + 1) (by omega), q2 (k + 1) (by omega), s1, s2, (hr (k + 1) (by omega)).1, (hr (k + 1) (by omega)).2]
  rw [if_neg (by rw [decide_eq_false hb]; decide), if_neg (by simp), if_neg (by simp), if_neg (by simp), if_neg (by simp), if_pos trivial]
  have e : (r.toList != r.toList) = false := by simp
  rw [e]
  exact hj k (by omega)

end Go.Proofs.YtkhbhdchakbmhaaDoor.Pure
