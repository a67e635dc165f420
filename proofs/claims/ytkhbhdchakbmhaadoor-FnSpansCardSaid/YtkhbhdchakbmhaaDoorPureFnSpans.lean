/- Of drawn things, bent or not, which may be, and how large, is as the document has it; sizes add up. Conditions: none beyond the statement's own. -/
import Derived.Test.YtkhbhdchakbmhaaDoorQFnSpansx
set_option linter.unusedVariables false
set_option linter.unusedSimpArgs false
namespace Go.Proofs.YtkhbhdchakbmhaaDoor.Pure
open Go.RowKit Go.Proofs.YtkhbhdchakbmhaaDoor.QFnSpans Go.Proofs.YtkhbhdchakbmhaaDoorW.PrintWords Go.Proofs.YtkhbhdchakbmhaaDoorW.PrintLast Go.Proofs.YtkhbhdchakbmhaaDoorW.PrintMore


/-- A loop over an index: from a state that is good, with enough rounds, it comes to an end that meets what is told of it. -/
theorem loop_ex {σ β : Type} {L : Nat → σ → Int → Option β} {n K : Nat} {I : σ → Nat → Prop} {Post : σ → Nat → β → Prop}
    (hend : ∀ s, I s n → ∃ r, Post s n r ∧ ∀ k, L (k + 1) s (n : Int) = some r)
    (hstep : ∀ s (i : Nat), i < n → I s i → (∃ r, Post s i r ∧ ∀ k, K ≤ k → L (k + 1) s (i : Int) = some r) ∨
      ∃ s', I s' (i + 1) ∧ (∀ k, K ≤ k → L (k + 1) s (i : Int) = L k s' ((i : Int) + 1)) ∧ ∀ r, Post s' (i + 1) r → Post s i r) :
    ∀ (d : Nat) s (i : Nat), i + d = n → I s i → ∃ r, Post s i r ∧ ∀ k, K + d < k → L k s (i : Int) = some r := by
  intro d
  induction d with
  | zero =>
    intro s i hd hI
    obtain rfl : i = n := by omega
    obtain ⟨r, hp, hr⟩ := hend s hI
    refine ⟨r, hp, fun k hk => ?_⟩
    obtain ⟨k, rfl⟩ : ∃ m, k = m + 1 := ⟨k - 1, by omega⟩
    exact hr k
  | succ d ih =>
    intro s i hd hI
    rcases hstep s i (by omega) hI with ⟨r, hp, hr⟩ | ⟨s', hI', he, hp⟩
    · refine ⟨r, hp, fun k hk => ?_⟩
      obtain ⟨k, rfl⟩ : ∃ m, k = m + 1 := ⟨k - 1, by omega⟩
      exact hr k (by omega)
    · obtain ⟨r, hq, hr⟩ := ih s' (i + 1) (by omega) hI'
      refine ⟨r, hp r hq, fun k hk => ?_⟩
      obtain ⟨k, rfl⟩ : ∃ m, k = m + 1 := ⟨k - 1, by omega⟩
      rw [he k (by omega)]
      have := hr k (by omega)
      rw [Int.natCast_add] at this
      exact this
theorem ev_at {α : Type} {g : Nat → Option α} {r : α} (K : Nat) (h : ∀ k, K < k → g k = some r) : Ev g r := ⟨K + 1, fun k hk => h k (by omega)⟩
theorem wrap_of {x : Int} (h0 : -9223372036854775808 ≤ x) (h1 : x ≤ 9223372036854775807) : wrap64 x = x := by
  unfold wrap64
  omega
theorem wrap_nat1 {i n : Nat} (h : i < n) (hn : n ≤ 9223372036854775807) : wrap64 ((i : Int) + 1) = (i : Int) + 1 := wrap_of (by omega) (by omega)
theorem lt_cast {i n : Nat} (h : i < n) : (i : Int) < (n : Int) := by omega
theorem nn_cast (i : Nat) : 0 ≤ (i : Int) := by omega
theorem not_lt_cast (n : Nat) : ¬ (n : Int) < (n : Int) := by omega
/-- What is written cell by cell. -/
theorem fill_set {α : Type} (l : List α) (z : α) (i : Nat) (h : i < l.length) : (l.take i ++ List.replicate (l.length - i) z).set i l[i] = l.take (i + 1) ++ List.replicate (l.length - (i + 1)) z := by
  have e1 : l.length - i = (l.length - (i + 1)) + 1 := by omega
  have e2 : (l.take i).length = i := by rw [List.length_take]; omega
  rw [e1, List.replicate_succ, List.set_append_right _ _ (by omega), e2, Nat.sub_self, List.set_cons_zero, List.take_succ_eq_append_getElem h, List.append_assoc]
  rfl
theorem fill_len {α : Type} (l : List α) (z : α) (i : Nat) (h : i ≤ l.length) : (l.take i ++ List.replicate (l.length - i) z).length = l.length := by
  rw [List.length_append, List.length_take, List.length_replicate]
  omega

theorem band_range (x : Int) (m : Nat) (hm : m < 9223372036854775808) : 0 ≤ Go.bits .and .i64 x (m : Int) ∧ Go.bits .and .i64 x (m : Int) ≤ m := by
  have e1 : (BitVec.ofInt 64 (m : Int)).toNat = m := by
    rw [BitVec.ofInt_natCast, BitVec.toNat_ofNat]
    exact Nat.mod_eq_of_lt (by omega)
  have e2 : Go.bits .and .i64 x (m : Int) = IntKind.i64.wrap ((BitVec.ofInt 64 x &&& BitVec.ofInt 64 (m : Int)).toNat : Int) := rfl
  have h : (BitVec.ofInt 64 x).toNat &&& m ≤ m := Nat.and_le_right
  rw [e2, BitVec.toNat_and, e1, IntKind.wrap_i64]
  omega
/-- A reader's place is in what it reads. -/
def RdOk (s : List Int) (i : Int) : Prop := 0 ≤ i ∧ i ≤ s.length ∧ s.length ≤ 140737488351232
theorem l1Byte_ex (s : List Int) (i h : Int) (H : RdOk s i) : ∃ b j h', spec_l1Byte.f s i h = some (b, j, h') ∧ 0 ≤ b ∧ b ≤ 255 ∧ RdOk s j := by
  obtain ⟨h0, h1, h2⟩ := H
  unfold spec_l1Byte.f
  by_cases hc : i < (s.length : Int)
  · rw [if_pos hc, if_pos h0]
    refine ⟨_, _, _, rfl, (band_range _ 255 (by omega)).1, (band_range _ 255 (by omega)).2, ?_⟩
    rw [wrap_of (by omega) (by omega)]
    exact ⟨by omega, by omega, h2⟩
  · rw [if_neg hc]
    exact ⟨_, _, _, rfl, (band_range _ 255 (by omega)).1, (band_range _ 255 (by omega)).2, h0, h1, h2⟩
theorem l1Below_ex (s : List Int) (i h n : Int) (H : RdOk s i) : ∃ v j h', spec_l1Below.f s i h n = some (v, j, h') ∧ 0 ≤ v ∧ (0 < n → v < n) ∧ (n ≤ 0 → v = 0) ∧ RdOk s j := by
  unfold spec_l1Below.f
  by_cases h1 : n ≤ 0
  · rw [if_pos h1]
    exact ⟨0, i, h, rfl, by omega, fun _ => by omega, fun _ => rfl, H⟩
  · rw [if_neg h1]
    by_cases h2 : n ≤ 256
    · rw [if_pos h2]
      obtain ⟨b, j, h', e, b0, b1, H1⟩ := l1Byte_ex s i h H
      rw [e, Option.bind_some, if_neg (by omega), Int.tmod_eq_emod_of_nonneg b0]
      exact ⟨_, _, _, rfl, Int.emod_nonneg _ (by omega), fun _ => Int.emod_lt_of_pos _ (by omega), fun _ => by omega, H1⟩
    · rw [if_neg h2]
      obtain ⟨b, j, h', e, b0, b1, H1⟩ := l1Byte_ex s i h H
      obtain ⟨b', j', h'', e', b0', b1', H2⟩ := l1Byte_ex s j h' H1
      obtain ⟨b'', j'', h3, e'', b0'', b1'', H3⟩ := l1Byte_ex s j' h'' H2
      simp only [e, e', e'', Option.bind_some]
      have w1 : wrap64 (b * 65536) = b * 65536 := wrap_of (by omega) (by omega)
      have w2 : wrap64 (b' * 256) = b' * 256 := wrap_of (by omega) (by omega)
      have w3 : wrap64 (b * 65536 + b' * 256) = b * 65536 + b' * 256 := wrap_of (by omega) (by omega)
      have w4 : wrap64 (b * 65536 + b' * 256 + b'') = b * 65536 + b' * 256 + b'' := wrap_of (by omega) (by omega)
      rw [if_neg (by omega), w1, w2, w3, w4, Int.tmod_eq_emod_of_nonneg (by omega)]
      exact ⟨_, _, _, rfl, Int.emod_nonneg _ (by omega), fun _ => Int.emod_lt_of_pos _ (by omega), fun _ => by omega, H3⟩
theorem l1New_ex (l : List Int) (hl : l.length ≤ 140737488351232) : ∃ h, Ev (fun k => spec_l1New.f k l) (l, 0, h) := by
  obtain ⟨r, ⟨h, rfl⟩, hr⟩ := loop_ex (σ := Int) (L := fun k s i => spec_l1New.l0 k l s i) (n := l.length) (K := 0)
    (I := fun _ _ => True) (Post := fun _ _ r => ∃ h, r = (l, 0, h))
    (fun s _ => ⟨_, ⟨s, rfl⟩, fun k => by
      simp only [spec_l1New.l0]
      rw [if_neg (not_lt_cast _)]⟩)
    (fun s i hi _ => by
      by_cases h4 : (i : Int) < 4000
      · refine .inr ⟨Go.bits .and .i64 (wrap64 ((wrap64 ((wrap64 (s * 137)) + (wrap64 (rd l (i : Int))))) + 11)) 1073741823, trivial, fun k _ => ?_, fun _ h => h⟩
        simp only [spec_l1New.l0]
        rw [if_pos (lt_cast hi), if_pos h4, if_pos (nn_cast i), wrap_nat1 hi (by omega)]
      · refine .inl ⟨_, ⟨s, rfl⟩, fun k _ => ?_⟩
        simp only [spec_l1New.l0]
        rw [if_pos (lt_cast hi), if_neg h4]) l.length (wrap64 (140371 + (l.length : Int))) 0 (by omega) trivial
  exact ⟨h, ev_at (0 + l.length) fun k hk => hr k hk⟩
theorem rdOk_0 (l : List Int) (hl : l.length ≤ 140737488351232) : RdOk l 0 := ⟨by omega, by omega, hl⟩

theorem l1Once_ex (s : List Int) (i h n : Int) (H : RdOk s i) : ∃ b j h', spec_l1Once.f s i h n = some (b, j, h') ∧ RdOk s j := by
  obtain ⟨v, j, h', e, _, _, _, H1⟩ := l1Below_ex s i h n H
  exact ⟨v == 0, j, h', by simp only [spec_l1Once.f, e, Option.bind_some], H1⟩

theorem rd_nat (l : List Int) (i : Nat) (h : i < l.length) : rd l (i : Int) = l[i] := by
  simp [rd, List.getD_eq_getElem?_getD, h]

theorem l1Int_ex (s : List Int) (i h : Int) (l : List Int) (hl : 0 < l.length) (H : RdOk s i) : ∃ v j h', spec_l1Int.f s i h l = some (v, j, h') ∧ v ∈ l ∧ RdOk s j := by
  obtain ⟨v, j, h', e, v0, v1, _, H1⟩ := l1Below_ex s i h (l.length : Int) H
  have hv : v < (l.length : Int) := v1 (by omega)
  obtain ⟨m, rfl⟩ : ∃ m : Nat, v = m := ⟨v.toNat, by omega⟩
  have hm : m < l.length := by omega
  refine ⟨l[m], j, h', ?_, List.getElem_mem hm, H1⟩
  simp only [spec_l1Int.f, e, Option.bind_some]
  rw [if_pos v0, if_pos hv, rd_nat _ _ hm]

theorem l1Odd_ex (s : List Int) (i h : Int) (H : RdOk s i) : ∃ v j h', spec_l1Odd.f s i h = some (v, j, h') ∧ RdOk s j ∧ -9223372036854775808 ≤ v ∧ v ≤ 9223372036854775807 := by
  obtain ⟨v, j, h', e, hv, H1⟩ := l1Int_ex s i h [(-1), 0, 1, 2, 255, 256, 65535, 2147483647, 2147483648, 4294967295, 4294967296, (-2147483648), 9223372036854775807, (-9223372036854775808)] (by decide) H
  refine ⟨v, j, h', by simp only [spec_l1Odd.f, e, Option.bind_some], H1, ?_⟩
  simp only [List.mem_cons, List.not_mem_nil, or_false] at hv
  omega
theorem l1Raw_ex (s : List Int) (i h : Int) (H : RdOk s i) : ∃ v j h', spec_l1Raw.f s i h = some (v, j, h') ∧ RdOk s j ∧ -9223372036854775808 ≤ v ∧ v ≤ 9223372036854775807 := by
  obtain ⟨b, j, h', e, H1⟩ := l1Once_ex s i h 2 H
  cases b with
  | true =>
    obtain ⟨v, j2, h2, e2, H2, hv⟩ := l1Odd_ex s j h' H1
    exact ⟨v, j2, h2, by simp only [spec_l1Raw.f, e, e2, Option.bind_some, if_true], H2, hv⟩
  | false =>
    obtain ⟨v, j2, h2, e2, hv, H2⟩ := l1Int_ex s j h' [(-2147483648), (-3), (-1), 0, 1, 3, 7, 65536, 2147483647, 2147483648] (by decide) H1
    refine ⟨v, j2, h2, by simp only [spec_l1Raw.f, e, e2, Option.bind_some, Bool.false_eq_true, if_false], H2, ?_⟩
    simp only [List.mem_cons, List.not_mem_nil, or_false] at hv
    omega

theorem l1Str_ex (s : List Int) (i h : Int) (l : List ByteArray) (hl : 0 < l.length) (H : RdOk s i) : ∃ v j h', spec_l1Str.f s i h l = some (v, j, h') ∧ v ∈ l ∧ RdOk s j := by
  obtain ⟨v, j, h', e, v0, v1, _, H1⟩ := l1Below_ex s i h (l.length : Int) H
  have hv : v < (l.length : Int) := v1 (by omega)
  obtain ⟨m, rfl⟩ : ∃ m : Nat, v = m := ⟨v.toNat, by omega⟩
  have hm : m < l.length := by omega
  refine ⟨l[m], j, h', ?_, List.getElem_mem hm, H1⟩
  simp only [spec_l1Str.f, e, Option.bind_some]
  rw [if_pos v0, if_pos hv]
  simp [rdOf, List.getD_eq_getElem?_getD, hm]

theorem s_of {l : List ByteArray} {v : ByteArray} (h : v ∈ l) (hl : (l.all fun s => decide (s.size ≤ 100)) = true) : v.size ≤ 100 := by
  have := List.all_eq_true.1 hl v h
  simpa using this
theorem g1Names (s : List Int) (i h : Int) (H : RdOk s i) : ∃ v j h', spec_l1Names.f s i h = some (v, j, h') ∧ v.size ≤ 100 ∧ RdOk s j := by
  obtain ⟨v, j, h', e, hv, H1⟩ := l1Str_ex s i h [(⟨#[107]⟩ : ByteArray), (⟨#[112, 97, 116, 104]⟩ : ByteArray), (⟨#[99, 111, 100, 101]⟩ : ByteArray), (⟨#[117, 115, 101, 114]⟩ : ByteArray)] (by decide) H
  exact ⟨v, j, h', by simp only [spec_l1Names.f, e, Option.bind_some], s_of hv (by decide), H1⟩
theorem g1AnyName (s : List Int) (i h : Int) (H : RdOk s i) : ∃ v j h', spec_l1AnyName.f s i h = some (v, j, h') ∧ v.size ≤ 100 ∧ RdOk s j := by
  obtain ⟨o, j, h', e, H1⟩ := l1Once_ex s i h 2 H
  cases o with
  | true =>
    obtain ⟨v, j2, h2, e2, hv, H2⟩ := g1Names s j h' H1
    exact ⟨v, j2, h2, by simp only [spec_l1AnyName.f, e, e2, Option.bind_some, if_true], hv, H2⟩
  | false =>
    obtain ⟨v, j2, h2, e2, hv, H2⟩ := l1Str_ex s j h' [(⟨#[]⟩ : ByteArray), (⟨#[75]⟩ : ByteArray), (⟨#[110, 105, 110, 101, 99, 104, 97, 114, 115]⟩ : ByteArray), (⟨#[101, 105, 103, 104, 116, 97, 98, 99]⟩ : ByteArray), (⟨#[97, 32, 98]⟩ : ByteArray), (⟨#[97, 49]⟩ : ByteArray), (⟨#[102, 97, 105, 108, 101, 100]⟩ : ByteArray), (⟨#[102, 97, 105, 108, 101, 100, 120]⟩ : ByteArray)] (by decide) H1
    exact ⟨v, j2, h2, by simp only [spec_l1AnyName.f, e, e2, Option.bind_some, Bool.false_eq_true, if_false], s_of hv (by decide), H2⟩
theorem g1Plain (s : List Int) (i h : Int) (H : RdOk s i) : ∃ v j h', spec_l1Plain.f s i h = some (v, j, h') ∧ v.size ≤ 100 ∧ RdOk s j := by
  obtain ⟨o, j, h', e, H1⟩ := l1Once_ex s i h 6 H
  cases o with
  | true =>
    obtain ⟨v, j2, h2, e2, hv, H2⟩ := l1Str_ex s j h' [(⟨#[]⟩ : ByteArray), (⟨#[34]⟩ : ByteArray), (⟨#[127]⟩ : ByteArray), (⟨#[31]⟩ : ByteArray), (⟨#[116, 119, 101, 110, 116, 121, 32, 98, 121, 116, 101, 115, 32, 97, 114, 101, 32, 104, 101, 114, 101]⟩ : ByteArray), (⟨#[116, 119, 101, 110, 116, 121, 98, 121, 116, 101, 115, 97, 114, 101, 104, 101, 114, 101, 50, 48]⟩ : ByteArray), (⟨#[126, 32]⟩ : ByteArray)] (by decide) H1
    exact ⟨v, j2, h2, by simp only [spec_l1Plain.f, e, e2, Option.bind_some, if_true], s_of hv (by decide), H2⟩
  | false =>
    obtain ⟨v, j2, h2, e2, hv, H2⟩ := l1Str_ex s j h' [(⟨#[97]⟩ : ByteArray), (⟨#[98]⟩ : ByteArray), (⟨#[111, 107]⟩ : ByteArray), (⟨#[120, 32, 121]⟩ : ByteArray)] (by decide) H1
    exact ⟨v, j2, h2, by simp only [spec_l1Plain.f, e, e2, Option.bind_some, Bool.false_eq_true, if_false], s_of hv (by decide), H2⟩

/-- What is drawn is small. -/
def gA (x : S28) : Prop := x.f0.size ≤ 100 ∧ x.f3.size ≤ 100
theorem g2One (s : List Int) (i h : Int) (a : ByteArray) (ha : a.size ≤ 100) (H : RdOk s i) : ∃ x b c d j h', spec_l2One.f s i h a = some (x, b, c, d, j, h') ∧ gA ⟨x, b, c, d⟩ ∧ RdOk s j := by
  obtain ⟨o, j, h', e, H1⟩ := l1Once_ex s i h 2 H
  cases o with
  | true =>
    obtain ⟨v, j2, h2, e2, _, H2⟩ := l1Int_ex s j h' [0, 1, 5, 200, 500] (by decide) H1
    exact ⟨a, true, v, ⟨#[]⟩, j2, h2, by simp only [spec_l2One.f, e, e2, Option.bind_some, if_true], ⟨ha, by show (⟨#[]⟩ : ByteArray).size ≤ 100; decide⟩, H2⟩
  | false =>
    obtain ⟨v, j2, h2, e2, hv, H2⟩ := l1Str_ex s j h' [(⟨#[97]⟩ : ByteArray), (⟨#[98]⟩ : ByteArray), (⟨#[111, 107]⟩ : ByteArray), (⟨#[]⟩ : ByteArray)] (by decide) H1
    exact ⟨a, false, 0, v, j2, h2, by simp only [spec_l2One.f, e, e2, Option.bind_some, Bool.false_eq_true, if_false], ⟨ha, s_of hv (by decide)⟩, H2⟩
theorem g2Draw (s : List Int) (i h : Int) (H : RdOk s i) : ∃ l j h', (∀ k, 5 < k → spec_l2Draw.f k s i h = some (l, j, h')) ∧ l.length ≤ 5 ∧ (∀ x ∈ l, gA x) ∧ RdOk s j := by
  obtain ⟨ys, hys⟩ : ∃ ys : List ByteArray, ys = [(⟨#[99, 111, 100, 101]⟩ : ByteArray), (⟨#[102, 97, 105, 108, 101, 100]⟩ : ByteArray), (⟨#[107]⟩ : ByteArray), (⟨#[112, 97, 116, 104]⟩ : ByteArray), (⟨#[117, 115, 101, 114]⟩ : ByteArray)] := ⟨_, rfl⟩
  have hn : ys.length = 5 := by rw [hys]; rfl
  have hg : ∀ y ∈ ys, y.size ≤ 100 := fun y hy => s_of hy (by rw [hys]; decide)
  obtain ⟨⟨l, j, h'⟩, ⟨hl, hgl, hj⟩, hr⟩ := loop_ex (σ := List S28 × Int × Int) (L := fun k x i => spec_l2Draw.l0 k x.1 ys ys.length i s x.2.1 x.2.2) (n := ys.length) (K := 0)
    (I := fun x i => x.1.length ≤ i ∧ (∀ y ∈ x.1, gA y) ∧ RdOk s x.2.1) (Post := fun _ _ r => r.1.length ≤ 5 ∧ (∀ y ∈ r.1, gA y) ∧ RdOk s r.2.1)
    (fun x hI => ⟨x, ⟨by omega, hI.2⟩, fun k => by
      simp only [spec_l2Draw.l0]
      rw [if_neg (not_lt_cast _)]⟩)
    (fun x i hi hI => by
      obtain ⟨o, j, h', e, H1⟩ := l1Once_ex s x.2.1 x.2.2 4 hI.2.2
      cases o with
      | true =>
        have hy : (rdOf ByteArray.empty ys (i : Int)).size ≤ 100 := by
          have e3 : rdOf ByteArray.empty ys (i : Int) = ys[i] := by simp [rdOf, List.getD_eq_getElem?_getD, hi]
          rw [e3]
          exact hg _ (List.getElem_mem hi)
        obtain ⟨a, b, c, d, j2, h2, e2, hq, H2⟩ := g2One s j h' (rdOf ByteArray.empty ys (i : Int)) hy H1
        refine .inr ⟨(x.1 ++ [(⟨a, b, c, d⟩ : S28)], j2, h2), ⟨by simp; omega, fun y hy => ?_, H2⟩, fun k _ => ?_, fun _ h => h⟩
        · rcases List.mem_append.1 hy with hy | hy
          · exact hI.2.1 y hy
          · rw [List.mem_singleton.1 hy]
            exact hq
        · simp only [spec_l2Draw.l0]
          rw [if_pos (lt_cast hi), if_pos (nn_cast i), if_pos (lt_cast hi), e, Option.bind_some, if_pos rfl, e2, Option.bind_some, if_pos (by omega), wrap_nat1 hi (by omega)]
      | false =>
        refine .inr ⟨(x.1, j, h'), ⟨by simp only; omega, hI.2.1, H1⟩, fun k _ => ?_, fun _ h => h⟩
        simp only [spec_l2Draw.l0]
        rw [if_pos (lt_cast hi), if_pos (nn_cast i), if_pos (lt_cast hi), e, Option.bind_some, if_neg (by simp), wrap_nat1 hi (by omega)]) ys.length ([], i, h) 0 (by omega) ⟨by simp, fun y hy => (nomatch hy), H⟩
  refine ⟨l, j, h', fun k hk => ?_, hl, hgl, hj⟩
  have := hr k (by omega)
  simp only [spec_l2Draw.f, Option.bind_some]
  rw [← hys]
  exact this
theorem g_snoc {l : List S28} {m : List S28} (h : ∀ x ∈ l, gA x) (k : ∀ x ∈ m, gA x) : ∀ x ∈ l ++ m, gA x := by
  intro x hx
  rcases List.mem_append.1 hx with hx | hx
  · exact h x hx
  · exact k x hx
theorem g_one {a : ByteArray} {b : Bool} {c : Int} {d : ByteArray} (h : a.size ≤ 100) (k : d.size ≤ 100) : ∀ x ∈ [(⟨a, b, c, d⟩ : S28)], gA x := by
  intro x hx
  rw [List.mem_singleton.1 hx]
  exact ⟨h, k⟩

theorem g2Any (s : List Int) (i h : Int) (H : RdOk s i) : ∃ l j h', (∀ k, 5 < k → spec_l2Any.f k s i h = some (l, j, h')) ∧ l.length ≤ 9 ∧ (∀ x ∈ l, gA x) ∧ RdOk s j := by
  obtain ⟨l, j1, h1, e1, hl, hg, H1⟩ := g2Draw s i h H
  obtain ⟨v, j2, h2, e2, _, _, _, H2⟩ := l1Below_ex s j1 h1 8 H1
  by_cases c0 : v = 0
  · obtain ⟨n, j3, h3, e3, hn, H3⟩ := g1AnyName s j2 h2 H2
    obtain ⟨o, j4, h4, e4, H4⟩ := l1Once_ex s j3 h3 2 H3
    obtain ⟨r, j5, h5, e5, H5, _⟩ := l1Raw_ex s j4 h4 H4
    obtain ⟨p, j6, h6, e6, hp, H6⟩ := g1Plain s j5 h5 H5
    refine ⟨l ++ [(⟨n, o, r, p⟩ : S28)], j6, h6, fun k hk => ?_, by simp; omega, g_snoc hg (g_one hn hp), H6⟩
    simp only [spec_l2Any.f, e1 k hk, e2, e3, e4, e5, e6, Option.bind_some]
    rw [if_pos c0, if_pos (by omega)]
  by_cases c1 : v = 1
  · obtain ⟨n, j3, h3, e3, hn, H3⟩ := l1Str_ex s j2 h2 [(⟨#[97]⟩ : ByteArray), (⟨#[122, 111, 111]⟩ : ByteArray)] (by decide) H2
    obtain ⟨a, b, c, d, j4, h4, e4, q4, H4⟩ := g2One s j3 h3 n (s_of hn (by decide)) H3
    refine ⟨l ++ [(⟨a, b, c, d⟩ : S28)], j4, h4, fun k hk => ?_, by simp; omega, g_snoc hg (g_one q4.1 q4.2), H4⟩
    simp only [spec_l2Any.f, e1 k hk, e2, e3, e4, Option.bind_some]
    rw [if_neg c0, if_pos c1, if_pos (by omega)]
  by_cases c2 : v = 2
  · obtain ⟨a, b, c, d, j3, h3, e3, q3, H3⟩ := g2One s j2 h2 ⟨#[118]⟩ (by decide) H2
    obtain ⟨a', b', c', d', j4, h4, e4, q4, H4⟩ := g2One s j3 h3 ⟨#[119]⟩ (by decide) H3
    obtain ⟨a2, b2, c2', d2, j5, h5, e5, q5, H5⟩ := g2One s j4 h4 ⟨#[120]⟩ (by decide) H4
    obtain ⟨a3, b3, c3, d3, j6, h6, e6, q6, H6⟩ := g2One s j5 h5 ⟨#[121]⟩ (by decide) H5
    refine ⟨l ++ [(⟨a, b, c, d⟩ : S28), ⟨a', b', c', d'⟩, ⟨a2, b2, c2', d2⟩, ⟨a3, b3, c3, d3⟩], j6, h6, fun k hk => ?_, by simp; omega, g_snoc hg ?_, H6⟩
    · simp only [spec_l2Any.f, e1 k hk, e2, e3, e4, e5, e6, Option.bind_some]
      rw [if_neg c0, if_neg c1, if_pos c2, if_pos (by simp; omega)]
    · intro x hx
      simp only [List.mem_cons, List.not_mem_nil, or_false] at hx
      rcases hx with rfl | rfl | rfl | rfl
      · exact q3
      · exact q4
      · exact q5
      · exact q6
  · refine ⟨l, j2, h2, fun k hk => ?_, by omega, hg, H2⟩
    simp only [spec_l2Any.f, e1 k hk, e2, Option.bind_some]
    rw [if_neg c0, if_neg c1, if_neg c2]

/-- What is drawn of a thing is small. -/
def i64 (x : Int) : Prop := -9223372036854775808 ≤ x ∧ x ≤ 9223372036854775807
def gS (x : S38) : Prop := (i64 x.f0 ∧ i64 x.f1 ∧ i64 x.f2 ∧ i64 x.f3) ∧ x.f5.length ≤ 9 ∧ ∀ y ∈ x.f5, gA y
theorem w_i64 (x : Int) : i64 (wrap64 x) := by unfold i64 wrap64; omega
theorem l1Int_i (s : List Int) (i h : Int) (l : List Int) (hl : 0 < l.length) (hg : (l.all fun x => decide (-9223372036854775808 ≤ x) && decide (x ≤ 9223372036854775807)) = true) (H : RdOk s i) : ∃ v j h', spec_l1Int.f s i h l = some (v, j, h') ∧ i64 v ∧ RdOk s j := by
  obtain ⟨v, j, h', e, hv, H1⟩ := l1Int_ex s i h l hl H
  have := List.all_eq_true.1 hg v hv
  exact ⟨v, j, h', e, by unfold i64; simpa using this, H1⟩
theorem g3Draw (s : List Int) (i h : Int) (H : RdOk s i) : ∃ a b c d e l j h', (∀ k, 5 < k → spec_l3Draw.f k s i h = some (a, b, c, d, e, l, j, h')) ∧ gS ⟨a, b, c, d, e, l⟩ ∧ RdOk s j := by
  obtain ⟨v1, j1, h1, e1, _, _, _, H1⟩ := l1Below_ex s i h 5 H
  obtain ⟨v2, j2, h2, e2, _, _, _, H2⟩ := l1Below_ex s j1 h1 9 H1
  obtain ⟨v3, j3, h3, e3, p0, p1, _, H3⟩ := l1Below_ex s j2 h2 9 H2
  have p2 := p1 (by omega)
  obtain ⟨v4, j4, h4, e4, H4⟩ := l1Once_ex s j3 h3 4 H3
  obtain ⟨l, j5, h5, e5, hl, hg, H5⟩ := g2Draw s j4 h4 H4
  obtain ⟨v6, j6, h6, e6, _, H6⟩ := l1Int_ex s j5 h5 [0, 1, 5, 20] (by decide) H5
  refine ⟨wrap64 (1 + v1), wrap64 (1 + v2), v3, wrap64 (v3 + v6), v4, l, j6, h6, fun k hk => ?_, ⟨⟨w_i64 _, w_i64 _, ⟨by show _ ≤ v3; omega, by show v3 ≤ _; omega⟩, w_i64 _⟩, by show l.length ≤ 9; omega, hg⟩, H6⟩
  simp only [spec_l3Draw.f, e1, e2, e3, e4, e5 k hk, e6, Option.bind_some]
theorem g3List (s : List Int) (i h : Int) (H : RdOk s i) : ∃ l j h', (∀ k, 12 < k → spec_l3List.f k s i h = some (l, j, h')) ∧ l.length ≤ 8 ∧ (∀ x ∈ l, gS x) ∧ RdOk s j := by
  obtain ⟨c, j1, h1, e1, c0, c1, _, H1⟩ := l1Below_ex s i h 5 H
  have c2 := c1 (by omega)
  obtain ⟨m, rfl⟩ : ∃ m : Nat, c = m := ⟨c.toNat, by omega⟩
  have key : ∀ (m : Nat) (x : List S38) (j h : Int), RdOk s j → x.length + m ≤ 8 → (∀ y ∈ x, gS y) → ∃ l j' h', (∀ k, 6 + m < k → spec_l3List.l0 k x (m : Int) s j h = some (l, j', h')) ∧ l.length ≤ 8 ∧ (∀ x ∈ l, gS x) ∧ RdOk s j' := by
    intro m
    induction m with
    | zero =>
      intro x j h hj hx hg
      refine ⟨x, j, h, fun k hk => ?_, by omega, hg, hj⟩
      obtain ⟨k, rfl⟩ : ∃ q, k = q + 1 := ⟨k - 1, by omega⟩
      simp only [spec_l3List.l0]
      rw [if_neg (by omega)]
    | succ m ih =>
      intro x j h hj hx hg
      obtain ⟨a, b, c, d, e, l, j2, h2, e2, q2, H2⟩ := g3Draw s j h hj
      obtain ⟨l', j3, h3, e3, hl3, hg3, H3⟩ := ih (x ++ [(⟨a, b, c, d, e, l⟩ : S38)]) j2 h2 H2 (by simp; omega) (by
        intro y hy
        rcases List.mem_append.1 hy with hy | hy
        · exact hg y hy
        · rw [List.mem_singleton.1 hy]
          exact q2)
      refine ⟨l', j3, h3, fun k hk => ?_, hl3, hg3, H3⟩
      obtain ⟨k, rfl⟩ : ∃ q, k = q + 1 := ⟨k - 1, by omega⟩
      have w : wrap64 (((m + 1 : Nat) : Int) - 1) = (m : Int) := by rw [wrap_of (by omega) (by omega)]; omega
      simp only [spec_l3List.l0]
      rw [if_pos (by omega), e2 k (by omega), Option.bind_some, if_pos (by omega), w]
      exact e3 k (by omega)
  obtain ⟨l, j2, h2, e2, hl, hg, H2⟩ := key m [] j1 h1 H1 (by simp; omega) (fun y hy => (nomatch hy))
  refine ⟨l, j2, h2, fun k hk => ?_, hl, hg, H2⟩
  simp only [spec_l3List.f, e1, Option.bind_some]
  exact e2 k (by omega)
theorem g3Any (s : List Int) (i h : Int) (H : RdOk s i) : ∃ a b c d e l j h', (∀ k, 5 < k → spec_l3Any.f k s i h = some (a, b, c, d, e, l, j, h')) ∧ gS ⟨a, b, c, d, e, l⟩ ∧ RdOk s j := by
  obtain ⟨a, b, c, d, e, l, j1, h1, e1, ⟨⟨ga, gb, gc, gd⟩, hl, hg⟩, H1⟩ := g3Draw s i h H
  simp only at ga gb gc gd hl hg
  obtain ⟨v, j2, h2, e2, _, _, _, H2⟩ := l1Below_ex s j1 h1 12 H1
  by_cases c0 : v = 0
  · obtain ⟨x, j3, h3, e3, gx, H3⟩ := l1Int_i s j2 h2 [0, 999, 1000] (by decide) (by decide) H2
    refine ⟨x, b, c, d, e, l, j3, h3, fun k hk => ?_, ⟨⟨gx, gb, gc, gd⟩, hl, hg⟩, H3⟩
    simp only [spec_l3Any.f, e1 k hk, e2, e3, Option.bind_some]
    rw [if_pos c0]
  by_cases c1 : v = 1
  · obtain ⟨x, j3, h3, e3, gx, H3⟩ := l1Int_i s j2 h2 [0, 999, 1000] (by decide) (by decide) H2
    refine ⟨a, x, c, d, e, l, j3, h3, fun k hk => ?_, ⟨⟨ga, gx, gc, gd⟩, hl, hg⟩, H3⟩
    simp only [spec_l3Any.f, e1 k hk, e2, e3, Option.bind_some]
    rw [if_neg c0, if_pos c1]
  by_cases c2 : v = 2
  · obtain ⟨x, j3, h3, e3, gx, H3⟩ := l1Int_i s j2 h2 [(-1), 99999, 100000] (by decide) (by decide) H2
    refine ⟨a, b, x, d, e, l, j3, h3, fun k hk => ?_, ⟨⟨ga, gb, gx, gd⟩, hl, hg⟩, H3⟩
    simp only [spec_l3Any.f, e1 k hk, e2, e3, Option.bind_some]
    rw [if_neg c0, if_neg c1, if_pos c2]
  by_cases c3 : v = 3
  · obtain ⟨x, j3, h3, e3, H3, gx⟩ := l1Raw_ex s j2 h2 H2
    refine ⟨a, b, c, x, e, l, j3, h3, fun k hk => ?_, ⟨⟨ga, gb, gc, gx⟩, hl, hg⟩, H3⟩
    simp only [spec_l3Any.f, e1 k hk, e2, e3, Option.bind_some]
    rw [if_neg c0, if_neg c1, if_neg c2, if_pos c3]
  by_cases c4 : v = 4
  · obtain ⟨x, j3, h3, e3, hx, gx, H3⟩ := g2Any s j2 h2 H2
    refine ⟨a, b, c, d, e, x, j3, h3, fun k hk => ?_, ⟨⟨ga, gb, gc, gd⟩, hx, gx⟩, H3⟩
    simp only [spec_l3Any.f, e1 k hk, e2, e3 k hk, Option.bind_some]
    rw [if_neg c0, if_neg c1, if_neg c2, if_neg c3, if_pos c4]
  by_cases c5 : v = 5
  · obtain ⟨x, j3, h3, e3, hx, H3⟩ := l1Str_ex s j2 h2 [(⟨#[116, 119, 101, 110, 116, 121, 98, 121, 116, 101, 115, 97, 114, 101, 104, 101, 114, 101, 50, 48]⟩ : ByteArray), (⟨#[116, 119, 101, 110, 116, 121, 98, 121, 116, 101, 115, 97, 114, 101, 104, 101, 114, 101, 50]⟩ : ByteArray), (⟨#[]⟩ : ByteArray)] (by decide) H2
    refine ⟨a, b, c, d, e, [(⟨(⟨#[97, 97, 97, 97, 97, 97, 97, 97]⟩ : ByteArray), false, 0, (⟨#[116, 119, 101, 110, 116, 121, 98, 121, 116, 101, 115, 97, 114, 101, 104, 101, 114, 101, 50, 48]⟩ : ByteArray)⟩ : S28), (⟨(⟨#[98, 98, 98, 98, 98, 98, 98, 98]⟩ : ByteArray), false, 0, (⟨#[116, 119, 101, 110, 116, 121, 98, 121, 116, 101, 115, 97, 114, 101, 104, 101, 114, 101, 50, 48]⟩ : ByteArray)⟩ : S28), (⟨(⟨#[99, 99, 99, 99, 99, 99, 99, 99]⟩ : ByteArray), false, 0, x⟩ : S28)], j3, h3, fun k hk => ?_, ⟨⟨ga, gb, gc, gd⟩, by simp, ?_⟩, H3⟩
    · simp only [spec_l3Any.f, e1 k hk, e2, e3, Option.bind_some]
      rw [if_neg c0, if_neg c1, if_neg c2, if_neg c3, if_neg c4, if_pos c5]
    · intro y hy
      simp only [List.mem_cons, List.not_mem_nil, or_false] at hy
      rcases hy with rfl | rfl | rfl
      · exact ⟨by show ByteArray.size _ ≤ 100; decide, by show ByteArray.size _ ≤ 100; decide⟩
      · exact ⟨by show ByteArray.size _ ≤ 100; decide, by show ByteArray.size _ ≤ 100; decide⟩
      · exact ⟨by show ByteArray.size (⟨#[99, 99, 99, 99, 99, 99, 99, 99]⟩ : ByteArray) ≤ 100; decide, s_of hx (by decide)⟩
  · refine ⟨a, b, c, d, e, l, j2, h2, fun k hk => ?_, ⟨⟨ga, gb, gc, gd⟩, hl, hg⟩, H2⟩
    simp only [spec_l3Any.f, e1 k hk, e2, Option.bind_some]
    rw [if_neg c0, if_neg c1, if_neg c2, if_neg c3, if_neg c4, if_neg c5]

def dec (u : Nat) : ByteArray := ⟨(Lib.decDigits u).toArray⟩
theorem dec_one {u : Nat} (h : u < 10) : dec u = strOfNums [48 + (u : Int)] := by
  have e : (48 + (u : Int)).toNat = 48 + u := by omega
  unfold dec strOfNums
  rw [Lib.decDigits_one h, List.map_cons, List.map_nil, e]
theorem dec_more {u : Nat} (h : ¬ u < 10) (s : ByteArray) : dec u ++ s = dec (u / 10) ++ (strOfNums [48 + ((u % 10 : Nat) : Int)] ++ s) := by
  have e : Lib.decDigits u = Lib.decDigits (u / 10) ++ [UInt8.ofNat (48 + u % 10)] := by rw [Lib.decDigits, dif_neg h]
  have e2 : (48 + ((u % 10 : Nat) : Int)).toNat = 48 + u % 10 := by omega
  apply ByteArray.ext
  simp only [ByteArray.data_append]
  unfold dec strOfNums
  rw [e]
  simp only [List.map_cons, List.map_nil, e2]
  apply Array.ext'
  simp
theorem dec_size (u : Nat) : (dec u).size = Lib.nDigits u := by
  unfold dec
  rw [← Lib.decDigits_length]
  simp [ByteArray.size]
theorem nDigits_le (u : Nat) (h : u < 10000000000000000000) : Lib.nDigits u ≤ 19 := by
  have key : ∀ (j u : Nat), u < 10 ^ (j + 1) → Lib.nDigits u ≤ j + 1 := by
    intro j
    induction j with
    | zero => intro u h; rw [Lib.nDigits_small (by omega)]; omega
    | succ j ih =>
      intro u h
      by_cases hu : u < 10
      · rw [Lib.nDigits_small hu]; omega
      · rw [Lib.nDigits_big hu]
        have := ih (u / 10) (by rw [Nat.pow_succ] at h; omega)
        omega
  exact key 18 u (by omega)
theorem pos_ne {s : ByteArray} (h : 0 < s.size) : s.toList ≠ [] := by
  intro e
  rw [ByteArray.toList_eq] at e
  have h1 := congrArg List.length e
  rw [Array.length_toList] at h1
  have h2 : s.data.size = 0 := h1
  have h3 : s.size = s.data.size := rfl
  omega
def itoaV (n : Int) : ByteArray := ⟨(Lib.itoa n).toArray⟩
theorem empty_append (s : ByteArray) : s ++ (⟨#[]⟩ : ByteArray) = s := by
  apply ByteArray.ext
  simp [ByteArray.data_append]
theorem impl_NumText_at (n : Int) (h0 : -9223372036854775808 ≤ n) (h1 : n ≤ 9223372036854775807) : impl_NumText.f n = some (itoaV n) := by
  simp only [impl_NumText.f, strconv_Itoa.f]
  rw [if_pos h0, if_pos h1]
  rfl
theorem i64_range {x : Int} (h : (Lit.int .i64 x).wf = true) : -9223372036854775808 ≤ x ∧ x ≤ 9223372036854775807 := by
  simp [Lit.wf, IntKind.min, IntKind.max, IntKind.signed, IntKind.bits] at h
  omega

/-- What the reference's text of a number is, behind its digits. -/
def signed (n : Int) (s : ByteArray) : ByteArray := if n < 0 then (⟨#[45]⟩ : ByteArray) ++ s else s
theorem numText_loop (n : Int) : ∀ (u : Nat) (x : Int) (s : ByteArray) (k : Nat), 0 < u → u ≤ 9223372036854775808 → x = (u : Int) ∨ x = -(u : Int) → -9223372036854775808 ≤ x → x ≤ 9223372036854775807 → Lib.nDigits u + s.size ≤ 1000 → Lib.nDigits u + 1 ≤ k →
    spec_NumText.l0 k n s x = some (signed n (dec u ++ s)) := by
  intro u
  induction u using Nat.strongRecOn with
  | _ u ih =>
    intro x s k hu hb hx h0 h1 hs hk
    obtain ⟨k, rfl⟩ : ∃ q, k = q + 1 := ⟨k - 1, by omega⟩
    have hd : (if Int.tmod x 10 < 0 then wrap64 (-(Int.tmod x 10)) else Int.tmod x 10) = ((u % 10 : Nat) : Int) := by
      rcases hx with rfl | rfl
      · rw [Int.tmod_eq_emod_of_nonneg (by omega), if_neg (by omega)]
        omega
      · rw [Int.neg_tmod, Int.tmod_eq_emod_of_nonneg (by omega)]
        split
        · rw [wrap_of (by omega) (by omega)]
          omega
        · omega
    have hq : wrap64 (Int.tdiv x 10) = (((u / 10 : Nat)) : Int) ∧ x = (u : Int) ∨ wrap64 (Int.tdiv x 10) = -(((u / 10 : Nat)) : Int) ∧ x = -(u : Int) := by
      rcases hx with rfl | rfl
      · left
        rw [Int.tdiv_eq_ediv_of_nonneg (by omega), wrap_of (by omega) (by omega)]
        omega
      · right
        rw [Int.neg_tdiv, Int.tdiv_eq_ediv_of_nonneg (by omega), wrap_of (by omega) (by omega)]
        omega
    have hone : ∀ d : Int, d = ((u % 10 : Nat) : Int) → (wrap64 (48 + d)) % 256 = 48 + ((u % 10 : Nat) : Int) := by
      intro d e
      rw [e, wrap_of (by omega) (by omega)]
      omega
    have hsz : (strOfNums [48 + ((u % 10 : Nat) : Int)]).size = 1 := by rw [strOfNums_size]; rfl
    have hnd : 1 ≤ Lib.nDigits u := Lib.nDigits_pos u
    have hround : spec_NumText.l0 (k + 1) n s x = spec_NumText.l0 k n (strOfNums [48 + ((u % 10 : Nat) : Int)] ++ s) (wrap64 (Int.tdiv x 10)) := by
      simp only [spec_NumText.l0, Option.bind_some]
      rw [if_neg (by rcases hx with rfl | rfl <;> omega)]
      by_cases hneg : Int.tmod x 10 < 0
      · rw [if_pos hneg] at hd
        rw [if_pos hneg, hone _ hd, if_pos (by rw [hsz]; omega)]
      · rw [if_neg hneg] at hd
        rw [if_neg hneg, hone _ hd, if_pos (by rw [hsz]; omega)]
    rw [hround]
    by_cases h10 : u < 10
    · have hz : wrap64 (Int.tdiv x 10) = 0 := by omega
      rw [hz]
      obtain ⟨k, rfl⟩ : ∃ q, k = q + 1 := ⟨k - 1, by omega⟩
      simp only [spec_NumText.l0]
      rw [if_pos trivial]
      rw [dec_one h10]
      have e : u % 10 = u := by omega
      rw [e] at hsz ⊢
      unfold signed
      by_cases hn : n < 0
      · rw [if_pos hn, if_pos hn, if_pos (by rw [ByteArray.size_append, hsz]; omega)]
      · rw [if_neg hn, if_neg hn]
    · have hnb := Lib.nDigits_big h10
      rw [dec_more h10]
      have hsz2 : (strOfNums [48 + ((u % 10 : Nat) : Int)] ++ s).size = 1 + s.size := by rw [ByteArray.size_append, hsz]
      exact ih (u / 10) (by omega) _ _ k (by omega) (by omega) (by omega) (by omega) (by omega) (by omega) (by omega)
theorem signed_dec (n : Int) : signed n (dec n.natAbs) = itoaV n := by
  unfold signed itoaV Lib.itoa dec
  by_cases h : n < 0
  · rw [if_pos h, if_pos h]
    apply ByteArray.ext
    simp [ByteArray.data_append]
  · rw [if_neg h, if_neg h]
    have e : n.natAbs = n.toNat := by omega
    rw [e]
theorem spec_NumText_at (n : Int) (h0 : -9223372036854775808 ≤ n) (h1 : n ≤ 9223372036854775807) (k : Nat) (hk : 21 ≤ k) : spec_NumText.f k n = some (itoaV n) := by
  unfold spec_NumText.f
  by_cases hz : n = 0
  · subst hz
    rw [if_pos rfl]
    have e : Lib.itoa 0 = [48] := by
      unfold Lib.itoa
      rw [if_neg (by omega)]
      exact Lib.decDigits_one (by omega)
    unfold itoaV
    rw [e]
  · rw [if_neg hz]
    have h19 := nDigits_le n.natAbs (by omega)
    rw [numText_loop n n.natAbs n ⟨#[]⟩ k (by omega) (by omega) (by omega) h0 h1 (by have e : (⟨#[]⟩ : ByteArray).size = 0 := rfl; rw [e]; omega) (by omega), empty_append, signed_dec]

def inB (a b c : Int) : Bool := decide (b ≤ a) && decide (a ≤ c)
theorem impl_within_eq (a b c : Int) : impl_within.f a b c = some (inB a b c) := by
  unfold impl_within.f inB
  by_cases h : a ≥ b
  · rw [if_pos h]
    simp [show b ≤ a from h]
  · rw [if_neg h]
    simp [show ¬ b ≤ a from h]

theorem spec_l1In_eq (a b c : Int) : spec_l1In.f a b c = some (inB a b c) := by
  unfold spec_l1In.f inB
  by_cases h : a ≥ b
  · rw [if_pos h]
    simp [show b ≤ a from h]
  · rw [if_neg h]
    simp [show ¬ b ≤ a from h]

theorem wrap_idx {i n : Int} (h0 : 0 ≤ i) (h : i < n) (hn : n ≤ 140737488351232) : wrap64 (i + 1) = i + 1 := by
  unfold wrap64
  omega
theorem wrap_bt (s : ByteArray) (i : Int) : wrap64 (bt s i) = bt s i := by
  have := bt_range s i
  unfold wrap64
  omega

theorem name_loops (s : ByteArray) (hn : (s.size : Int) ≤ 140737488351232) (d : Nat) : ∀ (i : Int), 0 ≤ i → (s.size : Int) - i ≤ d →
    ∃ r, (∀ k, d < k → spec_NameOk.l0 k s i = some r) ∧ ∀ k, d < k → impl_NameOk.l0 k s i = some r := by
  induction d with
  | zero =>
    intro i h0 hd
    refine ⟨inB s.size 1 8, fun k hk => ?_, fun k hk => ?_⟩ <;>
    · obtain ⟨k, rfl⟩ : ∃ m, k = m + 1 := ⟨k - 1, by omega⟩
      simp only [spec_NameOk.l0, impl_NameOk.l0, spec_l1In_eq, impl_within_eq, Option.bind_some]
      rw [if_neg (by omega)]
  | succ d ih =>
    intro i h0 hd
    by_cases hlt : i < (s.size : Int)
    · obtain ⟨r, hs, hi⟩ := ih (i + 1) (by omega) (by omega)
      refine ⟨if bt s i < 97 then false else if bt s i > 122 then false else r, fun k hk => ?_, fun k hk => ?_⟩
      · obtain ⟨k, rfl⟩ : ∃ m, k = m + 1 := ⟨k - 1, by omega⟩
        simp only [spec_NameOk.l0]
        rw [if_pos hlt, if_pos h0, wrap_idx h0 hlt hn, hs k (by omega)]
        (repeat' split) <;> rfl
      · obtain ⟨k, rfl⟩ : ∃ m, k = m + 1 := ⟨k - 1, by omega⟩
        simp only [impl_NameOk.l0]
        rw [if_pos hlt, if_pos h0, wrap_idx h0 hlt hn, hi k (by omega)]
        (repeat' split) <;> rfl
    · refine ⟨inB s.size 1 8, fun k hk => ?_, fun k hk => ?_⟩ <;>
      · obtain ⟨k, rfl⟩ : ∃ m, k = m + 1 := ⟨k - 1, by omega⟩
        simp only [spec_NameOk.l0, impl_NameOk.l0, spec_l1In_eq, impl_within_eq, Option.bind_some]
        rw [if_neg hlt]
theorem name_both (s : ByteArray) (hn : s.size ≤ 140737488351232) : ∃ r, Ev (fun k => spec_NameOk.f k s) r ∧ Ev (fun k => impl_NameOk.f k s) r := by
  obtain ⟨r, hs, hi⟩ := name_loops s (by omega) s.size 0 (by omega) (by omega)
  exact ⟨r, ⟨s.size + 1, fun k hk => hs k (by omega)⟩, ⟨s.size + 1, fun k hk => hi k (by omega)⟩⟩

def plainC (c : Int) : Bool := inB c 32 126 && !decide (c = 34)
theorem plainC_iff (c : Int) : plainC c = true ↔ (32 ≤ c ∧ c ≤ 126) ∧ c ≠ 34 := by simp [plainC, inB]
theorem plain_spec (c : Int) (r : Bool) : (if c < 32 then some false else (if c > 126 then some false else (if c = 34 then some false else some r))) = some (if plainC c then r else false) := by
  by_cases h : plainC c = true
  · have h' := (plainC_iff c).1 h
    rw [if_pos h, if_neg (by omega), if_neg (by omega), if_neg (by omega)]
  · have h' : ¬ ((32 ≤ c ∧ c ≤ 126) ∧ c ≠ 34) := fun k => h ((plainC_iff c).2 k)
    rw [if_neg h]
    (repeat' split) <;> first | rfl | (exfalso; omega)
theorem plain_impl (c : Int) (r : Bool) : (if inB c 32 126 = true then (if c = 34 then some false else some r) else some false) = some (if plainC c then r else false) := by
  unfold plainC
  by_cases h1 : inB c 32 126 = true <;> by_cases h2 : c = 34 <;> simp [h1, h2]
theorem plain_loops (s : ByteArray) (hn : (s.size : Int) ≤ 140737488351232) (d : Nat) : ∀ (i : Int), 0 ≤ i → (s.size : Int) - i ≤ d →
    ∃ r, (∀ k, d < k → spec_PlainOk.l0 k s i = some r) ∧ ∀ k, d < k → impl_PlainOk.l0 k s i = some r := by
  induction d with
  | zero =>
    intro i h0 hd
    refine ⟨decide ((s.size : Int) ≤ 20), fun k hk => ?_, fun k hk => ?_⟩ <;>
    · obtain ⟨k, rfl⟩ : ∃ m, k = m + 1 := ⟨k - 1, by omega⟩
      simp only [spec_PlainOk.l0, impl_PlainOk.l0]
      rw [if_neg (by omega)]
  | succ d ih =>
    intro i h0 hd
    by_cases hlt : i < (s.size : Int)
    · obtain ⟨r, hs, hi⟩ := ih (i + 1) (by omega) (by omega)
      refine ⟨if plainC (bt s i) then r else false, fun k hk => ?_, fun k hk => ?_⟩
      · obtain ⟨k, rfl⟩ : ∃ m, k = m + 1 := ⟨k - 1, by omega⟩
        simp only [spec_PlainOk.l0]
        rw [if_pos hlt, if_pos h0, wrap_idx h0 hlt hn, hs k (by omega)]
        exact plain_spec _ _
      · obtain ⟨k, rfl⟩ : ∃ m, k = m + 1 := ⟨k - 1, by omega⟩
        simp only [impl_PlainOk.l0]
        rw [if_pos hlt, if_pos h0, wrap_idx h0 hlt hn, hi k (by omega), wrap_bt, impl_within_eq, Option.bind_some]
        exact plain_impl _ _
    · refine ⟨decide ((s.size : Int) ≤ 20), fun k hk => ?_, fun k hk => ?_⟩ <;>
      · obtain ⟨k, rfl⟩ : ∃ m, k = m + 1 := ⟨k - 1, by omega⟩
        simp only [spec_PlainOk.l0, impl_PlainOk.l0]
        rw [if_neg hlt]
theorem plain_both (s : ByteArray) (hn : s.size ≤ 140737488351232) : ∃ r, Ev (fun k => spec_PlainOk.f k s) r ∧ Ev (fun k => impl_PlainOk.f k s) r := by
  obtain ⟨r, hs, hi⟩ := plain_loops s (by omega) s.size 0 (by omega) (by omega)
  exact ⟨r, ⟨s.size + 1, fun k hk => hs k (by omega)⟩, ⟨s.size + 1, fun k hk => hi k (by omega)⟩⟩

theorem attrOk_both (a : ByteArray) (b : Bool) (c : Int) (e : ByteArray) (ha : a.size ≤ 1048576) (he : e.size ≤ 1048576) :
    ∃ r, ∀ k, 1048576 < k → spec_AttrOk.f k a b c e = some r ∧ impl_AttrOk.f k a b c e = some r := by
  obtain ⟨n, hn1, hn2⟩ := name_loops a (by omega) a.size 0 (by omega) (by omega)
  obtain ⟨p, hp1, hp2⟩ := plain_loops e (by omega) e.size 0 (by omega) (by omega)
  refine ⟨n && (if b then inB c 0 2147483647 && (e.toList == ([] : List UInt8)) else decide (c = 0) && p), fun k hk => ?_⟩
  have e1 : spec_NameOk.f k a = some n := hn1 k (by omega)
  have e2 : impl_NameOk.f k a = some n := hn2 k (by omega)
  have e3 : spec_PlainOk.f k e = some p := hp1 k (by omega)
  have e4 : impl_PlainOk.f k e = some p := hp2 k (by omega)
  constructor
  · simp only [spec_AttrOk.f, e1, e3, spec_l1In_eq, Option.bind_some]
    cases n <;> cases b <;> simp
    · by_cases hc : c = 0 <;> simp [hc]
    · cases inB c 0 2147483647 <;> simp
  · simp only [impl_AttrOk.f, e2, e4, impl_within_eq, Option.bind_some]
    cases n <;> cases b <;> simp
    · cases p <;> simp
      by_cases hc : c = 0 <;> simp [hc]
    · cases inB c 0 2147483647 <;> simp

theorem itoaV_size (n : Int) (h0 : -9223372036854775808 ≤ n) (h1 : n ≤ 9223372036854775807) : (itoaV n).size ≤ 21 := by
  have := Lib.itoa_length_le n h0 h1
  show (Lib.itoa n).toArray.size ≤ 21
  rw [List.size_toArray]
  exact this
theorem one_lit (x : UInt8) : (⟨#[x]⟩ : ByteArray).size = 1 := rfl
theorem two_lit (x y : UInt8) : (⟨#[x, y]⟩ : ByteArray).size = 2 := rfl
theorem attrText_both (a : ByteArray) (b : Bool) (c : Int) (e : ByteArray) (ha : a.size ≤ 1048576) (he : e.size ≤ 1048576) :
    ∃ ok r, (∀ k, 1048576 < k → spec_AttrOk.f k a b c e = some ok ∧ impl_AttrOk.f k a b c e = some ok) ∧ (∀ k, 1048576 < k → spec_AttrText.f k a b c e = some r ∧ impl_AttrText.f k a b c e = some r) ∧ r.size ≤ 4194304 ∧ (ok = true → 0 < r.size) ∧ (ok = false → r = ⟨#[]⟩) := by
  obtain ⟨ok, hok⟩ := attrOk_both a b c e ha he
  cases ok with
  | false =>
    refine ⟨false, ⟨#[]⟩, hok, fun k hk => ?_, by decide, (fun h => by cases h), fun _ => rfl⟩
    obtain ⟨h1, h2⟩ := hok k hk
    constructor
    · simp only [spec_AttrText.f, h1, Option.bind_some]
      rw [if_neg (by decide)]
    · simp only [impl_AttrText.f, h2, Option.bind_some]
      rw [if_neg (by decide)]
  | true =>
    cases b with
    | true =>
      have hc : 0 ≤ c ∧ c ≤ 2147483647 := by
        obtain ⟨h1, _⟩ := hok 1048577 (by omega)
        unfold spec_AttrOk.f at h1
        obtain ⟨q, _, h1⟩ := Option.bind_eq_some_iff.mp h1
        cases q with
        | false => rw [if_neg (by decide)] at h1; cases h1
        | true =>
          rw [if_pos rfl, if_pos rfl] at h1
          unfold spec_l1In.f at h1
          by_cases h0 : c ≥ 0
          · rw [if_pos h0, Option.bind_some] at h1
            by_cases h2 : c ≤ 2147483647
            · exact ⟨h0, h2⟩
            · rw [decide_eq_false h2, if_neg (by decide)] at h1
              cases h1
          · rw [if_neg h0, Option.bind_some, if_neg (by decide)] at h1
            cases h1
      have hs := itoaV_size c (by omega) (by omega)
      have s1 : ((a ++ (⟨#[61]⟩ : ByteArray)) ++ itoaV c).size = a.size + 1 + (itoaV c).size := by rw [ByteArray.size_append, ByteArray.size_append, one_lit]
      have s2 : (a ++ (⟨#[61]⟩ : ByteArray)).size = a.size + 1 := by rw [ByteArray.size_append, one_lit]
      refine ⟨true, (a ++ (⟨#[61]⟩ : ByteArray)) ++ itoaV c, hok, fun k hk => ?_, by omega, fun _ => by omega, fun h => by cases h⟩
      obtain ⟨h1, h2⟩ := hok k hk
      constructor
      · simp only [spec_AttrText.f, h1, Option.bind_some, spec_NumText_at c (by omega) (by omega) k (by omega), if_true]
        rw [if_pos (by omega), if_pos (by omega)]
      · simp only [impl_AttrText.f, h2, Option.bind_some, impl_NumText_at c (by omega) (by omega), if_true]
        rw [if_pos (by omega), if_pos (by omega)]
    | false =>
      have s2 : (a ++ (⟨#[61, 34]⟩ : ByteArray)).size = a.size + 2 := by rw [ByteArray.size_append, two_lit]
      have s3 : ((a ++ (⟨#[61, 34]⟩ : ByteArray)) ++ e).size = a.size + 2 + e.size := by rw [ByteArray.size_append, s2]
      have s4 : (((a ++ (⟨#[61, 34]⟩ : ByteArray)) ++ e) ++ (⟨#[34]⟩ : ByteArray)).size = a.size + 2 + e.size + 1 := by rw [ByteArray.size_append, s3, one_lit]
      refine ⟨true, ((a ++ (⟨#[61, 34]⟩ : ByteArray)) ++ e) ++ (⟨#[34]⟩ : ByteArray), hok, fun k hk => ?_, by omega, fun _ => by omega, fun h => by cases h⟩
      obtain ⟨h1, h2⟩ := hok k hk
      constructor
      · simp only [spec_AttrText.f, h1, Option.bind_some, if_true, Bool.false_eq_true, if_false]
        rw [if_pos (by omega), if_pos (by omega), if_pos (by omega)]
      · simp only [impl_AttrText.f, h2, Option.bind_some, if_true, Bool.false_eq_true, if_false]
        rw [if_pos (by omega), if_pos (by omega), if_pos (by omega)]

/-- Two loops that go side by side. -/
theorem loop_two {σ β : Type} {L L' : Nat → σ → Int → Option β} {n K : Nat} {I : σ → Nat → Prop}
    (hend : ∀ s, I s n → ∃ r, ∀ k, L (k + 1) s (n : Int) = some r ∧ L' (k + 1) s (n : Int) = some r)
    (hstep : ∀ s (i : Nat), i < n → I s i → (∃ r, ∀ k, K ≤ k → L (k + 1) s (i : Int) = some r ∧ L' (k + 1) s (i : Int) = some r) ∨
      ∃ s', I s' (i + 1) ∧ ∀ k, K ≤ k → L (k + 1) s (i : Int) = L k s' ((i : Int) + 1) ∧ L' (k + 1) s (i : Int) = L' k s' ((i : Int) + 1)) :
    ∀ (d : Nat) s (i : Nat), i + d = n → I s i → ∃ r, ∀ k, K + d < k → L k s (i : Int) = some r ∧ L' k s (i : Int) = some r := by
  intro d
  induction d with
  | zero =>
    intro s i hd hI
    obtain rfl : i = n := by omega
    obtain ⟨r, hr⟩ := hend s hI
    refine ⟨r, fun k hk => ?_⟩
    obtain ⟨k, rfl⟩ : ∃ m, k = m + 1 := ⟨k - 1, by omega⟩
    exact hr k
  | succ d ih =>
    intro s i hd hI
    rcases hstep s i (by omega) hI with ⟨r, hr⟩ | ⟨s', hI', he⟩
    · refine ⟨r, fun k hk => ?_⟩
      obtain ⟨k, rfl⟩ : ∃ m, k = m + 1 := ⟨k - 1, by omega⟩
      exact hr k (by omega)
    · obtain ⟨r, hr⟩ := ih s' (i + 1) (by omega) hI'
      refine ⟨r, fun k hk => ?_⟩
      obtain ⟨k, rfl⟩ : ∃ m, k = m + 1 := ⟨k - 1, by omega⟩
      rw [(he k (by omega)).1, (he k (by omega)).2]
      have := hr k (by omega)
      rw [Int.natCast_add] at this
      exact this

theorem rdIA (l : List S28) (i : Nat) (h : i < l.length) : rd_T28 l (i : Int) = l[i] := by
  simp [rd_T28, List.getD_eq_getElem?_getD, h]

theorem attrsOk_both (l : List S28) (hl : l.length ≤ 1048576) (hf : ∀ x ∈ l, x.f0.size ≤ 1048576 ∧ x.f3.size ≤ 1048576) :
    ∃ r, Ev (fun k => spec_AttrsOk.f k l) r ∧ Ev (fun k => impl_AttrsOk.f k l) r := by
  obtain ⟨r, h⟩ := loop_two (σ := Unit) (L := fun k _ i => spec_AttrsOk.l0 k l i) (L' := fun k _ i => impl_AttrsOk.l0 k l l l.length i) (n := l.length) (K := 1048577) (I := fun _ _ => True)
    (fun s _ => ⟨decide ((l.length : Int) ≤ 4), fun k => by
      simp only [spec_AttrsOk.l0, impl_AttrsOk.l0]
      rw [if_neg (not_lt_cast _), if_neg (not_lt_cast _)]
      exact ⟨rfl, rfl⟩⟩)
    (fun s i hi _ => by
      obtain ⟨f1, f2⟩ := hf l[i] (List.getElem_mem hi)
      obtain ⟨r, hr⟩ := attrOk_both l[i].f0 l[i].f1 l[i].f2 l[i].f3 f1 f2
      let T (z : Option Bool) : Option Bool := if r = true then (if (i : Int) > 0 then (if 0 ≤ (wrap64 ((i : Int) - 1)) then (if (wrap64 ((i : Int) - 1)) < (l.length : Int) then (if ((Op.bytesLess (((rd_T28 l (wrap64 ((i : Int) - 1))).f0).toList) ((l[i].f0).toList)) = true) then z else (some false)) else (none)) else (none)) else z) else (some false)
      have hT : (∃ q, ∀ z, T z = some q) ∨ ∀ z, T z = z := by
        cases r with
        | false => exact .inl ⟨false, fun z => if_neg (by decide)⟩
        | true =>
          by_cases hz : (i : Int) > 0
          · have e1 : wrap64 ((i : Int) - 1) = ((i - 1 : Nat) : Int) := by rw [wrap_of (by omega) (by omega)]; omega
            by_cases hc : Op.bytesLess (((rd_T28 l (wrap64 ((i : Int) - 1))).f0).toList) (l[i].f0.toList) = true
            · exact .inr fun z => by
                show (if true = true then _ else _) = _
                rw [if_pos rfl, if_pos hz, if_pos (by omega), if_pos (by omega), if_pos hc]
            · exact .inl ⟨false, fun z => by
                show (if true = true then _ else _) = _
                rw [if_pos rfl, if_pos hz, if_pos (by omega), if_pos (by omega), if_neg hc]⟩
          · exact .inr fun z => by
              show (if true = true then _ else _) = _
              rw [if_pos rfl, if_neg hz]
      have hs : ∀ k, 1048577 ≤ k → spec_AttrsOk.l0 (k + 1) l (i : Int) = T (spec_AttrsOk.l0 k l ((i : Int) + 1)) := by
        intro k hk
        simp only [spec_AttrsOk.l0]
        rw [if_pos (lt_cast hi), if_pos (nn_cast i), rdIA _ _ hi, (hr k (by omega)).1, Option.bind_some, wrap_nat1 hi (by omega)]
      have hi' : ∀ k, 1048577 ≤ k → impl_AttrsOk.l0 (k + 1) l l l.length (i : Int) = T (impl_AttrsOk.l0 k l l l.length ((i : Int) + 1)) := by
        intro k hk
        simp only [impl_AttrsOk.l0]
        rw [if_pos (lt_cast hi), if_pos (nn_cast i), if_pos (lt_cast hi), rdIA _ _ hi, (hr k (by omega)).2, Option.bind_some, wrap_nat1 hi (by omega)]
      rcases hT with ⟨q, hq⟩ | hq
      · exact .inl ⟨q, fun k hk => ⟨(hs k hk).trans (hq _), (hi' k hk).trans (hq _)⟩⟩
      · exact .inr ⟨(), trivial, fun k hk => ⟨(hs k hk).trans (hq _), (hi' k hk).trans (hq _)⟩⟩) l.length () 0 (by omega) trivial
  exact ⟨r, ev_at (1048577 + l.length) fun k hk => (h k hk).1, ev_at (1048577 + l.length) fun k hk => (h k hk).2⟩

def attrSizeV (a : ByteArray) (b : Bool) (e : ByteArray) : Int := if b then (a.size : Int) + 4 else (a.size : Int) + (e.size : Int)
theorem spec_AttrSize_eq (a : ByteArray) (b : Bool) (c : Int) (e : ByteArray) (ha : a.size ≤ 1048576) (he : e.size ≤ 1048576) : spec_AttrSize.f a b c e = some (attrSizeV a b e) := by
  unfold spec_AttrSize.f attrSizeV
  rw [wrap_of (by omega) (by omega), wrap_of (by omega) (by omega)]
  cases b <;> rfl
theorem impl_AttrSize_eq (a : ByteArray) (b : Bool) (c : Int) (e : ByteArray) (ha : a.size ≤ 1048576) (he : e.size ≤ 1048576) : impl_AttrSize.f a b c e = some (attrSizeV a b e) := by
  unfold impl_AttrSize.f attrSizeV
  rw [wrap_of (by omega) (by omega), wrap_of (by omega) (by omega)]
  cases b <;> rfl
theorem attrSizeV_range (a : ByteArray) (b : Bool) (e : ByteArray) (ha : a.size ≤ 1048576) (he : e.size ≤ 1048576) : 0 ≤ attrSizeV a b e ∧ attrSizeV a b e ≤ 2097152 := by
  unfold attrSizeV
  split <;> omega

def sizeV (l : List S28) : Int := 12 + (l.map fun x => attrSizeV x.f0 x.f1 x.f3).sum
theorem sizes_take (l : List S28) (i : Nat) (h : i < l.length) : ((l.take (i + 1)).map fun x => attrSizeV x.f0 x.f1 x.f3).sum = ((l.take i).map fun x => attrSizeV x.f0 x.f1 x.f3).sum + attrSizeV l[i].f0 l[i].f1 l[i].f3 := by
  rw [List.take_succ_eq_append_getElem h, List.map_append, List.sum_append]
  simp
theorem sizes_range (l : List S28) (hf : ∀ x ∈ l, x.f0.size ≤ 1048576 ∧ x.f3.size ≤ 1048576) : 0 ≤ (l.map fun x => attrSizeV x.f0 x.f1 x.f3).sum ∧ (l.map fun x => attrSizeV x.f0 x.f1 x.f3).sum ≤ 2097152 * l.length := by
  induction l with
  | nil => simp
  | cons x l ih =>
    have h1 := ih (fun y hy => hf y (List.mem_cons_of_mem _ hy))
    obtain ⟨f1, f2⟩ := hf x List.mem_cons_self
    have h2 := attrSizeV_range x.f0 x.f1 x.f3 f1 f2
    rw [List.map_cons, List.sum_cons, List.length_cons]
    push_cast
    omega
theorem spec_SizeOf_at (a b c d : Int) (e : Bool) (l : List S28) (hl : l.length ≤ 1048576) (hf : ∀ x ∈ l, x.f0.size ≤ 1048576 ∧ x.f3.size ≤ 1048576) : ∀ k, 1048576 < k → spec_SizeOf.f k a b c d e l = some (sizeV l) := by
  obtain ⟨r, hr, h⟩ := loop_ex (σ := Int) (L := fun k s i => spec_SizeOf.l0 k s i a b c d e l) (n := l.length) (K := 0)
    (I := fun s i => s = 12 + ((l.take i).map fun x => attrSizeV x.f0 x.f1 x.f3).sum) (Post := fun _ _ r => r = sizeV l)
    (fun s hI => ⟨_, rfl, fun k => by
      simp only [spec_SizeOf.l0]
      rw [if_neg (not_lt_cast _), hI, List.take_length]
      rfl⟩)
    (fun s i hi hI => .inr ⟨_, rfl, fun k _ => by
      obtain ⟨f1, f2⟩ := hf l[i] (List.getElem_mem hi)
      have h1 := sizes_range (l.take (i + 1)) (fun x hx => hf x (List.mem_of_mem_take hx))
      have h2 : (l.take (i + 1)).length ≤ 1048576 := Nat.le_trans (List.length_take_le' _ _) hl
      have h3 := sizes_take l i hi
      simp only [spec_SizeOf.l0]
      rw [if_pos (lt_cast hi), if_pos (nn_cast i), rdIA _ _ hi, spec_AttrSize_eq _ _ _ _ f1 f2, Option.bind_some, wrap_nat1 hi (by omega), hI, wrap_of (by omega) (by omega), h3]
      congr 1
      omega, fun _ h => h⟩) l.length 12 0 (by omega) (by simp)
  subst hr
  exact fun k hk => h k (by omega)
theorem impl_SizeOf_at (a b c d : Int) (e : Bool) (l : List S28) (hl : l.length ≤ 1048576) (hf : ∀ x ∈ l, x.f0.size ≤ 1048576 ∧ x.f3.size ≤ 1048576) : ∀ k, 1048576 < k → impl_SizeOf.f k a b c d e l = some (sizeV l) := by
  obtain ⟨r, hr, h⟩ := loop_ex (σ := Int) (L := fun k s i => impl_SizeOf.l0 k s l l.length i) (n := l.length) (K := 0)
    (I := fun s i => s = 12 + ((l.take i).map fun x => attrSizeV x.f0 x.f1 x.f3).sum) (Post := fun _ _ r => r = sizeV l)
    (fun s hI => ⟨_, rfl, fun k => by
      simp only [impl_SizeOf.l0]
      rw [if_neg (not_lt_cast _), hI, List.take_length]
      rfl⟩)
    (fun s i hi hI => .inr ⟨_, rfl, fun k _ => by
      obtain ⟨f1, f2⟩ := hf l[i] (List.getElem_mem hi)
      have h1 := sizes_range (l.take (i + 1)) (fun x hx => hf x (List.mem_of_mem_take hx))
      have h2 : (l.take (i + 1)).length ≤ 1048576 := Nat.le_trans (List.length_take_le' _ _) hl
      have h3 := sizes_take l i hi
      simp only [impl_SizeOf.l0]
      rw [if_pos (lt_cast hi), if_pos (nn_cast i), if_pos (lt_cast hi), rdIA _ _ hi, impl_AttrSize_eq _ _ _ _ f1 f2, Option.bind_some, wrap_nat1 hi (by omega), hI, wrap_of (by omega) (by omega), h3]
      congr 1
      omega, fun _ h => h⟩) l.length 12 0 (by omega) (by simp)
  subst hr
  exact fun k hk => h k (by omega)
theorem spec_SizeOf_ev (a b c d : Int) (e : Bool) (l : List S28) (hl : l.length ≤ 1048576) (hf : ∀ x ∈ l, x.f0.size ≤ 1048576 ∧ x.f3.size ≤ 1048576) : Ev (fun k => spec_SizeOf.f k a b c d e l) (sizeV l) := ev_at 1048576 (spec_SizeOf_at a b c d e l hl hf)
theorem impl_SizeOf_ev (a b c d : Int) (e : Bool) (l : List S28) (hl : l.length ≤ 1048576) (hf : ∀ x ∈ l, x.f0.size ≤ 1048576 ∧ x.f3.size ≤ 1048576) : Ev (fun k => impl_SizeOf.f k a b c d e l) (sizeV l) := ev_at 1048576 (impl_SizeOf_at a b c d e l hl hf)

theorem spanOk_both (a b c d : Int) (e : Bool) (l : List S28) (hl : l.length ≤ 1048576) (hf : ∀ x ∈ l, x.f0.size ≤ 1048576 ∧ x.f3.size ≤ 1048576) :
    ∃ r, Ev (fun k => spec_SpanOk.f k a b c d e l) r ∧ Ev (fun k => impl_SpanOk.f k a b c d e l) r := by
  obtain ⟨r, ⟨K1, h1⟩, ⟨K2, h2⟩⟩ := attrsOk_both l hl hf
  simp only at h1 h2
  have hx : (inB d 0 99999 && inB c 0 d) = (inB c 0 99999 && inB d c 99999) := by
    simp only [inB]
    rw [Bool.eq_iff_iff]
    simp
    omega
  refine ⟨inB a 1 999 && (inB b 1 999 && ((inB c 0 99999 && inB d c 99999) && (r && decide (sizeV l ≤ 96)))), ev_at (K1 + 1048576) fun k hk => ?_, ev_at (K2 + 1048576) fun k hk => ?_⟩
  · simp only [spec_SpanOk.f, spec_l1In_eq, Option.bind_some, h1 k (by omega), spec_SizeOf_at a b c d e l hl hf k (by omega)]
    cases inB a 1 999 <;> cases inB b 1 999 <;> cases inB c 0 99999 <;> cases inB d c 99999 <;> cases r <;> rfl
  · rw [← hx]
    simp only [impl_SpanOk.f, impl_within_eq, Option.bind_some, h2 k (by omega), impl_SizeOf_at a b c d e l hl hf k (by omega)]
    cases inB a 1 999 <;> cases inB b 1 999 <;> cases inB d 0 99999 <;> cases inB c 0 d <;> cases r <;> rfl

theorem app_assoc (a b c : ByteArray) : a ++ (b ++ c) = (a ++ b) ++ c := by
  apply ByteArray.ext
  simp only [ByteArray.data_append, Array.append_assoc]
def sp : ByteArray := ⟨#[32]⟩
theorem spanText_loops (a b c d : Int) (e : Bool) (l : List S28) (hl : l.length ≤ 1048576) (hf : ∀ x ∈ l, x.f0.size ≤ 1048576 ∧ x.f3.size ≤ 1048576) (s : ByteArray) (hs : s.size ≤ 1000) (hp : 0 < s.size) :
    ∃ r, 0 < r.size ∧ ∀ k, 2097153 < k → spec_SpanText.l0 k s 0 a b c d e l = some r ∧ impl_SpanText.l0 k s l l.length 0 = some r := by
  have key : ∀ (n : Nat) (s : ByteArray) (i : Nat), i + n = l.length → 0 < s.size → s.size ≤ 1000 + i * 4194306 → ∃ r, 0 < r.size ∧ ∀ k, 1048577 + n < k → spec_SpanText.l0 k s (i : Int) a b c d e l = some r ∧ impl_SpanText.l0 k s l l.length (i : Int) = some r := by
    intro n
    induction n with
    | zero =>
      intro s i hi hp hs
      obtain rfl : i = l.length := by omega
      refine ⟨s, hp, fun k hk => ?_⟩
      obtain ⟨k, rfl⟩ : ∃ m, k = m + 1 := ⟨k - 1, by omega⟩
      simp only [spec_SpanText.l0, impl_SpanText.l0]
      rw [if_neg (not_lt_cast _), if_neg (not_lt_cast _)]
      exact ⟨rfl, rfl⟩
    | succ n ih =>
      intro s i hi hp hs
      have hil : i < l.length := by omega
      obtain ⟨f1, f2⟩ := hf l[i] (List.getElem_mem hil)
      obtain ⟨_, t, _, ht, hts, _, _⟩ := attrText_both l[i].f0 l[i].f1 l[i].f2 l[i].f3 f1 f2
      have z1 : (s ++ (⟨#[32]⟩ : ByteArray)).size = s.size + 1 := by rw [ByteArray.size_append, one_lit]
      have z2 : ((s ++ (⟨#[32]⟩ : ByteArray)) ++ t).size = s.size + 1 + t.size := by rw [ByteArray.size_append, z1]
      have z3 : ((⟨#[32]⟩ : ByteArray) ++ t).size = 1 + t.size := by rw [ByteArray.size_append, one_lit]
      obtain ⟨r, hr0, hr⟩ := ih ((s ++ (⟨#[32]⟩ : ByteArray)) ++ t) (i + 1) (by omega) (by omega) (by omega)
      refine ⟨r, hr0, fun k hk => ?_⟩
      obtain ⟨k, rfl⟩ : ∃ m, k = m + 1 := ⟨k - 1, by omega⟩
      obtain ⟨t1, t2⟩ := ht k (by omega)
      have h := hr k (by omega)
      rw [Int.natCast_add] at h
      refine ⟨?_, ?_⟩
      · simp only [spec_SpanText.l0]
        rw [if_pos (lt_cast hil), if_pos (by omega), if_pos (nn_cast i), rdIA _ _ hil, t1, Option.bind_some, if_pos (by omega), wrap_nat1 hil (by omega)]
        exact h.1
      · simp only [impl_SpanText.l0]
        rw [if_pos (lt_cast hil), if_pos (nn_cast i), if_pos (lt_cast hil), rdIA _ _ hil, t2, Option.bind_some, if_pos (by omega), if_pos (by omega), wrap_nat1 hil (by omega), app_assoc]
        exact h.2
  obtain ⟨r, hr0, hr⟩ := key l.length s 0 (by omega) hp (by omega)
  exact ⟨r, hr0, fun k hk => hr k (by omega)⟩
theorem spanText_both (a b c d : Int) (e : Bool) (l : List S28) (hl : l.length ≤ 1048576) (hf : ∀ x ∈ l, x.f0.size ≤ 1048576 ∧ x.f3.size ≤ 1048576)
    (ha : -9223372036854775808 ≤ a ∧ a ≤ 9223372036854775807) (hb : -9223372036854775808 ≤ b ∧ b ≤ 9223372036854775807) (hc : -9223372036854775808 ≤ c ∧ c ≤ 9223372036854775807) (hd : -9223372036854775808 ≤ d ∧ d ≤ 9223372036854775807) :
    ∃ ok r, Ev (fun k => spec_SpanOk.f k a b c d e l) ok ∧ Ev (fun k => impl_SpanOk.f k a b c d e l) ok ∧ Ev (fun k => spec_SpanText.f k a b c d e l) r ∧ Ev (fun k => impl_SpanText.f k a b c d e l) r ∧ (ok = true → 0 < r.size) ∧ (ok = false → r = ⟨#[]⟩) := by
  obtain ⟨ok, ⟨K1, h1⟩, ⟨K2, h2⟩⟩ := spanOk_both a b c d e l hl hf
  simp only at h1 h2
  cases ok with
  | false =>
    refine ⟨false, ⟨#[]⟩, ⟨K1, h1⟩, ⟨K2, h2⟩, ⟨K1, fun k hk => ?_⟩, ⟨K2, fun k hk => ?_⟩, (fun h => by cases h), fun _ => rfl⟩
    · simp only [spec_SpanText.f, h1 k hk, Option.bind_some]
      rw [if_neg (by decide)]
    · simp only [impl_SpanText.f, h2 k hk, Option.bind_some]
      rw [if_neg (by decide)]
  | true =>
    have n1 := itoaV_size a ha.1 ha.2
    have n2 := itoaV_size b hb.1 hb.2
    have n3 := itoaV_size c hc.1 hc.2
    have n4 := itoaV_size d hd.1 hd.2
    have q1 : ∀ k, 21 ≤ k → spec_NumText.f k a = some (itoaV a) := fun k hk => spec_NumText_at a ha.1 ha.2 k hk
    have q2 : ∀ k, 21 ≤ k → spec_NumText.f k b = some (itoaV b) := fun k hk => spec_NumText_at b hb.1 hb.2 k hk
    have q3 : ∀ k, 21 ≤ k → spec_NumText.f k c = some (itoaV c) := fun k hk => spec_NumText_at c hc.1 hc.2 k hk
    have q4 : ∀ k, 21 ≤ k → spec_NumText.f k d = some (itoaV d) := fun k hk => spec_NumText_at d hd.1 hd.2 k hk
    have p1 := impl_NumText_at a ha.1 ha.2
    have p2 := impl_NumText_at b hb.1 hb.2
    have p3 := impl_NumText_at c hc.1 hc.2
    have p4 := impl_NumText_at d hd.1 hd.2
    generalize itoaV a = A at *
    generalize itoaV b = B at *
    generalize itoaV c = C at *
    generalize itoaV d = D at *
    have z1 : (A ++ (⟨#[47]⟩ : ByteArray)).size = A.size + 1 := by rw [ByteArray.size_append, one_lit]
    have z2 : ((A ++ (⟨#[47]⟩ : ByteArray)) ++ B).size = A.size + 1 + B.size := by rw [ByteArray.size_append, z1]
    have z3 : (((A ++ (⟨#[47]⟩ : ByteArray)) ++ B) ++ (⟨#[32]⟩ : ByteArray)).size = A.size + 1 + B.size + 1 := by rw [ByteArray.size_append, z2, one_lit]
    have z4 : ((((A ++ (⟨#[47]⟩ : ByteArray)) ++ B) ++ (⟨#[32]⟩ : ByteArray)) ++ C).size = A.size + 1 + B.size + 1 + C.size := by rw [ByteArray.size_append, z3]
    have z5 : (((((A ++ (⟨#[47]⟩ : ByteArray)) ++ B) ++ (⟨#[32]⟩ : ByteArray)) ++ C) ++ (⟨#[45]⟩ : ByteArray)).size = A.size + 1 + B.size + 1 + C.size + 1 := by rw [ByteArray.size_append, z4, one_lit]
    have z6 : ((((((A ++ (⟨#[47]⟩ : ByteArray)) ++ B) ++ (⟨#[32]⟩ : ByteArray)) ++ C) ++ (⟨#[45]⟩ : ByteArray)) ++ D).size = A.size + 1 + B.size + 1 + C.size + 1 + D.size := by rw [ByteArray.size_append, z5]
    obtain ⟨s, hs⟩ : ∃ s, s = if e = true then (((((((A ++ (⟨#[47]⟩ : ByteArray)) ++ B) ++ (⟨#[32]⟩ : ByteArray)) ++ C) ++ (⟨#[45]⟩ : ByteArray)) ++ D) ++ (⟨#[32, 102, 97, 105, 108, 101, 100]⟩ : ByteArray)) else ((((((A ++ (⟨#[47]⟩ : ByteArray)) ++ B) ++ (⟨#[32]⟩ : ByteArray)) ++ C) ++ (⟨#[45]⟩ : ByteArray)) ++ D) := ⟨_, rfl⟩
    have hsz : 0 < s.size ∧ s.size ≤ 1000 := by
      have e7 : (⟨#[32, 102, 97, 105, 108, 101, 100]⟩ : ByteArray).size = 7 := rfl
      rw [hs]
      cases e with
      | true => rw [if_pos rfl, ByteArray.size_append, z6, e7]; omega
      | false => rw [if_neg (by decide), z6]; omega
    obtain ⟨r, hr0, hr⟩ := spanText_loops a b c d e l hl hf s hsz.2 hsz.1
    refine ⟨true, r, ⟨K1, h1⟩, ⟨K2, h2⟩, ⟨K1 + 2097156, fun k hk => ?_⟩, ⟨K2 + 2097156, fun k hk => ?_⟩, fun _ => hr0, fun h => by cases h⟩
    · obtain ⟨j, rfl⟩ : ∃ m, k = m + 1 := ⟨k - 1, by omega⟩
      have h := (hr j (by omega)).1
      simp only [spec_SpanText.f, h1 (j + 1) (by omega), Option.bind_some, q1 (j + 1) (by omega), q2 (j + 1) (by omega), q3 (j + 1) (by omega), q4 (j + 1) (by omega), if_true]
      rw [if_pos (by omega), if_pos (by omega), if_pos (by omega), if_pos (by omega), if_pos (by omega), if_pos (by omega)]
      cases e with
      | true =>
        rw [if_pos rfl] at hs
        rw [if_pos rfl, if_pos (by omega), ← hs]
        simp only [spec_SpanText.j0]
        exact h
      | false =>
        rw [if_neg (by decide)] at hs
        rw [if_neg (by decide), ← hs]
        simp only [spec_SpanText.j0]
        exact h
    · obtain ⟨j, rfl⟩ : ∃ m, k = m + 1 := ⟨k - 1, by omega⟩
      have h := (hr j (by omega)).2
      simp only [impl_SpanText.f, h2 (j + 1) (by omega), Option.bind_some, p1, p2, p3, p4, if_true]
      rw [if_pos (by omega), if_pos (by omega), if_pos (by omega), if_pos (by omega), if_pos (by omega), if_pos (by omega)]
      cases e with
      | true =>
        rw [if_pos rfl] at hs
        rw [if_pos rfl, if_pos (by omega), ← hs]
        simp only [impl_SpanText.j0]
        exact h
      | false =>
        rw [if_neg (by decide)] at hs
        rw [if_neg (by decide), ← hs]
        simp only [impl_SpanText.j0]
        exact h

def attrNe (x y : S28) : Bool := !(x.f0.toList == y.f0.toList) || (!(x.f1 == y.f1) || (!(x.f2 == y.f2) || (!(x.f3.toList == y.f3.toList))))
theorem attrNe_self (x : S28) : attrNe x x = false := by simp [attrNe]
theorem sameSpan_both (a b c d : Int) (e : Bool) (l : List S28) (a' b' c' d' : Int) (e' : Bool) (l' : List S28) (hl : l.length ≤ 1048576) :
    ∃ r, ∀ k, 1048577 < k → spec_SameSpan.f k a b c d e l a' b' c' d' e' l' = some r ∧ impl_SameSpan.f k a b c d e l a' b' c' d' e' l' = some r := by
  have hj : ∀ k, 0 < k → spec_SameSpan.j0 k true a b c d e l a' b' c' d' e' l' = some false := by
    intro k hk
    obtain ⟨k, rfl⟩ : ∃ m, k = m + 1 := ⟨k - 1, by omega⟩
    simp only [spec_SameSpan.j0, if_true]
  by_cases c1 : a = a'
  · by_cases c2 : b = b'
    · by_cases c3 : c = c'
      · by_cases c4 : d = d'
        · by_cases c5 : e = e'
          · have h5 : (e != e') = false := by simp [c5]
            have h5' : (e == e') = true := by simp [c5]
            by_cases c6 : (l.length : Int) = (l'.length : Int)
            · obtain ⟨r, h⟩ := loop_two (σ := Unit) (L := fun k _ i => spec_SameSpan.l0 k i a b c d e l a' b' c' d' e' l') (L' := fun k _ i => impl_Attr.l0 k l l' l.length i) (n := l.length) (K := 0) (I := fun _ _ => True)
                (fun s _ => ⟨true, fun k => by
                  simp only [spec_SameSpan.l0, impl_Attr.l0]
                  rw [if_neg (not_lt_cast _), if_neg (not_lt_cast _)]
                  exact ⟨rfl, rfl⟩⟩)
                (fun s i hi _ => by
                  have hi' : i < l'.length := by omega
                  by_cases hc : attrNe l[i] l'[i] = true
                  · refine .inl ⟨false, fun k _ => ?_⟩
                    simp only [spec_SameSpan.l0, impl_Attr.l0]
                    constructor
                    · rw [if_pos (lt_cast hi), if_pos (nn_cast i), if_pos (lt_cast hi'), rdIA _ _ hi, rdIA _ _ hi']
                      exact if_pos hc
                    · rw [if_pos (lt_cast hi), if_pos (nn_cast i), if_pos (lt_cast hi), if_pos (lt_cast hi'), rdIA _ _ hi, rdIA _ _ hi']
                      exact if_pos hc
                  · refine .inr ⟨(), trivial, fun k _ => ?_⟩
                    simp only [spec_SameSpan.l0, impl_Attr.l0]
                    constructor
                    · rw [if_pos (lt_cast hi), if_pos (nn_cast i), if_pos (lt_cast hi'), rdIA _ _ hi, rdIA _ _ hi', wrap_nat1 hi (by omega)]
                      exact if_neg hc
                    · rw [if_pos (lt_cast hi), if_pos (nn_cast i), if_pos (lt_cast hi), if_pos (lt_cast hi'), rdIA _ _ hi, rdIA _ _ hi', wrap_nat1 hi (by omega)]
                      exact if_neg hc) l.length () 0 (by omega) trivial
              refine ⟨r, fun k hk => ?_⟩
              obtain ⟨k, rfl⟩ : ∃ m, k = m + 1 := ⟨k - 1, by omega⟩
              have h1 : spec_SameSpan.l0 k 0 a b c d e l a' b' c' d' e' l' = some r := (h k (by omega)).1
              have h2 : impl_Attr.l0 (k + 1) l l' l.length 0 = some r := (h (k + 1) (by omega)).2
              constructor
              · simp only [spec_SameSpan.f, spec_SameSpan.j0]
                rw [if_pos c1, if_pos c2, if_pos c3, if_pos c4, h5, c6]
                simp only [Bool.false_eq_true, if_false, bne_self_eq_false]
                exact h1
              · simp only [impl_SameSpan.f, impl_Attr.f]
                rw [if_pos c1, if_pos c2, if_pos c3, if_pos c4, h5', if_pos rfl, if_pos c6, h2]
                rfl
            · refine ⟨false, fun k hk => ⟨?_, ?_⟩⟩
              · have h6 : ((l.length : Int) != (l'.length : Int)) = true := by simpa using c6
                simp only [spec_SameSpan.f]
                rw [if_pos c1, if_pos c2, if_pos c3, if_pos c4, h5, h6]
                simp only [Bool.false_eq_true, if_false]
                exact hj k (by omega)
              · simp only [impl_SameSpan.f, impl_Attr.f]
                rw [if_pos c1, if_pos c2, if_pos c3, if_pos c4, h5', if_pos rfl, if_neg c6]
                rfl
          · have h5 : (e != e') = true := by simpa using c5
            have h5' : ¬ (e == e') = true := by simpa using c5
            refine ⟨false, fun k hk => ⟨?_, ?_⟩⟩
            · simp only [spec_SameSpan.f]
              rw [if_pos c1, if_pos c2, if_pos c3, if_pos c4, if_pos h5]
              exact hj k (by omega)
            · simp only [impl_SameSpan.f]
              rw [if_pos c1, if_pos c2, if_pos c3, if_pos c4, if_neg h5']
        · refine ⟨false, fun k hk => ⟨?_, ?_⟩⟩
          · simp only [spec_SameSpan.f]
            rw [if_pos c1, if_pos c2, if_pos c3, if_neg c4]
            exact hj k (by omega)
          · simp only [impl_SameSpan.f]
            rw [if_pos c1, if_pos c2, if_pos c3, if_neg c4]
      · refine ⟨false, fun k hk => ⟨?_, ?_⟩⟩
        · simp only [spec_SameSpan.f]
          rw [if_pos c1, if_pos c2, if_neg c3]
          exact hj k (by omega)
        · simp only [impl_SameSpan.f]
          rw [if_pos c1, if_pos c2, if_neg c3]
    · refine ⟨false, fun k hk => ⟨?_, ?_⟩⟩
      · simp only [spec_SameSpan.f]
        rw [if_pos c1, if_neg c2]
        exact hj k (by omega)
      · simp only [impl_SameSpan.f]
        rw [if_pos c1, if_neg c2]
  · refine ⟨false, fun k hk => ⟨?_, ?_⟩⟩
    · simp only [spec_SameSpan.f]
      rw [if_neg c1]
      exact hj k (by omega)
    · simp only [impl_SameSpan.f]
      rw [if_neg c1]
theorem sameSpan_self (a b c d : Int) (e : Bool) (l : List S28) (hl : l.length ≤ 1048576) : ∀ k, 1048577 < k → impl_SameSpan.f k a b c d e l a b c d e l = some true := by
  obtain ⟨r, hr, h⟩ := loop_ex (σ := Unit) (L := fun k _ i => impl_Attr.l0 k l l l.length i) (n := l.length) (K := 0) (I := fun _ _ => True) (Post := fun _ _ r => r = true)
    (fun s _ => ⟨true, rfl, fun k => by
      simp only [impl_Attr.l0]
      rw [if_neg (not_lt_cast _)]⟩)
    (fun s i hi _ => .inr ⟨(), trivial, fun k _ => by
      simp only [impl_Attr.l0]
      rw [if_pos (lt_cast hi), if_pos (nn_cast i), if_pos (lt_cast hi), if_pos (lt_cast hi), rdIA _ _ hi, wrap_nat1 hi (by omega)]
      exact if_neg (show ¬ attrNe l[i] l[i] = true by rw [attrNe_self]; decide), fun _ h => h⟩) l.length () 0 (by omega) trivial
  subst hr
  intro k hk
  have h2 : impl_Attr.l0 k l l l.length 0 = some true := h k (by omega)
  simp [impl_SameSpan.f, impl_Attr.f, h2]

theorem rdIS (l : List S38) (i : Nat) (h : i < l.length) : rd_T38 l (i : Int) = l[i] := by
  simp [rd_T38, List.getD_eq_getElem?_getD, h]

def totV (l : List S38) : Int := (l.map fun x => sizeV x.f5).sum
theorem totV_take (l : List S38) (i : Nat) (h : i < l.length) : totV (l.take (i + 1)) = totV (l.take i) + sizeV l[i].f5 := by
  unfold totV
  rw [List.take_succ_eq_append_getElem h, List.map_append, List.sum_append]
  simp
theorem totV_range (l : List S38) (hf : ∀ x ∈ l, x.f5.length ≤ 1048576 ∧ ∀ y ∈ x.f5, y.f0.size ≤ 1048576 ∧ y.f3.size ≤ 1048576) : 0 ≤ totV l ∧ totV l ≤ 2199023255564 * l.length := by
  induction l with
  | nil => simp [totV]
  | cons x l ih =>
    have h1 := ih (fun y hy => hf y (List.mem_cons_of_mem _ hy))
    obtain ⟨f1, f2⟩ := hf x List.mem_cons_self
    have h2 := sizes_range x.f5 f2
    have h3 : totV (x :: l) = sizeV x.f5 + totV l := by simp [totV]
    rw [h3, List.length_cons]
    unfold sizeV
    push_cast
    omega
theorem spec_TotalOf_at (l : List S38) (hl : l.length ≤ 1048576) (hf : ∀ x ∈ l, x.f5.length ≤ 1048576 ∧ ∀ y ∈ x.f5, y.f0.size ≤ 1048576 ∧ y.f3.size ≤ 1048576) : ∀ k, 2097153 < k → spec_TotalOf.f k l = some (totV l) := by
  obtain ⟨r, hr, h⟩ := loop_ex (σ := Int) (L := fun k s i => spec_TotalOf.l0 k l s i) (n := l.length) (K := 1048577)
    (I := fun s i => s = totV (l.take i)) (Post := fun _ _ r => r = totV l)
    (fun s hI => ⟨_, rfl, fun k => by
      simp only [spec_TotalOf.l0]
      rw [if_neg (not_lt_cast _), hI, List.take_length]⟩)
    (fun s i hi hI => .inr ⟨totV (l.take (i + 1)), rfl, fun k hk => by
      obtain ⟨f1, f2⟩ := hf l[i] (List.getElem_mem hi)
      have h1 := totV_range (l.take (i + 1)) (fun x hx => hf x (List.mem_of_mem_take hx))
      have h2 : (l.take (i + 1)).length ≤ 1048576 := Nat.le_trans (List.length_take_le' _ _) hl
      have h3 := totV_take l i hi
      simp only [spec_TotalOf.l0]
      rw [if_pos (lt_cast hi), if_pos (nn_cast i), rdIS _ _ hi, spec_SizeOf_at _ _ _ _ _ _ f1 f2 k (by omega), Option.bind_some, wrap_nat1 hi (by omega), hI, wrap_of (by omega) (by omega), h3], fun _ h => h⟩) l.length 0 0 (by omega) (by simp [totV])
  subst hr
  exact fun k hk => h k (by omega)
theorem impl_TotalOf_at (l : List S38) (hl : l.length ≤ 1048576) (hf : ∀ x ∈ l, x.f5.length ≤ 1048576 ∧ ∀ y ∈ x.f5, y.f0.size ≤ 1048576 ∧ y.f3.size ≤ 1048576) : ∀ k, 2097153 < k → impl_TotalOf.f k l = some (totV l) := by
  obtain ⟨r, hr, h⟩ := loop_ex (σ := Int) (L := fun k s i => impl_TotalOf.l0 k s l l.length i) (n := l.length) (K := 1048577)
    (I := fun s i => s = totV (l.take i)) (Post := fun _ _ r => r = totV l)
    (fun s hI => ⟨_, rfl, fun k => by
      simp only [impl_TotalOf.l0]
      rw [if_neg (not_lt_cast _), hI, List.take_length]⟩)
    (fun s i hi hI => .inr ⟨totV (l.take (i + 1)), rfl, fun k hk => by
      obtain ⟨f1, f2⟩ := hf l[i] (List.getElem_mem hi)
      have h1 := totV_range (l.take (i + 1)) (fun x hx => hf x (List.mem_of_mem_take hx))
      have h2 : (l.take (i + 1)).length ≤ 1048576 := Nat.le_trans (List.length_take_le' _ _) hl
      have h3 := totV_take l i hi
      simp only [impl_TotalOf.l0]
      rw [if_pos (lt_cast hi), if_pos (nn_cast i), if_pos (lt_cast hi), rdIS _ _ hi, impl_SizeOf_at _ _ _ _ _ _ f1 f2 k (by omega), Option.bind_some, wrap_nat1 hi (by omega), hI, wrap_of (by omega) (by omega), h3], fun _ h => h⟩) l.length 0 0 (by omega) (by simp [totV])
  subst hr
  exact fun k hk => h k (by omega)

def capv (n : Int) : Int := if n < 0 then 0 else if n > 2147483647 then 2147483647 else n
theorem capv_range (n : Int) : 0 ≤ capv n ∧ capv n ≤ 2147483647 := by unfold capv; (repeat' split) <;> omega
theorem capv_id {n : Int} (h0 : 0 ≤ n) (h1 : n ≤ 2147483647) : capv n = n := by unfold capv; (repeat' split) <;> omega
theorem spec_Cap_eq (a : Int) : spec_Cap.f a = some (capv a) := by unfold spec_Cap.f capv; (repeat' split) <;> rfl
theorem impl_Cap_eq (a : Int) : impl_Cap.f a = some (capv a) := by
  unfold impl_Cap.f capv mn mx
  congr 1
  (repeat' split) <;> omega

def subv (a b : Int) : Int := capv (capv a - capv b)
theorem wrap_sub (a b : Int) : wrap64 (capv a - capv b) = capv a - capv b := by
  have := capv_range a
  have := capv_range b
  unfold wrap64
  omega

theorem spec_Sub_eq (a b : Int) : spec_Sub.f a b = some (subv a b) := by
  simp only [spec_Sub.f, spec_Cap_eq, Option.bind_some, wrap_sub, subv]
theorem impl_Sub_eq (a b : Int) : impl_Sub.f a b = some (subv a b) := by
  simp only [impl_Sub.f, impl_Cap_eq, Option.bind_some, wrap_sub, subv]

theorem spec_LengthOf_eq (a b c d : Int) (e : Bool) (l : List S28) : spec_LengthOf.f a b c d e l = some (subv d c) := by
  simp only [spec_LengthOf.f, spec_Sub_eq, Option.bind_some]
theorem impl_LengthOf_eq (a b c d : Int) (e : Bool) (l : List S28) : impl_LengthOf.f a b c d e l = some (subv d c) := by
  simp only [impl_LengthOf.f, impl_Sub_eq, Option.bind_some]

theorem at_ex (l : List Int) (hl : l.length ≤ 1048576) (hw : ∀ x ∈ l, (Lit.int .u8 x).wf = true) : ∃ t, laws_at.f l 2 = some t ∧ 0 ≤ t ∧ t ≤ 255 := by
  unfold laws_at.f
  by_cases h : (2 : Int) < (l.length : Int)
  · rw [if_pos h, if_pos (by omega)]
    have h2 : 2 < l.length := by omega
    have e : rd l 2 = l[2] := rd_nat l 2 h2
    have hx : 0 ≤ l[2] ∧ l[2] ≤ 255 := by
      have := hw l[2] (List.getElem_mem h2)
      simp [Lit.wf, IntKind.min, IntKind.max, IntKind.signed, IntKind.bits] at this
      omega
    rw [e, wrap_of (by omega) (by omega)]
    exact ⟨_, rfl, hx.1, hx.2⟩
  · rw [if_neg h]
    have w1 : wrap64 (2 * 31) = 62 := wrap_of (by omega) (by omega)
    have w2 : wrap64 ((l.length : Int) * 7) = (l.length : Int) * 7 := wrap_of (by omega) (by omega)
    have w3 : wrap64 (62 + (l.length : Int) * 7) = 62 + (l.length : Int) * 7 := wrap_of (by omega) (by omega)
    rw [w1, w2, w3, Int.tmod_eq_emod_of_nonneg (by omega)]
    exact ⟨_, rfl, Int.emod_nonneg _ (by omega), by omega⟩

theorem totV_split (l : List S38) (m : Nat) : totV l = totV (l.take m) + totV (l.drop m) := by
  unfold totV
  rw [← List.sum_append, ← List.map_append, List.take_append_drop]
theorem gS_fit {x : S38} (h : gS x) : x.f5.length ≤ 1048576 ∧ ∀ y ∈ x.f5, y.f0.size ≤ 1048576 ∧ y.f3.size ≤ 1048576 :=
  ⟨by have := h.2.1; omega, fun y hy => by
    have := h.2.2 y hy
    exact ⟨Nat.le_trans this.1 (by decide), Nat.le_trans this.2 (by decide)⟩⟩
theorem l3Copy_eq (a b c d : Int) (e : Bool) (l : List S28) (hl : l.length ≤ 9) : spec_l3Copy.f a b c d e l = some (a, b, c, d, e, l) := by
  simp only [spec_l3Copy.f, Option.bind_some]
  rw [if_pos (by simp; omega)]
  rfl
theorem spanOk_true (a b c d : Int) (e : Bool) (l : List S28) (hl : l.length ≤ 1048576) (hf : ∀ x ∈ l, x.f0.size ≤ 1048576 ∧ x.f3.size ≤ 1048576) :
    ∃ K, ∀ k, K ≤ k → impl_SpanOk.f k a b c d e l = some true → 0 ≤ c ∧ c ≤ d ∧ d ≤ 99999 ∧ sizeV l ≤ 96 := by
  obtain ⟨r, _, ⟨K2, h2⟩⟩ := attrsOk_both l hl hf
  simp only at h2
  refine ⟨K2 + 1048577, fun k hk h => ?_⟩
  simp only [impl_SpanOk.f, impl_within_eq, Option.bind_some, h2 k (by omega), impl_SizeOf_at a b c d e l hl hf k (by omega)] at h
  cases h1 : inB a 1 999 with
  | false => rw [h1, if_neg (by decide)] at h; cases h
  | true =>
    cases h3 : inB b 1 999 with
    | false => rw [h1, h3, if_pos rfl, if_neg (by decide)] at h; cases h
    | true =>
      cases h4 : inB d 0 99999 with
      | false => rw [h1, h3, h4, if_pos rfl, if_pos rfl, if_neg (by decide)] at h; cases h
      | true =>
        cases h5 : inB c 0 d with
        | false => rw [h1, h3, h4, h5, if_pos rfl, if_pos rfl, if_pos rfl, if_neg (by decide)] at h; cases h
        | true =>
          cases r with
          | false => rw [h1, h3, h4, h5, if_pos rfl, if_pos rfl, if_pos rfl, if_pos rfl, if_neg (by decide)] at h; cases h
          | true =>
            rw [h1, h3, h4, h5, if_pos rfl, if_pos rfl, if_pos rfl, if_pos rfl, if_pos rfl] at h
            simp [inB] at h4 h5 h
            exact ⟨by omega, by omega, by omega, h⟩
theorem FnSpans : ∀ (l0 : (List Int)), ((l0.length ≤ maxLen ∧ ∀ y5 ∈ l0, (Lit.int .u8 y5).wf = true)) → ∃ k, laws_FnSpans.f k l0 = some true := by
  intro l hg
  by_cases hb : (l.length : Int) > 1048576
  · refine ⟨0, ?_⟩
    simp [laws_FnSpans.f, laws_big.f, hb]
  have hl : l.length ≤ 140737488351232 := by omega
  obtain ⟨h, K, hK⟩ := l1New_ex l hl
  simp only at hK
  have H0 := rdOk_0 l hl
  obtain ⟨a, b, c, d, e, q, j1, h1, e1, ga, H1⟩ := g3Any l 0 h H0
  have fa := gS_fit ga
  simp only at fa
  obtain ⟨⟨ia, ib, ic, id'⟩, gl, _⟩ := ga
  simp only at ia ib ic id' gl
  obtain ⟨o, j2, h2, e2, H2⟩ := l1Once_ex l j1 h1 2 H1
  have hs : ∃ a' b' c' d' e' q', ∀ k, 5 < k → K ≤ k → spec_DrawSameSpan.f k l = some (a, b, c, d, e, q, a', b', c', d', e', q') := by
    cases o with
    | true =>
      refine ⟨a, b, c, d, e, q, fun k hk hk2 => ?_⟩
      simp only [spec_DrawSameSpan.f, hK k hk2, Option.bind_some, e1 k hk, e2, if_true, l3Copy_eq a b c d e q gl]
    | false =>
      obtain ⟨a', b', c', d', e', q', j3, h3, e3, _, _⟩ := g3Any l j2 h2 H2
      refine ⟨a', b', c', d', e', q', fun k hk hk2 => ?_⟩
      simp only [spec_DrawSameSpan.f, hK k hk2, Option.bind_some, e1 k hk, e2, Bool.false_eq_true, if_false, e3 k hk]
  obtain ⟨a', b', c', d', e', q', hs⟩ := hs
  obtain ⟨x, j4, h4, e4, hx, gx, H4⟩ := g3List l 0 h H0
  obtain ⟨a2, b2, c2, d2, f2, q2, j5, h5, e5, g5, _⟩ := g3Any l j4 h4 H4
  obtain ⟨y, hy⟩ : ∃ y, y = x ++ [(⟨a2, b2, c2, d2, f2, q2⟩ : S38)] := ⟨_, rfl⟩
  have yl : y.length = x.length + 1 := by rw [hy, List.length_append]; rfl
  have gy : ∀ z ∈ y, z.f5.length ≤ 1048576 ∧ ∀ u ∈ z.f5, u.f0.size ≤ 1048576 ∧ u.f3.size ≤ 1048576 := by
    intro z hz
    rw [hy] at hz
    rcases List.mem_append.1 hz with hz | hz
    · exact gS_fit (gx z hz)
    · rw [List.mem_singleton.1 hz]
      exact gS_fit g5
  have ht : ∀ k, 12 < k → K ≤ k → spec_DrawTotalOf.f k l = some y := by
    intro k hk hk2
    simp only [spec_DrawTotalOf.f, hK k hk2, Option.bind_some, e4 k hk, e5 k (by omega)]
    rw [if_pos (by omega), hy]
  obtain ⟨t, h7, t0, t1⟩ := at_ex l (by omega) hg.2
  obtain ⟨m, hm⟩ : ∃ m, m = Int.tmod t (y.length : Int) := ⟨_, rfl⟩
  have m0 : 0 ≤ m ∧ m < (y.length : Int) := by
    rw [hm, Int.tmod_eq_emod_of_nonneg t0]
    exact ⟨Int.emod_nonneg _ (by omega), Int.emod_lt_of_pos _ (by omega)⟩
  obtain ⟨ok, r, ⟨K1, o1⟩, ⟨K2, o2⟩, ⟨K3, o3⟩, ⟨K4, o4⟩, r1, r2⟩ := spanText_both a b c d e q fa.1 fa.2 ia ib ic id'
  simp only at o1 o2 o3 o4
  obtain ⟨K5, o5⟩ := spanOk_true a b c d e q fa.1 fa.2
  obtain ⟨sm, hsm⟩ := sameSpan_both a b c d e q a' b' c' d' e' q' fa.1
  have hself := sameSpan_self a b c d e q fa.1
  have tl : (r.toList != ([] : List UInt8)) = ok := by
    cases ok with
    | true => simpa using pos_ne (r1 rfl)
    | false => rw [r2 rfl, ByteArray.toList_eq]; rfl
  obtain ⟨k, hk⟩ : ∃ k, k = K + K1 + K2 + K3 + K4 + K5 + 2097200 := ⟨_, rfl⟩
  have s1 := fun n hn => spec_SizeOf_at a b c d e q fa.1 fa.2 n hn
  have s2 := fun n hn => impl_SizeOf_at a b c d e q fa.1 fa.2 n hn
  have s3 := (sizes_range q fa.2).1
  have hj : ∀ n, K + K1 + K2 + K3 + K4 + K5 + 2097190 < n → laws_FnSpans.j0 (n + 1) y m false a b c d e q = some true := by
    intro n hn
    have tk : ∀ z ∈ y.take m.toNat, z.f5.length ≤ 1048576 ∧ ∀ u ∈ z.f5, u.f0.size ≤ 1048576 ∧ u.f3.size ≤ 1048576 := fun z hz => gy z (List.mem_of_mem_take hz)
    have td : ∀ z ∈ y.drop m.toNat, z.f5.length ≤ 1048576 ∧ ∀ u ∈ z.f5, u.f0.size ≤ 1048576 ∧ u.f3.size ≤ 1048576 := fun z hz => gy z (List.mem_of_mem_drop hz)
    have l1 : (y.take m.toNat).length ≤ 9 := Nat.le_trans (List.length_take_le' _ _) (by omega)
    have l2 : (y.drop m.toNat).length ≤ 9 := by rw [List.length_drop]; omega
    have z1 := impl_TotalOf_at y (by omega) gy n (by omega)
    have z2 := impl_TotalOf_at (y.take m.toNat) (by omega) tk n (by omega)
    have z3 := impl_TotalOf_at (y.drop m.toNat) (by omega) td n (by omega)
    have z4 := spec_TotalOf_at y (by omega) gy n (by omega)
    have w1 := totV_range (y.take m.toNat) tk
    have w2 := totV_range (y.drop m.toNat) td
    have w3 : wrap64 (totV (y.take m.toNat) + totV (y.drop m.toNat)) = totV y := by
      rw [totV_split y m.toNat]
      exact wrap_of (by omega) (by omega)
    simp only [laws_FnSpans.j0, z1, z2, z3, z4, w3, o4 n (by omega), o2 n (by omega), s2 n (by omega), impl_LengthOf_eq, Option.bind_some, tl]
    rw [if_neg (by decide), if_pos m0.1, if_pos (by omega), if_pos trivial, if_pos trivial, if_pos (by simp)]
    cases ok with
    | true =>
      obtain ⟨p0, p1, p2, p3⟩ := o5 n (by omega) (o2 n (by omega))
      have p4 : subv d c = wrap64 (d - c) := by
        have x1 : capv d = d := capv_id (by omega) (by omega)
        have x2 : capv c = c := capv_id p0 (by omega)
        unfold subv
        rw [x1, x2, capv_id (by omega) (by omega), wrap_of (by omega) (by omega)]
      rw [if_pos rfl, if_pos (by show 12 ≤ sizeV q; unfold sizeV; omega), if_pos p3, p4]
      simp
    | false => rw [if_neg (by decide)]
  have e0 : laws_big.f l = some false := by unfold laws_big.f; rw [decide_eq_false hb]
  have er : (r.toList != r.toList) = false := by simp
  have hd : spec_DrawSpanOk.f (k + 1) l = some (a, b, c, d, e, q) := by simp only [spec_DrawSpanOk.f, hK (k + 1) (by omega), Option.bind_some, e1 (k + 1) (by omega)]
  have hh := hj k (by omega)
  have v1 := (hsm (k + 1) (by omega)).1
  have v2 := (hsm (k + 1) (by omega)).2
  refine ⟨k + 1, ?_⟩
  simp only [laws_FnSpans.f, e0, Option.bind_some, hd, hs (k + 1) (by omega) (by omega), ht (k + 1) (by omega) (by omega), h7, ← hm, o1 (k + 1) (by omega), o2 (k + 1) (by omega), o3 (k + 1) (by omega), o4 (k + 1) (by omega),
    s1 (k + 1) (by omega), s2 (k + 1) (by omega), spec_LengthOf_eq, impl_LengthOf_eq, v1, v2, hself (k + 1) (by omega), er]
  rw [if_neg (by decide), if_neg (by omega), if_neg (by simp), if_pos trivial, if_pos trivial, if_neg (by simp), if_pos trivial]
  exact hh

end Go.Proofs.YtkhbhdchakbmhaaDoor.Pure
