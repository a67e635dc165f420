/- The program's Older returns what the reference's returns, for all arguments. Conditions: none beyond the statement's own. -/
import Derived.Test.YtfhblnbicnmndaaQFnExactOlderx
set_option linter.unusedVariables false
set_option linter.unusedSimpArgs false
namespace Go.Proofs.Ytfhblnbicnmndaa.Pure
open Go.RowKit Go.Proofs.Ytfhblnbicnmndaa.QFnExactOlder Go.Proofs.YtfhblnbicnmndaaW.PrintWords Go.Proofs.YtfhblnbicnmndaaW.PrintLast Go.Proofs.YtfhblnbicnmndaaW.PrintMore
def good110 (x : S110) : Prop := x.f0.size ≤ maxLen ∧ True ∧ (Lit.int .i64 x.f2).wf = true ∧ x.f3.size ≤ maxLen
def good70 (x : S70) : Prop := (Lit.int .i64 x.f0).wf = true ∧ (Lit.int .i64 x.f1).wf = true ∧ (Lit.int .i64 x.f2).wf = true ∧ (Lit.int .i64 x.f3).wf = true ∧ True ∧ (x.f5.length ≤ maxLen ∧ ∀ y110 ∈ x.f5, good110 y110)

/-- A loop over an index: from a state that is good, with enough rounds, it comes to an end that meets what is told of it. -/
theorem loop_ex {σ β : Type} {L : Nat → σ → Int → Option β} {n K : Nat} {I : σ → Nat → Prop} {Post : σ → Nat → β → Prop}
    (hend : ∀ s, I s n → ∃ r, Post s n r ∧ ∀ k, L (k + 1) s (n : Int) = some r)
    (hstep : ∀ s (i : Nat), i < n → I s i → (∃ r, Post s i r ∧ ∀ k, K ≤ k → L (k + 1) s (i : Int) = some r) ∨
      ∃ s', I s' (i + 1) ∧ (∀ k, K ≤ k → L (k + 1) s (i : Int) = L k s' ((i : Int) + 1)) ∧ ∀ r, Post s' (i + 1) r → Post s i r) :
    ∀ (d : Nat) s (i : Nat), i + d = n → I s i → ∃ r, Post s i r ∧ ∀ k, K + d < k → L k s (i : Int) = some r := by
  intro d
  induction d with
  | zero =>
    intro s i hd hI
    obtain rfl : i = n := by omega
    obtain ⟨r, hp, hr⟩ := hend s hI
    refine ⟨r, hp, fun k hk => ?_⟩
    obtain ⟨k, rfl⟩ : ∃ m, k = m + 1 := ⟨k - 1, by omega⟩
    exact hr k
  | succ d ih =>
    intro s i hd hI
    rcases hstep s i (by omega) hI with ⟨r, hp, hr⟩ | ⟨s', hI', he, hp⟩
    · refine ⟨r, hp, fun k hk => ?_⟩
      obtain ⟨k, rfl⟩ : ∃ m, k = m + 1 := ⟨k - 1, by omega⟩
      exact hr k (by omega)
    · obtain ⟨r, hq, hr⟩ := ih s' (i + 1) (by omega) hI'
      refine ⟨r, hp r hq, fun k hk => ?_⟩
      obtain ⟨k, rfl⟩ : ∃ m, k = m + 1 := ⟨k - 1, by omega⟩
      rw [he k (by omega)]
      have := hr k (by omega)
      rw [Int.natCast_add] at this
      exact this
theorem ev_at {α : Type} {g : Nat → Option α} {r : α} (K : Nat) (h : ∀ k, K < k → g k = some r) : Ev g r := ⟨K + 1, fun k hk => h k (by omega)⟩
theorem wrap_of {x : Int} (h0 : -9223372036854775808 ≤ x) (h1 : x ≤ 9223372036854775807) : wrap64 x = x := by
  unfold wrap64
  omega
theorem wrap_nat1 {i n : Nat} (h : i < n) (hn : n ≤ 9223372036854775807) : wrap64 ((i : Int) + 1) = (i : Int) + 1 := wrap_of (by omega) (by omega)
theorem lt_cast {i n : Nat} (h : i < n) : (i : Int) < (n : Int) := by omega
theorem nn_cast (i : Nat) : 0 ≤ (i : Int) := by omega
theorem not_lt_cast (n : Nat) : ¬ (n : Int) < (n : Int) := by omega
/-- What is written cell by cell. -/
theorem fill_set {α : Type} (l : List α) (z : α) (i : Nat) (h : i < l.length) : (l.take i ++ List.replicate (l.length - i) z).set i l[i] = l.take (i + 1) ++ List.replicate (l.length - (i + 1)) z := by
  have e1 : l.length - i = (l.length - (i + 1)) + 1 := by omega
  have e2 : (l.take i).length = i := by rw [List.length_take]; omega
  rw [e1, List.replicate_succ, List.set_append_right _ _ (by omega), e2, Nat.sub_self, List.set_cons_zero, List.take_succ_eq_append_getElem h, List.append_assoc]
  rfl
theorem fill_len {α : Type} (l : List α) (z : α) (i : Nat) (h : i ≤ l.length) : (l.take i ++ List.replicate (l.length - i) z).length = l.length := by
  rw [List.length_append, List.length_take, List.length_replicate]
  omega

theorem szAttr_ex (a : ByteArray) (b : Bool) (c : Int) (e : ByteArray) (left : Int) (ha : a.size ≤ maxLen) (he : e.size ≤ maxLen) (h0 : 0 ≤ left) (h1 : left ≤ 1048576) :
    ∃ v, laws_szAttr.f a b c e left = some v ∧ v ≤ left ∧ (0 ≤ v → (a.size : Int) ≤ left ∧ (e.size : Int) ≤ left) := by
  unfold maxLen at ha he
  unfold laws_szAttr.f
  have w1 : wrap64 (left - (a.size : Int)) = left - (a.size : Int) := wrap_of (by omega) (by omega)
  rw [w1]
  by_cases c1 : left - (a.size : Int) < 0
  · rw [if_pos c1]
    exact ⟨-1, rfl, by omega, by omega⟩
  · rw [if_neg c1]
    have w2 : wrap64 (left - (a.size : Int) - (e.size : Int)) = left - (a.size : Int) - (e.size : Int) := wrap_of (by omega) (by omega)
    rw [w2]
    by_cases c2 : left - (a.size : Int) - (e.size : Int) < 0
    · rw [if_pos c2]
      exact ⟨-1, rfl, by omega, by omega⟩
    · rw [if_neg c2]
      exact ⟨_, rfl, by omega, by omega⟩

theorem rdLA (l : List S110) (i : Nat) (h : i < l.length) : rd_T110 l (i : Int) = l[i] := by
  simp [rd_T110, List.getD_eq_getElem?_getD, h]

def fitA (x : S110) : Prop := x.f0.size ≤ 1048576 ∧ x.f3.size ≤ 1048576
theorem szAttrS_at (l : List S110) (left : Int) (hl : l.length ≤ maxLen) (hg : ∀ x ∈ l, good110 x) (h0 : 0 ≤ left) (h1 : left ≤ 1048576) :
    ∃ v, (∀ k, 1048576 < k → laws_szAttrS.f k l left = some v) ∧ v ≤ left ∧ (0 ≤ v → (l.length : Int) ≤ left ∧ ∀ x ∈ l, fitA x) := by
  unfold maxLen at hl
  have w1 : wrap64 (left - (l.length : Int)) = left - (l.length : Int) := wrap_of (by omega) (by omega)
  by_cases c1 : left - (l.length : Int) < 0
  · refine ⟨-1, fun k _ => ?_, by omega, by omega⟩
    simp only [laws_szAttrS.f]
    rw [w1, if_pos c1]
  · obtain ⟨r, ⟨hr1, hr2⟩, h⟩ := loop_ex (σ := Int) (L := fun k s i => laws_szAttrS.l0 k l s i) (n := l.length) (K := 0)
      (I := fun s _ => 0 ≤ s ∧ s ≤ left) (Post := fun s i r => r ≤ s ∧ (0 ≤ r → ∀ j (h : j < l.length), i ≤ j → fitA l[j]))
      (fun s hI => ⟨s, ⟨by omega, fun _ j hj hij => by omega⟩, fun k => by
        simp only [laws_szAttrS.l0]
        rw [if_neg (not_lt_cast _)]⟩)
      (fun s i hi hI => by
        obtain ⟨g1, _, _, g2⟩ := hg l[i] (List.getElem_mem hi)
        obtain ⟨v, hv, hv1, hv2⟩ := szAttr_ex l[i].f0 l[i].f1 l[i].f2 l[i].f3 s g1 g2 hI.1 (by omega)
        by_cases hneg : v < 0
        · refine .inl ⟨-1, ⟨by omega, by omega⟩, fun k _ => ?_⟩
          simp only [laws_szAttrS.l0]
          rw [if_pos (lt_cast hi), if_pos (nn_cast i), rdLA _ _ hi, hv, Option.bind_some, if_pos hneg]
        · refine .inr ⟨v, ⟨by omega, by omega⟩, fun k _ => ?_, fun r hr => ⟨by omega, fun hr0 j hj hij => ?_⟩⟩
          · simp only [laws_szAttrS.l0]
            rw [if_pos (lt_cast hi), if_pos (nn_cast i), rdLA _ _ hi, hv, Option.bind_some, if_neg hneg, wrap_nat1 hi (by omega)]
          · rcases Nat.lt_or_ge i j with hlt | hge
            · exact hr.2 hr0 j hj hlt
            · obtain rfl : i = j := by omega
              have := hv2 (by omega)
              exact ⟨by omega, by omega⟩) l.length (left - (l.length : Int)) 0 (by omega) ⟨by omega, by omega⟩
    refine ⟨r, fun k hk => ?_, by omega, fun hr0 => ⟨by omega, fun x hx => ?_⟩⟩
    · simp only [laws_szAttrS.f]
      rw [w1, if_neg c1]
      exact h k (by omega)
    · obtain ⟨j, hj, rfl⟩ := List.getElem_of_mem hx
      exact hr2 hr0 j hj (by omega)

theorem szSpan_at (a b c d : Int) (e : Bool) (l : List S110) (left : Int) (hl : l.length ≤ maxLen) (hg : ∀ x ∈ l, good110 x) (h0 : 0 ≤ left) (h1 : left ≤ 1048576) :
    ∃ v, (∀ k, 1048576 < k → laws_szSpan.f k a b c d e l left = some v) ∧ v ≤ left ∧ (0 ≤ v → (l.length : Int) ≤ left ∧ ∀ x ∈ l, fitA x) := by
  obtain ⟨v, hv, hv1, hv2⟩ := szAttrS_at l left hl hg h0 h1
  by_cases hn : v < 0
  · refine ⟨-1, fun k hk => ?_, by omega, by omega⟩
    simp only [laws_szSpan.f, hv k hk, Option.bind_some]
    rw [if_pos hn]
  · refine ⟨v, fun k hk => ?_, hv1, hv2⟩
    simp only [laws_szSpan.f, hv k hk, Option.bind_some]
    rw [if_neg hn]
theorem szSpan_ex (a b c d : Int) (e : Bool) (l : List S110) (left : Int) (hl : l.length ≤ maxLen) (hg : ∀ x ∈ l, good110 x) (h0 : 0 ≤ left) (h1 : left ≤ 1048576) :
    ∃ v, Ev (fun k => laws_szSpan.f k a b c d e l left) v ∧ v ≤ left ∧ (0 ≤ v → (l.length : Int) ≤ left ∧ ∀ x ∈ l, fitA x) := by
  obtain ⟨v, h, h2⟩ := szSpan_at a b c d e l left hl hg h0 h1
  exact ⟨v, ev_at 1048576 h, h2⟩

theorem rdLS (l : List S70) (i : Nat) (h : i < l.length) : rd_T70 l (i : Int) = l[i] := by
  simp [rd_T70, List.getD_eq_getElem?_getD, h]

def fitS (x : S70) : Prop := x.f5.length ≤ 1048576 ∧ ∀ y ∈ x.f5, fitA y
theorem szSpanS_at (l : List S70) (left : Int) (hl : l.length ≤ maxLen) (hg : ∀ x ∈ l, good70 x) (h0 : 0 ≤ left) (h1 : left ≤ 1048576) :
    ∃ v, (∀ k, 2097153 < k → laws_szSpanS.f k l left = some v) ∧ v ≤ left ∧ (0 ≤ v → (l.length : Int) ≤ left ∧ ∀ x ∈ l, fitS x) := by
  unfold maxLen at hl
  have w1 : wrap64 (left - (l.length : Int)) = left - (l.length : Int) := wrap_of (by omega) (by omega)
  by_cases c1 : left - (l.length : Int) < 0
  · refine ⟨-1, fun k _ => ?_, by omega, by omega⟩
    simp only [laws_szSpanS.f]
    rw [w1, if_pos c1]
  · obtain ⟨r, ⟨hr1, hr2⟩, h⟩ := loop_ex (σ := Int) (L := fun k s i => laws_szSpanS.l0 k l s i) (n := l.length) (K := 1048577)
      (I := fun s _ => 0 ≤ s ∧ s ≤ left) (Post := fun s i r => r ≤ s ∧ (0 ≤ r → ∀ j (h : j < l.length), i ≤ j → fitS l[j]))
      (fun s hI => ⟨s, ⟨by omega, fun _ j hj hij => by omega⟩, fun k => by
        simp only [laws_szSpanS.l0]
        rw [if_neg (not_lt_cast _)]⟩)
      (fun s i hi hI => by
        obtain ⟨_, _, _, _, _, g1, g2⟩ := hg l[i] (List.getElem_mem hi)
        obtain ⟨v, hv, hv1, hv2⟩ := szSpan_at l[i].f0 l[i].f1 l[i].f2 l[i].f3 l[i].f4 l[i].f5 s g1 g2 hI.1 (by omega)
        by_cases hneg : v < 0
        · refine .inl ⟨-1, ⟨by omega, by omega⟩, fun k hk => ?_⟩
          simp only [laws_szSpanS.l0]
          rw [if_pos (lt_cast hi), if_pos (nn_cast i), rdLS _ _ hi, hv k (by omega), Option.bind_some, if_pos hneg]
        · refine .inr ⟨v, ⟨by omega, by omega⟩, fun k hk => ?_, fun r hr => ⟨by omega, fun hr0 j hj hij => ?_⟩⟩
          · simp only [laws_szSpanS.l0]
            rw [if_pos (lt_cast hi), if_pos (nn_cast i), rdLS _ _ hi, hv k (by omega), Option.bind_some, if_neg hneg, wrap_nat1 hi (by omega)]
          · rcases Nat.lt_or_ge i j with hlt | hge
            · exact hr.2 hr0 j hj hlt
            · obtain rfl : i = j := by omega
              have := hv2 (by omega)
              exact ⟨by omega, this.2⟩) l.length (left - (l.length : Int)) 0 (by omega) ⟨by omega, by omega⟩
    refine ⟨r, fun k hk => ?_, by omega, fun hr0 => ⟨by omega, fun x hx => ?_⟩⟩
    · simp only [laws_szSpanS.f]
      rw [w1, if_neg c1]
      exact h k (by omega)
    · obtain ⟨j, hj, rfl⟩ := List.getElem_of_mem hx
      exact hr2 hr0 j hj (by omega)

def cvA (x : S110) : S83 := ⟨x.f0, x.f1, x.f2, x.f3⟩
theorem toAttrS_at (l : List S110) (hl : l.length ≤ 1048576) : ∀ k, 1048576 < k → laws_toAttrS.f k l = some (l.map cvA) := by
  have hm : (l.map cvA).length = l.length := by simp
  obtain ⟨r, hr, h⟩ := loop_ex (σ := List S83) (L := fun k s i => laws_toAttrS.l0 k l s i) (n := l.length) (K := 0)
    (I := fun s i => s = (l.map cvA).take i ++ List.replicate ((l.map cvA).length - i) z83) (Post := fun _ _ r => r = l.map cvA)
    (fun s hI => ⟨_, rfl, fun k => by
      simp only [laws_toAttrS.l0]
      rw [if_neg (not_lt_cast _), hI, ← hm, List.take_length, Nat.sub_self]
      simp⟩)
    (fun s i hi hI => .inr ⟨_, rfl, fun k _ => by
      have hi' : i < (l.map cvA).length := by omega
      have e : (⟨l[i].f0, l[i].f1, l[i].f2, l[i].f3⟩ : S83) = (l.map cvA)[i] := by rw [List.getElem_map]; rfl
      simp only [laws_toAttrS.l0, laws_toAttr.f, Option.bind_some]
      rw [if_pos (lt_cast hi), if_pos (nn_cast i), hI, fill_len _ _ _ (by omega), if_pos (lt_cast hi'), rdLA _ _ hi, wrap_nat1 hi (by omega), e]
      simp only [Int.toNat_natCast]
      rw [fill_set _ _ _ hi'], fun _ h => h⟩) l.length (List.replicate l.length z83) 0 (by omega) (by simp)
  subst hr
  intro k hk
  simp only [laws_toAttrS.f]
  rw [if_pos (by omega), if_pos (by simp; omega)]
  exact h k (by omega)
theorem toAttrS_ev (l : List S110) (hl : l.length ≤ 1048576) : Ev (fun k => laws_toAttrS.f k l) (l.map cvA) := ev_at 1048576 (toAttrS_at l hl)

theorem toSpan_at (a b c d : Int) (e : Bool) (l : List S110) (hl : l.length ≤ 1048576) : ∀ k, 1048576 < k → laws_toSpan.f k a b c d e l = some (a, b, c, d, e, l.map cvA) := by
  intro k hk
  simp only [laws_toSpan.f, toAttrS_at l hl k hk, Option.bind_some]
theorem toSpan_ev (a b c d : Int) (e : Bool) (l : List S110) (hl : l.length ≤ 1048576) : Ev (fun k => laws_toSpan.f k a b c d e l) (a, b, c, d, e, l.map cvA) := ev_at 1048576 (toSpan_at a b c d e l hl)

def cvS (x : S70) : S73 := ⟨x.f0, x.f1, x.f2, x.f3, x.f4, x.f5.map cvA⟩
theorem toSpanS_at (l : List S70) (hl : l.length ≤ 1048576) (hf : ∀ x ∈ l, x.f5.length ≤ 1048576) : ∀ k, 2097153 < k → laws_toSpanS.f k l = some (l.map cvS) := by
  have hm : (l.map cvS).length = l.length := by simp
  obtain ⟨r, hr, h⟩ := loop_ex (σ := List S73) (L := fun k s i => laws_toSpanS.l0 k l s i) (n := l.length) (K := 1048577)
    (I := fun s i => s = (l.map cvS).take i ++ List.replicate ((l.map cvS).length - i) z73) (Post := fun _ _ r => r = l.map cvS)
    (fun s hI => ⟨_, rfl, fun k => by
      simp only [laws_toSpanS.l0]
      rw [if_neg (not_lt_cast _), hI, ← hm, List.take_length, Nat.sub_self]
      simp⟩)
    (fun s i hi hI => .inr ⟨_, rfl, fun k hk => by
      have hi' : i < (l.map cvS).length := by omega
      have e : (⟨l[i].f0, l[i].f1, l[i].f2, l[i].f3, l[i].f4, l[i].f5.map cvA⟩ : S73) = (l.map cvS)[i] := by rw [List.getElem_map]; rfl
      simp only [laws_toSpanS.l0]
      rw [if_pos (lt_cast hi), if_pos (nn_cast i), rdLS _ _ hi, toSpan_at _ _ _ _ _ _ (hf _ (List.getElem_mem hi)) k (by omega), Option.bind_some, hI, fill_len _ _ _ (by omega), if_pos (lt_cast hi'), wrap_nat1 hi (by omega), e]
      simp only [Int.toNat_natCast]
      rw [fill_set _ _ _ hi'], fun _ h => h⟩) l.length (List.replicate l.length z73) 0 (by omega) (by simp)
  subst hr
  intro k hk
  simp only [laws_toSpanS.f]
  rw [if_pos (by omega), if_pos (by simp; omega)]
  exact h k (by omega)
theorem fitS_map (l : List S70) (h : ∀ x ∈ l, fitS x) : ∀ x ∈ l.map cvS, x.f5.length ≤ 1048576 ∧ ∀ y ∈ x.f5, y.f0.size ≤ 1048576 ∧ y.f3.size ≤ 1048576 := by
  intro x hx
  obtain ⟨y, hy, rfl⟩ := List.mem_map.1 hx
  have := h y hy
  refine ⟨by simpa [cvS] using this.1, fun z hz => ?_⟩
  obtain ⟨u, hu, rfl⟩ := List.mem_map.1 hz
  exact this.2 u hu

theorem rdIA (l : List S83) (i : Nat) (h : i < l.length) : rd_T83 l (i : Int) = l[i] := by
  simp [rd_T83, List.getD_eq_getElem?_getD, h]

theorem eqAttr_self (a : ByteArray) (b : Bool) (c : Int) (e : ByteArray) : laws_eqAttr.f a b c e a b c e = some true := by
  simp [laws_eqAttr.f]

theorem eqAttrS_at (l : List S83) (hl : l.length ≤ 1048576) : ∀ k, 1048576 < k → laws_eqAttrS.f k l l = some true := by
  obtain ⟨r, hr, h⟩ := loop_ex (σ := Unit) (L := fun k _ i => laws_eqAttrS.l0 k l l i) (n := l.length) (K := 0)
    (I := fun _ _ => True) (Post := fun _ _ r => r = true)
    (fun s hI => ⟨true, rfl, fun k => by
      simp only [laws_eqAttrS.l0]
      rw [if_neg (not_lt_cast _)]⟩)
    (fun s i hi hI => .inr ⟨(), trivial, fun k _ => by
      simp only [laws_eqAttrS.l0, eqAttr_self, Option.bind_some, if_true]
      rw [if_pos (lt_cast hi), if_pos (nn_cast i), if_pos (lt_cast hi), wrap_nat1 hi (by omega)], fun _ h => h⟩) l.length () 0 (by omega) trivial
  subst hr
  intro k hk
  simp only [laws_eqAttrS.f, if_true]
  exact h k (by omega)
theorem eqAttrS_self (l : List S83) (hl : l.length ≤ 1048576) : Ev (fun k => laws_eqAttrS.f k l l) true := ev_at 1048576 (eqAttrS_at l hl)

theorem eqSpan_at (a b c d : Int) (e : Bool) (l : List S83) (hl : l.length ≤ 1048576) : ∀ k, 1048576 < k → laws_eqSpan.f k a b c d e l a b c d e l = some true := by
  intro k hk
  simp [laws_eqSpan.f, eqAttrS_at l hl k hk]
theorem eqSpan_self (a b c d : Int) (e : Bool) (l : List S83) (hl : l.length ≤ 1048576) : Ev (fun k => laws_eqSpan.f k a b c d e l a b c d e l) true := ev_at 1048576 (eqSpan_at a b c d e l hl)

theorem rdIS (l : List S73) (i : Nat) (h : i < l.length) : rd_T73 l (i : Int) = l[i] := by
  simp [rd_T73, List.getD_eq_getElem?_getD, h]

theorem eqSpanS_at (l : List S73) (hl : l.length ≤ 1048576) (hf : ∀ x ∈ l, x.f5.length ≤ 1048576) : ∀ k, 2097153 < k → laws_eqSpanS.f k l l = some true := by
  obtain ⟨r, hr, h⟩ := loop_ex (σ := Unit) (L := fun k _ i => laws_eqSpanS.l0 k l l i) (n := l.length) (K := 1048577)
    (I := fun _ _ => True) (Post := fun _ _ r => r = true)
    (fun s hI => ⟨true, rfl, fun k => by
      simp only [laws_eqSpanS.l0]
      rw [if_neg (not_lt_cast _)]⟩)
    (fun s i hi hI => .inr ⟨(), trivial, fun k hk => by
      simp only [laws_eqSpanS.l0]
      rw [if_pos (lt_cast hi), if_pos (nn_cast i), if_pos (lt_cast hi), rdIS _ _ hi, eqSpan_at _ _ _ _ _ _ (hf _ (List.getElem_mem hi)) k (by omega), wrap_nat1 hi (by omega)]
      rfl, fun _ h => h⟩) l.length () 0 (by omega) trivial
  subst hr
  intro k hk
  simp only [laws_eqSpanS.f, if_true]
  exact h k (by omega)

theorem szTrail_at (a b c : Int) (l : List S70) (left : Int) (hl : l.length ≤ maxLen) (hg : ∀ x ∈ l, good70 x) (h0 : 0 ≤ left) (h1 : left ≤ 1048576) :
    ∃ v, (∀ k, 2097153 < k → laws_szTrail.f k a b c l left = some v) ∧ v ≤ left ∧ (0 ≤ v → (l.length : Int) ≤ left ∧ ∀ x ∈ l, fitS x) := by
  obtain ⟨v, hv, hv1, hv2⟩ := szSpanS_at l left hl hg h0 h1
  by_cases hn : v < 0
  · refine ⟨-1, fun k hk => ?_, by omega, by omega⟩
    simp only [laws_szTrail.f, hv k hk, Option.bind_some]
    rw [if_pos hn]
  · refine ⟨v, fun k hk => ?_, hv1, hv2⟩
    simp only [laws_szTrail.f, hv k hk, Option.bind_some]
    rw [if_neg hn]
theorem toTrail_at (a b c : Int) (l : List S70) (hl : l.length ≤ 1048576) (hf : ∀ x ∈ l, x.f5.length ≤ 1048576) : ∀ k, 2097153 < k → laws_toTrail.f k a b c l = some (a, b, c, l.map cvS) := by
  intro k hk
  simp only [laws_toTrail.f, toSpanS_at l hl hf k hk, Option.bind_some]
theorem eqTrail_at (a b c : Int) (l : List S73) (hl : l.length ≤ 1048576) (hf : ∀ x ∈ l, x.f5.length ≤ 1048576) : ∀ k, 2097153 < k → laws_eqTrail.f k a b c l a b c l = some true := by
  intro k hk
  simp [laws_eqTrail.f, eqSpanS_at l hl hf k hk]
theorem FnExactOlder : ∀ (a0_0 : Int) (a0_1 : Int) (a0_2 : Int) (l0_3 : (List S70)) (a1_0 : Int) (a1_1 : Int) (a1_2 : Int) (l1_3 : (List S70)), ((Lit.int .i64 a0_0).wf = true ∧ (Lit.int .i64 a0_1).wf = true ∧ (Lit.int .i64 a0_2).wf = true ∧ (l0_3.length ≤ maxLen ∧ ∀ y70 ∈ l0_3, good70 y70)) → ((Lit.int .i64 a1_0).wf = true ∧ (Lit.int .i64 a1_1).wf = true ∧ (Lit.int .i64 a1_2).wf = true ∧ (l1_3.length ≤ maxLen ∧ ∀ y70 ∈ l1_3, good70 y70)) → ∃ k, laws_FnExactOlder.f k a0_0 a0_1 a0_2 l0_3 a1_0 a1_1 a1_2 l1_3 = some true := by
  intro a b c l a' b' c' l' hg hg'
  obtain ⟨v, hv, hv1, hv2⟩ := szTrail_at a b c l 1048576 hg.2.2.2.1 hg.2.2.2.2 (by omega) (by omega)
  refine ⟨2097154, ?_⟩
  by_cases hn : v < 0
  · simp only [laws_FnExactOlder.f, hv 2097154 (by omega), Option.bind_some]
    rw [if_pos hn]
  obtain ⟨v', hv', hv1', hv2'⟩ := szTrail_at a' b' c' l' v hg'.2.2.2.1 hg'.2.2.2.2 (by omega) (by omega)
  by_cases hn' : v' < 0
  · simp only [laws_FnExactOlder.f, hv 2097154 (by omega), hv' 2097154 (by omega), Option.bind_some]
    rw [if_neg hn, if_pos hn']
  have hf := hv2 (by omega)
  have hf' := hv2' (by omega)
  have hm : (l.map cvS).length ≤ 1048576 := by simp; omega
  have hm' : (l'.map cvS).length ≤ 1048576 := by simp; omega
  have h1 := toTrail_at a b c l (by omega) (fun x hx => (hf.2 x hx).1) 2097154 (by omega)
  have h1' := toTrail_at a' b' c' l' (by omega) (fun x hx => (hf'.2 x hx).1) 2097154 (by omega)
  have h4 := eqTrail_at a b c (l.map cvS) hm (fun x hx => (fitS_map l hf.2 x hx).1) 2097154 (by omega)
  have h4' := eqTrail_at a' b' c' (l'.map cvS) hm' (fun x hx => (fitS_map l' hf'.2 x hx).1) 2097154 (by omega)
  have e : ∃ r, spec_Older.f a b c (l.map cvS) a' b' c' (l'.map cvS) = some r ∧ impl_Older.f a b c (l.map cvS) a' b' c' (l'.map cvS) = some r := by
    unfold spec_Older.f impl_Older.f
    (repeat' split) <;> exact ⟨_, rfl, rfl⟩
  obtain ⟨r, e1, e2⟩ := e
  simp only [laws_FnExactOlder.f, hv 2097154 (by omega), hv' 2097154 (by omega), h1, h1', h4, h4', e1, e2, Option.bind_some, if_true]
  rw [if_neg hn, if_neg hn']
  simp

end Go.Proofs.Ytfhblnbicnmndaa.Pure
