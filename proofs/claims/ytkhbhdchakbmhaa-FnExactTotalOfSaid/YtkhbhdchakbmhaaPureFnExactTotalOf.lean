/- The program's TotalOf returns what the reference's returns, for all arguments. Conditions: none beyond the statement's own. -/
import Derived.Test.YtkhbhdchakbmhaaQFnExactTotalOfx
set_option linter.unusedVariables false
set_option linter.unusedSimpArgs false
namespace Go.Proofs.Ytkhbhdchakbmhaa.Pure
open Go.RowKit Go.Proofs.Ytkhbhdchakbmhaa.QFnExactTotalOf Go.Proofs.YtkhbhdchakbmhaaW.PrintWords Go.Proofs.YtkhbhdchakbmhaaW.PrintLast Go.Proofs.YtkhbhdchakbmhaaW.PrintMore
def good58 (x : S58) : Prop := x.f0.size ≤ maxLen ∧ True ∧ (Lit.int .i64 x.f2).wf = true ∧ x.f3.size ≤ maxLen
def good24 (x : S24) : Prop := (Lit.int .i64 x.f0).wf = true ∧ (Lit.int .i64 x.f1).wf = true ∧ (Lit.int .i64 x.f2).wf = true ∧ (Lit.int .i64 x.f3).wf = true ∧ True ∧ (x.f5.length ≤ maxLen ∧ ∀ y58 ∈ x.f5, good58 y58)

/-- A loop over an index: from a state that is good, with enough rounds, it comes to an end that meets what is told of it. -/
theorem loop_ex {σ β : Type} {L : Nat → σ → Int → Option β} {n K : Nat} {I : σ → Nat → Prop} {Post : σ → Nat → β → Prop}
    (hend : ∀ s, I s n → ∃ r, Post s n r ∧ ∀ k, L (k + 1) s (n : Int) = some r)
    (hstep : ∀ s (i : Nat), i < n → I s i → (∃ r, Post s i r ∧ ∀ k, K ≤ k → L (k + 1) s (i : Int) = some r) ∨
      ∃ s', I s' (i + 1) ∧ (∀ k, K ≤ k → L (k + 1) s (i : Int) = L k s' ((i : Int) + 1)) ∧ ∀ r, Post s' (i + 1) r → Post s i r) :
    ∀ (d : Nat) s (i : Nat), i + d = n → I s i → ∃ r, Post s i r ∧ ∀ k, K + d < k → L k s (i : Int) = some r := by
  intro d
  induction d with
  | zero =>
    intro s i hd hI
    obtain rfl : i = n := by omega
    obtain ⟨r, hp, hr⟩ := hend s hI
    refine ⟨r, hp, fun k hk => ?_⟩
    obtain ⟨k, rfl⟩ : ∃ m, k = m + 1 := ⟨k - 1, by omega⟩
    exact hr k
  | succ d ih =>
    intro s i hd hI
    rcases hstep s i (by omega) hI with ⟨r, hp, hr⟩ | ⟨s', hI', he, hp⟩
    · refine ⟨r, hp, fun k hk => ?_⟩
      obtain ⟨k, rfl⟩ : ∃ m, k = m + 1 := ⟨k - 1, by omega⟩
      exact hr k (by omega)
    · obtain ⟨r, hq, hr⟩ := ih s' (i + 1) (by omega) hI'
      refine ⟨r, hp r hq, fun k hk => ?_⟩
      obtain ⟨k, rfl⟩ : ∃ m, k = m + 1 := ⟨k - 1, by omega⟩
      rw [he k (by omega)]
      have := hr k (by omega)
      rw [Int.natCast_add] at this
      exact this
theorem ev_at {α : Type} {g : Nat → Option α} {r : α} (K : Nat) (h : ∀ k, K < k → g k = some r) : Ev g r := ⟨K + 1, fun k hk => h k (by omega)⟩
theorem wrap_of {x : Int} (h0 : -9223372036854775808 ≤ x) (h1 : x ≤ 9223372036854775807) : wrap64 x = x := by
  unfold wrap64
  omega
theorem wrap_nat1 {i n : Nat} (h : i < n) (hn : n ≤ 9223372036854775807) : wrap64 ((i : Int) + 1) = (i : Int) + 1 := wrap_of (by omega) (by omega)
theorem lt_cast {i n : Nat} (h : i < n) : (i : Int) < (n : Int) := by omega
theorem nn_cast (i : Nat) : 0 ≤ (i : Int) := by omega
theorem not_lt_cast (n : Nat) : ¬ (n : Int) < (n : Int) := by omega
/-- What is written cell by cell. -/
theorem fill_set {α : Type} (l : List α) (z : α) (i : Nat) (h : i < l.length) : (l.take i ++ List.replicate (l.length - i) z).set i l[i] = l.take (i + 1) ++ List.replicate (l.length - (i + 1)) z := by
  have e1 : l.length - i = (l.length - (i + 1)) + 1 := by omega
  have e2 : (l.take i).length = i := by rw [List.length_take]; omega
  rw [e1, List.replicate_succ, List.set_append_right _ _ (by omega), e2, Nat.sub_self, List.set_cons_zero, List.take_succ_eq_append_getElem h, List.append_assoc]
  rfl
theorem fill_len {α : Type} (l : List α) (z : α) (i : Nat) (h : i ≤ l.length) : (l.take i ++ List.replicate (l.length - i) z).length = l.length := by
  rw [List.length_append, List.length_take, List.length_replicate]
  omega

theorem szAttr_ex (a : ByteArray) (b : Bool) (c : Int) (e : ByteArray) (left : Int) (ha : a.size ≤ maxLen) (he : e.size ≤ maxLen) (h0 : 0 ≤ left) (h1 : left ≤ 1048576) :
    ∃ v, laws_szAttr.f a b c e left = some v ∧ v ≤ left ∧ (0 ≤ v → (a.size : Int) ≤ left ∧ (e.size : Int) ≤ left) := by
  unfold maxLen at ha he
  unfold laws_szAttr.f
  have w1 : wrap64 (left - (a.size : Int)) = left - (a.size : Int) := wrap_of (by omega) (by omega)
  rw [w1]
  by_cases c1 : left - (a.size : Int) < 0
  · rw [if_pos c1]
    exact ⟨-1, rfl, by omega, by omega⟩
  · rw [if_neg c1]
    have w2 : wrap64 (left - (a.size : Int) - (e.size : Int)) = left - (a.size : Int) - (e.size : Int) := wrap_of (by omega) (by omega)
    rw [w2]
    by_cases c2 : left - (a.size : Int) - (e.size : Int) < 0
    · rw [if_pos c2]
      exact ⟨-1, rfl, by omega, by omega⟩
    · rw [if_neg c2]
      exact ⟨_, rfl, by omega, by omega⟩

theorem rdLA (l : List S58) (i : Nat) (h : i < l.length) : rd_T58 l (i : Int) = l[i] := by
  simp [rd_T58, List.getD_eq_getElem?_getD, h]

def fitA (x : S58) : Prop := x.f0.size ≤ 1048576 ∧ x.f3.size ≤ 1048576
theorem szAttrS_at (l : List S58) (left : Int) (hl : l.length ≤ maxLen) (hg : ∀ x ∈ l, good58 x) (h0 : 0 ≤ left) (h1 : left ≤ 1048576) :
    ∃ v, (∀ k, 1048576 < k → laws_szAttrS.f k l left = some v) ∧ v ≤ left ∧ (0 ≤ v → (l.length : Int) ≤ left ∧ ∀ x ∈ l, fitA x) := by
  unfold maxLen at hl
  have w1 : wrap64 (left - (l.length : Int)) = left - (l.length : Int) := wrap_of (by omega) (by omega)
  by_cases c1 : left - (l.length : Int) < 0
  · refine ⟨-1, fun k _ => ?_, by omega, by omega⟩
    simp only [laws_szAttrS.f]
    rw [w1, if_pos c1]
  · obtain ⟨r, ⟨hr1, hr2⟩, h⟩ := loop_ex (σ := Int) (L := fun k s i => laws_szAttrS.l0 k l s i) (n := l.length) (K := 0)
      (I := fun s _ => 0 ≤ s ∧ s ≤ left) (Post := fun s i r => r ≤ s ∧ (0 ≤ r → ∀ j (h : j < l.length), i ≤ j → fitA l[j]))
      (fun s hI => ⟨s, ⟨by omega, fun _ j hj hij => by omega⟩, fun k => by
        simp only [laws_szAttrS.l0]
        rw [if_neg (not_lt_cast _)]⟩)
      (fun s i hi hI => by
        obtain ⟨g1, _, _, g2⟩ := hg l[i] (List.getElem_mem hi)
        obtain ⟨v, hv, hv1, hv2⟩ := szAttr_ex l[i].f0 l[i].f1 l[i].f2 l[i].f3 s g1 g2 hI.1 (by omega)
        by_cases hneg : v < 0
        · refine .inl ⟨-1, ⟨by omega, by omega⟩, fun k _ => ?_⟩
          simp only [laws_szAttrS.l0]
          rw [if_pos (lt_cast hi), if_pos (nn_cast i), rdLA _ _ hi, hv, Option.bind_some, if_pos hneg]
        · refine .inr ⟨v, ⟨by omega, by omega⟩, fun k _ => ?_, fun r hr => ⟨by omega, fun hr0 j hj hij => ?_⟩⟩
          · simp only [laws_szAttrS.l0]
            rw [if_pos (lt_cast hi), if_pos (nn_cast i), rdLA _ _ hi, hv, Option.bind_some, if_neg hneg, wrap_nat1 hi (by omega)]
          · rcases Nat.lt_or_ge i j with hlt | hge
            · exact hr.2 hr0 j hj hlt
            · obtain rfl : i = j := by omega
              have := hv2 (by omega)
              exact ⟨by omega, by omega⟩) l.length (left - (l.length : Int)) 0 (by omega) ⟨by omega, by omega⟩
    refine ⟨r, fun k hk => ?_, by omega, fun hr0 => ⟨by omega, fun x hx => ?_⟩⟩
    · simp only [laws_szAttrS.f]
      rw [w1, if_neg c1]
      exact h k (by omega)
    · obtain ⟨j, hj, rfl⟩ := List.getElem_of_mem hx
      exact hr2 hr0 j hj (by omega)

theorem szSpan_at (a b c d : Int) (e : Bool) (l : List S58) (left : Int) (hl : l.length ≤ maxLen) (hg : ∀ x ∈ l, good58 x) (h0 : 0 ≤ left) (h1 : left ≤ 1048576) :
    ∃ v, (∀ k, 1048576 < k → laws_szSpan.f k a b c d e l left = some v) ∧ v ≤ left ∧ (0 ≤ v → (l.length : Int) ≤ left ∧ ∀ x ∈ l, fitA x) := by
  obtain ⟨v, hv, hv1, hv2⟩ := szAttrS_at l left hl hg h0 h1
  by_cases hn : v < 0
  · refine ⟨-1, fun k hk => ?_, by omega, by omega⟩
    simp only [laws_szSpan.f, hv k hk, Option.bind_some]
    rw [if_pos hn]
  · refine ⟨v, fun k hk => ?_, hv1, hv2⟩
    simp only [laws_szSpan.f, hv k hk, Option.bind_some]
    rw [if_neg hn]
theorem szSpan_ex (a b c d : Int) (e : Bool) (l : List S58) (left : Int) (hl : l.length ≤ maxLen) (hg : ∀ x ∈ l, good58 x) (h0 : 0 ≤ left) (h1 : left ≤ 1048576) :
    ∃ v, Ev (fun k => laws_szSpan.f k a b c d e l left) v ∧ v ≤ left ∧ (0 ≤ v → (l.length : Int) ≤ left ∧ ∀ x ∈ l, fitA x) := by
  obtain ⟨v, h, h2⟩ := szSpan_at a b c d e l left hl hg h0 h1
  exact ⟨v, ev_at 1048576 h, h2⟩

theorem rdLS (l : List S24) (i : Nat) (h : i < l.length) : rd_T24 l (i : Int) = l[i] := by
  simp [rd_T24, List.getD_eq_getElem?_getD, h]

def fitS (x : S24) : Prop := x.f5.length ≤ 1048576 ∧ ∀ y ∈ x.f5, fitA y
theorem szSpanS_at (l : List S24) (left : Int) (hl : l.length ≤ maxLen) (hg : ∀ x ∈ l, good24 x) (h0 : 0 ≤ left) (h1 : left ≤ 1048576) :
    ∃ v, (∀ k, 2097153 < k → laws_szSpanS.f k l left = some v) ∧ v ≤ left ∧ (0 ≤ v → (l.length : Int) ≤ left ∧ ∀ x ∈ l, fitS x) := by
  unfold maxLen at hl
  have w1 : wrap64 (left - (l.length : Int)) = left - (l.length : Int) := wrap_of (by omega) (by omega)
  by_cases c1 : left - (l.length : Int) < 0
  · refine ⟨-1, fun k _ => ?_, by omega, by omega⟩
    simp only [laws_szSpanS.f]
    rw [w1, if_pos c1]
  · obtain ⟨r, ⟨hr1, hr2⟩, h⟩ := loop_ex (σ := Int) (L := fun k s i => laws_szSpanS.l0 k l s i) (n := l.length) (K := 1048577)
      (I := fun s _ => 0 ≤ s ∧ s ≤ left) (Post := fun s i r => r ≤ s ∧ (0 ≤ r → ∀ j (h : j < l.length), i ≤ j → fitS l[j]))
      (fun s hI => ⟨s, ⟨by omega, fun _ j hj hij => by omega⟩, fun k => by
        simp only [laws_szSpanS.l0]
        rw [if_neg (not_lt_cast _)]⟩)
      (fun s i hi hI => by
        obtain ⟨_, _, _, _, _, g1, g2⟩ := hg l[i] (List.getElem_mem hi)
        obtain ⟨v, hv, hv1, hv2⟩ := szSpan_at l[i].f0 l[i].f1 l[i].f2 l[i].f3 l[i].f4 l[i].f5 s g1 g2 hI.1 (by omega)
        by_cases hneg : v < 0
        · refine .inl ⟨-1, ⟨by omega, by omega⟩, fun k hk => ?_⟩
          simp only [laws_szSpanS.l0]
          rw [if_pos (lt_cast hi), if_pos (nn_cast i), rdLS _ _ hi, hv k (by omega), Option.bind_some, if_pos hneg]
        · refine .inr ⟨v, ⟨by omega, by omega⟩, fun k hk => ?_, fun r hr => ⟨by omega, fun hr0 j hj hij => ?_⟩⟩
          · simp only [laws_szSpanS.l0]
            rw [if_pos (lt_cast hi), if_pos (nn_cast i), rdLS _ _ hi, hv k (by omega), Option.bind_some, if_neg hneg, wrap_nat1 hi (by omega)]
          · rcases Nat.lt_or_ge i j with hlt | hge
            · exact hr.2 hr0 j hj hlt
            · obtain rfl : i = j := by omega
              have := hv2 (by omega)
              exact ⟨by omega, this.2⟩) l.length (left - (l.length : Int)) 0 (by omega) ⟨by omega, by omega⟩
    refine ⟨r, fun k hk => ?_, by omega, fun hr0 => ⟨by omega, fun x hx => ?_⟩⟩
    · simp only [laws_szSpanS.f]
      rw [w1, if_neg c1]
      exact h k (by omega)
    · obtain ⟨j, hj, rfl⟩ := List.getElem_of_mem hx
      exact hr2 hr0 j hj (by omega)

def cvA (x : S58) : S47 := ⟨x.f0, x.f1, x.f2, x.f3⟩
theorem toAttrS_at (l : List S58) (hl : l.length ≤ 1048576) : ∀ k, 1048576 < k → laws_toAttrS.f k l = some (l.map cvA) := by
  have hm : (l.map cvA).length = l.length := by simp
  obtain ⟨r, hr, h⟩ := loop_ex (σ := List S47) (L := fun k s i => laws_toAttrS.l0 k l s i) (n := l.length) (K := 0)
    (I := fun s i => s = (l.map cvA).take i ++ List.replicate ((l.map cvA).length - i) z47) (Post := fun _ _ r => r = l.map cvA)
    (fun s hI => ⟨_, rfl, fun k => by
      simp only [laws_toAttrS.l0]
      rw [if_neg (not_lt_cast _), hI, ← hm, List.take_length, Nat.sub_self]
      simp⟩)
    (fun s i hi hI => .inr ⟨_, rfl, fun k _ => by
      have hi' : i < (l.map cvA).length := by omega
      have e : (⟨l[i].f0, l[i].f1, l[i].f2, l[i].f3⟩ : S47) = (l.map cvA)[i] := by rw [List.getElem_map]; rfl
      simp only [laws_toAttrS.l0, laws_toAttr.f, Option.bind_some]
      rw [if_pos (lt_cast hi), if_pos (nn_cast i), hI, fill_len _ _ _ (by omega), if_pos (lt_cast hi'), rdLA _ _ hi, wrap_nat1 hi (by omega), e]
      simp only [Int.toNat_natCast]
      rw [fill_set _ _ _ hi'], fun _ h => h⟩) l.length (List.replicate l.length z47) 0 (by omega) (by simp)
  subst hr
  intro k hk
  simp only [laws_toAttrS.f]
  rw [if_pos (by omega), if_pos (by simp; omega)]
  exact h k (by omega)
theorem toAttrS_ev (l : List S58) (hl : l.length ≤ 1048576) : Ev (fun k => laws_toAttrS.f k l) (l.map cvA) := ev_at 1048576 (toAttrS_at l hl)

theorem toSpan_at (a b c d : Int) (e : Bool) (l : List S58) (hl : l.length ≤ 1048576) : ∀ k, 1048576 < k → laws_toSpan.f k a b c d e l = some (a, b, c, d, e, l.map cvA) := by
  intro k hk
  simp only [laws_toSpan.f, toAttrS_at l hl k hk, Option.bind_some]
theorem toSpan_ev (a b c d : Int) (e : Bool) (l : List S58) (hl : l.length ≤ 1048576) : Ev (fun k => laws_toSpan.f k a b c d e l) (a, b, c, d, e, l.map cvA) := ev_at 1048576 (toSpan_at a b c d e l hl)

def cvS (x : S24) : S29 := ⟨x.f0, x.f1, x.f2, x.f3, x.f4, x.f5.map cvA⟩
theorem toSpanS_at (l : List S24) (hl : l.length ≤ 1048576) (hf : ∀ x ∈ l, x.f5.length ≤ 1048576) : ∀ k, 2097153 < k → laws_toSpanS.f k l = some (l.map cvS) := by
  have hm : (l.map cvS).length = l.length := by simp
  obtain ⟨r, hr, h⟩ := loop_ex (σ := List S29) (L := fun k s i => laws_toSpanS.l0 k l s i) (n := l.length) (K := 1048577)
    (I := fun s i => s = (l.map cvS).take i ++ List.replicate ((l.map cvS).length - i) z29) (Post := fun _ _ r => r = l.map cvS)
    (fun s hI => ⟨_, rfl, fun k => by
      simp only [laws_toSpanS.l0]
      rw [if_neg (not_lt_cast _), hI, ← hm, List.take_length, Nat.sub_self]
      simp⟩)
    (fun s i hi hI => .inr ⟨_, rfl, fun k hk => by
      have hi' : i < (l.map cvS).length := by omega
      have e : (⟨l[i].f0, l[i].f1, l[i].f2, l[i].f3, l[i].f4, l[i].f5.map cvA⟩ : S29) = (l.map cvS)[i] := by rw [List.getElem_map]; rfl
      simp only [laws_toSpanS.l0]
      rw [if_pos (lt_cast hi), if_pos (nn_cast i), rdLS _ _ hi, toSpan_at _ _ _ _ _ _ (hf _ (List.getElem_mem hi)) k (by omega), Option.bind_some, hI, fill_len _ _ _ (by omega), if_pos (lt_cast hi'), wrap_nat1 hi (by omega), e]
      simp only [Int.toNat_natCast]
      rw [fill_set _ _ _ hi'], fun _ h => h⟩) l.length (List.replicate l.length z29) 0 (by omega) (by simp)
  subst hr
  intro k hk
  simp only [laws_toSpanS.f]
  rw [if_pos (by omega), if_pos (by simp; omega)]
  exact h k (by omega)
theorem fitS_map (l : List S24) (h : ∀ x ∈ l, fitS x) : ∀ x ∈ l.map cvS, x.f5.length ≤ 1048576 ∧ ∀ y ∈ x.f5, y.f0.size ≤ 1048576 ∧ y.f3.size ≤ 1048576 := by
  intro x hx
  obtain ⟨y, hy, rfl⟩ := List.mem_map.1 hx
  have := h y hy
  refine ⟨by simpa [cvS] using this.1, fun z hz => ?_⟩
  obtain ⟨u, hu, rfl⟩ := List.mem_map.1 hz
  exact this.2 u hu

theorem rdIA (l : List S47) (i : Nat) (h : i < l.length) : rd_T47 l (i : Int) = l[i] := by
  simp [rd_T47, List.getD_eq_getElem?_getD, h]

theorem eqAttr_self (a : ByteArray) (b : Bool) (c : Int) (e : ByteArray) : laws_eqAttr.f a b c e a b c e = some true := by
  simp [laws_eqAttr.f]

theorem eqAttrS_at (l : List S47) (hl : l.length ≤ 1048576) : ∀ k, 1048576 < k → laws_eqAttrS.f k l l = some true := by
  obtain ⟨r, hr, h⟩ := loop_ex (σ := Unit) (L := fun k _ i => laws_eqAttrS.l0 k l l i) (n := l.length) (K := 0)
    (I := fun _ _ => True) (Post := fun _ _ r => r = true)
    (fun s hI => ⟨true, rfl, fun k => by
      simp only [laws_eqAttrS.l0]
      rw [if_neg (not_lt_cast _)]⟩)
    (fun s i hi hI => .inr ⟨(), trivial, fun k _ => by
      simp only [laws_eqAttrS.l0, eqAttr_self, Option.bind_some, if_true]
      rw [if_pos (lt_cast hi), if_pos (nn_cast i), if_pos (lt_cast hi), wrap_nat1 hi (by omega)], fun _ h => h⟩) l.length () 0 (by omega) trivial
  subst hr
  intro k hk
  simp only [laws_eqAttrS.f, if_true]
  exact h k (by omega)
theorem eqAttrS_self (l : List S47) (hl : l.length ≤ 1048576) : Ev (fun k => laws_eqAttrS.f k l l) true := ev_at 1048576 (eqAttrS_at l hl)

theorem eqSpan_at (a b c d : Int) (e : Bool) (l : List S47) (hl : l.length ≤ 1048576) : ∀ k, 1048576 < k → laws_eqSpan.f k a b c d e l a b c d e l = some true := by
  intro k hk
  simp [laws_eqSpan.f, eqAttrS_at l hl k hk]
theorem eqSpan_self (a b c d : Int) (e : Bool) (l : List S47) (hl : l.length ≤ 1048576) : Ev (fun k => laws_eqSpan.f k a b c d e l a b c d e l) true := ev_at 1048576 (eqSpan_at a b c d e l hl)

theorem rdIS (l : List S29) (i : Nat) (h : i < l.length) : rd_T29 l (i : Int) = l[i] := by
  simp [rd_T29, List.getD_eq_getElem?_getD, h]

theorem eqSpanS_at (l : List S29) (hl : l.length ≤ 1048576) (hf : ∀ x ∈ l, x.f5.length ≤ 1048576) : ∀ k, 2097153 < k → laws_eqSpanS.f k l l = some true := by
  obtain ⟨r, hr, h⟩ := loop_ex (σ := Unit) (L := fun k _ i => laws_eqSpanS.l0 k l l i) (n := l.length) (K := 1048577)
    (I := fun _ _ => True) (Post := fun _ _ r => r = true)
    (fun s hI => ⟨true, rfl, fun k => by
      simp only [laws_eqSpanS.l0]
      rw [if_neg (not_lt_cast _)]⟩)
    (fun s i hi hI => .inr ⟨(), trivial, fun k hk => by
      simp only [laws_eqSpanS.l0]
      rw [if_pos (lt_cast hi), if_pos (nn_cast i), if_pos (lt_cast hi), rdIS _ _ hi, eqSpan_at _ _ _ _ _ _ (hf _ (List.getElem_mem hi)) k (by omega), wrap_nat1 hi (by omega)]
      rfl, fun _ h => h⟩) l.length () 0 (by omega) trivial
  subst hr
  intro k hk
  simp only [laws_eqSpanS.f, if_true]
  exact h k (by omega)

def attrSizeV (a : ByteArray) (b : Bool) (e : ByteArray) : Int := if b then (a.size : Int) + 4 else (a.size : Int) + (e.size : Int)
theorem spec_AttrSize_eq (a : ByteArray) (b : Bool) (c : Int) (e : ByteArray) (ha : a.size ≤ 1048576) (he : e.size ≤ 1048576) : spec_AttrSize.f a b c e = some (attrSizeV a b e) := by
  unfold spec_AttrSize.f attrSizeV
  rw [wrap_of (by omega) (by omega), wrap_of (by omega) (by omega)]
  cases b <;> rfl
theorem impl_AttrSize_eq (a : ByteArray) (b : Bool) (c : Int) (e : ByteArray) (ha : a.size ≤ 1048576) (he : e.size ≤ 1048576) : impl_AttrSize.f a b c e = some (attrSizeV a b e) := by
  unfold impl_AttrSize.f attrSizeV
  rw [wrap_of (by omega) (by omega), wrap_of (by omega) (by omega)]
  cases b <;> rfl
theorem attrSizeV_range (a : ByteArray) (b : Bool) (e : ByteArray) (ha : a.size ≤ 1048576) (he : e.size ≤ 1048576) : 0 ≤ attrSizeV a b e ∧ attrSizeV a b e ≤ 2097152 := by
  unfold attrSizeV
  split <;> omega

def sizeV (l : List S47) : Int := 12 + (l.map fun x => attrSizeV x.f0 x.f1 x.f3).sum
theorem sizes_take (l : List S47) (i : Nat) (h : i < l.length) : ((l.take (i + 1)).map fun x => attrSizeV x.f0 x.f1 x.f3).sum = ((l.take i).map fun x => attrSizeV x.f0 x.f1 x.f3).sum + attrSizeV l[i].f0 l[i].f1 l[i].f3 := by
  rw [List.take_succ_eq_append_getElem h, List.map_append, List.sum_append]
  simp
theorem sizes_range (l : List S47) (hf : ∀ x ∈ l, x.f0.size ≤ 1048576 ∧ x.f3.size ≤ 1048576) : 0 ≤ (l.map fun x => attrSizeV x.f0 x.f1 x.f3).sum ∧ (l.map fun x => attrSizeV x.f0 x.f1 x.f3).sum ≤ 2097152 * l.length := by
  induction l with
  | nil => simp
  | cons x l ih =>
    have h1 := ih (fun y hy => hf y (List.mem_cons_of_mem _ hy))
    obtain ⟨f1, f2⟩ := hf x List.mem_cons_self
    have h2 := attrSizeV_range x.f0 x.f1 x.f3 f1 f2
    rw [List.map_cons, List.sum_cons, List.length_cons]
    push_cast
    omega
theorem spec_SizeOf_at (a b c d : Int) (e : Bool) (l : List S47) (hl : l.length ≤ 1048576) (hf : ∀ x ∈ l, x.f0.size ≤ 1048576 ∧ x.f3.size ≤ 1048576) : ∀ k, 1048576 < k → spec_SizeOf.f k a b c d e l = some (sizeV l) := by
  obtain ⟨r, hr, h⟩ := loop_ex (σ := Int) (L := fun k s i => spec_SizeOf.l0 k s i a b c d e l) (n := l.length) (K := 0)
    (I := fun s i => s = 12 + ((l.take i).map fun x => attrSizeV x.f0 x.f1 x.f3).sum) (Post := fun _ _ r => r = sizeV l)
    (fun s hI => ⟨_, rfl, fun k => by
      simp only [spec_SizeOf.l0]
      rw [if_neg (not_lt_cast _), hI, List.take_length]
      rfl⟩)
    (fun s i hi hI => .inr ⟨_, rfl, fun k _ => by
      obtain ⟨f1, f2⟩ := hf l[i] (List.getElem_mem hi)
      have h1 := sizes_range (l.take (i + 1)) (fun x hx => hf x (List.mem_of_mem_take hx))
      have h2 : (l.take (i + 1)).length ≤ 1048576 := Nat.le_trans (List.length_take_le' _ _) hl
      have h3 := sizes_take l i hi
      simp only [spec_SizeOf.l0]
      rw [if_pos (lt_cast hi), if_pos (nn_cast i), rdIA _ _ hi, spec_AttrSize_eq _ _ _ _ f1 f2, Option.bind_some, wrap_nat1 hi (by omega), hI, wrap_of (by omega) (by omega), h3]
      congr 1
      omega, fun _ h => h⟩) l.length 12 0 (by omega) (by simp)
  subst hr
  exact fun k hk => h k (by omega)
theorem impl_SizeOf_at (a b c d : Int) (e : Bool) (l : List S47) (hl : l.length ≤ 1048576) (hf : ∀ x ∈ l, x.f0.size ≤ 1048576 ∧ x.f3.size ≤ 1048576) : ∀ k, 1048576 < k → impl_SizeOf.f k a b c d e l = some (sizeV l) := by
  obtain ⟨r, hr, h⟩ := loop_ex (σ := Int) (L := fun k s i => impl_SizeOf.l0 k s l l.length i) (n := l.length) (K := 0)
    (I := fun s i => s = 12 + ((l.take i).map fun x => attrSizeV x.f0 x.f1 x.f3).sum) (Post := fun _ _ r => r = sizeV l)
    (fun s hI => ⟨_, rfl, fun k => by
      simp only [impl_SizeOf.l0]
      rw [if_neg (not_lt_cast _), hI, List.take_length]
      rfl⟩)
    (fun s i hi hI => .inr ⟨_, rfl, fun k _ => by
      obtain ⟨f1, f2⟩ := hf l[i] (List.getElem_mem hi)
      have h1 := sizes_range (l.take (i + 1)) (fun x hx => hf x (List.mem_of_mem_take hx))
      have h2 : (l.take (i + 1)).length ≤ 1048576 := Nat.le_trans (List.length_take_le' _ _) hl
      have h3 := sizes_take l i hi
      simp only [impl_SizeOf.l0]
      rw [if_pos (lt_cast hi), if_pos (nn_cast i), if_pos (lt_cast hi), rdIA _ _ hi, impl_AttrSize_eq _ _ _ _ f1 f2, Option.bind_some, wrap_nat1 hi (by omega), hI, wrap_of (by omega) (by omega), h3]
      congr 1
      omega, fun _ h => h⟩) l.length 12 0 (by omega) (by simp)
  subst hr
  exact fun k hk => h k (by omega)
theorem spec_SizeOf_ev (a b c d : Int) (e : Bool) (l : List S47) (hl : l.length ≤ 1048576) (hf : ∀ x ∈ l, x.f0.size ≤ 1048576 ∧ x.f3.size ≤ 1048576) : Ev (fun k => spec_SizeOf.f k a b c d e l) (sizeV l) := ev_at 1048576 (spec_SizeOf_at a b c d e l hl hf)
theorem impl_SizeOf_ev (a b c d : Int) (e : Bool) (l : List S47) (hl : l.length ≤ 1048576) (hf : ∀ x ∈ l, x.f0.size ≤ 1048576 ∧ x.f3.size ≤ 1048576) : Ev (fun k => impl_SizeOf.f k a b c d e l) (sizeV l) := ev_at 1048576 (impl_SizeOf_at a b c d e l hl hf)

def totV (l : List S29) : Int := (l.map fun x => sizeV x.f5).sum
theorem totV_take (l : List S29) (i : Nat) (h : i < l.length) : totV (l.take (i + 1)) = totV (l.take i) + sizeV l[i].f5 := by
  unfold totV
  rw [List.take_succ_eq_append_getElem h, List.map_append, List.sum_append]
  simp
theorem totV_range (l : List S29) (hf : ∀ x ∈ l, x.f5.length ≤ 1048576 ∧ ∀ y ∈ x.f5, y.f0.size ≤ 1048576 ∧ y.f3.size ≤ 1048576) : 0 ≤ totV l ∧ totV l ≤ 2199023255564 * l.length := by
  induction l with
  | nil => simp [totV]
  | cons x l ih =>
    have h1 := ih (fun y hy => hf y (List.mem_cons_of_mem _ hy))
    obtain ⟨f1, f2⟩ := hf x List.mem_cons_self
    have h2 := sizes_range x.f5 f2
    have h3 : totV (x :: l) = sizeV x.f5 + totV l := by simp [totV]
    rw [h3, List.length_cons]
    unfold sizeV
    push_cast
    omega
theorem spec_TotalOf_at (l : List S29) (hl : l.length ≤ 1048576) (hf : ∀ x ∈ l, x.f5.length ≤ 1048576 ∧ ∀ y ∈ x.f5, y.f0.size ≤ 1048576 ∧ y.f3.size ≤ 1048576) : ∀ k, 2097153 < k → spec_TotalOf.f k l = some (totV l) := by
  obtain ⟨r, hr, h⟩ := loop_ex (σ := Int) (L := fun k s i => spec_TotalOf.l0 k l s i) (n := l.length) (K := 1048577)
    (I := fun s i => s = totV (l.take i)) (Post := fun _ _ r => r = totV l)
    (fun s hI => ⟨_, rfl, fun k => by
      simp only [spec_TotalOf.l0]
      rw [if_neg (not_lt_cast _), hI, List.take_length]⟩)
    (fun s i hi hI => .inr ⟨totV (l.take (i + 1)), rfl, fun k hk => by
      obtain ⟨f1, f2⟩ := hf l[i] (List.getElem_mem hi)
      have h1 := totV_range (l.take (i + 1)) (fun x hx => hf x (List.mem_of_mem_take hx))
      have h2 : (l.take (i + 1)).length ≤ 1048576 := Nat.le_trans (List.length_take_le' _ _) hl
      have h3 := totV_take l i hi
      simp only [spec_TotalOf.l0]
      rw [if_pos (lt_cast hi), if_pos (nn_cast i), rdIS _ _ hi, spec_SizeOf_at _ _ _ _ _ _ f1 f2 k (by omega), Option.bind_some, wrap_nat1 hi (by omega), hI, wrap_of (by omega) (by omega), h3], fun _ h => h⟩) l.length 0 0 (by omega) (by simp [totV])
  subst hr
  exact fun k hk => h k (by omega)
theorem impl_TotalOf_at (l : List S29) (hl : l.length ≤ 1048576) (hf : ∀ x ∈ l, x.f5.length ≤ 1048576 ∧ ∀ y ∈ x.f5, y.f0.size ≤ 1048576 ∧ y.f3.size ≤ 1048576) : ∀ k, 2097153 < k → impl_TotalOf.f k l = some (totV l) := by
  obtain ⟨r, hr, h⟩ := loop_ex (σ := Int) (L := fun k s i => impl_TotalOf.l0 k s l l.length i) (n := l.length) (K := 1048577)
    (I := fun s i => s = totV (l.take i)) (Post := fun _ _ r => r = totV l)
    (fun s hI => ⟨_, rfl, fun k => by
      simp only [impl_TotalOf.l0]
      rw [if_neg (not_lt_cast _), hI, List.take_length]⟩)
    (fun s i hi hI => .inr ⟨totV (l.take (i + 1)), rfl, fun k hk => by
      obtain ⟨f1, f2⟩ := hf l[i] (List.getElem_mem hi)
      have h1 := totV_range (l.take (i + 1)) (fun x hx => hf x (List.mem_of_mem_take hx))
      have h2 : (l.take (i + 1)).length ≤ 1048576 := Nat.le_trans (List.length_take_le' _ _) hl
      have h3 := totV_take l i hi
      simp only [impl_TotalOf.l0]
      rw [if_pos (lt_cast hi), if_pos (nn_cast i), if_pos (lt_cast hi), rdIS _ _ hi, impl_SizeOf_at _ _ _ _ _ _ f1 f2 k (by omega), Option.bind_some, wrap_nat1 hi (by omega), hI, wrap_of (by omega) (by omega), h3], fun _ h => h⟩) l.length 0 0 (by omega) (by simp [totV])
  subst hr
  exact fun k hk => h k (by omega)

theorem FnExactTotalOf : ∀ (l0 : (List S24)), ((l0.length ≤ maxLen ∧ ∀ y24 ∈ l0, good24 y24)) → ∃ k, laws_FnExactTotalOf.f k l0 = some true := by
  intro l hg
  obtain ⟨v, hv, hv1, hv2⟩ := szSpanS_at l 1048576 hg.1 hg.2 (by omega) (by omega)
  refine ⟨2097154, ?_⟩
  by_cases hn : v < 0
  · simp only [laws_FnExactTotalOf.f, hv 2097154 (by omega), Option.bind_some]
    rw [if_pos hn]
  · have hf := hv2 (by omega)
    have hl : l.length ≤ 1048576 := by omega
    have hm : (l.map cvS).length ≤ 1048576 := by simpa using hl
    have h1 := toSpanS_at l hl (fun x hx => (hf.2 x hx).1) 2097154 (by omega)
    have h2 := spec_TotalOf_at (l.map cvS) hm (fitS_map l hf.2) 2097154 (by omega)
    have h3 := impl_TotalOf_at (l.map cvS) hm (fitS_map l hf.2) 2097154 (by omega)
    have h4 := eqSpanS_at (l.map cvS) hm (fun x hx => (fitS_map l hf.2 x hx).1) 2097154 (by omega)
    simp only [laws_FnExactTotalOf.f, hv 2097154 (by omega), h1, h2, h3, h4, Option.bind_some, if_true]
    rw [if_neg hn]

end Go.Proofs.Ytkhbhdchakbmhaa.Pure
