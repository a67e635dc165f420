/- The program's SameSpan returns what the reference's returns, for all arguments. Conditions: none beyond the statement's own. -/
import Derived.Test.YtkhbhdchakbmhaaQFnExactSameSpanx
set_option linter.unusedVariables false
set_option linter.unusedSimpArgs false
namespace Go.Proofs.Ytkhbhdchakbmhaa.Pure
open Go.RowKit Go.Proofs.Ytkhbhdchakbmhaa.QFnExactSameSpan Go.Proofs.YtkhbhdchakbmhaaW.PrintWords Go.Proofs.YtkhbhdchakbmhaaW.PrintLast Go.Proofs.YtkhbhdchakbmhaaW.PrintMore
def good58 (x : S58) : Prop := x.f0.size ≤ maxLen ∧ True ∧ (Lit.int .i64 x.f2).wf = true ∧ x.f3.size ≤ maxLen

/-- A loop over an index: from a state that is good, with enough rounds, it comes to an end that meets what is told of it. -/
theorem loop_ex {σ β : Type} {L : Nat → σ → Int → Option β} {n K : Nat} {I : σ → Nat → Prop} {Post : σ → Nat → β → Prop}
    (hend : ∀ s, I s n → ∃ r, Post s n r ∧ ∀ k, L (k + 1) s (n : Int) = some r)
    (hstep : ∀ s (i : Nat), i < n → I s i → (∃ r, Post s i r ∧ ∀ k, K ≤ k → L (k + 1) s (i : Int) = some r) ∨
      ∃ s', I s' (i + 1) ∧ (∀ k, K ≤ k → L (k + 1) s (i : Int) = L k s' ((i : Int) + 1)) ∧ ∀ r, Post s' (i + 1) r → Post s i r) :
    ∀ (d : Nat) s (i : Nat), i + d = n → I s i → ∃ r, Post s i r ∧ ∀ k, K + d < k → L k s (i : Int) = some r := by
  intro d
  induction d with
  | zero =>
    intro s i hd hI
    obtain rfl : i = n := by omega
    obtain ⟨r, hp, hr⟩ := hend s hI
    refine ⟨r, hp, fun k hk => ?_⟩
    obtain ⟨k, rfl⟩ : ∃ m, k = m + 1 := ⟨k - 1, by omega⟩
    exact hr k
  | succ d ih =>
    intro s i hd hI
    rcases hstep s i (by omega) hI with ⟨r, hp, hr⟩ | ⟨s', hI', he, hp⟩
    · refine ⟨r, hp, fun k hk => ?_⟩
      obtain ⟨k, rfl⟩ : ∃ m, k = m + 1 := ⟨k - 1, by omega⟩
      exact hr k (by omega)
    · obtain ⟨r, hq, hr⟩ := ih s' (i + 1) (by omega) hI'
      refine ⟨r, hp r hq, fun k hk => ?_⟩
      obtain ⟨k, rfl⟩ : ∃ m, k = m + 1 := ⟨k - 1, by omega⟩
      rw [he k (by omega)]
      have := hr k (by omega)
      rw [Int.natCast_add] at this
      exact this
theorem ev_at {α : Type} {g : Nat → Option α} {r : α} (K : Nat) (h : ∀ k, K < k → g k = some r) : Ev g r := ⟨K + 1, fun k hk => h k (by omega)⟩
theorem wrap_of {x : Int} (h0 : -9223372036854775808 ≤ x) (h1 : x ≤ 9223372036854775807) : wrap64 x = x := by
  unfold wrap64
  omega
theorem wrap_nat1 {i n : Nat} (h : i < n) (hn : n ≤ 9223372036854775807) : wrap64 ((i : Int) + 1) = (i : Int) + 1 := wrap_of (by omega) (by omega)
theorem lt_cast {i n : Nat} (h : i < n) : (i : Int) < (n : Int) := by omega
theorem nn_cast (i : Nat) : 0 ≤ (i : Int) := by omega
theorem not_lt_cast (n : Nat) : ¬ (n : Int) < (n : Int) := by omega
/-- What is written cell by cell. -/
theorem fill_set {α : Type} (l : List α) (z : α) (i : Nat) (h : i < l.length) : (l.take i ++ List.replicate (l.length - i) z).set i l[i] = l.take (i + 1) ++ List.replicate (l.length - (i + 1)) z := by
  have e1 : l.length - i = (l.length - (i + 1)) + 1 := by omega
  have e2 : (l.take i).length = i := by rw [List.length_take]; omega
  rw [e1, List.replicate_succ, List.set_append_right _ _ (by omega), e2, Nat.sub_self, List.set_cons_zero, List.take_succ_eq_append_getElem h, List.append_assoc]
  rfl
theorem fill_len {α : Type} (l : List α) (z : α) (i : Nat) (h : i ≤ l.length) : (l.take i ++ List.replicate (l.length - i) z).length = l.length := by
  rw [List.length_append, List.length_take, List.length_replicate]
  omega

theorem szAttr_ex (a : ByteArray) (b : Bool) (c : Int) (e : ByteArray) (left : Int) (ha : a.size ≤ maxLen) (he : e.size ≤ maxLen) (h0 : 0 ≤ left) (h1 : left ≤ 1048576) :
    ∃ v, laws_szAttr.f a b c e left = some v ∧ v ≤ left ∧ (0 ≤ v → (a.size : Int) ≤ left ∧ (e.size : Int) ≤ left) := by
  unfold maxLen at ha he
  unfold laws_szAttr.f
  have w1 : wrap64 (left - (a.size : Int)) = left - (a.size : Int) := wrap_of (by omega) (by omega)
  rw [w1]
  by_cases c1 : left - (a.size : Int) < 0
  · rw [if_pos c1]
    exact ⟨-1, rfl, by omega, by omega⟩
  · rw [if_neg c1]
    have w2 : wrap64 (left - (a.size : Int) - (e.size : Int)) = left - (a.size : Int) - (e.size : Int) := wrap_of (by omega) (by omega)
    rw [w2]
    by_cases c2 : left - (a.size : Int) - (e.size : Int) < 0
    · rw [if_pos c2]
      exact ⟨-1, rfl, by omega, by omega⟩
    · rw [if_neg c2]
      exact ⟨_, rfl, by omega, by omega⟩

theorem rdLA (l : List S58) (i : Nat) (h : i < l.length) : rd_T58 l (i : Int) = l[i] := by
  simp [rd_T58, List.getD_eq_getElem?_getD, h]

def fitA (x : S58) : Prop := x.f0.size ≤ 1048576 ∧ x.f3.size ≤ 1048576
theorem szAttrS_at (l : List S58) (left : Int) (hl : l.length ≤ maxLen) (hg : ∀ x ∈ l, good58 x) (h0 : 0 ≤ left) (h1 : left ≤ 1048576) :
    ∃ v, (∀ k, 1048576 < k → laws_szAttrS.f k l left = some v) ∧ v ≤ left ∧ (0 ≤ v → (l.length : Int) ≤ left ∧ ∀ x ∈ l, fitA x) := by
  unfold maxLen at hl
  have w1 : wrap64 (left - (l.length : Int)) = left - (l.length : Int) := wrap_of (by omega) (by omega)
  by_cases c1 : left - (l.length : Int) < 0
  · refine ⟨-1, fun k _ => ?_, by omega, by omega⟩
    simp only [laws_szAttrS.f]
    rw [w1, if_pos c1]
  · obtain ⟨r, ⟨hr1, hr2⟩, h⟩ := loop_ex (σ := Int) (L := fun k s i => laws_szAttrS.l0 k l s i) (n := l.length) (K := 0)
      (I := fun s _ => 0 ≤ s ∧ s ≤ left) (Post := fun s i r => r ≤ s ∧ (0 ≤ r → ∀ j (h : j < l.length), i ≤ j → fitA l[j]))
      (fun s hI => ⟨s, ⟨by omega, fun _ j hj hij => by omega⟩, fun k => by
        simp only [laws_szAttrS.l0]
        rw [if_neg (not_lt_cast _)]⟩)
      (fun s i hi hI => by
        obtain ⟨g1, _, _, g2⟩ := hg l[i] (List.getElem_mem hi)
        obtain ⟨v, hv, hv1, hv2⟩ := szAttr_ex l[i].f0 l[i].f1 l[i].f2 l[i].f3 s g1 g2 hI.1 (by omega)
        by_cases hneg : v < 0
        · refine .inl ⟨-1, ⟨by omega, by omega⟩, fun k _ => ?_⟩
          simp only [laws_szAttrS.l0]
          rw [if_pos (lt_cast hi), if_pos (nn_cast i), rdLA _ _ hi, hv, Option.bind_some, if_pos hneg]
        · refine .inr ⟨v, ⟨by omega, by omega⟩, fun k _ => ?_, fun r hr => ⟨by omega, fun hr0 j hj hij => ?_⟩⟩
          · simp only [laws_szAttrS.l0]
            rw [if_pos (lt_cast hi), if_pos (nn_cast i), rdLA _ _ hi, hv, Option.bind_some, if_neg hneg, wrap_nat1 hi (by omega)]
          · rcases Nat.lt_or_ge i j with hlt | hge
            · exact hr.2 hr0 j hj hlt
            · obtain rfl : i = j := by omega
              have := hv2 (by omega)
              exact ⟨by omega, by omega⟩) l.length (left - (l.length : Int)) 0 (by omega) ⟨by omega, by omega⟩
    refine ⟨r, fun k hk => ?_, by omega, fun hr0 => ⟨by omega, fun x hx => ?_⟩⟩
    · simp only [laws_szAttrS.f]
      rw [w1, if_neg c1]
      exact h k (by omega)
    · obtain ⟨j, hj, rfl⟩ := List.getElem_of_mem hx
      exact hr2 hr0 j hj (by omega)

theorem szSpan_at (a b c d : Int) (e : Bool) (l : List S58) (left : Int) (hl : l.length ≤ maxLen) (hg : ∀ x ∈ l, good58 x) (h0 : 0 ≤ left) (h1 : left ≤ 1048576) :
    ∃ v, (∀ k, 1048576 < k → laws_szSpan.f k a b c d e l left = some v) ∧ v ≤ left ∧ (0 ≤ v → (l.length : Int) ≤ left ∧ ∀ x ∈ l, fitA x) := by
  obtain ⟨v, hv, hv1, hv2⟩ := szAttrS_at l left hl hg h0 h1
  by_cases hn : v < 0
  · refine ⟨-1, fun k hk => ?_, by omega, by omega⟩
    simp only [laws_szSpan.f, hv k hk, Option.bind_some]
    rw [if_pos hn]
  · refine ⟨v, fun k hk => ?_, hv1, hv2⟩
    simp only [laws_szSpan.f, hv k hk, Option.bind_some]
    rw [if_neg hn]
theorem szSpan_ex (a b c d : Int) (e : Bool) (l : List S58) (left : Int) (hl : l.length ≤ maxLen) (hg : ∀ x ∈ l, good58 x) (h0 : 0 ≤ left) (h1 : left ≤ 1048576) :
    ∃ v, Ev (fun k => laws_szSpan.f k a b c d e l left) v ∧ v ≤ left ∧ (0 ≤ v → (l.length : Int) ≤ left ∧ ∀ x ∈ l, fitA x) := by
  obtain ⟨v, h, h2⟩ := szSpan_at a b c d e l left hl hg h0 h1
  exact ⟨v, ev_at 1048576 h, h2⟩

def cvA (x : S58) : S47 := ⟨x.f0, x.f1, x.f2, x.f3⟩
theorem toAttrS_at (l : List S58) (hl : l.length ≤ 1048576) : ∀ k, 1048576 < k → laws_toAttrS.f k l = some (l.map cvA) := by
  have hm : (l.map cvA).length = l.length := by simp
  obtain ⟨r, hr, h⟩ := loop_ex (σ := List S47) (L := fun k s i => laws_toAttrS.l0 k l s i) (n := l.length) (K := 0)
    (I := fun s i => s = (l.map cvA).take i ++ List.replicate ((l.map cvA).length - i) z47) (Post := fun _ _ r => r = l.map cvA)
    (fun s hI => ⟨_, rfl, fun k => by
      simp only [laws_toAttrS.l0]
      rw [if_neg (not_lt_cast _), hI, ← hm, List.take_length, Nat.sub_self]
      simp⟩)
    (fun s i hi hI => .inr ⟨_, rfl, fun k _ => by
      have hi' : i < (l.map cvA).length := by omega
      have e : (⟨l[i].f0, l[i].f1, l[i].f2, l[i].f3⟩ : S47) = (l.map cvA)[i] := by rw [List.getElem_map]; rfl
      simp only [laws_toAttrS.l0, laws_toAttr.f, Option.bind_some]
      rw [if_pos (lt_cast hi), if_pos (nn_cast i), hI, fill_len _ _ _ (by omega), if_pos (lt_cast hi'), rdLA _ _ hi, wrap_nat1 hi (by omega), e]
      simp only [Int.toNat_natCast]
      rw [fill_set _ _ _ hi'], fun _ h => h⟩) l.length (List.replicate l.length z47) 0 (by omega) (by simp)
  subst hr
  intro k hk
  simp only [laws_toAttrS.f]
  rw [if_pos (by omega), if_pos (by simp; omega)]
  exact h k (by omega)
theorem toAttrS_ev (l : List S58) (hl : l.length ≤ 1048576) : Ev (fun k => laws_toAttrS.f k l) (l.map cvA) := ev_at 1048576 (toAttrS_at l hl)

theorem toSpan_at (a b c d : Int) (e : Bool) (l : List S58) (hl : l.length ≤ 1048576) : ∀ k, 1048576 < k → laws_toSpan.f k a b c d e l = some (a, b, c, d, e, l.map cvA) := by
  intro k hk
  simp only [laws_toSpan.f, toAttrS_at l hl k hk, Option.bind_some]
theorem toSpan_ev (a b c d : Int) (e : Bool) (l : List S58) (hl : l.length ≤ 1048576) : Ev (fun k => laws_toSpan.f k a b c d e l) (a, b, c, d, e, l.map cvA) := ev_at 1048576 (toSpan_at a b c d e l hl)

theorem rdIA (l : List S47) (i : Nat) (h : i < l.length) : rd_T47 l (i : Int) = l[i] := by
  simp [rd_T47, List.getD_eq_getElem?_getD, h]

theorem eqAttr_self (a : ByteArray) (b : Bool) (c : Int) (e : ByteArray) : laws_eqAttr.f a b c e a b c e = some true := by
  simp [laws_eqAttr.f]

theorem eqAttrS_at (l : List S47) (hl : l.length ≤ 1048576) : ∀ k, 1048576 < k → laws_eqAttrS.f k l l = some true := by
  obtain ⟨r, hr, h⟩ := loop_ex (σ := Unit) (L := fun k _ i => laws_eqAttrS.l0 k l l i) (n := l.length) (K := 0)
    (I := fun _ _ => True) (Post := fun _ _ r => r = true)
    (fun s hI => ⟨true, rfl, fun k => by
      simp only [laws_eqAttrS.l0]
      rw [if_neg (not_lt_cast _)]⟩)
    (fun s i hi hI => .inr ⟨(), trivial, fun k _ => by
      simp only [laws_eqAttrS.l0, eqAttr_self, Option.bind_some, if_true]
      rw [if_pos (lt_cast hi), if_pos (nn_cast i), if_pos (lt_cast hi), wrap_nat1 hi (by omega)], fun _ h => h⟩) l.length () 0 (by omega) trivial
  subst hr
  intro k hk
  simp only [laws_eqAttrS.f, if_true]
  exact h k (by omega)
theorem eqAttrS_self (l : List S47) (hl : l.length ≤ 1048576) : Ev (fun k => laws_eqAttrS.f k l l) true := ev_at 1048576 (eqAttrS_at l hl)

theorem eqSpan_at (a b c d : Int) (e : Bool) (l : List S47) (hl : l.length ≤ 1048576) : ∀ k, 1048576 < k → laws_eqSpan.f k a b c d e l a b c d e l = some true := by
  intro k hk
  simp [laws_eqSpan.f, eqAttrS_at l hl k hk]
theorem eqSpan_self (a b c d : Int) (e : Bool) (l : List S47) (hl : l.length ≤ 1048576) : Ev (fun k => laws_eqSpan.f k a b c d e l a b c d e l) true := ev_at 1048576 (eqSpan_at a b c d e l hl)

/-- Two loops that go side by side. -/
theorem loop_two {σ β : Type} {L L' : Nat → σ → Int → Option β} {n K : Nat} {I : σ → Nat → Prop}
    (hend : ∀ s, I s n → ∃ r, ∀ k, L (k + 1) s (n : Int) = some r ∧ L' (k + 1) s (n : Int) = some r)
    (hstep : ∀ s (i : Nat), i < n → I s i → (∃ r, ∀ k, K ≤ k → L (k + 1) s (i : Int) = some r ∧ L' (k + 1) s (i : Int) = some r) ∨
      ∃ s', I s' (i + 1) ∧ ∀ k, K ≤ k → L (k + 1) s (i : Int) = L k s' ((i : Int) + 1) ∧ L' (k + 1) s (i : Int) = L' k s' ((i : Int) + 1)) :
    ∀ (d : Nat) s (i : Nat), i + d = n → I s i → ∃ r, ∀ k, K + d < k → L k s (i : Int) = some r ∧ L' k s (i : Int) = some r := by
  intro d
  induction d with
  | zero =>
    intro s i hd hI
    obtain rfl : i = n := by omega
    obtain ⟨r, hr⟩ := hend s hI
    refine ⟨r, fun k hk => ?_⟩
    obtain ⟨k, rfl⟩ : ∃ m, k = m + 1 := ⟨k - 1, by omega⟩
    exact hr k
  | succ d ih =>
    intro s i hd hI
    rcases hstep s i (by omega) hI with ⟨r, hr⟩ | ⟨s', hI', he⟩
    · refine ⟨r, fun k hk => ?_⟩
      obtain ⟨k, rfl⟩ : ∃ m, k = m + 1 := ⟨k - 1, by omega⟩
      exact hr k (by omega)
    · obtain ⟨r, hr⟩ := ih s' (i + 1) (by omega) hI'
      refine ⟨r, fun k hk => ?_⟩
      obtain ⟨k, rfl⟩ : ∃ m, k = m + 1 := ⟨k - 1, by omega⟩
      rw [(he k (by omega)).1, (he k (by omega)).2]
      have := hr k (by omega)
      rw [Int.natCast_add] at this
      exact this

def attrNe (x y : S47) : Bool := !(x.f0.toList == y.f0.toList) || (!(x.f1 == y.f1) || (!(x.f2 == y.f2) || (!(x.f3.toList == y.f3.toList))))
theorem attrNe_self (x : S47) : attrNe x x = false := by simp [attrNe]
theorem sameSpan_both (a b c d : Int) (e : Bool) (l : List S47) (a' b' c' d' : Int) (e' : Bool) (l' : List S47) (hl : l.length ≤ 1048576) :
    ∃ r, ∀ k, 1048577 < k → spec_SameSpan.f k a b c d e l a' b' c' d' e' l' = some r ∧ impl_SameSpan.f k a b c d e l a' b' c' d' e' l' = some r := by
  have hj : ∀ k, 0 < k → spec_SameSpan.j0 k true a b c d e l a' b' c' d' e' l' = some false := by
    intro k hk
    obtain ⟨k, rfl⟩ : ∃ m, k = m + 1 := ⟨k - 1, by omega⟩
    simp only [spec_SameSpan.j0, if_true]
  by_cases c1 : a = a'
  · by_cases c2 : b = b'
    · by_cases c3 : c = c'
      · by_cases c4 : d = d'
        · by_cases c5 : e = e'
          · have h5 : (e != e') = false := by simp [c5]
            have h5' : (e == e') = true := by simp [c5]
            by_cases c6 : (l.length : Int) = (l'.length : Int)
            · obtain ⟨r, h⟩ := loop_two (σ := Unit) (L := fun k _ i => spec_SameSpan.l0 k i a b c d e l a' b' c' d' e' l') (L' := fun k _ i => impl_Attr.l0 k l l' l.length i) (n := l.length) (K := 0) (I := fun _ _ => True)
                (fun s _ => ⟨true, fun k => by
                  simp only [spec_SameSpan.l0, impl_Attr.l0]
                  rw [if_neg (not_lt_cast _), if_neg (not_lt_cast _)]
                  exact ⟨rfl, rfl⟩⟩)
                (fun s i hi _ => by
                  have hi' : i < l'.length := by omega
                  by_cases hc : attrNe l[i] l'[i] = true
                  · refine .inl ⟨false, fun k _ => ?_⟩
                    simp only [spec_SameSpan.l0, impl_Attr.l0]
                    constructor
                    · rw [if_pos (lt_cast hi), if_pos (nn_cast i), if_pos (lt_cast hi'), rdIA _ _ hi, rdIA _ _ hi']
                      exact if_pos hc
                    · rw [if_pos (lt_cast hi), if_pos (nn_cast i), if_pos (lt_cast hi), if_pos (lt_cast hi'), rdIA _ _ hi, rdIA _ _ hi']
                      exact if_pos hc
                  · refine .inr ⟨(), trivial, fun k _ => ?_⟩
                    simp only [spec_SameSpan.l0, impl_Attr.l0]
                    constructor
                    · rw [if_pos (lt_cast hi), if_pos (nn_cast i), if_pos (lt_cast hi'), rdIA _ _ hi, rdIA _ _ hi', wrap_nat1 hi (by omega)]
                      exact if_neg hc
                    · rw [if_pos (lt_cast hi), if_pos (nn_cast i), if_pos (lt_cast hi), if_pos (lt_cast hi'), rdIA _ _ hi, rdIA _ _ hi', wrap_nat1 hi (by omega)]
                      exact if_neg hc) l.length () 0 (by omega) trivial
              refine ⟨r, fun k hk => ?_⟩
              obtain ⟨k, rfl⟩ : ∃ m, k = m + 1 := ⟨k - 1, by omega⟩
              have h1 : spec_SameSpan.l0 k 0 a b c d e l a' b' c' d' e' l' = some r := (h k (by omega)).1
              have h2 : impl_Attr.l0 (k + 1) l l' l.length 0 = some r := (h (k + 1) (by omega)).2
              constructor
              · simp only [spec_SameSpan.f, spec_SameSpan.j0]
                rw [if_pos c1, if_pos c2, if_pos c3, if_pos c4, h5, c6]
                simp only [Bool.false_eq_true, if_false, bne_self_eq_false]
                exact h1
              · simp only [impl_SameSpan.f, impl_Attr.f]
                rw [if_pos c1, if_pos c2, if_pos c3, if_pos c4, h5', if_pos rfl, if_pos c6, h2]
                rfl
            · refine ⟨false, fun k hk => ⟨?_, ?_⟩⟩
              · have h6 : ((l.length : Int) != (l'.length : Int)) = true := by simpa using c6
                simp only [spec_SameSpan.f]
                rw [if_pos c1, if_pos c2, if_pos c3, if_pos c4, h5, h6]
                simp only [Bool.false_eq_true, if_false]
                exact hj k (by omega)
              · simp only [impl_SameSpan.f, impl_Attr.f]
                rw [if_pos c1, if_pos c2, if_pos c3, if_pos c4, h5', if_pos rfl, if_neg c6]
                rfl
          · have h5 : (e != e') = true := by simpa using c5
            have h5' : ¬ (e == e') = true := by simpa using c5
            refine ⟨false, fun k hk => ⟨?_, ?_⟩⟩
            · simp only [spec_SameSpan.f]
              rw [if_pos c1, if_pos c2, if_pos c3, if_pos c4, if_pos h5]
              exact hj k (by omega)
            · simp only [impl_SameSpan.f]
              rw [if_pos c1, if_pos c2, if_pos c3, if_pos c4, if_neg h5']
        · refine ⟨false, fun k hk => ⟨?_, ?_⟩⟩
          · simp only [spec_SameSpan.f]
            rw [if_pos c1, if_pos c2, if_pos c3, if_neg c4]
            exact hj k (by omega)
          · simp only [impl_SameSpan.f]
            rw [if_pos c1, if_pos c2, if_pos c3, if_neg c4]
      · refine ⟨false, fun k hk => ⟨?_, ?_⟩⟩
        · simp only [spec_SameSpan.f]
          rw [if_pos c1, if_pos c2, if_neg c3]
          exact hj k (by omega)
        · simp only [impl_SameSpan.f]
          rw [if_pos c1, if_pos c2, if_neg c3]
    · refine ⟨false, fun k hk => ⟨?_, ?_⟩⟩
      · simp only [spec_SameSpan.f]
        rw [if_pos c1, if_neg c2]
        exact hj k (by omega)
      · simp only [impl_SameSpan.f]
        rw [if_pos c1, if_neg c2]
  · refine ⟨false, fun k hk => ⟨?_, ?_⟩⟩
    · simp only [spec_SameSpan.f]
      rw [if_neg c1]
      exact hj k (by omega)
    · simp only [impl_SameSpan.f]
      rw [if_neg c1]
theorem sameSpan_self (a b c d : Int) (e : Bool) (l : List S47) (hl : l.length ≤ 1048576) : ∀ k, 1048577 < k → impl_SameSpan.f k a b c d e l a b c d e l = some true := by
  obtain ⟨r, hr, h⟩ := loop_ex (σ := Unit) (L := fun k _ i => impl_Attr.l0 k l l l.length i) (n := l.length) (K := 0) (I := fun _ _ => True) (Post := fun _ _ r => r = true)
    (fun s _ => ⟨true, rfl, fun k => by
      simp only [impl_Attr.l0]
      rw [if_neg (not_lt_cast _)]⟩)
    (fun s i hi _ => .inr ⟨(), trivial, fun k _ => by
      simp only [impl_Attr.l0]
      rw [if_pos (lt_cast hi), if_pos (nn_cast i), if_pos (lt_cast hi), if_pos (lt_cast hi), rdIA _ _ hi, wrap_nat1 hi (by omega)]
      exact if_neg (show ¬ attrNe l[i] l[i] = true by rw [attrNe_self]; decide), fun _ h => h⟩) l.length () 0 (by omega) trivial
  subst hr
  intro k hk
  have h2 : impl_Attr.l0 k l l l.length 0 = some true := h k (by omega)
  simp [impl_SameSpan.f, impl_Attr.f, h2]

theorem fit_map (l : List S58) (h : ∀ x ∈ l, fitA x) : ∀ x ∈ l.map cvA, x.f0.size ≤ 1048576 ∧ x.f3.size ≤ 1048576 := by
  intro x hx
  obtain ⟨y, hy, rfl⟩ := List.mem_map.1 hx
  exact h y hy

theorem FnExactSameSpan : ∀ (a0_0 : Int) (a0_1 : Int) (a0_2 : Int) (a0_3 : Int) (a0_4 : Bool) (l0_5 : (List S58)) (a1_0 : Int) (a1_1 : Int) (a1_2 : Int) (a1_3 : Int) (a1_4 : Bool) (l1_5 : (List S58)), ((Lit.int .i64 a0_0).wf = true ∧ (Lit.int .i64 a0_1).wf = true ∧ (Lit.int .i64 a0_2).wf = true ∧ (Lit.int .i64 a0_3).wf = true ∧ True ∧ (l0_5.length ≤ maxLen ∧ ∀ y58 ∈ l0_5, good58 y58)) → ((Lit.int .i64 a1_0).wf = true ∧ (Lit.int .i64 a1_1).wf = true ∧ (Lit.int .i64 a1_2).wf = true ∧ (Lit.int .i64 a1_3).wf = true ∧ True ∧ (l1_5.length ≤ maxLen ∧ ∀ y58 ∈ l1_5, good58 y58)) → ∃ k, laws_FnExactSameSpan.f k a0_0 a0_1 a0_2 a0_3 a0_4 l0_5 a1_0 a1_1 a1_2 a1_3 a1_4 l1_5 = some true := by
  intro a b c d e l a' b' c' d' e' l' hg hg'
  obtain ⟨v, hv, hv1, hv2⟩ := szSpan_at a b c d e l 1048576 hg.2.2.2.2.2.1 hg.2.2.2.2.2.2 (by omega) (by omega)
  refine ⟨1048578, ?_⟩
  by_cases hn : v < 0
  · simp only [laws_FnExactSameSpan.f, hv 1048578 (by omega), Option.bind_some]
    rw [if_pos hn]
  obtain ⟨v', hv', hv1', hv2'⟩ := szSpan_at a' b' c' d' e' l' v hg'.2.2.2.2.2.1 hg'.2.2.2.2.2.2 (by omega) (by omega)
  by_cases hn' : v' < 0
  · simp only [laws_FnExactSameSpan.f, hv 1048578 (by omega), hv' 1048578 (by omega), Option.bind_some]
    rw [if_neg hn, if_pos hn']
  have hf := hv2 (by omega)
  have hf' := hv2' (by omega)
  have h1 := toSpan_at a b c d e l (by omega) 1048578 (by omega)
  have h1' := toSpan_at a' b' c' d' e' l' (by omega) 1048578 (by omega)
  have h4 := eqSpan_at a b c d e (l.map cvA) (by simp; omega) 1048578 (by omega)
  have h4' := eqSpan_at a' b' c' d' e' (l'.map cvA) (by simp; omega) 1048578 (by omega)
  obtain ⟨r, hr⟩ := sameSpan_both a b c d e (l.map cvA) a' b' c' d' e' (l'.map cvA) (by simp; omega)
  obtain ⟨e1, e2⟩ := hr 1048578 (by omega)
  simp only [laws_FnExactSameSpan.f, hv 1048578 (by omega), hv' 1048578 (by omega), h1, h1', h4, h4', e1, e2, Option.bind_some, if_true]
  rw [if_neg hn, if_neg hn']
  simp

end Go.Proofs.Ytkhbhdchakbmhaa.Pure
