/- The program's LengthOf returns what the reference's returns, for all arguments. Conditions: none beyond the statement's own. -/
import Derived.Test.YteiabkojcfjldaaPFnExactLengthOfx
set_option linter.unusedVariables false
set_option linter.unusedSimpArgs false
namespace Go.Proofs.Yteiabkojcfjldaa.Pure
open Go.RowKit Go.Proofs.Yteiabkojcfjldaa.PFnExactLengthOf Go.Proofs.YteiabkojcfjldaaW.PrintWords Go.Proofs.YteiabkojcfjldaaW.PrintLast Go.Proofs.YteiabkojcfjldaaW.PrintMore
def good23 (x : S23) : Prop := x.f0.size ≤ maxLen ∧ True ∧ (Lit.int .i64 x.f2).wf = true ∧ x.f3.size ≤ maxLen

/-- A loop over an index: from a state that is good, with enough rounds, it comes to an end that meets what is told of it. -/
theorem loop_ex {σ β : Type} {L : Nat → σ → Int → Option β} {n K : Nat} {I : σ → Nat → Prop} {Post : σ → Nat → β → Prop}
    (hend : ∀ s, I s n → ∃ r, Post s n r ∧ ∀ k, L (k + 1) s (n : Int) = some r)
    (hstep : ∀ s (i : Nat), i < n → I s i → (∃ r, Post s i r ∧ ∀ k, K ≤ k → L (k + 1) s (i : Int) = some r) ∨
      ∃ s', I s' (i + 1) ∧ (∀ k, K ≤ k → L (k + 1) s (i : Int) = L k s' ((i : Int) + 1)) ∧ ∀ r, Post s' (i + 1) r → Post s i r) :
    ∀ (d : Nat) s (i : Nat), i + d = n → I s i → ∃ r, Post s i r ∧ ∀ k, K + d < k → L k s (i : Int) = some r := by
  intro d
  induction d with
  | zero =>
    intro s i hd hI
    obtain rfl : i = n := by omega
    obtain ⟨r, hp, hr⟩ := hend s hI
    refine ⟨r, hp, fun k hk => ?_⟩
    obtain ⟨k, rfl⟩ : ∃ m, k = m + 1 := ⟨k - 1, by omega⟩
    exact hr k
  | succ d ih =>
    intro s i hd hI
    rcases hstep s i (by omega) hI with ⟨r, hp, hr⟩ | ⟨s', hI', he, hp⟩
    · refine ⟨r, hp, fun k hk => ?_⟩
      obtain ⟨k, rfl⟩ : ∃ m, k = m + 1 := ⟨k - 1, by omega⟩
      exact hr k (by omega)
    · obtain ⟨r, hq, hr⟩ := ih s' (i + 1) (by omega) hI'
      refine ⟨r, hp r hq, fun k hk => ?_⟩
      obtain ⟨k, rfl⟩ : ∃ m, k = m + 1 := ⟨k - 1, by omega⟩
      rw [he k (by omega)]
      have := hr k (by omega)
      rw [Int.natCast_add] at this
      exact this
theorem ev_at {α : Type} {g : Nat → Option α} {r : α} (K : Nat) (h : ∀ k, K < k → g k = some r) : Ev g r := ⟨K + 1, fun k hk => h k (by omega)⟩
theorem wrap_of {x : Int} (h0 : -9223372036854775808 ≤ x) (h1 : x ≤ 9223372036854775807) : wrap64 x = x := by
  unfold wrap64
  omega
theorem wrap_nat1 {i n : Nat} (h : i < n) (hn : n ≤ 9223372036854775807) : wrap64 ((i : Int) + 1) = (i : Int) + 1 := wrap_of (by omega) (by omega)
theorem lt_cast {i n : Nat} (h : i < n) : (i : Int) < (n : Int) := by omega
theorem nn_cast (i : Nat) : 0 ≤ (i : Int) := by omega
theorem not_lt_cast (n : Nat) : ¬ (n : Int) < (n : Int) := by omega
/-- What is written cell by cell. -/
theorem fill_set {α : Type} (l : List α) (z : α) (i : Nat) (h : i < l.length) : (l.take i ++ List.replicate (l.length - i) z).set i l[i] = l.take (i + 1) ++ List.replicate (l.length - (i + 1)) z := by
  have e1 : l.length - i = (l.length - (i + 1)) + 1 := by omega
  have e2 : (l.take i).length = i := by rw [List.length_take]; omega
  rw [e1, List.replicate_succ, List.set_append_right _ _ (by omega), e2, Nat.sub_self, List.set_cons_zero, List.take_succ_eq_append_getElem h, List.append_assoc]
  rfl
theorem fill_len {α : Type} (l : List α) (z : α) (i : Nat) (h : i ≤ l.length) : (l.take i ++ List.replicate (l.length - i) z).length = l.length := by
  rw [List.length_append, List.length_take, List.length_replicate]
  omega

theorem szAttr_ex (a : ByteArray) (b : Bool) (c : Int) (e : ByteArray) (left : Int) (ha : a.size ≤ maxLen) (he : e.size ≤ maxLen) (h0 : 0 ≤ left) (h1 : left ≤ 1048576) :
    ∃ v, laws_szAttr.f a b c e left = some v ∧ v ≤ left ∧ (0 ≤ v → (a.size : Int) ≤ left ∧ (e.size : Int) ≤ left) := by
  unfold maxLen at ha he
  unfold laws_szAttr.f
  have w1 : wrap64 (left - (a.size : Int)) = left - (a.size : Int) := wrap_of (by omega) (by omega)
  rw [w1]
  by_cases c1 : left - (a.size : Int) < 0
  · rw [if_pos c1]
    exact ⟨-1, rfl, by omega, by omega⟩
  · rw [if_neg c1]
    have w2 : wrap64 (left - (a.size : Int) - (e.size : Int)) = left - (a.size : Int) - (e.size : Int) := wrap_of (by omega) (by omega)
    rw [w2]
    by_cases c2 : left - (a.size : Int) - (e.size : Int) < 0
    · rw [if_pos c2]
      exact ⟨-1, rfl, by omega, by omega⟩
    · rw [if_neg c2]
      exact ⟨_, rfl, by omega, by omega⟩

theorem rdLA (l : List S23) (i : Nat) (h : i < l.length) : rd_T23 l (i : Int) = l[i] := by
  simp [rd_T23, List.getD_eq_getElem?_getD, h]

def fitA (x : S23) : Prop := x.f0.size ≤ 1048576 ∧ x.f3.size ≤ 1048576
theorem szAttrS_ex (l : List S23) (left : Int) (hl : l.length ≤ maxLen) (hg : ∀ x ∈ l, good23 x) (h0 : 0 ≤ left) (h1 : left ≤ 1048576) :
    ∃ v, Ev (fun k => laws_szAttrS.f k l left) v ∧ v ≤ left ∧ (0 ≤ v → (l.length : Int) ≤ left ∧ ∀ x ∈ l, fitA x) := by
  unfold maxLen at hl
  have w1 : wrap64 (left - (l.length : Int)) = left - (l.length : Int) := wrap_of (by omega) (by omega)
  by_cases c1 : left - (l.length : Int) < 0
  · refine ⟨-1, ⟨0, fun k _ => ?_⟩, by omega, by omega⟩
    simp only [laws_szAttrS.f]
    rw [w1, if_pos c1]
  · obtain ⟨r, ⟨hr1, hr2⟩, h⟩ := loop_ex (σ := Int) (L := fun k s i => laws_szAttrS.l0 k l s i) (n := l.length) (K := 0)
      (I := fun s _ => 0 ≤ s ∧ s ≤ left) (Post := fun s i r => r ≤ s ∧ (0 ≤ r → ∀ j (h : j < l.length), i ≤ j → fitA l[j]))
      (fun s hI => ⟨s, ⟨by omega, fun _ j hj hij => by omega⟩, fun k => by
        simp only [laws_szAttrS.l0]
        rw [if_neg (not_lt_cast _)]⟩)
      (fun s i hi hI => by
        obtain ⟨g1, _, _, g2⟩ := hg l[i] (List.getElem_mem hi)
        obtain ⟨v, hv, hv1, hv2⟩ := szAttr_ex l[i].f0 l[i].f1 l[i].f2 l[i].f3 s g1 g2 hI.1 (by omega)
        by_cases hneg : v < 0
        · refine .inl ⟨-1, ⟨by omega, by omega⟩, fun k _ => ?_⟩
          simp only [laws_szAttrS.l0]
          rw [if_pos (lt_cast hi), if_pos (nn_cast i), rdLA _ _ hi, hv, Option.bind_some, if_pos hneg]
        · refine .inr ⟨v, ⟨by omega, by omega⟩, fun k _ => ?_, fun r hr => ⟨by omega, fun hr0 j hj hij => ?_⟩⟩
          · simp only [laws_szAttrS.l0]
            rw [if_pos (lt_cast hi), if_pos (nn_cast i), rdLA _ _ hi, hv, Option.bind_some, if_neg hneg, wrap_nat1 hi (by omega)]
          · rcases Nat.lt_or_ge i j with hlt | hge
            · exact hr.2 hr0 j hj hlt
            · obtain rfl : i = j := by omega
              have := hv2 (by omega)
              exact ⟨by omega, by omega⟩) l.length (left - (l.length : Int)) 0 (by omega) ⟨by omega, by omega⟩
    refine ⟨r, ev_at (0 + l.length) fun k hk => ?_, by omega, fun hr0 => ⟨by omega, fun x hx => ?_⟩⟩
    · simp only [laws_szAttrS.f]
      rw [w1, if_neg c1]
      exact h k hk
    · obtain ⟨j, hj, rfl⟩ := List.getElem_of_mem hx
      exact hr2 hr0 j hj (by omega)

theorem szSpan_ex (a b c d : Int) (e : Bool) (l : List S23) (left : Int) (hl : l.length ≤ maxLen) (hg : ∀ x ∈ l, good23 x) (h0 : 0 ≤ left) (h1 : left ≤ 1048576) :
    ∃ v, Ev (fun k => laws_szSpan.f k a b c d e l left) v ∧ v ≤ left ∧ (0 ≤ v → (l.length : Int) ≤ left ∧ ∀ x ∈ l, fitA x) := by
  obtain ⟨v, ⟨K, hv⟩, hv1, hv2⟩ := szAttrS_ex l left hl hg h0 h1
  by_cases hn : v < 0
  · refine ⟨-1, ⟨K, fun k hk => ?_⟩, by omega, by omega⟩
    have := hv k hk
    simp only at this
    simp only [laws_szSpan.f, this, Option.bind_some]
    rw [if_pos hn]
  · refine ⟨v, ⟨K, fun k hk => ?_⟩, hv1, hv2⟩
    have := hv k hk
    simp only at this
    simp only [laws_szSpan.f, this, Option.bind_some]
    rw [if_neg hn]

def cvA (x : S23) : S26 := ⟨x.f0, x.f1, x.f2, x.f3⟩
theorem toAttrS_ev (l : List S23) (hl : l.length ≤ 1048576) : Ev (fun k => laws_toAttrS.f k l) (l.map cvA) := by
  have hm : (l.map cvA).length = l.length := by simp
  obtain ⟨r, hr, h⟩ := loop_ex (σ := List S26) (L := fun k s i => laws_toAttrS.l0 k l s i) (n := l.length) (K := 0)
    (I := fun s i => s = (l.map cvA).take i ++ List.replicate ((l.map cvA).length - i) z26) (Post := fun _ _ r => r = l.map cvA)
    (fun s hI => ⟨_, rfl, fun k => by
      simp only [laws_toAttrS.l0]
      rw [if_neg (not_lt_cast _), hI, ← hm, List.take_length, Nat.sub_self]
      simp⟩)
    (fun s i hi hI => .inr ⟨_, rfl, fun k _ => by
      have hi' : i < (l.map cvA).length := by omega
      have e : (⟨l[i].f0, l[i].f1, l[i].f2, l[i].f3⟩ : S26) = (l.map cvA)[i] := by rw [List.getElem_map]; rfl
      simp only [laws_toAttrS.l0, laws_toAttr.f, Option.bind_some]
      rw [if_pos (lt_cast hi), if_pos (nn_cast i), hI, fill_len _ _ _ (by omega), if_pos (lt_cast hi'), rdLA _ _ hi, wrap_nat1 hi (by omega), e]
      simp only [Int.toNat_natCast]
      rw [fill_set _ _ _ hi'], fun _ h => h⟩) l.length (List.replicate l.length z26) 0 (by omega) (by simp)
  subst hr
  refine ev_at (0 + l.length) fun k hk => ?_
  simp only [laws_toAttrS.f]
  rw [if_pos (by omega), if_pos (by simp; omega)]
  exact h k hk

theorem toSpan_ev (a b c d : Int) (e : Bool) (l : List S23) (hl : l.length ≤ 1048576) : Ev (fun k => laws_toSpan.f k a b c d e l) (a, b, c, d, e, l.map cvA) := by
  obtain ⟨K, h⟩ := toAttrS_ev l hl
  refine ⟨K, fun k hk => ?_⟩
  have := h k hk
  simp only at this
  simp only [laws_toSpan.f, this, Option.bind_some]

theorem rdIA (l : List S26) (i : Nat) (h : i < l.length) : rd_T26 l (i : Int) = l[i] := by
  simp [rd_T26, List.getD_eq_getElem?_getD, h]

theorem eqAttr_self (a : ByteArray) (b : Bool) (c : Int) (e : ByteArray) : laws_eqAttr.f a b c e a b c e = some true := by
  simp [laws_eqAttr.f]

theorem eqAttrS_self (l : List S26) (hl : l.length ≤ 4294967296) : Ev (fun k => laws_eqAttrS.f k l l) true := by
  obtain ⟨r, hr, h⟩ := loop_ex (σ := Unit) (L := fun k _ i => laws_eqAttrS.l0 k l l i) (n := l.length) (K := 0)
    (I := fun _ _ => True) (Post := fun _ _ r => r = true)
    (fun s hI => ⟨true, rfl, fun k => by
      simp only [laws_eqAttrS.l0]
      rw [if_neg (not_lt_cast _)]⟩)
    (fun s i hi hI => .inr ⟨(), trivial, fun k _ => by
      simp only [laws_eqAttrS.l0, eqAttr_self, Option.bind_some, if_true]
      rw [if_pos (lt_cast hi), if_pos (nn_cast i), if_pos (lt_cast hi), wrap_nat1 hi (by omega)], fun _ h => h⟩) l.length () 0 (by omega) trivial
  subst hr
  refine ev_at (0 + l.length) fun k hk => ?_
  simp only [laws_eqAttrS.f, if_true]
  exact h k hk

theorem eqSpan_self (a b c d : Int) (e : Bool) (l : List S26) (hl : l.length ≤ 4294967296) : Ev (fun k => laws_eqSpan.f k a b c d e l a b c d e l) true := by
  obtain ⟨K, h⟩ := eqAttrS_self l hl
  refine ⟨K, fun k hk => ?_⟩
  have := h k hk
  simp only at this
  simp [laws_eqSpan.f, this]

theorem fit_map (l : List S23) (h : ∀ x ∈ l, fitA x) : ∀ x ∈ l.map cvA, x.f0.size ≤ 1048576 ∧ x.f3.size ≤ 1048576 := by
  intro x hx
  obtain ⟨y, hy, rfl⟩ := List.mem_map.1 hx
  exact h y hy

def capv (n : Int) : Int := if n < 0 then 0 else if n > 2147483647 then 2147483647 else n
theorem capv_range (n : Int) : 0 ≤ capv n ∧ capv n ≤ 2147483647 := by unfold capv; (repeat' split) <;> omega
theorem capv_id {n : Int} (h0 : 0 ≤ n) (h1 : n ≤ 2147483647) : capv n = n := by unfold capv; (repeat' split) <;> omega
theorem spec_Cap_eq (a : Int) : spec_Cap.f a = some (capv a) := by unfold spec_Cap.f capv; (repeat' split) <;> rfl
theorem impl_Cap_eq (a : Int) : impl_Cap.f a = some (capv a) := by
  unfold impl_Cap.f capv mn mx
  congr 1
  (repeat' split) <;> omega

def subv (a b : Int) : Int := capv (capv a - capv b)
theorem wrap_sub (a b : Int) : wrap64 (capv a - capv b) = capv a - capv b := by
  have := capv_range a
  have := capv_range b
  unfold wrap64
  omega

theorem spec_Sub_eq (a b : Int) : spec_Sub.f a b = some (subv a b) := by
  simp only [spec_Sub.f, spec_Cap_eq, Option.bind_some, wrap_sub, subv]
theorem impl_Sub_eq (a b : Int) : impl_Sub.f a b = some (subv a b) := by
  simp only [impl_Sub.f, impl_Cap_eq, Option.bind_some, wrap_sub, subv]

theorem FnExactLengthOf : ∀ (a0_0 : Int) (a0_1 : Int) (a0_2 : Int) (a0_3 : Int) (a0_4 : Bool) (l0_5 : (List S23)), ((Lit.int .i64 a0_0).wf = true ∧ (Lit.int .i64 a0_1).wf = true ∧ (Lit.int .i64 a0_2).wf = true ∧ (Lit.int .i64 a0_3).wf = true ∧ True ∧ (l0_5.length ≤ maxLen ∧ ∀ y23 ∈ l0_5, good23 y23)) → ∃ k, laws_FnExactLengthOf.f k a0_0 a0_1 a0_2 a0_3 a0_4 l0_5 = some true := by
  intro a b c d e l hg
  obtain ⟨v, ⟨K0, hv⟩, hv1, hv2⟩ := szSpan_ex a b c d e l 1048576 hg.2.2.2.2.2.1 hg.2.2.2.2.2.2 (by omega) (by omega)
  simp only at hv
  by_cases hn : v < 0
  · refine ⟨K0, ?_⟩
    simp only [laws_FnExactLengthOf.f, hv K0 (Nat.le_refl _), Option.bind_some]
    rw [if_pos hn]
  · have hf := hv2 (by omega)
    have hl : l.length ≤ 1048576 := by omega
    obtain ⟨K1, h1⟩ := toSpan_ev a b c d e l hl
    obtain ⟨K4, h4⟩ := eqSpan_self a b c d e (l.map cvA) (by simp; omega)
    simp only at h1 h4
    generalize hm : K0 + K1 + K4 = m
    refine ⟨m, ?_⟩
    simp only [laws_FnExactLengthOf.f, hv m (by omega), h1 m (by omega), spec_LengthOf.f, impl_LengthOf.f, spec_Sub_eq, impl_Sub_eq, h4 m (by omega), Option.bind_some, if_true]
    rw [if_neg hn]

end Go.Proofs.Yteiabkojcfjldaa.Pure
