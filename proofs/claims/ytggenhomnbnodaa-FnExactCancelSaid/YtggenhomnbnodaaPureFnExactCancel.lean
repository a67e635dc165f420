/- The program's Cancel returns what the reference's returns, for all arguments. Conditions: none beyond the statement's own. -/
import Derived.Test.YtggenhomnbnodaaQFnExactCancelx
set_option linter.unusedVariables false
set_option linter.unusedSimpArgs false
namespace Go.Proofs.Ytggenhomnbnodaa.Pure
open Go.RowKit Go.Proofs.Ytggenhomnbnodaa.QFnExactCancel Go.Proofs.YtggenhomnbnodaaW.PrintWords Go.Proofs.YtggenhomnbnodaaW.PrintLast Go.Proofs.YtggenhomnbnodaaW.PrintMore
def good43 (x : S43) : Prop := (Lit.int .i64 x.f0).wf = true ∧ (Lit.int .i64 x.f1).wf = true ∧ (Lit.int .i64 x.f2).wf = true

/-- A loop over an index: from a state that is good, with enough rounds, it comes to an end that meets what is told of it. -/
theorem loop_ex {σ β : Type} {L : Nat → σ → Int → Option β} {n K : Nat} {I : σ → Nat → Prop} {Post : σ → Nat → β → Prop}
    (hend : ∀ s, I s n → ∃ r, Post s n r ∧ ∀ k, L (k + 1) s (n : Int) = some r)
    (hstep : ∀ s (i : Nat), i < n → I s i → (∃ r, Post s i r ∧ ∀ k, K ≤ k → L (k + 1) s (i : Int) = some r) ∨
      ∃ s', I s' (i + 1) ∧ (∀ k, K ≤ k → L (k + 1) s (i : Int) = L k s' ((i : Int) + 1)) ∧ ∀ r, Post s' (i + 1) r → Post s i r) :
    ∀ (d : Nat) s (i : Nat), i + d = n → I s i → ∃ r, Post s i r ∧ ∀ k, K + d < k → L k s (i : Int) = some r := by
  intro d
  induction d with
  | zero =>
    intro s i hd hI
    obtain rfl : i = n := by omega
    obtain ⟨r, hp, hr⟩ := hend s hI
    refine ⟨r, hp, fun k hk => ?_⟩
    obtain ⟨k, rfl⟩ : ∃ m, k = m + 1 := ⟨k - 1, by omega⟩
    exact hr k
  | succ d ih =>
    intro s i hd hI
    rcases hstep s i (by omega) hI with ⟨r, hp, hr⟩ | ⟨s', hI', he, hp⟩
    · refine ⟨r, hp, fun k hk => ?_⟩
      obtain ⟨k, rfl⟩ : ∃ m, k = m + 1 := ⟨k - 1, by omega⟩
      exact hr k (by omega)
    · obtain ⟨r, hq, hr⟩ := ih s' (i + 1) (by omega) hI'
      refine ⟨r, hp r hq, fun k hk => ?_⟩
      obtain ⟨k, rfl⟩ : ∃ m, k = m + 1 := ⟨k - 1, by omega⟩
      rw [he k (by omega)]
      have := hr k (by omega)
      rw [Int.natCast_add] at this
      exact this
theorem ev_at {α : Type} {g : Nat → Option α} {r : α} (K : Nat) (h : ∀ k, K < k → g k = some r) : Ev g r := ⟨K + 1, fun k hk => h k (by omega)⟩
theorem wrap_of {x : Int} (h0 : -9223372036854775808 ≤ x) (h1 : x ≤ 9223372036854775807) : wrap64 x = x := by
  unfold wrap64
  omega
theorem wrap_nat1 {i n : Nat} (h : i < n) (hn : n ≤ 9223372036854775807) : wrap64 ((i : Int) + 1) = (i : Int) + 1 := wrap_of (by omega) (by omega)
theorem lt_cast {i n : Nat} (h : i < n) : (i : Int) < (n : Int) := by omega
theorem nn_cast (i : Nat) : 0 ≤ (i : Int) := by omega
theorem not_lt_cast (n : Nat) : ¬ (n : Int) < (n : Int) := by omega
/-- What is written cell by cell. -/
theorem fill_set {α : Type} (l : List α) (z : α) (i : Nat) (h : i < l.length) : (l.take i ++ List.replicate (l.length - i) z).set i l[i] = l.take (i + 1) ++ List.replicate (l.length - (i + 1)) z := by
  have e1 : l.length - i = (l.length - (i + 1)) + 1 := by omega
  have e2 : (l.take i).length = i := by rw [List.length_take]; omega
  rw [e1, List.replicate_succ, List.set_append_right _ _ (by omega), e2, Nat.sub_self, List.set_cons_zero, List.take_succ_eq_append_getElem h, List.append_assoc]
  rfl
theorem fill_len {α : Type} (l : List α) (z : α) (i : Nat) (h : i ≤ l.length) : (l.take i ++ List.replicate (l.length - i) z).length = l.length := by
  rw [List.length_append, List.length_take, List.length_replicate]
  omega

theorem rdLT (l : List S43) (i : Nat) (h : i < l.length) : rd_T43 l (i : Int) = l[i] := by
  simp [rd_T43, List.getD_eq_getElem?_getD, h]
theorem rdLLT (l : List (List S43)) (i : Nat) (h : i < l.length) : rd_L6 l (i : Int) = l[i] := by
  simp [rd_L6, List.getD_eq_getElem?_getD, h]

theorem szTimerS_ex (l : List S43) (left : Int) (hl : l.length ≤ maxLen) (h0 : 0 ≤ left) (h1 : left ≤ 1048576) :
    ∃ v, laws_szTimerS.f l left = some v ∧ v ≤ left ∧ (0 ≤ v → (l.length : Int) + v ≤ left) := by
  unfold maxLen at hl
  have w1 : wrap64 (left - (l.length : Int)) = left - (l.length : Int) := wrap_of (by omega) (by omega)
  unfold laws_szTimerS.f
  rw [w1]
  by_cases c : left - (l.length : Int) < 0
  · rw [if_pos c]
    exact ⟨-1, rfl, by omega, by omega⟩
  · rw [if_neg c]
    exact ⟨_, rfl, by omega, by omega⟩
/-- Each row is short, and all of them together. -/
def fitT (l : List (List S43)) : Prop := l.length ≤ 1048576 ∧ (l.flatten.length ≤ 1048576 ∧ ∀ x ∈ l, x.length ≤ 1048576)
theorem szTimerSS_at (l : List (List S43)) (left : Int) (hl : l.length ≤ maxLen) (hg : ∀ x ∈ l, x.length ≤ maxLen) (h0 : 0 ≤ left) (h1 : left ≤ 1048576) :
    ∃ v, (∀ k, 1048577 < k → laws_szTimerSS.f k l left = some v) ∧ v ≤ left ∧ (0 ≤ v → (l.length : Int) + l.flatten.length + v ≤ left ∧ fitT l) := by
  unfold maxLen at hl
  have w1 : wrap64 (left - (l.length : Int)) = left - (l.length : Int) := wrap_of (by omega) (by omega)
  by_cases c1 : left - (l.length : Int) < 0
  · refine ⟨-1, fun k _ => ?_, by omega, by omega⟩
    simp only [laws_szTimerSS.f]
    rw [w1, if_pos c1]
  · obtain ⟨r, ⟨hr1, hr2⟩, h⟩ := loop_ex (σ := Int) (L := fun k s i => laws_szTimerSS.l0 k l s i) (n := l.length) (K := 0)
      (I := fun s _ => 0 ≤ s ∧ s ≤ left) (Post := fun s i r => r ≤ s ∧ (0 ≤ r → ((l.drop i).flatten.length : Int) + r ≤ s))
      (fun s hI => ⟨s, ⟨by omega, fun _ => by simp⟩, fun k => by
        simp only [laws_szTimerSS.l0]
        rw [if_neg (not_lt_cast _)]⟩)
      (fun s i hi hI => by
        obtain ⟨v, hv, hv1, hv2⟩ := szTimerS_ex l[i] s (hg _ (List.getElem_mem hi)) hI.1 (by omega)
        by_cases hneg : v < 0
        · refine .inl ⟨-1, ⟨by omega, by omega⟩, fun k hk => ?_⟩
          simp only [laws_szTimerSS.l0]
          rw [if_pos (lt_cast hi), if_pos (nn_cast i), rdLLT _ _ hi, hv, Option.bind_some, if_pos hneg]
        · refine .inr ⟨v, ⟨by omega, by omega⟩, fun k hk => ?_, fun r hr => ⟨by omega, fun hr0 => ?_⟩⟩
          · simp only [laws_szTimerSS.l0]
            rw [if_pos (lt_cast hi), if_pos (nn_cast i), rdLLT _ _ hi, hv, Option.bind_some, if_neg hneg, wrap_nat1 hi (by omega)]
          · have h3 := hr.2 hr0
            have h4 := hv2 (by omega)
            rw [List.drop_eq_getElem_cons hi, List.flatten_cons, List.length_append]
            push_cast
            omega) l.length (left - (l.length : Int)) 0 (by omega) ⟨by omega, by omega⟩
    refine ⟨r, fun k hk => ?_, by omega, fun hr0 => ?_⟩
    · simp only [laws_szTimerSS.f]
      rw [w1, if_neg c1]
      exact h k (by omega)
    · have h3 := hr2 hr0
      rw [List.drop_zero] at h3
      refine ⟨by omega, by omega, by omega, fun x hx => ?_⟩
      have := (List.sublist_flatten_of_mem hx).length_le
      omega
theorem szWheel_at (a : Int) (l m : List (List S43)) (q : List S43) (hl : l.length ≤ maxLen ∧ ∀ x ∈ l, x.length ≤ maxLen) (hm : m.length ≤ maxLen ∧ ∀ x ∈ m, x.length ≤ maxLen) (hq : q.length ≤ maxLen) :
    ∃ v, (∀ k, 1048577 < k → laws_szWheel.f k a l m q 1048576 = some v) ∧ (0 ≤ v → fitT l ∧ fitT m ∧ q.length ≤ 1048576 ∧ l.flatten.length + m.flatten.length + q.length ≤ 1048576) := by
  obtain ⟨v1, h1, b1, c1⟩ := szTimerSS_at l 1048576 hl.1 hl.2 (by omega) (by omega)
  by_cases n1 : v1 < 0
  · refine ⟨-1, fun k hk => ?_, by omega⟩
    simp only [laws_szWheel.f, h1 k hk, Option.bind_some]
    rw [if_pos n1]
  obtain ⟨v2, h2, b2, c2⟩ := szTimerSS_at m v1 hm.1 hm.2 (by omega) (by omega)
  by_cases n2 : v2 < 0
  · refine ⟨-1, fun k hk => ?_, by omega⟩
    simp only [laws_szWheel.f, h1 k hk, h2 k hk, Option.bind_some]
    rw [if_neg n1, if_pos n2]
  obtain ⟨v3, h3, b3, c3⟩ := szTimerS_ex q v2 hq (by omega) (by omega)
  by_cases n3 : v3 < 0
  · refine ⟨-1, fun k hk => ?_, by omega⟩
    simp only [laws_szWheel.f, h1 k hk, h2 k hk, h3, Option.bind_some]
    rw [if_neg n1, if_neg n2, if_pos n3]
  refine ⟨v3, fun k hk => ?_, fun _ => ?_⟩
  · simp only [laws_szWheel.f, h1 k hk, h2 k hk, h3, Option.bind_some]
    rw [if_neg n1, if_neg n2, if_neg n3]
  · have d1 := c1 (by omega)
    have d2 := c2 (by omega)
    have d3 := c3 (by omega)
    exact ⟨d1.2, d2.2, by omega, by omega⟩

def cvT (x : S43) : S46 := ⟨x.f0, x.f1, x.f2⟩
theorem toTimerS_at (l : List S43) (hl : l.length ≤ 1048576) : ∀ k, 1048576 < k → laws_toTimerS.f k l = some (l.map cvT) := by
  have hm : (l.map cvT).length = l.length := by simp
  obtain ⟨r, hr, h⟩ := loop_ex (σ := List S46) (L := fun k s i => laws_toTimerS.l0 k l s i) (n := l.length) (K := 0)
    (I := fun s i => s = (l.map cvT).take i ++ List.replicate ((l.map cvT).length - i) z46) (Post := fun _ _ r => r = l.map cvT)
    (fun s hI => ⟨_, rfl, fun k => by
      simp only [laws_toTimerS.l0]
      rw [if_neg (not_lt_cast _), hI, ← hm, List.take_length, Nat.sub_self]
      simp⟩)
    (fun s i hi hI => .inr ⟨_, rfl, fun k _ => by
      have hi' : i < (l.map cvT).length := by omega
      have e : (⟨l[i].f0, l[i].f1, l[i].f2⟩ : S46) = (l.map cvT)[i] := by rw [List.getElem_map]; rfl
      simp only [laws_toTimerS.l0, laws_toTimer.f, Option.bind_some]
      rw [if_pos (lt_cast hi), if_pos (nn_cast i), hI, fill_len _ _ _ (by omega), if_pos (lt_cast hi'), rdLT _ _ hi, wrap_nat1 hi (by omega), e]
      simp only [Int.toNat_natCast]
      rw [fill_set _ _ _ hi'], fun _ h => h⟩) l.length (List.replicate l.length z46) 0 (by omega) (by simp)
  subst hr
  intro k hk
  simp only [laws_toTimerS.f]
  rw [if_pos (by omega), if_pos (by simp; omega)]
  exact h k (by omega)
def cvTT (l : List (List S43)) : List (List S46) := l.map fun x => x.map cvT
theorem toTimerSS_at (l : List (List S43)) (hf : fitT l) : ∀ k, 2097153 < k → laws_toTimerSS.f k l = some (cvTT l) := by
  have hm : (cvTT l).length = l.length := by simp [cvTT]
  obtain ⟨hl, hl2, hf⟩ := hf
  obtain ⟨r, hr, h⟩ := loop_ex (σ := List (List S46)) (L := fun k s i => laws_toTimerSS.l0 k l s i) (n := l.length) (K := 1048577)
    (I := fun s i => s = (cvTT l).take i ++ List.replicate ((cvTT l).length - i) []) (Post := fun _ _ r => r = cvTT l)
    (fun s hI => ⟨_, rfl, fun k => by
      simp only [laws_toTimerSS.l0]
      rw [if_neg (not_lt_cast _), hI, ← hm, List.take_length, Nat.sub_self]
      simp⟩)
    (fun s i hi hI => .inr ⟨_, rfl, fun k hk => by
      have hi' : i < (cvTT l).length := by omega
      have e : l[i].map cvT = (cvTT l)[i] := by simp [cvTT]
      simp only [laws_toTimerSS.l0]
      rw [if_pos (lt_cast hi), if_pos (nn_cast i), rdLLT _ _ hi, toTimerS_at _ (hf _ (List.getElem_mem hi)) k (by omega), Option.bind_some, hI, fill_len _ _ _ (by omega), if_pos (lt_cast hi'), wrap_nat1 hi (by omega), e]
      simp only [Int.toNat_natCast]
      rw [fill_set _ _ _ hi'], fun _ h => h⟩) l.length (List.replicate l.length []) 0 (by omega) (by simp [hm])
  subst hr
  intro k hk
  simp only [laws_toTimerSS.f]
  rw [if_pos (by omega), if_pos (by simp; omega)]
  exact h k (by omega)
theorem toWheel_at (a : Int) (l m : List (List S43)) (q : List S43) (hl : fitT l) (hm : fitT m) (hq : q.length ≤ 1048576) : ∀ k, 2097153 < k → laws_toWheel.f k a l m q = some (a, cvTT l, cvTT m, q.map cvT) := by
  intro k hk
  simp only [laws_toWheel.f, toTimerSS_at l hl k hk, toTimerSS_at m hm k hk, toTimerS_at q hq k (by omega), Option.bind_some]
/-- Rows of timers that are short. -/
def fitI (l : List (List S46)) : Prop := l.length ≤ 1048576 ∧ (l.flatten.length ≤ 1048576 ∧ ∀ x ∈ l, x.length ≤ 1048576)
theorem flat_cv (l : List (List S43)) : (cvTT l).flatten = l.flatten.map cvT := by
  unfold cvTT
  rw [List.map_flatten]
theorem flat_cv_len (l : List (List S43)) : (cvTT l).flatten.length = l.flatten.length := by rw [flat_cv, List.length_map]
theorem fit_cv (l : List (List S43)) (h : fitT l) : fitI (cvTT l) := by
  obtain ⟨h1, h2, h3⟩ := h
  have e : (cvTT l).flatten = l.flatten.map cvT := by
    unfold cvTT
    rw [List.map_flatten]
  refine ⟨by simpa [cvTT] using h1, by rw [e, List.length_map]; exact h2, fun x hx => ?_⟩
  obtain ⟨y, hy, rfl⟩ := List.mem_map.1 hx
  simpa using h3 y hy

theorem rdIT (l : List S46) (i : Nat) (h : i < l.length) : rd_T46 l (i : Int) = l[i] := by
  simp [rd_T46, List.getD_eq_getElem?_getD, h]

theorem rdLIT (l : List (List S46)) (i : Nat) (h : i < l.length) : rd_L2 l (i : Int) = l[i] := by
  simp [rd_L2, List.getD_eq_getElem?_getD, h]

theorem eqTimer_self (a b c : Int) : laws_eqTimer.f a b c a b c = some true := by
  simp [laws_eqTimer.f]
theorem eqTimerS_at (l : List S46) (hl : l.length ≤ 1048576) : ∀ k, 1048576 < k → laws_eqTimerS.f k l l = some true := by
  obtain ⟨r, hr, h⟩ := loop_ex (σ := Unit) (L := fun k _ i => laws_eqTimerS.l0 k l l i) (n := l.length) (K := 0)
    (I := fun _ _ => True) (Post := fun _ _ r => r = true)
    (fun s hI => ⟨true, rfl, fun k => by
      simp only [laws_eqTimerS.l0]
      rw [if_neg (not_lt_cast _)]⟩)
    (fun s i hi hI => .inr ⟨(), trivial, fun k _ => by
      simp only [laws_eqTimerS.l0, eqTimer_self, Option.bind_some, if_true]
      rw [if_pos (lt_cast hi), if_pos (nn_cast i), if_pos (lt_cast hi), wrap_nat1 hi (by omega)], fun _ h => h⟩) l.length () 0 (by omega) trivial
  subst hr
  intro k hk
  simp only [laws_eqTimerS.f, if_true]
  exact h k (by omega)
theorem eqTimerSS_at (l : List (List S46)) (hl : l.length ≤ 1048576) (hf : ∀ x ∈ l, x.length ≤ 1048576) : ∀ k, 2097153 < k → laws_eqTimerSS.f k l l = some true := by
  obtain ⟨r, hr, h⟩ := loop_ex (σ := Unit) (L := fun k _ i => laws_eqTimerSS.l0 k l l i) (n := l.length) (K := 1048577)
    (I := fun _ _ => True) (Post := fun _ _ r => r = true)
    (fun s hI => ⟨true, rfl, fun k => by
      simp only [laws_eqTimerSS.l0]
      rw [if_neg (not_lt_cast _)]⟩)
    (fun s i hi hI => .inr ⟨(), trivial, fun k hk => by
      simp only [laws_eqTimerSS.l0]
      rw [if_pos (lt_cast hi), if_pos (nn_cast i), if_pos (lt_cast hi), rdLIT _ _ hi, eqTimerS_at _ (hf _ (List.getElem_mem hi)) k (by omega), wrap_nat1 hi (by omega)]
      rfl, fun _ h => h⟩) l.length () 0 (by omega) trivial
  subst hr
  intro k hk
  simp only [laws_eqTimerSS.f, if_true]
  exact h k (by omega)
theorem eqWheel_at (a : Int) (l m : List (List S46)) (q : List S46) (hl : l.length ≤ 1048576 ∧ ∀ x ∈ l, x.length ≤ 1048576) (hm : m.length ≤ 1048576 ∧ ∀ x ∈ m, x.length ≤ 1048576) (hq : q.length ≤ 1048576) : ∀ k, 2097153 < k → laws_eqWheel.f k a l m q a l m q = some true := by
  intro k hk
  simp [laws_eqWheel.f, eqTimerSS_at l hl.1 hl.2 k hk, eqTimerSS_at m hm.1 hm.2 k hk, eqTimerS_at q hq k (by omega)]

theorem ev_step {α : Type} {g g' : Nat → Option α} {r : α} (K c : Nat) (h : ∀ k, K ≤ k → g (k + c) = g' k) (hg : Ev g' r) : Ev g r := by
  obtain ⟨M, hM⟩ := hg
  refine ⟨M + K + c, fun k hk => ?_⟩
  obtain ⟨m, rfl⟩ : ∃ m, k = m + c := ⟨k - c, by omega⟩
  rw [h m (by omega)]
  exact hM m (by omega)
theorem ev_now {α : Type} {g : Nat → Option α} {r : α} (K c : Nat) (h : ∀ k, K ≤ k → g (k + c) = some r) : Ev g r := by
  refine ⟨K + c, fun k hk => ?_⟩
  obtain ⟨m, rfl⟩ : ∃ m, k = m + c := ⟨k - c, by omega⟩
  exact h m (by omega)
theorem loop_ev {α : Type} {L L' : Nat → Nat → Option α} {n : Nat} (hend : ∃ r, Ev (fun k => L k n) r ∧ Ev (fun k => L' k n) r)
    (hstep : ∀ i, i < n → (∃ r, Ev (fun k => L k i) r ∧ Ev (fun k => L' k i) r) ∨ ((∀ r, Ev (fun k => L k (i + 1)) r → Ev (fun k => L k i) r) ∧ ∀ r, Ev (fun k => L' k (i + 1)) r → Ev (fun k => L' k i) r)) :
    ∀ d i, i + d = n → ∃ r, Ev (fun k => L k i) r ∧ Ev (fun k => L' k i) r := by
  intro d
  induction d with
  | zero =>
    intro i hi
    obtain rfl : i = n := by omega
    exact hend
  | succ d ih =>
    intro i hi
    rcases hstep i (by omega) with h | ⟨h1, h2⟩
    · exact h
    · obtain ⟨r, e1, e2⟩ := ih (i + 1) (by omega)
      exact ⟨r, h1 r e1, h2 r e2⟩
theorem cast1 (i : Nat) : ((i + 1 : Nat) : Int) = (i : Int) + 1 := by omega

def inB (a b c : Int) : Bool := decide (b ≤ a) && decide (a ≤ c)
theorem impl_within_eq (a b c : Int) : impl_within.f a b c = some (inB a b c) := by
  unfold impl_within.f inB
  by_cases h : a ≥ b
  · rw [if_pos h]
    simp [show b ≤ a from h]
  · rw [if_neg h]
    simp [show ¬ b ≤ a from h]

theorem spec_l1In_eq (a b c : Int) : spec_l1In.f a b c = some (inB a b c) := by
  unfold spec_l1In.f inB
  by_cases h : a ≥ b
  · rw [if_pos h]
    simp [show b ≤ a from h]
  · rw [if_neg h]
    simp [show ¬ b ≤ a from h]

theorem slot_both (a : Int) (ha : 0 ≤ a) (ha2 : a ≤ 2147483647) (w1 w2 : List (List S46)) (w3 : List S46) (l : List S46) (hl : l.length ≤ 1048576) (q q' s : Int)
    (hq : (q = 1 ∧ q' = 0) ∨ (q = 2 ∧ q' = 1) ∨ (q = 3 ∧ q' = 2 ∧ s = 0)) :
    ∃ r, Ev (fun k => spec_l8Slot.f k a w1 w2 w3 l q s) r ∧ Ev (fun k => impl_belongs.f k a w1 w2 w3 l q' s) r := by
  have h := loop_ev (L := fun k i => spec_l8Slot.l0 k l q s (i : Int) a w1 w2 w3) (L' := fun k i => impl_belongs.l0 k q' s l l.length (i : Int) a w1 w2 w3) (n := l.length)
    ⟨true, ev_now 0 1 (fun k _ => by
      simp only [spec_l8Slot.l0]
      rw [if_neg (not_lt_cast _)]), ev_now 0 1 (fun k _ => by
      simp only [impl_belongs.l0]
      rw [if_neg (not_lt_cast _)])⟩
    (fun i hi => by
      have hw : wrap64 (a + 1) = a + 1 := wrap_of (by omega) (by omega)
      have bad : ∀ (hs : ∀ k, spec_l8Slot.l0 (k + 2) l q s (i : Int) a w1 w2 w3 = some false) (hm : ∀ k, impl_belongs.l0 (k + 2) q' s l l.length (i : Int) a w1 w2 w3 = some false),
          ∃ r, Ev (fun k => spec_l8Slot.l0 k l q s (i : Int) a w1 w2 w3) r ∧ Ev (fun k => impl_belongs.l0 k q' s l l.length (i : Int) a w1 w2 w3) r :=
        fun hs hm => ⟨false, ev_now 0 2 (fun k _ => hs k), ev_now 0 2 (fun k _ => hm k)⟩
      have hS : ∀ k, spec_l8Slot.l0 (k + 2) l q s (i : Int) a w1 w2 w3 = (if l[i].f0 < 1 then some false else if inB l[i].f1 1 999 = true then (if inB l[i].f2 (a + 1) 2147483647 = true then ((spec_l8Place.f a l[i].f2).bind fun b => if b.1 = q then (if b.2 = s then spec_l8Slot.l0 k l q s ((i : Int) + 1) a w1 w2 w3 else some false) else some false) else some false) else some false) := by
        intro k
        simp only [spec_l8Slot.l0, spec_l8Slot.j1, spec_l1In_eq, Option.bind_some]
        rw [if_pos (lt_cast hi), if_pos (nn_cast i), rdIT _ _ hi, hw, wrap_nat1 hi (by omega)]
        cases inB l[i].f1 1 999 <;> cases inB l[i].f2 (a + 1) 2147483647 <;> simp
      have hI : ∀ k, impl_belongs.l0 (k + 2) q' s l l.length (i : Int) a w1 w2 w3 = (if l[i].f0 < 1 then some false else if inB l[i].f1 1 999 = true then (if l[i].f2 ≤ a then some false else impl_belongs.j1 (k + 1) q' s l l.length (i : Int) (decide (l[i].f2 > 2147483647)) a w1 w2 w3 l[i].f0 l[i].f1 l[i].f2) else some false) := by
        intro k
        simp only [impl_belongs.l0, impl_within_eq, Option.bind_some]
        rw [if_pos (lt_cast hi), if_pos (nn_cast i), if_pos (lt_cast hi), rdIT _ _ hi]
        have hj : ∀ k, impl_belongs.j1 (k + 1) q' s l l.length (i : Int) true a w1 w2 w3 l[i].f0 l[i].f1 l[i].f2 = some false := by
          intro k
          simp only [impl_belongs.j1, if_true]
        rw [hj k]
      by_cases h1 : l[i].f0 < 1
      · exact .inl (bad (fun k => by rw [hS, if_pos h1]) (fun k => by rw [hI, if_pos h1]))
      by_cases h2 : inB l[i].f1 1 999 = true
      case neg => exact .inl (bad (fun k => by rw [hS, if_neg h1, if_neg h2]) (fun k => by rw [hI, if_neg h1, if_neg h2]))
      by_cases h3 : l[i].f2 ≤ a
      · have e : ¬ inB l[i].f2 (a + 1) 2147483647 = true := by simp [inB]; omega
        exact .inl (bad (fun k => by rw [hS, if_neg h1, if_pos h2, if_neg e]) (fun k => by rw [hI, if_neg h1, if_pos h2, if_pos h3]))
      by_cases h4 : l[i].f2 > 2147483647
      · have e : ¬ inB l[i].f2 (a + 1) 2147483647 = true := by simp [inB]; omega
        exact .inl (bad (fun k => by rw [hS, if_neg h1, if_pos h2, if_neg e]) (fun k => by
          rw [hI, if_neg h1, if_pos h2, if_neg h3, decide_eq_true h4]
          simp only [impl_belongs.j1, if_true]))
      have e : inB l[i].f2 (a + 1) 2147483647 = true := by simp [inB]; omega
      have hJ : ∀ k, impl_belongs.l0 (k + 2) q' s l l.length (i : Int) a w1 w2 w3 = impl_belongs.j1 (k + 1) q' s l l.length (i : Int) false a w1 w2 w3 l[i].f0 l[i].f1 l[i].f2 := by
        intro k
        rw [hI, if_neg h1, if_pos h2, if_neg h3, decide_eq_false h4]
      have hS' : ∀ k, spec_l8Slot.l0 (k + 2) l q s (i : Int) a w1 w2 w3 = ((spec_l8Place.f a l[i].f2).bind fun b => if b.1 = q then (if b.2 = s then spec_l8Slot.l0 k l q s ((i : Int) + 1) a w1 w2 w3 else some false) else some false) := by
        intro k
        rw [hS, if_neg h1, if_pos h2, if_pos e]
      generalize l[i].f2 = t at *
      have d1 : Int.tdiv t 8 = t / 8 := Int.tdiv_eq_ediv_of_nonneg (by omega)
      have d2 : Int.tdiv a 8 = a / 8 := Int.tdiv_eq_ediv_of_nonneg ha
      have u1 : wrap64 (t / 8) = t / 8 := wrap_of (by omega) (by omega)
      have u2 : wrap64 (a / 8) = a / 8 := wrap_of (by omega) (by omega)
      have u3 : wrap64 (t / 8 - a / 8) = t / 8 - a / 8 := wrap_of (by omega) (by omega)
      have hP : spec_l8Place.f a t = if t / 8 = a / 8 then some (1, Int.tmod t 8) else if t / 8 - a / 8 < 8 then some (2, Int.tmod (t / 8) 8) else some (3, 0) := by
        unfold spec_l8Place.f
        rw [d1, d2, u1, u2, u3]
      have hG : ∀ k, impl_belongs.j1 (k + 1) q' s l l.length (i : Int) false a w1 w2 w3 l[i].f0 l[i].f1 t = if q' = 0 then (if t / 8 - a / 8 = 0 then (if Int.tmod t 8 = s then impl_belongs.l0 k q' s l l.length ((i : Int) + 1) a w1 w2 w3 else some false) else some false) else if q' = 1 then (if inB (t / 8 - a / 8) 1 7 = true then (if Int.tmod (t / 8) 8 = s then impl_belongs.l0 k q' s l l.length ((i : Int) + 1) a w1 w2 w3 else some false) else some false) else (if t / 8 - a / 8 ≥ 8 then impl_belongs.l0 k q' s l l.length ((i : Int) + 1) a w1 w2 w3 else some false) := by
        intro k
        simp only [impl_belongs.j1, impl_within_eq, Option.bind_some]
        rw [if_neg (by simp), d1, d2, u1, u2, u3, wrap_nat1 hi (by omega)]
      have go : ∀ (hs : ∀ k, spec_l8Slot.l0 (k + 2) l q s (i : Int) a w1 w2 w3 = spec_l8Slot.l0 k l q s ((i : Int) + 1) a w1 w2 w3) (hm : ∀ k, impl_belongs.l0 (k + 2) q' s l l.length (i : Int) a w1 w2 w3 = impl_belongs.l0 k q' s l l.length ((i : Int) + 1) a w1 w2 w3),
          (∀ r, Ev (fun k => spec_l8Slot.l0 k l q s ((i + 1 : Nat) : Int) a w1 w2 w3) r → Ev (fun k => spec_l8Slot.l0 k l q s (i : Int) a w1 w2 w3) r) ∧ ∀ r, Ev (fun k => impl_belongs.l0 k q' s l l.length ((i + 1 : Nat) : Int) a w1 w2 w3) r → Ev (fun k => impl_belongs.l0 k q' s l l.length (i : Int) a w1 w2 w3) r := by
        intro hs hm
        rw [cast1]
        exact ⟨fun r => ev_step 0 2 (fun k _ => hs k), fun r => ev_step 0 2 (fun k _ => hm k)⟩
      rcases hq with ⟨rfl, rfl⟩ | ⟨rfl, rfl⟩ | ⟨rfl, rfl, rfl⟩
      · by_cases c1 : t / 8 = a / 8
        · by_cases c2 : Int.tmod t 8 = s
          · exact .inr (go (fun k => by rw [hS', hP, if_pos c1, Option.bind_some, if_pos rfl, if_pos c2]) (fun k => by rw [hJ, hG, if_pos rfl, if_pos (by omega), if_pos c2]))
          · exact .inl (bad (fun k => by rw [hS', hP, if_pos c1, Option.bind_some, if_pos rfl, if_neg c2]) (fun k => by rw [hJ, hG, if_pos rfl, if_pos (by omega), if_neg c2]))
        · refine .inl (bad (fun k => ?_) (fun k => by rw [hJ, hG, if_pos rfl, if_neg (by omega)]))
          rw [hS', hP, if_neg c1]
          by_cases c3 : t / 8 - a / 8 < 8
          · rw [if_pos c3, Option.bind_some, if_neg (by simp)]
          · rw [if_neg c3, Option.bind_some, if_neg (by simp)]
      · by_cases c1 : t / 8 = a / 8
        · exact .inl (bad (fun k => by rw [hS', hP, if_pos c1, Option.bind_some, if_neg (by simp)]) (fun k => by rw [hJ, hG, if_neg (by omega), if_pos rfl, if_neg (by simp [inB]; omega)]))
        · by_cases c3 : t / 8 - a / 8 < 8
          · have e2 : inB (t / 8 - a / 8) 1 7 = true := by simp [inB]; omega
            by_cases c2 : Int.tmod (t / 8) 8 = s
            · exact .inr (go (fun k => by rw [hS', hP, if_neg c1, if_pos c3, Option.bind_some, if_pos rfl, if_pos c2]) (fun k => by rw [hJ, hG, if_neg (by omega), if_pos rfl, if_pos e2, if_pos c2]))
            · exact .inl (bad (fun k => by rw [hS', hP, if_neg c1, if_pos c3, Option.bind_some, if_pos rfl, if_neg c2]) (fun k => by rw [hJ, hG, if_neg (by omega), if_pos rfl, if_pos e2, if_neg c2]))
          · exact .inl (bad (fun k => by rw [hS', hP, if_neg c1, if_neg c3, Option.bind_some, if_neg (by simp)]) (fun k => by rw [hJ, hG, if_neg (by omega), if_pos rfl, if_neg (by simp [inB]; omega)]))
      · by_cases c1 : t / 8 = a / 8
        · exact .inl (bad (fun k => by rw [hS', hP, if_pos c1, Option.bind_some, if_neg (by simp)]) (fun k => by rw [hJ, hG, if_neg (by omega), if_neg (by omega), if_neg (by omega)]))
        · by_cases c3 : t / 8 - a / 8 < 8
          · exact .inl (bad (fun k => by rw [hS', hP, if_neg c1, if_pos c3, Option.bind_some, if_neg (by simp)]) (fun k => by rw [hJ, hG, if_neg (by omega), if_neg (by omega), if_neg (by omega)]))
          · exact .inr (go (fun k => by rw [hS', hP, if_neg c1, if_neg c3, Option.bind_some, if_pos rfl, if_pos rfl]) (fun k => by rw [hJ, hG, if_neg (by omega), if_neg (by omega), if_pos (by omega)]))) l.length 0 (by omega)
  exact h

theorem spec_ids (l : List S46) (hl : l.length ≤ 1048576) (i : Nat) (hi : i < l.length) : ∀ d j, j + d = i →
    ((∃ m, ∃ hm : m < l.length, j ≤ m ∧ m < i ∧ l[m].f0 = l[i].f0) → Ev (fun k => spec_WheelOk.l2 k l (i : Int) (j : Int)) false) ∧
    ((¬ ∃ m, ∃ hm : m < l.length, j ≤ m ∧ m < i ∧ l[m].f0 = l[i].f0) → ∀ r, Ev (fun k => spec_WheelOk.l1 k l ((i + 1 : Nat) : Int)) r → Ev (fun k => spec_WheelOk.l2 k l (i : Int) (j : Int)) r) := by
  intro d
  induction d with
  | zero =>
    intro j hj
    obtain rfl : j = i := by omega
    refine ⟨fun ⟨m, _, h1, h2, _⟩ => by omega, fun _ r hr => ?_⟩
    rw [cast1] at hr
    exact ev_step 0 1 (fun k _ => by
      simp only [spec_WheelOk.l2]
      rw [if_neg (not_lt_cast _), wrap_nat1 hi (by omega)]) hr
  | succ d ih =>
    intro j hj
    have hjl : j < l.length := by omega
    obtain ⟨i1, i2⟩ := ih (j + 1) (by omega)
    have hs : ∀ k, spec_WheelOk.l2 (k + 1) l (i : Int) (j : Int) = if l[j].f0 = l[i].f0 then some false else spec_WheelOk.l2 k l (i : Int) ((j + 1 : Nat) : Int) := by
      intro k
      simp only [spec_WheelOk.l2]
      rw [if_pos (by omega), if_pos (nn_cast j), if_pos (lt_cast hjl), if_pos (nn_cast i), if_pos (lt_cast hi), rdIT _ _ hjl, rdIT _ _ hi, wrap_nat1 hjl (by omega), cast1]
    by_cases c : l[j].f0 = l[i].f0
    · have hf : Ev (fun k => spec_WheelOk.l2 k l (i : Int) (j : Int)) false := ev_now 0 1 (fun k _ => by rw [hs, if_pos c])
      exact ⟨fun _ => hf, fun hn => absurd ⟨j, hjl, Nat.le_refl _, by omega, c⟩ hn⟩
    · have hg : ∀ r, Ev (fun k => spec_WheelOk.l2 k l (i : Int) ((j + 1 : Nat) : Int)) r → Ev (fun k => spec_WheelOk.l2 k l (i : Int) (j : Int)) r := fun r => ev_step 0 1 (fun k _ => by rw [hs, if_neg c])
      refine ⟨fun ⟨m, hm, h1, h2, h3⟩ => ?_, fun hn r hr => hg r (i2 (fun ⟨m, hm, h1, h2, h3⟩ => hn ⟨m, hm, by omega, h2, h3⟩) r hr)⟩
      refine hg false (i1 ⟨m, hm, ?_, h2, h3⟩)
      rcases Nat.lt_or_ge j m with h | h
      · exact h
      · obtain rfl : m = j := by omega
        exact absurd h3 c
theorem impl_ids (l : List S46) (hl : l.length ≤ 1048576) (i : Nat) (hi : i < l.length) : ∀ d j, j + d = i →
    ((∃ m, ∃ hm : m < l.length, j ≤ m ∧ m < i ∧ l[m].f0 = l[i].f0) → ∃ p : Nat, p < i ∧ Ev (fun k => impl_Timer_89.l0 (fun x _ _ => some (x == l[i].f0)) k l l.length (j : Int)) (p : Int)) ∧
    ((¬ ∃ m, ∃ hm : m < l.length, j ≤ m ∧ m < i ∧ l[m].f0 = l[i].f0) → Ev (fun k => impl_Timer_89.l0 (fun x _ _ => some (x == l[i].f0)) k l l.length (j : Int)) (i : Int)) := by
  have hs : ∀ k (j : Nat) (hjl : j < l.length), impl_Timer_89.l0 (fun x _ _ => some (x == l[i].f0)) (k + 1) l l.length (j : Int) = if l[j].f0 = l[i].f0 then some (j : Int) else impl_Timer_89.l0 (fun x _ _ => some (x == l[i].f0)) k l l.length ((j + 1 : Nat) : Int) := by
    intro k j hjl
    simp only [impl_Timer_89.l0]
    rw [if_pos (lt_cast hjl), if_pos (nn_cast j), if_pos (lt_cast hjl), rdIT _ _ hjl, wrap_nat1 hjl (by omega), Option.bind_some, cast1]
    by_cases c : l[j].f0 = l[i].f0
    · rw [if_pos c, if_pos (by simpa using c)]
    · rw [if_neg c, if_neg (by simpa using c)]
  intro d
  induction d with
  | zero =>
    intro j hj
    obtain rfl : j = i := by omega
    exact ⟨fun ⟨m, _, h1, h2, _⟩ => by omega, fun _ => ev_now 0 1 (fun k _ => by rw [hs k j hi, if_pos rfl])⟩
  | succ d ih =>
    intro j hj
    have hjl : j < l.length := by omega
    obtain ⟨i1, i2⟩ := ih (j + 1) (by omega)
    by_cases c : l[j].f0 = l[i].f0
    · exact ⟨fun _ => ⟨j, by omega, ev_now 0 1 (fun k _ => by rw [hs k j hjl, if_pos c])⟩, fun hn => absurd ⟨j, hjl, Nat.le_refl _, by omega, c⟩ hn⟩
    · have hg : ∀ r, Ev (fun k => impl_Timer_89.l0 (fun x _ _ => some (x == l[i].f0)) k l l.length ((j + 1 : Nat) : Int)) r → Ev (fun k => impl_Timer_89.l0 (fun x _ _ => some (x == l[i].f0)) k l l.length (j : Int)) r := fun r => ev_step 0 1 (fun k _ => by rw [hs k j hjl, if_neg c])
      refine ⟨fun ⟨m, hm, h1, h2, h3⟩ => ?_, fun hn => hg _ (i2 (fun ⟨m, hm, h1, h2, h3⟩ => hn ⟨m, hm, by omega, h2, h3⟩))⟩
      obtain ⟨p, hp, he⟩ := i1 ⟨m, hm, by
        rcases Nat.lt_or_ge j m with h | h
        · exact h
        · obtain rfl : m = j := by omega
          exact absurd h3 c, h2, h3⟩
      exact ⟨p, hp, hg _ he⟩
theorem ids_both (l : List S46) (hl : l.length ≤ 1048576) : ∃ r, Ev (fun k => spec_WheelOk.l1 k l 0) r ∧ Ev (fun k => impl_WheelOk.l1 k l l l.length 0) r := by
  have h := loop_ev (L := fun k i => spec_WheelOk.l1 k l (i : Int)) (L' := fun k i => impl_WheelOk.l1 k l l l.length (i : Int)) (n := l.length)
    ⟨decide ((l.length : Int) ≤ 16), ev_now 0 1 (fun k _ => by
      simp only [spec_WheelOk.l1]
      rw [if_neg (not_lt_cast _)]), ev_now 0 1 (fun k _ => by
      simp only [impl_WheelOk.l1]
      rw [if_neg (not_lt_cast _)])⟩
    (fun i hi => by
      obtain ⟨s1, s2⟩ := spec_ids l hl i hi i 0 (by omega)
      obtain ⟨t1, t2⟩ := impl_ids l hl i hi i 0 (by omega)
      have hS : ∀ r, Ev (fun k => spec_WheelOk.l2 k l (i : Int) ((0 : Nat) : Int)) r → Ev (fun k => spec_WheelOk.l1 k l (i : Int)) r := fun r => ev_step 0 1 (fun k _ => by
        simp only [spec_WheelOk.l1]
        rw [if_pos (lt_cast hi)]
        rfl)
      have hI : ∀ p : Int, Ev (fun k => impl_Timer_89.l0 (fun x _ _ => some (x == l[i].f0)) k l l.length ((0 : Nat) : Int)) p → ∃ K, ∀ k, K ≤ k → impl_WheelOk.l1 (k + 1) l l l.length (i : Int) = if p = (i : Int) then impl_WheelOk.l1 k l l l.length ((i : Int) + 1) else some false := by
        rintro p ⟨K, hK⟩
        refine ⟨K, fun k hk => ?_⟩
        have e : impl_timerAt.f k l l[i].f0 = some p := hK k hk
        simp only [impl_WheelOk.l1]
        rw [if_pos (lt_cast hi), if_pos (nn_cast i), if_pos (lt_cast hi), rdIT _ _ hi, e, Option.bind_some, wrap_nat1 hi (by omega)]
      by_cases hd : ∃ m, ∃ hm : m < l.length, 0 ≤ m ∧ m < i ∧ l[m].f0 = l[i].f0
      · obtain ⟨p, hp, he⟩ := t1 hd
        obtain ⟨K, hK⟩ := hI _ he
        exact .inl ⟨false, hS _ (s1 hd), ev_now K 1 (fun k hk => by rw [hK k hk, if_neg (by omega)])⟩
      · obtain ⟨K, hK⟩ := hI _ (t2 hd)
        refine .inr ⟨fun r hr => hS _ (s2 hd r hr), fun r hr => ?_⟩
        rw [cast1] at hr
        exact ev_step K 1 (fun k hk => by rw [hK k hk, if_pos rfl]) hr) l.length 0 (by omega)
  exact h

def timersV (l m : List (List S46)) (q : List S46) : List S46 := l.flatten ++ m.flatten ++ q
theorem flat_take (l : List (List S46)) (i : Nat) (h : i < l.length) : (l.take (i + 1)).flatten = (l.take i).flatten ++ l[i] := by
  rw [List.take_succ_eq_append_getElem h, List.flatten_append]
  simp
theorem flat_take_le (l : List (List S46)) (i : Nat) : (l.take i).flatten.length ≤ l.flatten.length := by
  have h : l.flatten = (l.take i).flatten ++ (l.drop i).flatten := by rw [← List.flatten_append, List.take_append_drop]
  rw [h, List.length_append]
  omega
theorem spec_Timers_at (a : Int) (l m : List (List S46)) (q : List S46) (hl : l.length ≤ 1048576) (hm : m.length ≤ 1048576) (ht : l.flatten.length + m.flatten.length + q.length ≤ 1048576) :
    ∀ k, 2097154 < k → spec_Timers.f k a l m q = some (timersV l m q) := by
  obtain ⟨r, hr, h⟩ := loop_ex (σ := List S46) (L := fun k s i => spec_Timers.l1 k s i a l m q) (n := m.length) (K := 0)
    (I := fun s i => s = l.flatten ++ (m.take i).flatten) (Post := fun _ _ r => r = timersV l m q)
    (fun s hI => ⟨_, rfl, fun k => by
      simp only [spec_Timers.l1]
      rw [List.take_length] at hI
      rw [if_neg (not_lt_cast _), hI, if_pos (by rw [List.length_append]; omega)]
      rfl⟩)
    (fun s i hi hI => .inr ⟨_, rfl, fun k hk => by
      have h1 := flat_take_le m (i + 1)
      rw [flat_take m i hi, List.length_append] at h1
      simp only [spec_Timers.l1]
      rw [if_pos (lt_cast hi), if_pos (nn_cast i), rdLIT _ _ hi, hI, if_pos (by rw [List.length_append]; omega), wrap_nat1 hi (by omega), flat_take m i hi, List.append_assoc], fun _ h => h⟩) m.length l.flatten 0 (by omega) (by simp)
  subst hr
  obtain ⟨N, hN⟩ : ∃ N : Nat, N = 1048577 := ⟨_, rfl⟩
  obtain ⟨r, hr, h'⟩ := loop_ex (σ := List S46) (L := fun k s i => spec_Timers.l0 (k + N) s i a l m q) (n := l.length) (K := 0)
    (I := fun s i => s = (l.take i).flatten) (Post := fun _ _ r => r = timersV l m q)
    (fun s hI => ⟨_, rfl, fun k => by
      rw [show k + 1 + N = (k + N) + 1 by omega]
      simp only [spec_Timers.l0]
      rw [List.take_length] at hI
      rw [if_neg (not_lt_cast _), hI]
      exact h _ (by omega)⟩)
    (fun s i hi hI => .inr ⟨_, rfl, fun k hk => by
      have h1 := flat_take_le l (i + 1)
      rw [flat_take l i hi, List.length_append] at h1
      rw [show k + 1 + N = (k + N) + 1 by omega]
      simp only [spec_Timers.l0]
      rw [if_pos (lt_cast hi), if_pos (nn_cast i), rdLIT _ _ hi, hI, if_pos (by omega), wrap_nat1 hi (by omega), flat_take l i hi], fun _ h => h⟩) l.length [] 0 (by omega) (by simp)
  subst hr
  intro k hk
  simp only [spec_Timers.f]
  have := h' (k - N) (by omega)
  rw [show k - N + N = k by omega] at this
  exact this
theorem impl_Timers_at (a : Int) (l m : List (List S46)) (q : List S46) (hl : l.length ≤ 1048576) (hm : m.length ≤ 1048576) (ht : l.flatten.length + m.flatten.length + q.length ≤ 1048576) :
    ∀ k, 2097154 < k → impl_Timers.f k a l m q = some (timersV l m q) := by
  obtain ⟨r, hr, h⟩ := loop_ex (σ := List S46) (L := fun k s i => impl_Timers.l1 k s m m.length i a l m q) (n := m.length) (K := 0)
    (I := fun s i => s = l.flatten ++ (m.take i).flatten) (Post := fun _ _ r => r = timersV l m q)
    (fun s hI => ⟨_, rfl, fun k => by
      simp only [impl_Timers.l1]
      rw [List.take_length] at hI
      rw [if_neg (not_lt_cast _), hI, if_pos (by rw [List.length_append]; omega)]
      rfl⟩)
    (fun s i hi hI => .inr ⟨_, rfl, fun k hk => by
      have h1 := flat_take_le m (i + 1)
      rw [flat_take m i hi, List.length_append] at h1
      simp only [impl_Timers.l1]
      rw [if_pos (lt_cast hi), if_pos (nn_cast i), if_pos (lt_cast hi), rdLIT _ _ hi, hI, if_pos (by rw [List.length_append]; omega), wrap_nat1 hi (by omega), flat_take m i hi, List.append_assoc], fun _ h => h⟩) m.length l.flatten 0 (by omega) (by simp)
  subst hr
  obtain ⟨N, hN⟩ : ∃ N : Nat, N = 1048577 := ⟨_, rfl⟩
  obtain ⟨r, hr, h'⟩ := loop_ex (σ := List S46) (L := fun k s i => impl_Timers.l0 (k + N) s l l.length i a l m q) (n := l.length) (K := 0)
    (I := fun s i => s = (l.take i).flatten) (Post := fun _ _ r => r = timersV l m q)
    (fun s hI => ⟨_, rfl, fun k => by
      rw [show k + 1 + N = (k + N) + 1 by omega]
      simp only [impl_Timers.l0]
      rw [List.take_length] at hI
      rw [if_neg (not_lt_cast _), hI]
      exact h _ (by omega)⟩)
    (fun s i hi hI => .inr ⟨_, rfl, fun k hk => by
      have h1 := flat_take_le l (i + 1)
      rw [flat_take l i hi, List.length_append] at h1
      rw [show k + 1 + N = (k + N) + 1 by omega]
      simp only [impl_Timers.l0]
      rw [if_pos (lt_cast hi), if_pos (nn_cast i), if_pos (lt_cast hi), rdLIT _ _ hi, hI, if_pos (by omega), wrap_nat1 hi (by omega), flat_take l i hi], fun _ h => h⟩) l.length [] 0 (by omega) (by simp)
  subst hr
  intro k hk
  simp only [impl_Timers.f]
  have := h' (k - N) (by omega)
  rw [show k - N + N = k by omega] at this
  exact this
theorem timersV_len (l m : List (List S46)) (q : List S46) : (timersV l m q).length = l.flatten.length + m.flatten.length + q.length := by
  unfold timersV
  rw [List.length_append, List.length_append]

theorem wheelOk_both (a : Int) (l m : List (List S46)) (q : List S46) (hl : l.length ≤ 1048576 ∧ ∀ x ∈ l, x.length ≤ 1048576) (hm : m.length ≤ 1048576 ∧ ∀ x ∈ m, x.length ≤ 1048576) (hq : q.length ≤ 1048576) (ht : l.flatten.length + m.flatten.length + q.length ≤ 1048576) :
    ∃ r, Ev (fun k => spec_WheelOk.f k a l m q) r ∧ Ev (fun k => impl_WheelOk.f k a l m q) r := by
  have sj : ∀ k, spec_WheelOk.j0 (k + 1) true a l m q = some false := by
    intro k
    simp only [spec_WheelOk.j0, if_true]
  have ij : ∀ k, impl_WheelOk.j0 (k + 1) true a l m q = some false := by
    intro k
    simp only [impl_WheelOk.j0, if_true]
  by_cases c1 : (l.length : Int) = 8
  case neg =>
    refine ⟨false, ev_now 0 1 (fun k _ => ?_), ev_now 0 1 (fun k _ => ?_)⟩
    · simp only [spec_WheelOk.f]
      rw [if_neg c1, sj]
    · simp only [impl_WheelOk.f, impl_within_eq, Option.bind_some]
      rw [if_neg c1, ij]
      exact ite_self _
  by_cases c2 : (m.length : Int) = 8
  case neg =>
    refine ⟨false, ev_now 0 1 (fun k _ => ?_), ev_now 0 1 (fun k _ => ?_)⟩
    · simp only [spec_WheelOk.f]
      rw [if_pos c1, if_neg c2, sj]
    · simp only [impl_WheelOk.f, impl_within_eq, Option.bind_some]
      rw [if_pos c1, if_neg c2, ij]
      exact ite_self _
  by_cases c3 : inB a 0 2147483647 = true
  case neg =>
    refine ⟨false, ev_now 0 1 (fun k _ => ?_), ev_now 0 1 (fun k _ => ?_)⟩
    · simp only [spec_WheelOk.f, spec_l1In_eq, Option.bind_some]
      rw [if_pos c1, if_pos c2, if_neg c3, sj]
    · simp only [impl_WheelOk.f, impl_within_eq, Option.bind_some]
      rw [if_neg c3, ij]
  have ha : 0 ≤ a ∧ a ≤ 2147483647 := by simpa [inB] using c3
  obtain ⟨r, ⟨K1, h1⟩, ⟨K2, h2⟩⟩ := slot_both a ha.1 ha.2 l m q q hq 3 2 0 (.inr (.inr ⟨rfl, rfl, rfl⟩))
  simp only at h1 h2
  cases r with
  | false =>
    refine ⟨false, ev_now (K1 + K2) 1 (fun k hk => ?_), ev_now (K1 + K2) 1 (fun k hk => ?_)⟩
    · simp only [spec_WheelOk.f, spec_l1In_eq, Option.bind_some]
      rw [if_pos c1, if_pos c2, if_pos c3, h1 _ (by omega), Option.bind_some]
      exact sj k
    · simp only [impl_WheelOk.f, impl_within_eq, Option.bind_some]
      rw [if_pos c3, if_pos c1, if_pos c2, h2 _ (by omega), Option.bind_some]
      exact ij k
  | true =>
    have hS : ∀ r, Ev (fun k => spec_WheelOk.l0 k ((0 : Nat) : Int) a l m q) r → Ev (fun k => spec_WheelOk.f k a l m q) r := fun r => ev_step (K1 + K2) 1 (fun k hk => by
      simp only [spec_WheelOk.f, spec_l1In_eq, Option.bind_some]
      rw [if_pos c1, if_pos c2, if_pos c3, h1 _ (by omega), Option.bind_some]
      simp only [spec_WheelOk.j0]
      rw [if_neg (by simp)]
      rfl)
    have hI : ∀ r, Ev (fun k => impl_WheelOk.l0 k ((0 : Nat) : Int) a l m q) r → Ev (fun k => impl_WheelOk.f k a l m q) r := fun r => ev_step (K1 + K2) 1 (fun k hk => by
      simp only [impl_WheelOk.f, impl_within_eq, Option.bind_some]
      rw [if_pos c3, if_pos c1, if_pos c2, h2 _ (by omega), Option.bind_some]
      simp only [impl_WheelOk.j0]
      rw [if_neg (by simp)]
      rfl)
    obtain ⟨r, e1, e2⟩ := ids_both (timersV l m q) (by rw [timersV_len]; omega)
    obtain ⟨r, e1, e2⟩ := loop_ev (L := fun k i => spec_WheelOk.l0 k (i : Int) a l m q) (L' := fun k i => impl_WheelOk.l0 k (i : Int) a l m q) (n := 8)
      ⟨r, ev_step 2097155 1 (fun k hk => by
        simp only [spec_WheelOk.l0]
        rw [if_neg (by omega), spec_Timers_at a l m q hl.1 hm.1 ht k (by omega), Option.bind_some]) e1, ev_step 2097155 1 (fun k hk => by
        simp only [impl_WheelOk.l0]
        rw [if_neg (by omega), impl_Timers_at a l m q hl.1 hm.1 ht k (by omega), Option.bind_some]) e2⟩
      (fun i hi => by
        have hil : i < l.length := by omega
        have him : i < m.length := by omega
        obtain ⟨r1, ⟨A1, a1⟩, ⟨A2, a2⟩⟩ := slot_both a ha.1 ha.2 l m q l[i] (hl.2 _ (List.getElem_mem hil)) 1 0 (i : Int) (.inl ⟨rfl, rfl⟩)
        obtain ⟨r2, ⟨B1, b1⟩, ⟨B2, b2⟩⟩ := slot_both a ha.1 ha.2 l m q m[i] (hm.2 _ (List.getElem_mem him)) 2 1 (i : Int) (.inr (.inl ⟨rfl, rfl⟩))
        simp only at a1 a2 b1 b2
        have sL : ∀ k, A1 + B1 ≤ k → spec_WheelOk.l0 (k + 1) (i : Int) a l m q = if r1 = true then (if r2 = true then spec_WheelOk.l0 k ((i : Int) + 1) a l m q else some false) else some false := by
          intro k hk
          simp only [spec_WheelOk.l0]
          rw [if_pos (by omega), if_pos (nn_cast i), if_pos (lt_cast hil), rdLIT _ _ hil, a1 k (by omega), Option.bind_some, if_pos (lt_cast him), rdLIT _ _ him, b1 k (by omega), Option.bind_some, wrap_nat1 hil (by omega)]
        have iL : ∀ k, A2 + B2 ≤ k → impl_WheelOk.l0 (k + 1) (i : Int) a l m q = if r1 = true then (if r2 = true then impl_WheelOk.l0 k ((i : Int) + 1) a l m q else some false) else some false := by
          intro k hk
          simp only [impl_WheelOk.l0]
          rw [if_pos (by omega), if_pos (nn_cast i), if_pos (lt_cast hil), rdLIT _ _ hil, a2 k (by omega), Option.bind_some, if_pos (lt_cast him), rdLIT _ _ him, b2 k (by omega), Option.bind_some, wrap_nat1 hil (by omega)]
        cases r1 with
        | false => exact .inl ⟨false, ev_now _ 1 (fun k hk => by rw [sL k hk, if_neg (by decide)]), ev_now _ 1 (fun k hk => by rw [iL k hk, if_neg (by decide)])⟩
        | true =>
          cases r2 with
          | false => exact .inl ⟨false, ev_now _ 1 (fun k hk => by rw [sL k hk, if_pos rfl, if_neg (by decide)]), ev_now _ 1 (fun k hk => by rw [iL k hk, if_pos rfl, if_neg (by decide)])⟩
          | true =>
            refine .inr ?_
            rw [cast1]
            exact ⟨fun r => ev_step _ 1 (fun k hk => by rw [sL k hk, if_pos rfl, if_pos rfl]), fun r => ev_step _ 1 (fun k hk => by rw [iL k hk, if_pos rfl, if_pos rfl])⟩) 8 0 (by omega)
    exact ⟨r, hS r e1, hI r e2⟩

/-- What belongs into a slot. -/
def inSlot (a q s : Int) (t : S46) : Prop := 1 ≤ t.f0 ∧ (1 ≤ t.f1 ∧ t.f1 ≤ 999) ∧ (a + 1 ≤ t.f2 ∧ t.f2 ≤ 2147483647) ∧ (if t.f2 / 8 = a / 8 then q = 1 ∧ s = t.f2 % 8 else if t.f2 / 8 - a / 8 < 8 then q = 2 ∧ s = t.f2 / 8 % 8 else q = 3 ∧ s = 0)
theorem slot_val (a : Int) (ha : 0 ≤ a) (ha2 : a ≤ 2147483647) (w1 w2 : List (List S46)) (w3 : List S46) (l : List S46) (hl : l.length ≤ 1048576) (q s : Int) :
    ∃ r, Ev (fun k => spec_l8Slot.f k a w1 w2 w3 l q s) r ∧ (r = true ↔ ∀ t ∈ l, inSlot a q s t) := by
  have h : ∀ d i, i + d = l.length → ∃ r, Ev (fun k => spec_l8Slot.l0 k l q s (i : Int) a w1 w2 w3) r ∧ (r = true ↔ ∀ t ∈ l.drop i, inSlot a q s t) := by
    intro d
    induction d with
    | zero =>
      intro i hd
      obtain rfl : i = l.length := by omega
      refine ⟨true, ev_now 0 1 (fun k _ => ?_), by simp⟩
      simp only [spec_l8Slot.l0]
      rw [if_neg (not_lt_cast _)]
    | succ d ih =>
      intro i hd
      have hi : i < l.length := by omega
      obtain ⟨r, hr, hr2⟩ := ih (i + 1) (by omega)
      have hw : wrap64 (a + 1) = a + 1 := wrap_of (by omega) (by omega)
      have hS : ∀ k, spec_l8Slot.l0 (k + 2) l q s (i : Int) a w1 w2 w3 = (if l[i].f0 < 1 then some false else if inB l[i].f1 1 999 = true then (if inB l[i].f2 (a + 1) 2147483647 = true then ((spec_l8Place.f a l[i].f2).bind fun b => if b.1 = q then (if b.2 = s then spec_l8Slot.l0 k l q s ((i : Int) + 1) a w1 w2 w3 else some false) else some false) else some false) else some false) := by
        intro k
        simp only [spec_l8Slot.l0, spec_l8Slot.j1, spec_l1In_eq, Option.bind_some]
        rw [if_pos (lt_cast hi), if_pos (nn_cast i), rdIT _ _ hi, hw, wrap_nat1 hi (by omega)]
        cases inB l[i].f1 1 999 <;> cases inB l[i].f2 (a + 1) 2147483647 <;> simp
      have bad : ∀ (hs : ∀ k, spec_l8Slot.l0 (k + 2) l q s (i : Int) a w1 w2 w3 = some false) (hn : ¬ inSlot a q s l[i]), ∃ r, Ev (fun k => spec_l8Slot.l0 k l q s (i : Int) a w1 w2 w3) r ∧ (r = true ↔ ∀ t ∈ l.drop i, inSlot a q s t) := by
        intro hs hn
        refine ⟨false, ev_now 0 2 (fun k _ => hs k), ⟨fun h => absurd h (by simp), fun h => absurd (h l[i] ?_) hn⟩⟩
        rw [List.drop_eq_getElem_cons hi]
        exact List.mem_cons_self
      by_cases h1 : l[i].f0 < 1
      · exact bad (fun k => by rw [hS, if_pos h1]) (fun h => by have := h.1; omega)
      by_cases h2 : inB l[i].f1 1 999 = true
      case neg => exact bad (fun k => by rw [hS, if_neg h1, if_neg h2]) (fun h => h2 (by simp [inB]; have := h.2.1; omega))
      by_cases h3 : inB l[i].f2 (a + 1) 2147483647 = true
      case neg => exact bad (fun k => by rw [hS, if_neg h1, if_pos h2, if_neg h3]) (fun h => h3 (by simp [inB]; have := h.2.2.1; omega))
      have h2' : 1 ≤ l[i].f1 ∧ l[i].f1 ≤ 999 := by simpa [inB] using h2
      have h3' : a + 1 ≤ l[i].f2 ∧ l[i].f2 ≤ 2147483647 := by simpa [inB] using h3
      have d1 : Int.tdiv l[i].f2 8 = l[i].f2 / 8 := Int.tdiv_eq_ediv_of_nonneg (by omega)
      have d2 : Int.tdiv a 8 = a / 8 := Int.tdiv_eq_ediv_of_nonneg ha
      have d3 : Int.tmod l[i].f2 8 = l[i].f2 % 8 := Int.tmod_eq_emod_of_nonneg (by omega)
      have d4 : Int.tmod (l[i].f2 / 8) 8 = l[i].f2 / 8 % 8 := Int.tmod_eq_emod_of_nonneg (by omega)
      have u1 : wrap64 (l[i].f2 / 8) = l[i].f2 / 8 := wrap_of (by omega) (by omega)
      have u2 : wrap64 (a / 8) = a / 8 := wrap_of (by omega) (by omega)
      have u3 : wrap64 (l[i].f2 / 8 - a / 8) = l[i].f2 / 8 - a / 8 := wrap_of (by omega) (by omega)
      have hP : spec_l8Place.f a l[i].f2 = if l[i].f2 / 8 = a / 8 then some (1, l[i].f2 % 8) else if l[i].f2 / 8 - a / 8 < 8 then some (2, l[i].f2 / 8 % 8) else some (3, 0) := by
        unfold spec_l8Place.f
        rw [d1, d2, u1, u2, u3, d3, d4]
      obtain ⟨b, hb⟩ : ∃ b : Int × Int, b = if l[i].f2 / 8 = a / 8 then (1, l[i].f2 % 8) else if l[i].f2 / 8 - a / 8 < 8 then (2, l[i].f2 / 8 % 8) else (3, 0) := ⟨_, rfl⟩
      have hP2 : spec_l8Place.f a l[i].f2 = some b := by
        rw [hP, hb]
        by_cases c1 : l[i].f2 / 8 = a / 8
        · rw [if_pos c1, if_pos c1]
        · rw [if_neg c1, if_neg c1]
          by_cases c2 : l[i].f2 / 8 - a / 8 < 8
          · rw [if_pos c2, if_pos c2]
          · rw [if_neg c2, if_neg c2]
      have hin : inSlot a q s l[i] ↔ b.1 = q ∧ b.2 = s := by
        unfold inSlot
        rw [hb]
        by_cases c1 : l[i].f2 / 8 = a / 8
        · rw [if_pos c1, if_pos c1]
          exact ⟨fun h => ⟨h.2.2.2.1.symm, h.2.2.2.2.symm⟩, fun h => ⟨by omega, h2', h3', h.1.symm, h.2.symm⟩⟩
        · rw [if_neg c1, if_neg c1]
          by_cases c2 : l[i].f2 / 8 - a / 8 < 8
          · rw [if_pos c2, if_pos c2]
            exact ⟨fun h => ⟨h.2.2.2.1.symm, h.2.2.2.2.symm⟩, fun h => ⟨by omega, h2', h3', h.1.symm, h.2.symm⟩⟩
          · rw [if_neg c2, if_neg c2]
            exact ⟨fun h => ⟨h.2.2.2.1.symm, h.2.2.2.2.symm⟩, fun h => ⟨by omega, h2', h3', h.1.symm, h.2.symm⟩⟩
      have hS2 : ∀ k, spec_l8Slot.l0 (k + 2) l q s (i : Int) a w1 w2 w3 = if b.1 = q then (if b.2 = s then spec_l8Slot.l0 k l q s ((i : Int) + 1) a w1 w2 w3 else some false) else some false := by
        intro k
        rw [hS, if_neg h1, if_pos h2, if_pos h3, hP2, Option.bind_some]
      by_cases c1 : b.1 = q
      case neg => exact bad (fun k => by rw [hS2, if_neg c1]) (fun h => c1 (hin.1 h).1)
      by_cases c2 : b.2 = s
      case neg => exact bad (fun k => by rw [hS2, if_pos c1, if_neg c2]) (fun h => c2 (hin.1 h).2)
      refine ⟨r, ev_step 0 2 (fun k _ => by rw [hS2, if_pos c1, if_pos c2, cast1]) hr, ?_⟩
      rw [hr2, List.drop_eq_getElem_cons hi]
      refine ⟨fun h t ht => ?_, fun h t ht => h t (List.mem_cons_of_mem _ ht)⟩
      rcases List.mem_cons.1 ht with rfl | ht
      · exact hin.2 ⟨c1, c2⟩
      · exact h t ht
  have := h l.length 0 (by omega)
  rw [List.drop_zero] at this
  exact this
def dupT (T : List S46) (i : Nat) (hi : i < T.length) : Prop := ∃ m, ∃ hm : m < T.length, 0 ≤ m ∧ m < i ∧ T[m].f0 = T[i].f0
theorem ids_val (T : List S46) (hT : T.length ≤ 1048576) : ∃ r, Ev (fun k => spec_WheelOk.l1 k T 0) r ∧ (r = true ↔ (∀ j (hj : j < T.length), ¬ dupT T j hj) ∧ T.length ≤ 16) := by
  have h : ∀ d i, i + d = T.length → ∃ r, Ev (fun k => spec_WheelOk.l1 k T (i : Int)) r ∧ (r = true ↔ (∀ j (hj : j < T.length), i ≤ j → ¬ dupT T j hj) ∧ T.length ≤ 16) := by
    intro d
    induction d with
    | zero =>
      intro i hd
      obtain rfl : i = T.length := by omega
      refine ⟨decide ((T.length : Int) ≤ 16), ev_now 0 1 (fun k _ => ?_), ?_⟩
      · simp only [spec_WheelOk.l1]
        rw [if_neg (not_lt_cast _)]
      · rw [decide_eq_true_iff]
        exact ⟨fun h => ⟨fun j hj hj2 => absurd hj (by omega), by omega⟩, fun h => by have := h.2; omega⟩
    | succ d ih =>
      intro i hd
      have hi : i < T.length := by omega
      obtain ⟨r, hr, hr2⟩ := ih (i + 1) (by omega)
      obtain ⟨s1, s2⟩ := spec_ids T hT i hi i 0 (by omega)
      have hS : ∀ r, Ev (fun k => spec_WheelOk.l2 k T (i : Int) ((0 : Nat) : Int)) r → Ev (fun k => spec_WheelOk.l1 k T (i : Int)) r := fun r => ev_step 0 1 (fun k _ => by
        simp only [spec_WheelOk.l1]
        rw [if_pos (lt_cast hi)]
        rfl)
      by_cases hd : dupT T i hi
      · exact ⟨false, hS _ (s1 hd), fun h => absurd h (by simp), fun h => absurd hd (h.1 i hi (Nat.le_refl _))⟩
      · refine ⟨r, hS _ (s2 hd r hr), ?_⟩
        rw [hr2]
        refine ⟨fun h => ⟨fun j hj hij => ?_, h.2⟩, fun h => ⟨fun j hj hij => h.1 j hj (by omega), h.2⟩⟩
        rcases Nat.lt_or_ge i j with h3 | h3
        · exact h.1 j hj h3
        · obtain rfl : j = i := by omega
          exact hd
  obtain ⟨r, hr, hr2⟩ := h T.length 0 (by omega)
  exact ⟨r, hr, by rw [hr2]; exact ⟨fun h => ⟨fun j hj => h.1 j hj (Nat.zero_le _), h.2⟩, fun h => ⟨fun j hj _ => h.1 j hj, h.2⟩⟩⟩
/-- A wheel that is right. -/
structure OkW (a : Int) (l m : List (List S46)) (q : List S46) : Prop where
  hl : l.length = 8
  hm : m.length = 8
  h0 : 0 ≤ a
  h1 : a ≤ 2147483647
  rest : ∀ t ∈ q, inSlot a 3 0 t
  near : ∀ j, j < 8 → ∀ t ∈ l.getD j [], inSlot a 1 (j : Int) t
  far : ∀ j, j < 8 → ∀ t ∈ m.getD j [], inSlot a 2 (j : Int) t
  ids : ∀ j (hj : j < (timersV l m q).length), ¬ dupT (timersV l m q) j hj
  few : (timersV l m q).length ≤ 16
theorem ev_one {α : Type} {g : Nat → Option α} {r r' : α} (h : Ev g r) (h' : Ev g r') : r = r' := by
  obtain ⟨K, hK⟩ := h
  obtain ⟨K', hK'⟩ := h'
  have e1 := hK (K + K') (by omega)
  have e2 := hK' (K + K') (by omega)
  rw [e1] at e2
  exact Option.some.inj e2
theorem wheelOk_val (a : Int) (l m : List (List S46)) (q : List S46) (hl : l.length ≤ 1048576 ∧ ∀ x ∈ l, x.length ≤ 1048576) (hm : m.length ≤ 1048576 ∧ ∀ x ∈ m, x.length ≤ 1048576) (hq : q.length ≤ 1048576) (ht : l.flatten.length + m.flatten.length + q.length ≤ 1048576) :
    ∃ r, Ev (fun k => spec_WheelOk.f k a l m q) r ∧ Ev (fun k => impl_WheelOk.f k a l m q) r ∧ (r = true ↔ OkW a l m q) := by
  suffices H : ∃ r, Ev (fun k => spec_WheelOk.f k a l m q) r ∧ (r = true ↔ OkW a l m q) by
    obtain ⟨r, h1, h2⟩ := H
    obtain ⟨r', e1, e2⟩ := wheelOk_both a l m q hl hm hq ht
    obtain rfl := ev_one h1 e1
    exact ⟨r, h1, e2, h2⟩
  have sj : ∀ k, spec_WheelOk.j0 (k + 1) true a l m q = some false := by
    intro k
    simp only [spec_WheelOk.j0, if_true]
  by_cases c1 : (l.length : Int) = 8
  case neg =>
    refine ⟨false, ev_now 0 1 (fun k _ => ?_), fun h => absurd h (by simp), fun h => absurd h.hl (by omega)⟩
    simp only [spec_WheelOk.f]
    rw [if_neg c1, sj]
  by_cases c2 : (m.length : Int) = 8
  case neg =>
    refine ⟨false, ev_now 0 1 (fun k _ => ?_), fun h => absurd h (by simp), fun h => absurd h.hm (by omega)⟩
    simp only [spec_WheelOk.f]
    rw [if_pos c1, if_neg c2, sj]
  by_cases c3 : inB a 0 2147483647 = true
  case neg =>
    refine ⟨false, ev_now 0 1 (fun k _ => ?_), fun h => absurd h (by simp), fun h => absurd (show inB a 0 2147483647 = true by have := h.h0; have := h.h1; simp [inB]; omega) c3⟩
    simp only [spec_WheelOk.f, spec_l1In_eq, Option.bind_some]
    rw [if_pos c1, if_pos c2, if_neg c3, sj]
  have ha : 0 ≤ a ∧ a ≤ 2147483647 := by simpa [inB] using c3
  obtain ⟨r, ⟨K1, h1⟩, h2⟩ := slot_val a ha.1 ha.2 l m q q hq 3 0
  simp only at h1
  cases r with
  | false =>
    refine ⟨false, ev_now K1 1 (fun k hk => ?_), fun h => absurd h (by simp), fun h => absurd (h2.2 h.rest) (by simp)⟩
    simp only [spec_WheelOk.f, spec_l1In_eq, Option.bind_some]
    rw [if_pos c1, if_pos c2, if_pos c3, h1 _ (by omega), Option.bind_some]
    exact sj k
  | true =>
    have hR := h2.1 rfl
    have hS : ∀ r, Ev (fun k => spec_WheelOk.l0 k ((0 : Nat) : Int) a l m q) r → Ev (fun k => spec_WheelOk.f k a l m q) r := fun r => ev_step K1 1 (fun k hk => by
      simp only [spec_WheelOk.f, spec_l1In_eq, Option.bind_some]
      rw [if_pos c1, if_pos c2, if_pos c3, h1 _ (by omega), Option.bind_some]
      simp only [spec_WheelOk.j0]
      rw [if_neg (by simp)]
      rfl)
    obtain ⟨r, e1, e2⟩ := ids_val (timersV l m q) (by rw [timersV_len]; omega)
    have h : ∀ d i : Nat, i + d = 8 → ∃ r, Ev (fun k => spec_WheelOk.l0 k (i : Int) a l m q) r ∧ (r = true ↔ (∀ j, i ≤ j → j < 8 → (∀ t ∈ l.getD j [], inSlot a 1 (j : Int) t) ∧ ∀ t ∈ m.getD j [], inSlot a 2 (j : Int) t) ∧ (∀ j (hj : j < (timersV l m q).length), ¬ dupT (timersV l m q) j hj) ∧ (timersV l m q).length ≤ 16) := by
      intro d
      induction d with
      | zero =>
        intro i hi
        obtain rfl : i = 8 := by omega
        refine ⟨r, ev_step 2097155 1 (fun k hk => by
          simp only [spec_WheelOk.l0]
          rw [if_neg (by omega), spec_Timers_at a l m q hl.1 hm.1 ht k (by omega), Option.bind_some]) e1, ?_⟩
        rw [e2]
        exact ⟨fun h => ⟨fun j h1 h2 => absurd h1 (by omega), h⟩, fun h => h.2⟩
      | succ d ih =>
        intro i hi
        have hil : i < l.length := by omega
        have him : i < m.length := by omega
        obtain ⟨r0, i1, i2⟩ := ih (i + 1) (by omega)
        obtain ⟨r1, ⟨A1, a1⟩, a2⟩ := slot_val a ha.1 ha.2 l m q l[i] (hl.2 _ (List.getElem_mem hil)) 1 (i : Int)
        obtain ⟨r2, ⟨B1, b1⟩, b2⟩ := slot_val a ha.1 ha.2 l m q m[i] (hm.2 _ (List.getElem_mem him)) 2 (i : Int)
        simp only at a1 b1
        have g1 : l.getD i [] = l[i] := by simp [List.getD_eq_getElem?_getD, hil]
        have g2 : m.getD i [] = m[i] := by simp [List.getD_eq_getElem?_getD, him]
        have sL : ∀ k, A1 + B1 ≤ k → spec_WheelOk.l0 (k + 1) (i : Int) a l m q = if r1 = true then (if r2 = true then spec_WheelOk.l0 k ((i : Int) + 1) a l m q else some false) else some false := by
          intro k hk
          simp only [spec_WheelOk.l0]
          rw [if_pos (by omega), if_pos (nn_cast i), if_pos (lt_cast hil), rdLIT _ _ hil, a1 k (by omega), Option.bind_some, if_pos (lt_cast him), rdLIT _ _ him, b1 k (by omega), Option.bind_some, wrap_nat1 hil (by omega)]
        cases r1 with
        | false => exact ⟨false, ev_now _ 1 (fun k hk => by rw [sL k hk, if_neg (by decide)]), fun h => absurd h (by simp), fun h => absurd (a2.2 (g1 ▸ (h.1 i (Nat.le_refl _) (by omega)).1)) (by simp)⟩
        | true =>
          cases r2 with
          | false => exact ⟨false, ev_now _ 1 (fun k hk => by rw [sL k hk, if_pos rfl, if_neg (by decide)]), fun h => absurd h (by simp), fun h => absurd (b2.2 (g2 ▸ (h.1 i (Nat.le_refl _) (by omega)).2)) (by simp)⟩
          | true =>
            refine ⟨r0, ev_step _ 1 (fun k hk => by rw [sL k hk, if_pos rfl, if_pos rfl, cast1]) i1, ?_⟩
            rw [i2]
            refine ⟨fun h => ⟨fun j h3 h4 => ?_, h.2⟩, fun h => ⟨fun j h3 h4 => h.1 j (by omega) h4, h.2⟩⟩
            rcases Nat.lt_or_ge i j with h5 | h5
            · exact h.1 j h5 h4
            · obtain rfl : j = i := by omega
              rw [g1, g2]
              exact ⟨a2.1 rfl, b2.1 rfl⟩
    obtain ⟨r, q1, q2⟩ := h 8 0 rfl
    refine ⟨r, hS r q1, ?_⟩
    rw [q2]
    exact ⟨fun h => ⟨by omega, by omega, ha.1, ha.2, hR, fun j hj => (h.1 j (Nat.zero_le _) hj).1, fun j hj => (h.1 j (Nat.zero_le _) hj).2, h.2.1, h.2.2⟩, fun h => ⟨fun j _ hj => ⟨h.near j hj, h.far j hj⟩, h.ids, h.few⟩⟩

/-- Rows that are short, all of them together too. -/
def SZ (l m : List (List S46)) (q : List S46) : Prop := l.length ≤ 1048576 ∧ m.length ≤ 1048576 ∧ l.flatten.length + m.flatten.length + q.length ≤ 1048576
theorem row_le (l : List (List S46)) (x : List S46) (h : x ∈ l) : x.length ≤ l.flatten.length := (List.sublist_flatten_of_mem h).length_le
theorem SZ.rows {l m : List (List S46)} {q : List S46} (h : SZ l m q) : (∀ x ∈ l, x.length ≤ 1048576) ∧ (∀ x ∈ m, x.length ≤ 1048576) ∧ q.length ≤ 1048576 := by
  obtain ⟨h1, h2, h3⟩ := h
  exact ⟨fun x hx => by have := row_le l x hx; omega, fun x hx => by have := row_le m x hx; omega, by omega⟩
theorem copySlots_at (l : List (List S46)) (hl : l.length ≤ 1048576) (hf : ∀ x ∈ l, x.length ≤ 1048576) : ∀ k, 1048576 < k → impl_copySlots.f k l = some l := by
  obtain ⟨r, hr, h⟩ := loop_ex (σ := List (List S46)) (L := fun k s i => impl_copySlots.l0 k s l l.length i) (n := l.length) (K := 0)
    (I := fun s i => s = l.take i) (Post := fun _ _ r => r = l)
    (fun s hI => ⟨_, rfl, fun k => by
      simp only [impl_copySlots.l0]
      rw [if_neg (not_lt_cast _), hI, List.take_length]⟩)
    (fun s i hi hI => .inr ⟨_, rfl, fun k _ => by
      have h1 := hf _ (List.getElem_mem hi)
      simp only [impl_copySlots.l0]
      rw [if_pos (lt_cast hi), if_pos (nn_cast i), if_pos (lt_cast hi), rdLIT _ _ hi, if_pos (by simp only [List.length_nil]; omega), if_pos (by rw [hI, List.length_take]; omega), wrap_nat1 hi (by omega), hI, List.nil_append, List.take_succ_eq_append_getElem hi], fun _ h => h⟩) l.length [] 0 (by omega) (by simp)
  subst hr
  exact fun k hk => h k (by omega)
theorem l8Lists_at (l : List (List S46)) (hl : l.length ≤ 1048576) (hf : ∀ x ∈ l, x.length ≤ 1048576) : ∀ k, 1048576 < k → spec_l8Lists.f k l = some l := by
  obtain ⟨r, hr, h⟩ := loop_ex (σ := List (List S46)) (L := fun k s i => spec_l8Lists.l0 k l s i) (n := l.length) (K := 0)
    (I := fun s i => s = l.take i) (Post := fun _ _ r => r = l)
    (fun s hI => ⟨_, rfl, fun k => by
      simp only [spec_l8Lists.l0]
      rw [if_neg (not_lt_cast _), hI, List.take_length]⟩)
    (fun s i hi hI => .inr ⟨_, rfl, fun k _ => by
      have h1 := hf _ (List.getElem_mem hi)
      simp only [spec_l8Lists.l0, Option.bind_some]
      rw [if_pos (lt_cast hi), if_pos (nn_cast i), rdLIT _ _ hi, if_pos (by simp only [List.length_nil]; omega), if_pos (by rw [hI, List.length_take]; omega), wrap_nat1 hi (by omega), hI, List.nil_append, List.take_succ_eq_append_getElem hi], fun _ h => h⟩) l.length [] 0 (by omega) (by simp)
  subst hr
  exact fun k hk => h k (by omega)
theorem copyWheel_at (a : Int) (l m : List (List S46)) (q : List S46) (hz : SZ l m q) : ∀ k, 1048576 < k → impl_copyWheel.f k a l m q = some (a, l, m, q) := by
  intro k hk
  obtain ⟨r1, r2, r3⟩ := hz.rows
  simp only [impl_copyWheel.f, copySlots_at l hz.1 r1 k hk, copySlots_at m hz.2.1 r2 k hk, Option.bind_some]
  rw [if_pos (by simp only [List.length_nil]; omega), List.nil_append]
theorem l8Copy_at (a : Int) (l m : List (List S46)) (q : List S46) (hz : SZ l m q) : ∀ k, 1048576 < k → spec_l8Copy.f k a l m q = some (a, l, m, q) := by
  intro k hk
  obtain ⟨r1, r2, r3⟩ := hz.rows
  simp only [spec_l8Copy.f, l8Lists_at l hz.1 r1 k hk, l8Lists_at m hz.2.1 r2 k hk, Option.bind_some]
  rw [if_pos (by simp only [List.length_nil]; omega), List.nil_append]

/-- What is left without an id. -/
def flT (id : Int) (x : List S46) : List S46 := x.filter (fun t => decide (t.f0 ≠ id))
theorem flT_take (id : Int) (l : List S46) (i : Nat) (h : i < l.length) : flT id (l.take (i + 1)) = flT id (l.take i) ++ (if l[i].f0 = id then [] else [l[i]]) := by
  unfold flT
  rw [List.take_succ_eq_append_getElem h, List.filter_append]
  congr 1
  by_cases c : l[i].f0 = id
  · rw [if_pos c, List.filter_cons_of_neg (by simpa using c), List.filter_nil]
  · rw [if_neg c, List.filter_cons_of_pos (by simpa using c), List.filter_nil]
theorem flT_le (id : Int) (l : List S46) : (flT id l).length ≤ l.length := List.length_filter_le _ _
theorem flT_self (id : Int) (l : List S46) (h : ∀ t ∈ l, t.f0 ≠ id) : flT id l = l := by
  unfold flT
  rw [List.filter_eq_self]
  exact fun t ht => by simpa using h t ht
theorem l8Without_at (id : Int) (l : List S46) (hl : l.length ≤ 1048576) : ∀ k, 1048576 < k → spec_l8Without.f k l id = some (flT id l) := by
  obtain ⟨r, hr, h⟩ := loop_ex (σ := List S46) (L := fun k s i => spec_l8Without.l0 k l id s i) (n := l.length) (K := 0)
    (I := fun s i => s = flT id (l.take i)) (Post := fun _ _ r => r = flT id l)
    (fun s hI => ⟨_, rfl, fun k => by
      simp only [spec_l8Without.l0]
      rw [if_neg (not_lt_cast _), hI, List.take_length]⟩)
    (fun s i hi hI => .inr ⟨_, rfl, fun k _ => by
      have h1 := flT_le id (l.take i)
      rw [List.length_take] at h1
      simp only [spec_l8Without.l0]
      rw [if_pos (lt_cast hi), if_pos (nn_cast i), rdIT _ _ hi, wrap_nat1 hi (by omega), flT_take id l i hi, hI]
      by_cases c : l[i].f0 = id
      · rw [if_pos c, if_pos c, List.append_nil]
      · rw [if_neg c, if_neg c, if_pos (by omega)], fun _ h => h⟩) l.length [] 0 (by omega) (by simp [flT])
  subst hr
  exact fun k hk => h k (by omega)
theorem idx_at (id : Int) (l : List S46) (hl : l.length ≤ 1048576) : ∃ r : Int, ((r = -1 ∧ ∀ j (hj : j < l.length), l[j].f0 ≠ id) ∨ ∃ p : Nat, ∃ hp : p < l.length, r = (p : Int) ∧ l[p].f0 = id ∧ ∀ j (hj : j < l.length), j < p → l[j].f0 ≠ id) ∧
    ∀ k, 1048576 < k → impl_Timer_89.f (fun x _ _ => some (x == id)) k l = some r := by
  obtain ⟨r, hr, h⟩ := loop_ex (σ := Unit) (L := fun k _ i => impl_Timer_89.l0 (fun x _ _ => some (x == id)) k l l.length i) (n := l.length) (K := 0)
    (I := fun _ _ => True) (Post := fun _ i r => (r = -1 ∧ ∀ j (hj : j < l.length), i ≤ j → l[j].f0 ≠ id) ∨ ∃ p : Nat, ∃ hp : p < l.length, r = (p : Int) ∧ l[p].f0 = id ∧ ∀ j (hj : j < l.length), i ≤ j → j < p → l[j].f0 ≠ id)
    (fun s hI => ⟨-1, .inl ⟨rfl, fun j hj hj2 => absurd hj (by omega)⟩, fun k => by
      simp only [impl_Timer_89.l0]
      rw [if_neg (not_lt_cast _)]⟩)
    (fun s i hi hI => by
      have hs : ∀ k, impl_Timer_89.l0 (fun x _ _ => some (x == id)) (k + 1) l l.length (i : Int) = if l[i].f0 = id then some (i : Int) else impl_Timer_89.l0 (fun x _ _ => some (x == id)) k l l.length ((i : Int) + 1) := by
        intro k
        simp only [impl_Timer_89.l0]
        rw [if_pos (lt_cast hi), if_pos (nn_cast i), if_pos (lt_cast hi), rdIT _ _ hi, wrap_nat1 hi (by omega), Option.bind_some]
        by_cases c : l[i].f0 = id
        · rw [if_pos c, if_pos (by simpa using c)]
        · rw [if_neg c, if_neg (by simpa using c)]
      by_cases c : l[i].f0 = id
      · exact .inl ⟨i, .inr ⟨i, hi, rfl, c, fun j hj h1 h2 => by omega⟩, fun k _ => by rw [hs, if_pos c]⟩
      · refine .inr ⟨(), trivial, fun k _ => by rw [hs, if_neg c], fun r hr => ?_⟩
        have more : ∀ j (hj : j < l.length), i ≤ j → (i + 1 ≤ j → l[j].f0 ≠ id) → l[j].f0 ≠ id := by
          intro j hj h1 h2
          rcases Nat.lt_or_ge i j with h3 | h3
          · exact h2 h3
          · obtain rfl : j = i := by omega
            exact c
        rcases hr with ⟨h1, h2⟩ | ⟨p, hp, h1, h2, h3⟩
        · exact .inl ⟨h1, fun j hj hij => more j hj hij (h2 j hj)⟩
        · exact .inr ⟨p, hp, h1, h2, fun j hj hij hjp => more j hj hij (fun h4 => h3 j hj h4 hjp)⟩) l.length () 0 (by omega) trivial
  refine ⟨r, ?_, fun k hk => ?_⟩
  · rcases hr with ⟨h1, h2⟩ | ⟨p, hp, h1, h2, h3⟩
    · exact .inl ⟨h1, fun j hj => h2 j hj (Nat.zero_le _)⟩
    · exact .inr ⟨p, hp, h1, h2, fun j hj hjp => h3 j hj (Nat.zero_le _) hjp⟩
  · simp only [impl_Timer_89.f]
    exact h k (by omega)
theorem delete_at (id : Int) (l : List S46) (hl : l.length ≤ 1048576) : ∀ k, 1048577 < k → slices_DeleteFunc.f k l id = some (flT id l) := by
  obtain ⟨r, hr, hx⟩ := idx_at id l hl
  rcases hr with ⟨rfl, h2⟩ | ⟨p, hp, rfl, h2, h3⟩
  · intro k hk
    rw [slices_DeleteFunc.f, hx k (by omega), Option.bind_some, if_pos rfl, flT_self id l ?_]
    intro t ht
    obtain ⟨j, hj, rfl⟩ := List.mem_iff_getElem.1 ht
    exact h2 j hj
  · have e0 : flT id (l.take p) = l.take p := flT_self id _ (by
      intro t ht
      obtain ⟨j, hj, rfl⟩ := List.mem_iff_getElem.1 ht
      rw [List.length_take] at hj
      rw [List.getElem_take]
      exact h3 j (by omega) (by omega))
    obtain ⟨r, hr, h⟩ := loop_ex (σ := List S46 × Int) (L := fun k s j => del.l id k s.1 s.2 j) (n := l.length) (K := 0)
      (I := fun s j => s.1.length = l.length ∧ s.1.drop j = l.drop j ∧ ∃ i : Nat, s.2 = (i : Int) ∧ i + 1 ≤ j ∧ s.1.take i = flT id (l.take j)) (Post := fun _ _ r => r.1.length = l.length ∧ ∃ i : Nat, r.2 = (i : Int) ∧ i ≤ l.length ∧ r.1.take i = flT id l)
      (fun s hI => by
        obtain ⟨i1, i2, i, i3, i4, i5⟩ := hI
        refine ⟨(s.1, s.2), ⟨i1, i, i3, by omega, by rw [i5, List.take_length]⟩, fun k => ?_⟩
        simp only [del.l]
        rw [i1, if_neg (not_lt_cast _)])
      (fun s j hj hI => by
        obtain ⟨x, x2⟩ := s
        obtain ⟨i1, i2, i, i3, i4, i5⟩ := hI
        simp only at i1 i2 i3 i5
        subst i3
        have hjx : j < x.length := by omega
        have e : x[j] = l[j] := by
          have h4 : (x.drop j)[0]? = (l.drop j)[0]? := by rw [i2]
          rw [List.getElem?_drop, List.getElem?_drop, Nat.add_zero, List.getElem?_eq_getElem hjx, List.getElem?_eq_getElem hj] at h4
          exact Option.some.inj h4
        have i6 : x.drop (j + 1) = l.drop (j + 1) := by
          have h5 := congrArg (List.drop 1) i2
          rwa [List.drop_drop, List.drop_drop] at h5
        have hs : ∀ k, del.l id (k + 1) x (i : Int) (j : Int) = if l[j].f0 = id then del.l id k x (i : Int) ((j : Int) + 1) else del.l id k (x.set i l[j]) ((i : Int) + 1) ((j : Int) + 1) := by
          intro k
          simp only [del.l]
          rw [if_pos (lt_cast hjx), if_pos (nn_cast j), rdIT _ _ hjx, e, wrap_nat1 hj (by omega), if_pos (nn_cast i), if_pos (lt_cast (show i < x.length by omega)), wrap_nat1 (show i < l.length by omega) (by omega)]
          rfl
        refine .inr ?_
        by_cases c : l[j].f0 = id
        · exact ⟨(x, (i : Int)), ⟨i1, i6, i, rfl, by omega, by rw [flT_take id l j hj, if_pos c, List.append_nil]; exact i5⟩, fun k _ => by simp only; rw [hs, if_pos c], fun _ h => h⟩
        · refine ⟨(x.set i l[j], ((i + 1 : Nat) : Int)), ⟨by rw [List.length_set]; exact i1, ?_, i + 1, rfl, by omega, ?_⟩, fun k _ => by simp only; rw [hs, if_neg c]; rfl, fun _ h => h⟩
          · simp only
            rw [List.drop_set_of_lt (by omega)]
            exact i6
          · simp only
            rw [flT_take id l j hj, if_neg c, List.take_succ_eq_append_getElem (by rw [List.length_set]; omega), List.getElem_set_self, List.take_set_of_le (Nat.le_refl _), i5]) (l.length - (p + 1)) (l, (p : Int)) (p + 1) (by omega) ⟨rfl, rfl, p, rfl, Nat.le_refl _, by rw [flT_take id l p hp, if_pos h2, List.append_nil, e0]⟩
    obtain ⟨r1, r2⟩ := r
    obtain ⟨q1, i, q2, q3, q4⟩ := hr
    simp only at q1 q2 q4 h
    subst q2
    intro k hk
    have hd := h k (by omega)
    rw [slices_DeleteFunc.f, hx k (by omega), Option.bind_some, if_neg (by omega), if_pos (by omega), wrap_nat1 hp (by omega)]
    rw [show ((p : Int) + 1) = (((p + 1 : Nat)) : Int) by omega, hd, Option.bind_some]
    dsimp only
    rw [if_pos (nn_cast i), if_pos (by omega), Int.toNat_natCast, q4]
/-- The first i rows are without the id. -/
def flR (id : Int) (l : List (List S46)) (i : Nat) : List (List S46) := (l.take i).map (flT id) ++ l.drop i
theorem flR_len (id : Int) (l : List (List S46)) (i : Nat) : (flR id l i).length = l.length := by
  unfold flR
  rw [List.length_append, List.length_map, List.length_take, List.length_drop]
  omega
theorem flR_0 (id : Int) (l : List (List S46)) : flR id l 0 = l := by simp [flR]
theorem flR_end (id : Int) (l : List (List S46)) : flR id l l.length = l.map (flT id) := by simp [flR]
theorem flR_get (id : Int) (l : List (List S46)) (i : Nat) (h : i < l.length) : (flR id l i).getD i [] = l[i] := by
  unfold flR
  rw [List.getD_eq_getElem?_getD, List.getElem?_append_right (by rw [List.length_map, List.length_take]; omega), List.length_map, List.length_take, Nat.min_eq_left (by omega), Nat.sub_self, List.getElem?_drop, Nat.add_zero, List.getElem?_eq_getElem h]
  rfl
theorem flR_set (id : Int) (l : List (List S46)) (i : Nat) (h : i < l.length) : (flR id l i).set i (flT id l[i]) = flR id l (i + 1) := by
  have e : ((l.take i).map (flT id)).length = i := by rw [List.length_map, List.length_take]; omega
  unfold flR
  rw [List.set_append_right _ _ (by omega), e, Nat.sub_self, List.drop_eq_getElem_cons h, List.set_cons_zero, List.take_succ_eq_append_getElem h, List.map_append, List.append_assoc]
  rfl
theorem cancel_at (id : Int) (l m : List (List S46)) (hl : l.length = 8) (hm : m.length = 8) (h1 : ∀ x ∈ l, x.length ≤ 1048576) (h2 : ∀ x ∈ m, x.length ≤ 1048576) (K : Nat) (hK : 1048577 < K) : ∀ k, 8 < k → cancel.l K id k 0 l m = some (l.map (flT id), m.map (flT id)) := by
  obtain ⟨r, hr, h⟩ := loop_ex (σ := Unit) (L := fun k _ i => cancel.l K id k i (flR id l i.toNat) (flR id m i.toNat)) (n := 8) (K := 0)
    (I := fun _ _ => True) (Post := fun _ _ r => r = (l.map (flT id), m.map (flT id)))
    (fun s _ => ⟨_, rfl, fun k => by
      rw [← flR_end id l, ← flR_end id m, hl, hm]
      rfl⟩)
    (fun s i hi _ => .inr ⟨(), trivial, fun k _ => by
      have a1 : i < l.length := by omega
      have a2 : i < m.length := by omega
      have d1 := delete_at id l[i] (h1 _ (List.getElem_mem a1)) K hK
      have d2 := delete_at id m[i] (h2 _ (List.getElem_mem a2)) K hK
      have e1 : ((i : Int)).toNat = i := by omega
      have e2 : ((i : Int) + 1).toNat = i + 1 := by omega
      rw [cancel.l, if_pos (by omega), if_pos (nn_cast i), e1, e2, flR_get id l i a1, flR_get id m i a2, d1, Option.bind_some, d2, Option.bind_some, flR_set id l i a1, flR_set id m i a2, wrap_nat1 a1 (by omega)], fun _ h => h⟩) 8 () 0 (by omega) trivial
  subst hr
  intro k hk
  have := h k (by omega)
  have e : ((0 : Nat) : Int).toNat = 0 := rfl
  rw [e, flR_0, flR_0] at this
  exact this
theorem flT_flat (id : Int) (l : List (List S46)) : (l.map (flT id)).flatten = flT id l.flatten := by
  induction l with
  | nil => rfl
  | cons x l ih =>
    rw [List.map_cons, List.flatten_cons, ih, List.flatten_cons]
    unfold flT
    rw [List.filter_append]
theorem flT_timers (id : Int) (l m : List (List S46)) (q : List S46) : timersV (l.map (flT id)) (m.map (flT id)) (flT id q) = flT id (timersV l m q) := by
  unfold timersV
  rw [flT_flat, flT_flat]
  unfold flT
  rw [List.filter_append, List.filter_append]
theorem flT_sz (id : Int) (l m : List (List S46)) (q : List S46) (h : SZ l m q) : SZ (l.map (flT id)) (m.map (flT id)) (flT id q) := by
  obtain ⟨h1, h2, h3⟩ := h
  refine ⟨by rw [List.length_map]; exact h1, by rw [List.length_map]; exact h2, ?_⟩
  rw [← timersV_len, flT_timers]
  have := flT_le id (timersV l m q)
  rw [timersV_len] at this
  omega
/-- A wheel without an id, and if that is another one. -/
def canV (id a : Int) (l m : List (List S46)) (q : List S46) : Int × List (List S46) × List (List S46) × List S46 × Bool :=
  (a, l.map (flT id), m.map (flT id), flT id q, decide (((flT id (timersV l m q)).length : Int) < ((timersV l m q).length : Int)))
theorem spec_cancel_at (id a : Int) (l m : List (List S46)) (q : List S46) (hl : l.length = 8) (hm : m.length = 8) (hz : SZ l m q) : Ev (fun k => spec_Cancel.l0 k id 0 a l m q a l m q) (canV id a l m q) := by
  obtain ⟨r1, r2, r3⟩ := hz.rows
  have hz2 := flT_sz id l m q hz
  obtain ⟨N, hN⟩ : ∃ N : Nat, N = 2097155 := ⟨_, rfl⟩
  obtain ⟨r, hr, h⟩ := loop_ex (σ := Unit) (L := fun k _ i => spec_Cancel.l0 (k + N) id i a l m q a (flR id l i.toNat) (flR id m i.toNat) q) (n := 8) (K := 0)
    (I := fun _ _ => True) (Post := fun _ _ r => r = canV id a l m q)
    (fun s _ => ⟨_, rfl, fun k => by
      have e := flT_timers id l m q
      have e1 : ((8 : Nat) : Int).toNat = 8 := rfl
      have t1 := spec_Timers_at a _ _ _ hz2.1 hz2.2.1 hz2.2.2 (k + N) (by omega)
      have t2 := spec_Timers_at a _ _ _ hz.1 hz.2.1 hz.2.2 (k + N) (by omega)
      have t3 := l8Without_at id q r3 (k + N) (by omega)
      rw [e] at t1
      have f1 : flR id l 8 = l.map (flT id) := by rw [← hl]; exact flR_end id l
      have f2 : flR id m 8 = m.map (flT id) := by rw [← hm]; exact flR_end id m
      rw [show k + 1 + N = (k + N) + 1 by omega, spec_Cancel.l0, if_neg (by omega), e1, f1, f2, t3, Option.bind_some, t1, Option.bind_some, t2, Option.bind_some]
      rfl⟩)
    (fun s i hi _ => .inr ⟨(), trivial, fun k _ => by
      have a1 : i < l.length := by omega
      have a2 : i < m.length := by omega
      have d1 := l8Without_at id l[i] (r1 _ (List.getElem_mem a1)) (k + N) (by omega)
      have d2 := l8Without_at id m[i] (r2 _ (List.getElem_mem a2)) (k + N) (by omega)
      have e1 : ((i : Int)).toNat = i := by omega
      have e2 : ((i : Int) + 1).toNat = i + 1 := by omega
      rw [show k + 1 + N = (k + N) + 1 by omega, spec_Cancel.l0, if_pos (by omega), if_pos (nn_cast i), if_pos (lt_cast a1), rdLIT _ _ a1, d1, Option.bind_some, if_pos (by rw [flR_len]; exact lt_cast (by omega)), if_pos (lt_cast a2), rdLIT _ _ a2, d2, Option.bind_some, if_pos (by rw [flR_len]; exact lt_cast (by omega)), e1, e2, flR_set id l i a1, flR_set id m i a2, wrap_nat1 a1 (by omega)], fun _ h => h⟩) 8 () 0 (by omega) trivial
  subst hr
  refine ⟨N + 9, fun k hk => ?_⟩
  have := h (k - N) (by omega)
  have e : ((0 : Nat) : Int).toNat = 0 := rfl
  rw [e, flR_0, flR_0, show k - N + N = k by omega] at this
  exact this
theorem can_val (id a : Int) (l m : List (List S46)) (q : List S46) (hz : SZ l m q) :
    ∃ R : Int × List (List S46) × List (List S46) × List S46 × Bool, Ev (fun k => spec_Cancel.f k a l m q id) R ∧ Ev (fun k => impl_Cancel.f k a l m q id) R ∧ SZ R.2.1 R.2.2.1 R.2.2.2.1 ∧
      ((¬ OkW a l m q ∧ R = (a, l, m, q, false)) ∨ (OkW a l m q ∧ R = canV id a l m q)) := by
  obtain ⟨r1, r2, r3⟩ := hz.rows
  obtain ⟨r, ⟨K1, e1⟩, ⟨K2, e2⟩, hr⟩ := wheelOk_val a l m q ⟨hz.1, r1⟩ ⟨hz.2.1, r2⟩ r3 hz.2.2
  simp only at e1 e2
  cases r with
  | false =>
    refine ⟨(a, l, m, q, false), ⟨K1 + 1048577, fun k hk => ?_⟩, ⟨K2 + 1048577, fun k hk => ?_⟩, hz, .inl ⟨fun h => absurd (hr.2 h) (by simp), rfl⟩⟩
    · show spec_Cancel.f k a l m q id = _
      rw [spec_Cancel.f, l8Copy_at a l m q hz k (by omega), Option.bind_some, e1 k (by omega), Option.bind_some, if_neg (by simp)]
    · show impl_Cancel.f k a l m q id = _
      rw [impl_Cancel.f, copyWheel_at a l m q hz k (by omega), Option.bind_some, if_pos rfl, e2 k (by omega), Option.bind_some, if_neg (by simp)]
  | true =>
    have ho := hr.1 rfl
    obtain ⟨K3, e3⟩ := spec_cancel_at id a l m q ho.hl ho.hm hz
    simp only at e3
    refine ⟨canV id a l m q, ⟨K1 + K3 + 1048577, fun k hk => ?_⟩, ?_, flT_sz id l m q hz, .inr ⟨ho, rfl⟩⟩
    · show spec_Cancel.f k a l m q id = _
      rw [spec_Cancel.f, l8Copy_at a l m q hz k (by omega), Option.bind_some, e1 k (by omega), Option.bind_some, if_pos rfl]
      exact e3 k (by omega)
    · have hT : (timersV l m q).length ≤ 1048576 := by rw [timersV_len]; exact hz.2.2
      obtain ⟨x, hx, hX⟩ := idx_at id (timersV l m q) hT
      rcases hx with ⟨rfl, h2⟩ | ⟨p, hp, rfl, h2, h3⟩
      · have nid : ∀ t ∈ timersV l m q, t.f0 ≠ id := by
          intro t ht
          obtain ⟨j, hj, rfl⟩ := List.mem_iff_getElem.1 ht
          exact h2 j hj
        have same : ∀ y : List (List S46), (∀ t ∈ y.flatten, t.f0 ≠ id) → y.map (flT id) = y := by
          intro y hy
          refine (List.map_congr_left (g := fun x => x) (fun x hx => flT_self id x (fun t ht => hy t (List.mem_flatten.2 ⟨x, hx, ht⟩)))).trans (List.map_id'' (fun _ => rfl) y)
        have ev : canV id a l m q = (a, l, m, q, false) := by
          unfold canV
          rw [flT_self id _ nid, same l (fun t ht => nid t (by unfold timersV; simp [ht])), same m (fun t ht => nid t (by unfold timersV; simp [ht])), flT_self id q (fun t ht => nid t (by unfold timersV; simp [ht])), decide_eq_false (by omega)]
        rw [ev]
        refine ⟨K2 + 2097155, fun k hk => ?_⟩
        show impl_Cancel.f k a l m q id = _
        rw [impl_Cancel.f, copyWheel_at a l m q hz k (by omega), Option.bind_some, if_pos rfl, e2 k (by omega), Option.bind_some, if_pos rfl, impl_Timers_at a l m q hz.1 hz.2.1 hz.2.2 k (by omega), Option.bind_some, impl_timerAt.f, hX k (by omega), Option.bind_some, if_pos (by omega)]
      · have lt : (flT id (timersV l m q)).length < (timersV l m q).length := by
          unfold flT
          refine Nat.lt_of_le_of_ne (List.length_filter_le _ _) (fun e => ?_)
          have h4 := (List.length_filter_eq_length_iff.1 e) _ (List.getElem_mem hp)
          simp only [ne_eq, decide_eq_true_eq] at h4
          exact h4 h2
        have ev : canV id a l m q = (a, l.map (flT id), m.map (flT id), flT id q, true) := by
          unfold canV
          rw [decide_eq_true (by omega)]
        rw [ev]
        refine ⟨K2 + 2097155, fun k hk => ?_⟩
        show impl_Cancel.f k a l m q id = _
        rw [impl_Cancel.f, copyWheel_at a l m q hz k (by omega), Option.bind_some, if_pos rfl, e2 k (by omega), Option.bind_some, if_pos rfl, impl_Timers_at a l m q hz.1 hz.2.1 hz.2.2 k (by omega), Option.bind_some, impl_timerAt.f, hX k (by omega), Option.bind_some, if_neg (by omega)]
        dsimp only
        rw [if_pos ho.hl, if_pos ho.hm, cancel_at id l m ho.hl ho.hm r1 r2 k (by omega) k (by omega), Option.bind_some, delete_at id q r3 k (by omega), Option.bind_some]

def markAt (q : Int) (i : Nat) : S46 := ⟨q + 3 * (i : Int), q + 3 * (i : Int) + 1, q + 3 * (i : Int) + 2⟩
def marksT (q : Int) (n : Nat) : List S46 := (List.range n).map (markAt q)
theorem marksT_len (q : Int) (n : Nat) : (marksT q n).length = n := by simp [marksT]
theorem marksT_succ (q : Int) (n : Nat) : marksT q (n + 1) = marksT q n ++ [markAt q n] := by
  unfold marksT
  rw [List.range_succ, List.map_append]
  rfl
theorem marksT_at (q : Int) (n i : Nat) (h : i < n) : rd_T46 (marksT q n) (i : Int) = markAt q i := by
  rw [rdIT _ _ (by rw [marksT_len]; exact h)]
  simp [marksT]
theorem rd_setT (l : List S46) (i : Nat) (h : i < l.length) (v : S46) : rd_T46 (l.set i v) (i : Int) = v := by
  rw [rdIT _ _ (by rw [List.length_set]; exact h)]
  simp
theorem set_mid (A l : List S46) (i : Nat) (hA : A.length = i) (h : i < l.length) (v : S46) : (A ++ l.drop i).set i v = (A ++ [v]) ++ l.drop (i + 1) := by
  rw [List.drop_eq_getElem_cons h, List.set_append_right _ _ (by omega), hA, Nat.sub_self, List.set_cons_zero, List.append_assoc]
  rfl
theorem markTimerS_at (l : List S46) (hl : l.length ≤ 1048576) (q : Int) (hq0 : 0 ≤ q) (hq : q ≤ 4294967296) : ∀ k, l.length < k → laws_markTimerS.f k l q = some (q + 3 * (l.length : Int), marksT q l.length) := by
  obtain ⟨r, hr, h⟩ := loop_ex (σ := List S46 × Int) (L := fun k s i => laws_markTimerS.l0 k s.1 s.2 i) (n := l.length) (K := 0)
    (I := fun s i => s = (marksT q i ++ l.drop i, q + 3 * (i : Int))) (Post := fun _ _ r => r = (q + 3 * (l.length : Int), marksT q l.length))
    (fun s hI => ⟨_, rfl, fun k => by
      subst hI
      simp only [laws_markTimerS.l0]
      rw [List.drop_length, List.append_nil, marksT_len, if_neg (not_lt_cast _)]⟩)
    (fun s i hi hI => .inr ⟨(marksT q (i + 1) ++ l.drop (i + 1), q + 3 * ((i + 1 : Nat) : Int)), rfl, fun k _ => by
      subst hI
      have hlen : (marksT q i ++ l.drop i).length = l.length := by rw [List.length_append, marksT_len, List.length_drop]; omega
      have w1 : wrap64 (q + 3 * (i : Int) + 1) = q + 3 * (i : Int) + 1 := wrap_of (by omega) (by omega)
      have w2 : wrap64 (q + 3 * (i : Int) + 1 + 1) = q + 3 * (i : Int) + 2 := by rw [wrap_of (by omega) (by omega)]; omega
      have w3 : wrap64 (q + 3 * (i : Int) + 2 + 1) = q + 3 * ((i + 1 : Nat) : Int) := by rw [wrap_of (by omega) (by omega)]; omega
      have e : ((i : Int)).toNat = i := by omega
      have e3 := set_mid (marksT q i) l i (marksT_len q i) hi (markAt q i)
      simp only [laws_markTimerS.l0, Option.bind_some]
      rw [if_pos (by rw [hlen]; exact lt_cast hi), if_pos (nn_cast i), w1, w2, w3, e]
      generalize marksT q i ++ l.drop i = A at *
      simp only [List.set_set, rd_setT A i (by omega : i < A.length)]
      rw [wrap_nat1 hi (by omega)]
      show laws_markTimerS.l0 k (A.set i (markAt q i)) _ _ = _
      rw [e3, marksT_succ], fun _ h => h⟩) l.length (l, q) 0 (by omega) (by simp [marksT])
  subst hr
  exact fun k hk => h k (by omega)
theorem markTimerSS_at (l : List (List S46)) (hl : l.length ≤ 1048576) (ht : l.flatten.length ≤ 1048576) (q : Int) (hq0 : 0 ≤ q) (hq : q ≤ 16777216) : ∃ l', ∀ k, 2097153 < k → laws_markTimerSS.f k l q = some (q + 3 * (l.flatten.length : Int), l') := by
  obtain ⟨r, hr, h⟩ := loop_ex (σ := List (List S46) × Int) (L := fun k s i => laws_markTimerSS.l0 k s.1 s.2 i) (n := l.length) (K := 1048577)
    (I := fun s i => s.1.length = l.length ∧ s.1.drop i = l.drop i ∧ s.2 = q + 3 * ((l.take i).flatten.length : Int)) (Post := fun _ _ r => r.1 = q + 3 * (l.flatten.length : Int))
    (fun s hI => ⟨(s.2, s.1), by rw [hI.2.2, List.take_length], fun k => by
      simp only [laws_markTimerSS.l0]
      rw [hI.1, if_neg (not_lt_cast _)]⟩)
    (fun s i hi hI => by
      obtain ⟨h1, h2, h3⟩ := hI
      have hle := flat_take_le l (i + 1)
      rw [flat_take l i hi, List.length_append] at hle
      have e : ((i : Int)).toNat = i := by omega
      have hget : s.1.getD i [] = l[i] := by
        have h4 : (s.1.drop i)[0]? = (l.drop i)[0]? := by rw [h2]
        rw [List.getElem?_drop, List.getElem?_drop, Nat.add_zero, List.getElem?_eq_getElem hi] at h4
        rw [List.getD_eq_getElem?_getD, h4]
        rfl
      have hm := markTimerS_at l[i] (by omega) s.2 (by omega) (by omega)
      refine .inr ⟨(s.1.set i (marksT s.2 l[i].length), s.2 + 3 * (l[i].length : Int)), ⟨by rw [List.length_set]; exact h1, ?_, ?_⟩, fun k hk => ?_, fun r hr => hr⟩
      · rw [List.drop_set_of_lt (by omega)]
        have h5 := congrArg (List.drop 1) h2
        rwa [List.drop_drop, List.drop_drop] at h5
      · rw [h3, flat_take l i hi, List.length_append]
        simp only
        push_cast
        omega
      · simp only [laws_markTimerSS.l0]
        rw [h1, if_pos (lt_cast hi), if_pos (nn_cast i), e, hget, hm k (by omega), Option.bind_some, wrap_nat1 hi (by omega)]) l.length (l, q) 0 (by omega) ⟨rfl, rfl, by simp⟩
  obtain ⟨r1, r2⟩ := r
  simp only at hr
  subst hr
  exact ⟨r2, fun k hk => h k (by omega)⟩
theorem markWheel_at (a : Int) (l m : List (List S46)) (p : List S46) (hl : l.length ≤ 1048576) (hm : m.length ≤ 1048576) (ht : l.flatten.length + m.flatten.length + p.length ≤ 1048576) : ∃ r, 0 ≤ r ∧ ∀ k, 2097153 < k → laws_markWheel.f k a l m p 1 = some r := by
  obtain ⟨l', h1⟩ := markTimerSS_at l hl (by omega) 1 (by omega) (by omega)
  obtain ⟨m', h2⟩ := markTimerSS_at m hm (by omega) (1 + 3 * (l.flatten.length : Int)) (by omega) (by omega)
  have h3 := markTimerS_at p (by omega) (1 + 3 * (l.flatten.length : Int) + 3 * (m.flatten.length : Int)) (by omega) (by omega)
  refine ⟨1 + 3 * (l.flatten.length : Int) + 3 * (m.flatten.length : Int) + 3 * (p.length : Int), by omega, fun k hk => ?_⟩
  simp only [laws_markWheel.f, laws_markWheel.all, h1 k hk, h2 k hk, h3 k (by omega), Option.bind_some]

theorem heldTimerS_at (n : Nat) (hl : n ≤ 1048576) (q : Int) (hq0 : 0 ≤ q) (hq : q ≤ 4294967296) : ∀ k, n < k → laws_heldTimerS.f k (marksT q n) q = some (q + 3 * (n : Int)) := by
  obtain ⟨r, hr, h⟩ := loop_ex (σ := Int) (L := fun k s i => laws_heldTimerS.l0 k (marksT q n) s i) (n := n) (K := 0)
    (I := fun s i => s = q + 3 * (i : Int)) (Post := fun _ _ r => r = q + 3 * (n : Int))
    (fun s hI => ⟨_, rfl, fun k => by
      simp only [laws_heldTimerS.l0]
      rw [marksT_len, if_neg (not_lt_cast _), hI]⟩)
    (fun s i hi hI => .inr ⟨q + 3 * ((i + 1 : Nat) : Int), rfl, fun k _ => by
      subst hI
      have w1 : wrap64 (q + 3 * (i : Int) + 1) = q + 3 * (i : Int) + 1 := wrap_of (by omega) (by omega)
      have w2 : wrap64 (q + 3 * (i : Int) + 1 + 1) = q + 3 * (i : Int) + 2 := by rw [wrap_of (by omega) (by omega)]; omega
      have w3 : wrap64 (q + 3 * (i : Int) + 2 + 1) = q + 3 * ((i + 1 : Nat) : Int) := by rw [wrap_of (by omega) (by omega)]; omega
      simp only [laws_heldTimerS.l0]
      rw [marksT_len, if_pos (lt_cast hi), if_pos (nn_cast i), marksT_at q n i hi, w1, w2, w3, wrap_nat1 hi (by omega), if_pos (by rfl), if_pos (by rfl), if_pos (by rfl)], fun _ h => h⟩) n q 0 (by omega) (by simp)
  subst hr
  exact fun k hk => h k (by omega)

theorem markTimerSS_all (l : List (List S46)) (hl : l.length ≤ 1048576) (ht : l.flatten.length ≤ 1048576) (q : Int) (hq0 : 0 ≤ q) (hq : q ≤ 16777216) : ∃ l', (∀ k, 2097153 < k → laws_markTimerSS.f k l q = some (q + 3 * (l.flatten.length : Int), l')) ∧ ∀ k, 2097153 < k → laws_heldTimerSS.f k l' q = some (q + 3 * (l.flatten.length : Int)) := by
  obtain ⟨r, hr, h⟩ := loop_ex (σ := List (List S46) × Int) (L := fun k s i => laws_markTimerSS.l0 k s.1 s.2 i) (n := l.length) (K := 1048577)
    (I := fun s i => s.1.length = l.length ∧ s.1.drop i = l.drop i ∧ s.2 = q + 3 * ((l.take i).flatten.length : Int) ∧ ∀ j, j < i → s.1[j]? = some (marksT (q + 3 * ((l.take j).flatten.length : Int)) (l.getD j []).length)) (Post := fun _ _ r => r.1 = q + 3 * (l.flatten.length : Int) ∧ r.2.length = l.length ∧ ∀ j, j < l.length → r.2[j]? = some (marksT (q + 3 * ((l.take j).flatten.length : Int)) (l.getD j []).length))
    (fun s hI => ⟨(s.2, s.1), ⟨by rw [hI.2.2.1, List.take_length], hI.1, hI.2.2.2⟩, fun k => by
      simp only [laws_markTimerSS.l0]
      rw [hI.1, if_neg (not_lt_cast _)]⟩)
    (fun s i hi hI => by
      obtain ⟨h1, h2, h3, h0⟩ := hI
      have hle := flat_take_le l (i + 1)
      rw [flat_take l i hi, List.length_append] at hle
      have e : ((i : Int)).toNat = i := by omega
      have hget : s.1.getD i [] = l[i] := by
        have h4 : (s.1.drop i)[0]? = (l.drop i)[0]? := by rw [h2]
        rw [List.getElem?_drop, List.getElem?_drop, Nat.add_zero, List.getElem?_eq_getElem hi] at h4
        rw [List.getD_eq_getElem?_getD, h4]
        rfl
      have hgl : l.getD i [] = l[i] := by simp [List.getD_eq_getElem?_getD, hi]
      have hm := markTimerS_at l[i] (by omega) s.2 (by omega) (by omega)
      refine .inr ⟨(s.1.set i (marksT s.2 l[i].length), s.2 + 3 * (l[i].length : Int)), ⟨by rw [List.length_set]; exact h1, ?_, ?_, ?_⟩, fun k hk => ?_, fun r hr => hr⟩
      · rw [List.drop_set_of_lt (by omega)]
        have h5 := congrArg (List.drop 1) h2
        rwa [List.drop_drop, List.drop_drop] at h5
      · rw [h3, flat_take l i hi, List.length_append]
        simp only
        push_cast
        omega
      · intro j hj
        rcases Nat.lt_or_ge j i with h5 | h5
        · simp only
          rw [List.getElem?_set_ne (by omega)]
          exact h0 j h5
        · obtain rfl : j = i := by omega
          simp only
          rw [List.getElem?_set_self (by omega), h3, hgl]
      · simp only [laws_markTimerSS.l0]
        rw [h1, if_pos (lt_cast hi), if_pos (nn_cast i), e, hget, hm k (by omega), Option.bind_some, wrap_nat1 hi (by omega)]) l.length (l, q) 0 (by omega) ⟨rfl, rfl, by simp, fun j hj => absurd hj (by omega)⟩
  obtain ⟨r1, r2⟩ := r
  obtain ⟨hr, hlen, hat⟩ := hr
  simp only at hr hlen hat
  subst hr
  refine ⟨r2, fun k hk => h k (by omega), ?_⟩
  obtain ⟨r, hr, h⟩ := loop_ex (σ := Int) (L := fun k s i => laws_heldTimerSS.l0 k r2 s i) (n := r2.length) (K := 1048577)
    (I := fun s i => s = q + 3 * ((l.take i).flatten.length : Int)) (Post := fun _ _ r => r = q + 3 * (l.flatten.length : Int))
    (fun s hI => ⟨_, rfl, fun k => by
      simp only [laws_heldTimerSS.l0]
      rw [if_neg (not_lt_cast _), hI, hlen, List.take_length]⟩)
    (fun s i hi hI => by
      have hi' : i < l.length := by omega
      have hle := flat_take_le l (i + 1)
      rw [flat_take l i hi', List.length_append] at hle
      have hgl : l.getD i [] = l[i] := by simp [List.getD_eq_getElem?_getD, hi']
      have h3 := hat i hi'
      rw [List.getElem?_eq_getElem hi, hgl] at h3
      have h4 := Option.some.inj h3
      have hh := heldTimerS_at l[i].length (by omega) (q + 3 * ((l.take i).flatten.length : Int)) (by omega) (by omega)
      refine .inr ⟨q + 3 * ((l.take (i + 1)).flatten.length : Int), rfl, fun k hk => ?_, fun _ h => h⟩
      simp only [laws_heldTimerSS.l0]
      rw [if_pos (lt_cast hi), if_pos (nn_cast i), rdLIT _ _ hi, h4, hI, hh k (by omega), Option.bind_some, if_neg (by omega), wrap_nat1 hi (by omega), flat_take l i hi', List.length_append]
      congr 1
      push_cast
      omega) r2.length q 0 (by omega) (by simp)
  subst hr
  exact fun k hk => h k (by omega)
theorem markWheel_all (a : Int) (l m : List (List S46)) (p : List S46) (hl : l.length ≤ 1048576) (hm : m.length ≤ 1048576) (ht : l.flatten.length + m.flatten.length + p.length ≤ 1048576) : ∃ (r : Int) (M1 M2 : List (List S46)) (M3 : List S46), (0 ≤ r ∧ r ≤ 4194304) ∧ (∀ k, 2097153 < k → laws_markWheel.all k a l m p 1 = some (r, M1, M2, M3)) ∧ ∀ (b : Int) k, 2097153 < k → laws_heldWheel.f k b M1 M2 M3 1 = some r := by
  obtain ⟨l', h1, g1⟩ := markTimerSS_all l hl (by omega) 1 (by omega) (by omega)
  obtain ⟨m', h2, g2⟩ := markTimerSS_all m hm (by omega) (1 + 3 * (l.flatten.length : Int)) (by omega) (by omega)
  have h3 := markTimerS_at p (by omega) (1 + 3 * (l.flatten.length : Int) + 3 * (m.flatten.length : Int)) (by omega) (by omega)
  have g3 := heldTimerS_at p.length (by omega) (1 + 3 * (l.flatten.length : Int) + 3 * (m.flatten.length : Int)) (by omega) (by omega)
  refine ⟨1 + 3 * (l.flatten.length : Int) + 3 * (m.flatten.length : Int) + 3 * (p.length : Int), l', m', marksT (1 + 3 * (l.flatten.length : Int) + 3 * (m.flatten.length : Int)) p.length, by omega, fun k hk => ?_, fun b k hk => ?_⟩
  · simp only [laws_markWheel.all, h1 k hk, h2 k hk, h3 k (by omega), Option.bind_some]
  · simp only [laws_heldWheel.f, g1 k hk, g2 k hk, g3 k (by omega), Option.bind_some]
    rw [if_neg (by omega), if_neg (by omega), if_neg (by omega)]

theorem FnExactCancel : ∀ (a0_0 : Int) (l0_1 : (List (List S43))) (l0_2 : (List (List S43))) (l0_3 : (List S43)) (a1 : Int), ((Lit.int .i64 a0_0).wf = true ∧ (l0_1.length ≤ maxLen ∧ ∀ y31 ∈ l0_1, (y31.length ≤ maxLen ∧ ∀ y43 ∈ y31, good43 y43)) ∧ (l0_2.length ≤ maxLen ∧ ∀ y31 ∈ l0_2, (y31.length ≤ maxLen ∧ ∀ y43 ∈ y31, good43 y43)) ∧ (l0_3.length ≤ maxLen ∧ ∀ y43 ∈ l0_3, good43 y43)) → ((Lit.int .i64 a1).wf = true) → ∃ k, laws_FnExactCancel.f k a0_0 l0_1 l0_2 l0_3 a1 = some true := by
  intro a l m q id hg hx
  obtain ⟨v, hv, hv2⟩ := szWheel_at a l m q ⟨hg.2.1.1, fun x hx => (hg.2.1.2 x hx).1⟩ ⟨hg.2.2.1.1, fun x hx => (hg.2.2.1.2 x hx).1⟩ hg.2.2.2.1
  by_cases hn : v < 0
  · obtain ⟨k, hk⟩ : ∃ k : Nat, 2097155 < k := ⟨2097156, by omega⟩
    refine ⟨k, ?_⟩
    simp only [laws_FnExactCancel.f, hv k (by omega), Option.bind_some]
    rw [if_pos hn]
  · obtain ⟨f1, f2, f3, f4⟩ := hv2 (by omega)
    have g1 := fit_cv l f1
    have g2 := fit_cv m f2
    have e1 : (cvTT l).flatten.length = l.flatten.length := flat_cv_len l
    have e2 : (cvTT m).flatten.length = m.flatten.length := flat_cv_len m
    have e3 : (q.map cvT).length = q.length := by simp
    have hz : SZ (cvTT l) (cvTT m) (q.map cvT) := ⟨g1.1, g2.1, by omega⟩
    have h1 : ∀ k, 2097153 < k → _ := toWheel_at a l m q f1 f2 f3
    generalize cvTT l = L at *
    generalize cvTT m = M at *
    generalize q.map cvT = Q at *
    obtain ⟨R, ⟨K1, s1⟩, ⟨K2, s2⟩, z1, _⟩ := can_val id a L M Q hz
    obtain ⟨R0, R1, R2, R3, R5⟩ := R
    simp only at z1 s1 s2
    obtain ⟨c1, c2, c3⟩ := z1.rows
    obtain ⟨b1, b2, b3⟩ := hz.rows
    have h4 := eqWheel_at R0 R1 R2 R3 ⟨z1.1, c1⟩ ⟨z1.2.1, c2⟩ c3
    have h5 := eqWheel_at a L M Q ⟨hz.1, b1⟩ ⟨hz.2.1, b2⟩ b3
    obtain ⟨x, X1, X2, X3, x0_, hX, _⟩ := markWheel_all a L M Q hz.1 hz.2.1 hz.2.2
    obtain ⟨y, Y1, Y2, Y3, y0, hY, hH⟩ := markWheel_all R0 R1 R2 R3 z1.1 z1.2.1 z1.2.2
    generalize hk : K1 + K2 + 2097155 = k
    refine ⟨k, ?_⟩
    unfold laws_FnExactCancel.f
    rw [hv k (by omega), Option.bind_some, if_neg hn, h1 k (by omega), Option.bind_some]
    dsimp only
    rw [s1 k (by omega), Option.bind_some, s2 k (by omega), Option.bind_some]
    dsimp only
    rw [h4 k (by omega), Option.bind_some, if_pos rfl, if_pos rfl, h5 k (by omega), Option.bind_some, if_pos rfl, hX k (by omega), Option.bind_some]
    dsimp only
    rw [if_neg (by omega), hY k (by omega), Option.bind_some]
    dsimp only
    rw [hH _ k (by omega), Option.bind_some, if_neg (by omega), if_pos rfl]

end Go.Proofs.Ytggenhomnbnodaa.Pure
