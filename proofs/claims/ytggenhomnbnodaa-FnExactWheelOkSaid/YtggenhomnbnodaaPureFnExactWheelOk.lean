/- The program's WheelOk returns what the reference's returns, for all arguments. Conditions: none beyond the statement's own. -/
import Derived.Test.YtggenhomnbnodaaQFnExactWheelOkx
set_option linter.unusedVariables false
set_option linter.unusedSimpArgs false
namespace Go.Proofs.Ytggenhomnbnodaa.Pure
open Go.RowKit Go.Proofs.Ytggenhomnbnodaa.QFnExactWheelOk Go.Proofs.YtggenhomnbnodaaW.PrintWords Go.Proofs.YtggenhomnbnodaaW.PrintLast Go.Proofs.YtggenhomnbnodaaW.PrintMore
def good43 (x : S43) : Prop := (Lit.int .i64 x.f0).wf = true ∧ (Lit.int .i64 x.f1).wf = true ∧ (Lit.int .i64 x.f2).wf = true

/-- A loop over an index: from a state that is good, with enough rounds, it comes to an end that meets what is told of it. -/
theorem loop_ex {σ β : Type} {L : Nat → σ → Int → Option β} {n K : Nat} {I : σ → Nat → Prop} {Post : σ → Nat → β → Prop}
    (hend : ∀ s, I s n → ∃ r, Post s n r ∧ ∀ k, L (k + 1) s (n : Int) = some r)
    (hstep : ∀ s (i : Nat), i < n → I s i → (∃ r, Post s i r ∧ ∀ k, K ≤ k → L (k + 1) s (i : Int) = some r) ∨
      ∃ s', I s' (i + 1) ∧ (∀ k, K ≤ k → L (k + 1) s (i : Int) = L k s' ((i : Int) + 1)) ∧ ∀ r, Post s' (i + 1) r → Post s i r) :
    ∀ (d : Nat) s (i : Nat), i + d = n → I s i → ∃ r, Post s i r ∧ ∀ k, K + d < k → L k s (i : Int) = some r := by
  intro d
  induction d with
  | zero =>
    intro s i hd hI
    obtain rfl : i = n := by omega
    obtain ⟨r, hp, hr⟩ := hend s hI
    refine ⟨r, hp, fun k hk => ?_⟩
    obtain ⟨k, rfl⟩ : ∃ m, k = m + 1 := ⟨k - 1, by omega⟩
    exact hr k
  | succ d ih =>
    intro s i hd hI
    rcases hstep s i (by omega) hI with ⟨r, hp, hr⟩ | ⟨s', hI', he, hp⟩
    · refine ⟨r, hp, fun k hk => ?_⟩
      obtain ⟨k, rfl⟩ : ∃ m, k = m + 1 := ⟨k - 1, by omega⟩
      exact hr k (by omega)
    · obtain ⟨r, hq, hr⟩ := ih s' (i + 1) (by omega) hI'
      refine ⟨r, hp r hq, fun k hk => ?_⟩
      obtain ⟨k, rfl⟩ : ∃ m, k = m + 1 := ⟨k - 1, by omega⟩
      rw [he k (by omega)]
      have := hr k (by omega)
      rw [Int.natCast_add] at this
      exact this
theorem ev_at {α : Type} {g : Nat → Option α} {r : α} (K : Nat) (h : ∀ k, K < k → g k = some r) : Ev g r := ⟨K + 1, fun k hk => h k (by omega)⟩
theorem wrap_of {x : Int} (h0 : -9223372036854775808 ≤ x) (h1 : x ≤ 9223372036854775807) : wrap64 x = x := by
  unfold wrap64
  omega
theorem wrap_nat1 {i n : Nat} (h : i < n) (hn : n ≤ 9223372036854775807) : wrap64 ((i : Int) + 1) = (i : Int) + 1 := wrap_of (by omega) (by omega)
theorem lt_cast {i n : Nat} (h : i < n) : (i : Int) < (n : Int) := by omega
theorem nn_cast (i : Nat) : 0 ≤ (i : Int) := by omega
theorem not_lt_cast (n : Nat) : ¬ (n : Int) < (n : Int) := by omega
/-- What is written cell by cell. -/
theorem fill_set {α : Type} (l : List α) (z : α) (i : Nat) (h : i < l.length) : (l.take i ++ List.replicate (l.length - i) z).set i l[i] = l.take (i + 1) ++ List.replicate (l.length - (i + 1)) z := by
  have e1 : l.length - i = (l.length - (i + 1)) + 1 := by omega
  have e2 : (l.take i).length = i := by rw [List.length_take]; omega
  rw [e1, List.replicate_succ, List.set_append_right _ _ (by omega), e2, Nat.sub_self, List.set_cons_zero, List.take_succ_eq_append_getElem h, List.append_assoc]
  rfl
theorem fill_len {α : Type} (l : List α) (z : α) (i : Nat) (h : i ≤ l.length) : (l.take i ++ List.replicate (l.length - i) z).length = l.length := by
  rw [List.length_append, List.length_take, List.length_replicate]
  omega

theorem rdLT (l : List S43) (i : Nat) (h : i < l.length) : rd_T43 l (i : Int) = l[i] := by
  simp [rd_T43, List.getD_eq_getElem?_getD, h]
theorem rdLLT (l : List (List S43)) (i : Nat) (h : i < l.length) : rd_L4 l (i : Int) = l[i] := by
  simp [rd_L4, List.getD_eq_getElem?_getD, h]

theorem szTimerS_ex (l : List S43) (left : Int) (hl : l.length ≤ maxLen) (h0 : 0 ≤ left) (h1 : left ≤ 1048576) :
    ∃ v, laws_szTimerS.f l left = some v ∧ v ≤ left ∧ (0 ≤ v → (l.length : Int) + v ≤ left) := by
  unfold maxLen at hl
  have w1 : wrap64 (left - (l.length : Int)) = left - (l.length : Int) := wrap_of (by omega) (by omega)
  unfold laws_szTimerS.f
  rw [w1]
  by_cases c : left - (l.length : Int) < 0
  · rw [if_pos c]
    exact ⟨-1, rfl, by omega, by omega⟩
  · rw [if_neg c]
    exact ⟨_, rfl, by omega, by omega⟩
/-- Each row is short, and all of them together. -/
def fitT (l : List (List S43)) : Prop := l.length ≤ 1048576 ∧ (l.flatten.length ≤ 1048576 ∧ ∀ x ∈ l, x.length ≤ 1048576)
theorem szTimerSS_at (l : List (List S43)) (left : Int) (hl : l.length ≤ maxLen) (hg : ∀ x ∈ l, x.length ≤ maxLen) (h0 : 0 ≤ left) (h1 : left ≤ 1048576) :
    ∃ v, (∀ k, 1048577 < k → laws_szTimerSS.f k l left = some v) ∧ v ≤ left ∧ (0 ≤ v → (l.length : Int) + l.flatten.length + v ≤ left ∧ fitT l) := by
  unfold maxLen at hl
  have w1 : wrap64 (left - (l.length : Int)) = left - (l.length : Int) := wrap_of (by omega) (by omega)
  by_cases c1 : left - (l.length : Int) < 0
  · refine ⟨-1, fun k _ => ?_, by omega, by omega⟩
    simp only [laws_szTimerSS.f]
    rw [w1, if_pos c1]
  · obtain ⟨r, ⟨hr1, hr2⟩, h⟩ := loop_ex (σ := Int) (L := fun k s i => laws_szTimerSS.l0 k l s i) (n := l.length) (K := 0)
      (I := fun s _ => 0 ≤ s ∧ s ≤ left) (Post := fun s i r => r ≤ s ∧ (0 ≤ r → ((l.drop i).flatten.length : Int) + r ≤ s))
      (fun s hI => ⟨s, ⟨by omega, fun _ => by simp⟩, fun k => by
        simp only [laws_szTimerSS.l0]
        rw [if_neg (not_lt_cast _)]⟩)
      (fun s i hi hI => by
        obtain ⟨v, hv, hv1, hv2⟩ := szTimerS_ex l[i] s (hg _ (List.getElem_mem hi)) hI.1 (by omega)
        by_cases hneg : v < 0
        · refine .inl ⟨-1, ⟨by omega, by omega⟩, fun k hk => ?_⟩
          simp only [laws_szTimerSS.l0]
          rw [if_pos (lt_cast hi), if_pos (nn_cast i), rdLLT _ _ hi, hv, Option.bind_some, if_pos hneg]
        · refine .inr ⟨v, ⟨by omega, by omega⟩, fun k hk => ?_, fun r hr => ⟨by omega, fun hr0 => ?_⟩⟩
          · simp only [laws_szTimerSS.l0]
            rw [if_pos (lt_cast hi), if_pos (nn_cast i), rdLLT _ _ hi, hv, Option.bind_some, if_neg hneg, wrap_nat1 hi (by omega)]
          · have h3 := hr.2 hr0
            have h4 := hv2 (by omega)
            rw [List.drop_eq_getElem_cons hi, List.flatten_cons, List.length_append]
            push_cast
            omega) l.length (left - (l.length : Int)) 0 (by omega) ⟨by omega, by omega⟩
    refine ⟨r, fun k hk => ?_, by omega, fun hr0 => ?_⟩
    · simp only [laws_szTimerSS.f]
      rw [w1, if_neg c1]
      exact h k (by omega)
    · have h3 := hr2 hr0
      rw [List.drop_zero] at h3
      refine ⟨by omega, by omega, by omega, fun x hx => ?_⟩
      have := (List.sublist_flatten_of_mem hx).length_le
      omega
theorem szWheel_at (a : Int) (l m : List (List S43)) (q : List S43) (hl : l.length ≤ maxLen ∧ ∀ x ∈ l, x.length ≤ maxLen) (hm : m.length ≤ maxLen ∧ ∀ x ∈ m, x.length ≤ maxLen) (hq : q.length ≤ maxLen) :
    ∃ v, (∀ k, 1048577 < k → laws_szWheel.f k a l m q 1048576 = some v) ∧ (0 ≤ v → fitT l ∧ fitT m ∧ q.length ≤ 1048576 ∧ l.flatten.length + m.flatten.length + q.length ≤ 1048576) := by
  obtain ⟨v1, h1, b1, c1⟩ := szTimerSS_at l 1048576 hl.1 hl.2 (by omega) (by omega)
  by_cases n1 : v1 < 0
  · refine ⟨-1, fun k hk => ?_, by omega⟩
    simp only [laws_szWheel.f, h1 k hk, Option.bind_some]
    rw [if_pos n1]
  obtain ⟨v2, h2, b2, c2⟩ := szTimerSS_at m v1 hm.1 hm.2 (by omega) (by omega)
  by_cases n2 : v2 < 0
  · refine ⟨-1, fun k hk => ?_, by omega⟩
    simp only [laws_szWheel.f, h1 k hk, h2 k hk, Option.bind_some]
    rw [if_neg n1, if_pos n2]
  obtain ⟨v3, h3, b3, c3⟩ := szTimerS_ex q v2 hq (by omega) (by omega)
  by_cases n3 : v3 < 0
  · refine ⟨-1, fun k hk => ?_, by omega⟩
    simp only [laws_szWheel.f, h1 k hk, h2 k hk, h3, Option.bind_some]
    rw [if_neg n1, if_neg n2, if_pos n3]
  refine ⟨v3, fun k hk => ?_, fun _ => ?_⟩
  · simp only [laws_szWheel.f, h1 k hk, h2 k hk, h3, Option.bind_some]
    rw [if_neg n1, if_neg n2, if_neg n3]
  · have d1 := c1 (by omega)
    have d2 := c2 (by omega)
    have d3 := c3 (by omega)
    exact ⟨d1.2, d2.2, by omega, by omega⟩

def cvT (x : S43) : S46 := ⟨x.f0, x.f1, x.f2⟩
theorem toTimerS_at (l : List S43) (hl : l.length ≤ 1048576) : ∀ k, 1048576 < k → laws_toTimerS.f k l = some (l.map cvT) := by
  have hm : (l.map cvT).length = l.length := by simp
  obtain ⟨r, hr, h⟩ := loop_ex (σ := List S46) (L := fun k s i => laws_toTimerS.l0 k l s i) (n := l.length) (K := 0)
    (I := fun s i => s = (l.map cvT).take i ++ List.replicate ((l.map cvT).length - i) z46) (Post := fun _ _ r => r = l.map cvT)
    (fun s hI => ⟨_, rfl, fun k => by
      simp only [laws_toTimerS.l0]
      rw [if_neg (not_lt_cast _), hI, ← hm, List.take_length, Nat.sub_self]
      simp⟩)
    (fun s i hi hI => .inr ⟨_, rfl, fun k _ => by
      have hi' : i < (l.map cvT).length := by omega
      have e : (⟨l[i].f0, l[i].f1, l[i].f2⟩ : S46) = (l.map cvT)[i] := by rw [List.getElem_map]; rfl
      simp only [laws_toTimerS.l0, laws_toTimer.f, Option.bind_some]
      rw [if_pos (lt_cast hi), if_pos (nn_cast i), hI, fill_len _ _ _ (by omega), if_pos (lt_cast hi'), rdLT _ _ hi, wrap_nat1 hi (by omega), e]
      simp only [Int.toNat_natCast]
      rw [fill_set _ _ _ hi'], fun _ h => h⟩) l.length (List.replicate l.length z46) 0 (by omega) (by simp)
  subst hr
  intro k hk
  simp only [laws_toTimerS.f]
  rw [if_pos (by omega), if_pos (by simp; omega)]
  exact h k (by omega)
def cvTT (l : List (List S43)) : List (List S46) := l.map fun x => x.map cvT
theorem toTimerSS_at (l : List (List S43)) (hf : fitT l) : ∀ k, 2097153 < k → laws_toTimerSS.f k l = some (cvTT l) := by
  have hm : (cvTT l).length = l.length := by simp [cvTT]
  obtain ⟨hl, hl2, hf⟩ := hf
  obtain ⟨r, hr, h⟩ := loop_ex (σ := List (List S46)) (L := fun k s i => laws_toTimerSS.l0 k l s i) (n := l.length) (K := 1048577)
    (I := fun s i => s = (cvTT l).take i ++ List.replicate ((cvTT l).length - i) []) (Post := fun _ _ r => r = cvTT l)
    (fun s hI => ⟨_, rfl, fun k => by
      simp only [laws_toTimerSS.l0]
      rw [if_neg (not_lt_cast _), hI, ← hm, List.take_length, Nat.sub_self]
      simp⟩)
    (fun s i hi hI => .inr ⟨_, rfl, fun k hk => by
      have hi' : i < (cvTT l).length := by omega
      have e : l[i].map cvT = (cvTT l)[i] := by simp [cvTT]
      simp only [laws_toTimerSS.l0]
      rw [if_pos (lt_cast hi), if_pos (nn_cast i), rdLLT _ _ hi, toTimerS_at _ (hf _ (List.getElem_mem hi)) k (by omega), Option.bind_some, hI, fill_len _ _ _ (by omega), if_pos (lt_cast hi'), wrap_nat1 hi (by omega), e]
      simp only [Int.toNat_natCast]
      rw [fill_set _ _ _ hi'], fun _ h => h⟩) l.length (List.replicate l.length []) 0 (by omega) (by simp [hm])
  subst hr
  intro k hk
  simp only [laws_toTimerSS.f]
  rw [if_pos (by omega), if_pos (by simp; omega)]
  exact h k (by omega)
theorem toWheel_at (a : Int) (l m : List (List S43)) (q : List S43) (hl : fitT l) (hm : fitT m) (hq : q.length ≤ 1048576) : ∀ k, 2097153 < k → laws_toWheel.f k a l m q = some (a, cvTT l, cvTT m, q.map cvT) := by
  intro k hk
  simp only [laws_toWheel.f, toTimerSS_at l hl k hk, toTimerSS_at m hm k hk, toTimerS_at q hq k (by omega), Option.bind_some]
/-- Rows of timers that are short. -/
def fitI (l : List (List S46)) : Prop := l.length ≤ 1048576 ∧ (l.flatten.length ≤ 1048576 ∧ ∀ x ∈ l, x.length ≤ 1048576)
theorem flat_cv (l : List (List S43)) : (cvTT l).flatten = l.flatten.map cvT := by
  unfold cvTT
  rw [List.map_flatten]
theorem flat_cv_len (l : List (List S43)) : (cvTT l).flatten.length = l.flatten.length := by rw [flat_cv, List.length_map]
theorem fit_cv (l : List (List S43)) (h : fitT l) : fitI (cvTT l) := by
  obtain ⟨h1, h2, h3⟩ := h
  have e : (cvTT l).flatten = l.flatten.map cvT := by
    unfold cvTT
    rw [List.map_flatten]
  refine ⟨by simpa [cvTT] using h1, by rw [e, List.length_map]; exact h2, fun x hx => ?_⟩
  obtain ⟨y, hy, rfl⟩ := List.mem_map.1 hx
  simpa using h3 y hy

theorem rdIT (l : List S46) (i : Nat) (h : i < l.length) : rd_T46 l (i : Int) = l[i] := by
  simp [rd_T46, List.getD_eq_getElem?_getD, h]

theorem rdLIT (l : List (List S46)) (i : Nat) (h : i < l.length) : rd_L2 l (i : Int) = l[i] := by
  simp [rd_L2, List.getD_eq_getElem?_getD, h]

theorem eqTimer_self (a b c : Int) : laws_eqTimer.f a b c a b c = some true := by
  simp [laws_eqTimer.f]
theorem eqTimerS_at (l : List S46) (hl : l.length ≤ 1048576) : ∀ k, 1048576 < k → laws_eqTimerS.f k l l = some true := by
  obtain ⟨r, hr, h⟩ := loop_ex (σ := Unit) (L := fun k _ i => laws_eqTimerS.l0 k l l i) (n := l.length) (K := 0)
    (I := fun _ _ => True) (Post := fun _ _ r => r = true)
    (fun s hI => ⟨true, rfl, fun k => by
      simp only [laws_eqTimerS.l0]
      rw [if_neg (not_lt_cast _)]⟩)
    (fun s i hi hI => .inr ⟨(), trivial, fun k _ => by
      simp only [laws_eqTimerS.l0, eqTimer_self, Option.bind_some, if_true]
      rw [if_pos (lt_cast hi), if_pos (nn_cast i), if_pos (lt_cast hi), wrap_nat1 hi (by omega)], fun _ h => h⟩) l.length () 0 (by omega) trivial
  subst hr
  intro k hk
  simp only [laws_eqTimerS.f, if_true]
  exact h k (by omega)
theorem eqTimerSS_at (l : List (List S46)) (hl : l.length ≤ 1048576) (hf : ∀ x ∈ l, x.length ≤ 1048576) : ∀ k, 2097153 < k → laws_eqTimerSS.f k l l = some true := by
  obtain ⟨r, hr, h⟩ := loop_ex (σ := Unit) (L := fun k _ i => laws_eqTimerSS.l0 k l l i) (n := l.length) (K := 1048577)
    (I := fun _ _ => True) (Post := fun _ _ r => r = true)
    (fun s hI => ⟨true, rfl, fun k => by
      simp only [laws_eqTimerSS.l0]
      rw [if_neg (not_lt_cast _)]⟩)
    (fun s i hi hI => .inr ⟨(), trivial, fun k hk => by
      simp only [laws_eqTimerSS.l0]
      rw [if_pos (lt_cast hi), if_pos (nn_cast i), if_pos (lt_cast hi), rdLIT _ _ hi, eqTimerS_at _ (hf _ (List.getElem_mem hi)) k (by omega), wrap_nat1 hi (by omega)]
      rfl, fun _ h => h⟩) l.length () 0 (by omega) trivial
  subst hr
  intro k hk
  simp only [laws_eqTimerSS.f, if_true]
  exact h k (by omega)
theorem eqWheel_at (a : Int) (l m : List (List S46)) (q : List S46) (hl : l.length ≤ 1048576 ∧ ∀ x ∈ l, x.length ≤ 1048576) (hm : m.length ≤ 1048576 ∧ ∀ x ∈ m, x.length ≤ 1048576) (hq : q.length ≤ 1048576) : ∀ k, 2097153 < k → laws_eqWheel.f k a l m q a l m q = some true := by
  intro k hk
  simp [laws_eqWheel.f, eqTimerSS_at l hl.1 hl.2 k hk, eqTimerSS_at m hm.1 hm.2 k hk, eqTimerS_at q hq k (by omega)]

theorem ev_step {α : Type} {g g' : Nat → Option α} {r : α} (K c : Nat) (h : ∀ k, K ≤ k → g (k + c) = g' k) (hg : Ev g' r) : Ev g r := by
  obtain ⟨M, hM⟩ := hg
  refine ⟨M + K + c, fun k hk => ?_⟩
  obtain ⟨m, rfl⟩ : ∃ m, k = m + c := ⟨k - c, by omega⟩
  rw [h m (by omega)]
  exact hM m (by omega)
theorem ev_now {α : Type} {g : Nat → Option α} {r : α} (K c : Nat) (h : ∀ k, K ≤ k → g (k + c) = some r) : Ev g r := by
  refine ⟨K + c, fun k hk => ?_⟩
  obtain ⟨m, rfl⟩ : ∃ m, k = m + c := ⟨k - c, by omega⟩
  exact h m (by omega)
theorem loop_ev {α : Type} {L L' : Nat → Nat → Option α} {n : Nat} (hend : ∃ r, Ev (fun k => L k n) r ∧ Ev (fun k => L' k n) r)
    (hstep : ∀ i, i < n → (∃ r, Ev (fun k => L k i) r ∧ Ev (fun k => L' k i) r) ∨ ((∀ r, Ev (fun k => L k (i + 1)) r → Ev (fun k => L k i) r) ∧ ∀ r, Ev (fun k => L' k (i + 1)) r → Ev (fun k => L' k i) r)) :
    ∀ d i, i + d = n → ∃ r, Ev (fun k => L k i) r ∧ Ev (fun k => L' k i) r := by
  intro d
  induction d with
  | zero =>
    intro i hi
    obtain rfl : i = n := by omega
    exact hend
  | succ d ih =>
    intro i hi
    rcases hstep i (by omega) with h | ⟨h1, h2⟩
    · exact h
    · obtain ⟨r, e1, e2⟩ := ih (i + 1) (by omega)
      exact ⟨r, h1 r e1, h2 r e2⟩
theorem cast1 (i : Nat) : ((i + 1 : Nat) : Int) = (i : Int) + 1 := by omega

def inB (a b c : Int) : Bool := decide (b ≤ a) && decide (a ≤ c)
theorem impl_within_eq (a b c : Int) : impl_within.f a b c = some (inB a b c) := by
  unfold impl_within.f inB
  by_cases h : a ≥ b
  · rw [if_pos h]
    simp [show b ≤ a from h]
  · rw [if_neg h]
    simp [show ¬ b ≤ a from h]

theorem spec_l1In_eq (a b c : Int) : spec_l1In.f a b c = some (inB a b c) := by
  unfold spec_l1In.f inB
  by_cases h : a ≥ b
  · rw [if_pos h]
    simp [show b ≤ a from h]
  · rw [if_neg h]
    simp [show ¬ b ≤ a from h]

theorem slot_both (a : Int) (ha : 0 ≤ a) (ha2 : a ≤ 2147483647) (w1 w2 : List (List S46)) (w3 : List S46) (l : List S46) (hl : l.length ≤ 1048576) (q q' s : Int)
    (hq : (q = 1 ∧ q' = 0) ∨ (q = 2 ∧ q' = 1) ∨ (q = 3 ∧ q' = 2 ∧ s = 0)) :
    ∃ r, Ev (fun k => spec_l8Slot.f k a w1 w2 w3 l q s) r ∧ Ev (fun k => impl_belongs.f k a w1 w2 w3 l q' s) r := by
  have h := loop_ev (L := fun k i => spec_l8Slot.l0 k l q s (i : Int) a w1 w2 w3) (L' := fun k i => impl_belongs.l0 k q' s l l.length (i : Int) a w1 w2 w3) (n := l.length)
    ⟨true, ev_now 0 1 (fun k _ => by
      simp only [spec_l8Slot.l0]
      rw [if_neg (not_lt_cast _)]), ev_now 0 1 (fun k _ => by
      simp only [impl_belongs.l0]
      rw [if_neg (not_lt_cast _)])⟩
    (fun i hi => by
      have hw : wrap64 (a + 1) = a + 1 := wrap_of (by omega) (by omega)
      have bad : ∀ (hs : ∀ k, spec_l8Slot.l0 (k + 2) l q s (i : Int) a w1 w2 w3 = some false) (hm : ∀ k, impl_belongs.l0 (k + 2) q' s l l.length (i : Int) a w1 w2 w3 = some false),
          ∃ r, Ev (fun k => spec_l8Slot.l0 k l q s (i : Int) a w1 w2 w3) r ∧ Ev (fun k => impl_belongs.l0 k q' s l l.length (i : Int) a w1 w2 w3) r :=
        fun hs hm => ⟨false, ev_now 0 2 (fun k _ => hs k), ev_now 0 2 (fun k _ => hm k)⟩
      have hS : ∀ k, spec_l8Slot.l0 (k + 2) l q s (i : Int) a w1 w2 w3 = (if l[i].f0 < 1 then some false else if inB l[i].f1 1 999 = true then (if inB l[i].f2 (a + 1) 2147483647 = true then ((spec_l8Place.f a l[i].f2).bind fun b => if b.1 = q then (if b.2 = s then spec_l8Slot.l0 k l q s ((i : Int) + 1) a w1 w2 w3 else some false) else some false) else some false) else some false) := by
        intro k
        simp only [spec_l8Slot.l0, spec_l8Slot.j1, spec_l1In_eq, Option.bind_some]
        rw [if_pos (lt_cast hi), if_pos (nn_cast i), rdIT _ _ hi, hw, wrap_nat1 hi (by omega)]
        cases inB l[i].f1 1 999 <;> cases inB l[i].f2 (a + 1) 2147483647 <;> simp
      have hI : ∀ k, impl_belongs.l0 (k + 2) q' s l l.length (i : Int) a w1 w2 w3 = (if l[i].f0 < 1 then some false else if inB l[i].f1 1 999 = true then (if l[i].f2 ≤ a then some false else impl_belongs.j1 (k + 1) q' s l l.length (i : Int) (decide (l[i].f2 > 2147483647)) a w1 w2 w3 l[i].f0 l[i].f1 l[i].f2) else some false) := by
        intro k
        simp only [impl_belongs.l0, impl_within_eq, Option.bind_some]
        rw [if_pos (lt_cast hi), if_pos (nn_cast i), if_pos (lt_cast hi), rdIT _ _ hi]
        have hj : ∀ k, impl_belongs.j1 (k + 1) q' s l l.length (i : Int) true a w1 w2 w3 l[i].f0 l[i].f1 l[i].f2 = some false := by
          intro k
          simp only [impl_belongs.j1, if_true]
        rw [hj k]
      by_cases h1 : l[i].f0 < 1
      · exact .inl (bad (fun k => by rw [hS, if_pos h1]) (fun k => by rw [hI, if_pos h1]))
      by_cases h2 : inB l[i].f1 1 999 = true
      case neg => exact .inl (bad (fun k => by rw [hS, if_neg h1, if_neg h2]) (fun k => by rw [hI, if_neg h1, if_neg h2]))
      by_cases h3 : l[i].f2 ≤ a
      · have e : ¬ inB l[i].f2 (a + 1) 2147483647 = true := by simp [inB]; omega
        exact .inl (bad (fun k => by rw [hS, if_neg h1, if_pos h2, if_neg e]) (fun k => by rw [hI, if_neg h1, if_pos h2, if_pos h3]))
      by_cases h4 : l[i].f2 > 2147483647
      · have e : ¬ inB l[i].f2 (a + 1) 2147483647 = true := by simp [inB]; omega
        exact .inl (bad (fun k => by rw [hS, if_neg h1, if_pos h2, if_neg e]) (fun k => by
          rw [hI, if_neg h1, if_pos h2, if_neg h3, decide_eq_true h4]
          simp only [impl_belongs.j1, if_true]))
      have e : inB l[i].f2 (a + 1) 2147483647 = true := by simp [inB]; omega
      have hJ : ∀ k, impl_belongs.l0 (k + 2) q' s l l.length (i : Int) a w1 w2 w3 = impl_belongs.j1 (k + 1) q' s l l.length (i : Int) false a w1 w2 w3 l[i].f0 l[i].f1 l[i].f2 := by
        intro k
        rw [hI, if_neg h1, if_pos h2, if_neg h3, decide_eq_false h4]
      have hS' : ∀ k, spec_l8Slot.l0 (k + 2) l q s (i : Int) a w1 w2 w3 = ((spec_l8Place.f a l[i].f2).bind fun b => if b.1 = q then (if b.2 = s then spec_l8Slot.l0 k l q s ((i : Int) + 1) a w1 w2 w3 else some false) else some false) := by
        intro k
        rw [hS, if_neg h1, if_pos h2, if_pos e]
      generalize l[i].f2 = t at *
      have d1 : Int.tdiv t 8 = t / 8 := Int.tdiv_eq_ediv_of_nonneg (by omega)
      have d2 : Int.tdiv a 8 = a / 8 := Int.tdiv_eq_ediv_of_nonneg ha
      have u1 : wrap64 (t / 8) = t / 8 := wrap_of (by omega) (by omega)
      have u2 : wrap64 (a / 8) = a / 8 := wrap_of (by omega) (by omega)
      have u3 : wrap64 (t / 8 - a / 8) = t / 8 - a / 8 := wrap_of (by omega) (by omega)
      have hP : spec_l8Place.f a t = if t / 8 = a / 8 then some (1, Int.tmod t 8) else if t / 8 - a / 8 < 8 then some (2, Int.tmod (t / 8) 8) else some (3, 0) := by
        unfold spec_l8Place.f
        rw [d1, d2, u1, u2, u3]
      have hG : ∀ k, impl_belongs.j1 (k + 1) q' s l l.length (i : Int) false a w1 w2 w3 l[i].f0 l[i].f1 t = if q' = 0 then (if t / 8 - a / 8 = 0 then (if Int.tmod t 8 = s then impl_belongs.l0 k q' s l l.length ((i : Int) + 1) a w1 w2 w3 else some false) else some false) else if q' = 1 then (if inB (t / 8 - a / 8) 1 7 = true then (if Int.tmod (t / 8) 8 = s then impl_belongs.l0 k q' s l l.length ((i : Int) + 1) a w1 w2 w3 else some false) else some false) else (if t / 8 - a / 8 ≥ 8 then impl_belongs.l0 k q' s l l.length ((i : Int) + 1) a w1 w2 w3 else some false) := by
        intro k
        simp only [impl_belongs.j1, impl_within_eq, Option.bind_some]
        rw [if_neg (by simp), d1, d2, u1, u2, u3, wrap_nat1 hi (by omega)]
      have go : ∀ (hs : ∀ k, spec_l8Slot.l0 (k + 2) l q s (i : Int) a w1 w2 w3 = spec_l8Slot.l0 k l q s ((i : Int) + 1) a w1 w2 w3) (hm : ∀ k, impl_belongs.l0 (k + 2) q' s l l.length (i : Int) a w1 w2 w3 = impl_belongs.l0 k q' s l l.length ((i : Int) + 1) a w1 w2 w3),
          (∀ r, Ev (fun k => spec_l8Slot.l0 k l q s ((i + 1 : Nat) : Int) a w1 w2 w3) r → Ev (fun k => spec_l8Slot.l0 k l q s (i : Int) a w1 w2 w3) r) ∧ ∀ r, Ev (fun k => impl_belongs.l0 k q' s l l.length ((i + 1 : Nat) : Int) a w1 w2 w3) r → Ev (fun k => impl_belongs.l0 k q' s l l.length (i : Int) a w1 w2 w3) r := by
        intro hs hm
        rw [cast1]
        exact ⟨fun r => ev_step 0 2 (fun k _ => hs k), fun r => ev_step 0 2 (fun k _ => hm k)⟩
      rcases hq with ⟨rfl, rfl⟩ | ⟨rfl, rfl⟩ | ⟨rfl, rfl, rfl⟩
      · by_cases c1 : t / 8 = a / 8
        · by_cases c2 : Int.tmod t 8 = s
          · exact .inr (go (fun k => by rw [hS', hP, if_pos c1, Option.bind_some, if_pos rfl, if_pos c2]) (fun k => by rw [hJ, hG, if_pos rfl, if_pos (by omega), if_pos c2]))
          · exact .inl (bad (fun k => by rw [hS', hP, if_pos c1, Option.bind_some, if_pos rfl, if_neg c2]) (fun k => by rw [hJ, hG, if_pos rfl, if_pos (by omega), if_neg c2]))
        · refine .inl (bad (fun k => ?_) (fun k => by rw [hJ, hG, if_pos rfl, if_neg (by omega)]))
          rw [hS', hP, if_neg c1]
          by_cases c3 : t / 8 - a / 8 < 8
          · rw [if_pos c3, Option.bind_some, if_neg (by simp)]
          · rw [if_neg c3, Option.bind_some, if_neg (by simp)]
      · by_cases c1 : t / 8 = a / 8
        · exact .inl (bad (fun k => by rw [hS', hP, if_pos c1, Option.bind_some, if_neg (by simp)]) (fun k => by rw [hJ, hG, if_neg (by omega), if_pos rfl, if_neg (by simp [inB]; omega)]))
        · by_cases c3 : t / 8 - a / 8 < 8
          · have e2 : inB (t / 8 - a / 8) 1 7 = true := by simp [inB]; omega
            by_cases c2 : Int.tmod (t / 8) 8 = s
            · exact .inr (go (fun k => by rw [hS', hP, if_neg c1, if_pos c3, Option.bind_some, if_pos rfl, if_pos c2]) (fun k => by rw [hJ, hG, if_neg (by omega), if_pos rfl, if_pos e2, if_pos c2]))
            · exact .inl (bad (fun k => by rw [hS', hP, if_neg c1, if_pos c3, Option.bind_some, if_pos rfl, if_neg c2]) (fun k => by rw [hJ, hG, if_neg (by omega), if_pos rfl, if_pos e2, if_neg c2]))
          · exact .inl (bad (fun k => by rw [hS', hP, if_neg c1, if_neg c3, Option.bind_some, if_neg (by simp)]) (fun k => by rw [hJ, hG, if_neg (by omega), if_pos rfl, if_neg (by simp [inB]; omega)]))
      · by_cases c1 : t / 8 = a / 8
        · exact .inl (bad (fun k => by rw [hS', hP, if_pos c1, Option.bind_some, if_neg (by simp)]) (fun k => by rw [hJ, hG, if_neg (by omega), if_neg (by omega), if_neg (by omega)]))
        · by_cases c3 : t / 8 - a / 8 < 8
          · exact .inl (bad (fun k => by rw [hS', hP, if_neg c1, if_pos c3, Option.bind_some, if_neg (by simp)]) (fun k => by rw [hJ, hG, if_neg (by omega), if_neg (by omega), if_neg (by omega)]))
          · exact .inr (go (fun k => by rw [hS', hP, if_neg c1, if_neg c3, Option.bind_some, if_pos rfl, if_pos rfl]) (fun k => by rw [hJ, hG, if_neg (by omega), if_neg (by omega), if_pos (by omega)]))) l.length 0 (by omega)
  exact h

theorem spec_ids (l : List S46) (hl : l.length ≤ 1048576) (i : Nat) (hi : i < l.length) : ∀ d j, j + d = i →
    ((∃ m, ∃ hm : m < l.length, j ≤ m ∧ m < i ∧ l[m].f0 = l[i].f0) → Ev (fun k => spec_WheelOk.l2 k l (i : Int) (j : Int)) false) ∧
    ((¬ ∃ m, ∃ hm : m < l.length, j ≤ m ∧ m < i ∧ l[m].f0 = l[i].f0) → ∀ r, Ev (fun k => spec_WheelOk.l1 k l ((i + 1 : Nat) : Int)) r → Ev (fun k => spec_WheelOk.l2 k l (i : Int) (j : Int)) r) := by
  intro d
  induction d with
  | zero =>
    intro j hj
    obtain rfl : j = i := by omega
    refine ⟨fun ⟨m, _, h1, h2, _⟩ => by omega, fun _ r hr => ?_⟩
    rw [cast1] at hr
    exact ev_step 0 1 (fun k _ => by
      simp only [spec_WheelOk.l2]
      rw [if_neg (not_lt_cast _), wrap_nat1 hi (by omega)]) hr
  | succ d ih =>
    intro j hj
    have hjl : j < l.length := by omega
    obtain ⟨i1, i2⟩ := ih (j + 1) (by omega)
    have hs : ∀ k, spec_WheelOk.l2 (k + 1) l (i : Int) (j : Int) = if l[j].f0 = l[i].f0 then some false else spec_WheelOk.l2 k l (i : Int) ((j + 1 : Nat) : Int) := by
      intro k
      simp only [spec_WheelOk.l2]
      rw [if_pos (by omega), if_pos (nn_cast j), if_pos (lt_cast hjl), if_pos (nn_cast i), if_pos (lt_cast hi), rdIT _ _ hjl, rdIT _ _ hi, wrap_nat1 hjl (by omega), cast1]
    by_cases c : l[j].f0 = l[i].f0
    · have hf : Ev (fun k => spec_WheelOk.l2 k l (i : Int) (j : Int)) false := ev_now 0 1 (fun k _ => by rw [hs, if_pos c])
      exact ⟨fun _ => hf, fun hn => absurd ⟨j, hjl, Nat.le_refl _, by omega, c⟩ hn⟩
    · have hg : ∀ r, Ev (fun k => spec_WheelOk.l2 k l (i : Int) ((j + 1 : Nat) : Int)) r → Ev (fun k => spec_WheelOk.l2 k l (i : Int) (j : Int)) r := fun r => ev_step 0 1 (fun k _ => by rw [hs, if_neg c])
      refine ⟨fun ⟨m, hm, h1, h2, h3⟩ => ?_, fun hn r hr => hg r (i2 (fun ⟨m, hm, h1, h2, h3⟩ => hn ⟨m, hm, by omega, h2, h3⟩) r hr)⟩
      refine hg false (i1 ⟨m, hm, ?_, h2, h3⟩)
      rcases Nat.lt_or_ge j m with h | h
      · exact h
      · obtain rfl : m = j := by omega
        exact absurd h3 c
theorem impl_ids (l : List S46) (hl : l.length ≤ 1048576) (i : Nat) (hi : i < l.length) : ∀ d j, j + d = i →
    ((∃ m, ∃ hm : m < l.length, j ≤ m ∧ m < i ∧ l[m].f0 = l[i].f0) → ∃ p : Nat, p < i ∧ Ev (fun k => impl_Timer.l0 (fun x _ _ => some (x == l[i].f0)) k l l.length (j : Int)) (p : Int)) ∧
    ((¬ ∃ m, ∃ hm : m < l.length, j ≤ m ∧ m < i ∧ l[m].f0 = l[i].f0) → Ev (fun k => impl_Timer.l0 (fun x _ _ => some (x == l[i].f0)) k l l.length (j : Int)) (i : Int)) := by
  have hs : ∀ k (j : Nat) (hjl : j < l.length), impl_Timer.l0 (fun x _ _ => some (x == l[i].f0)) (k + 1) l l.length (j : Int) = if l[j].f0 = l[i].f0 then some (j : Int) else impl_Timer.l0 (fun x _ _ => some (x == l[i].f0)) k l l.length ((j + 1 : Nat) : Int) := by
    intro k j hjl
    simp only [impl_Timer.l0]
    rw [if_pos (lt_cast hjl), if_pos (nn_cast j), if_pos (lt_cast hjl), rdIT _ _ hjl, wrap_nat1 hjl (by omega), Option.bind_some, cast1]
    by_cases c : l[j].f0 = l[i].f0
    · rw [if_pos c, if_pos (by simpa using c)]
    · rw [if_neg c, if_neg (by simpa using c)]
  intro d
  induction d with
  | zero =>
    intro j hj
    obtain rfl : j = i := by omega
    exact ⟨fun ⟨m, _, h1, h2, _⟩ => by omega, fun _ => ev_now 0 1 (fun k _ => by rw [hs k j hi, if_pos rfl])⟩
  | succ d ih =>
    intro j hj
    have hjl : j < l.length := by omega
    obtain ⟨i1, i2⟩ := ih (j + 1) (by omega)
    by_cases c : l[j].f0 = l[i].f0
    · exact ⟨fun _ => ⟨j, by omega, ev_now 0 1 (fun k _ => by rw [hs k j hjl, if_pos c])⟩, fun hn => absurd ⟨j, hjl, Nat.le_refl _, by omega, c⟩ hn⟩
    · have hg : ∀ r, Ev (fun k => impl_Timer.l0 (fun x _ _ => some (x == l[i].f0)) k l l.length ((j + 1 : Nat) : Int)) r → Ev (fun k => impl_Timer.l0 (fun x _ _ => some (x == l[i].f0)) k l l.length (j : Int)) r := fun r => ev_step 0 1 (fun k _ => by rw [hs k j hjl, if_neg c])
      refine ⟨fun ⟨m, hm, h1, h2, h3⟩ => ?_, fun hn => hg _ (i2 (fun ⟨m, hm, h1, h2, h3⟩ => hn ⟨m, hm, by omega, h2, h3⟩))⟩
      obtain ⟨p, hp, he⟩ := i1 ⟨m, hm, by
        rcases Nat.lt_or_ge j m with h | h
        · exact h
        · obtain rfl : m = j := by omega
          exact absurd h3 c, h2, h3⟩
      exact ⟨p, hp, hg _ he⟩
theorem ids_both (l : List S46) (hl : l.length ≤ 1048576) : ∃ r, Ev (fun k => spec_WheelOk.l1 k l 0) r ∧ Ev (fun k => impl_WheelOk.l1 k l l l.length 0) r := by
  have h := loop_ev (L := fun k i => spec_WheelOk.l1 k l (i : Int)) (L' := fun k i => impl_WheelOk.l1 k l l l.length (i : Int)) (n := l.length)
    ⟨decide ((l.length : Int) ≤ 16), ev_now 0 1 (fun k _ => by
      simp only [spec_WheelOk.l1]
      rw [if_neg (not_lt_cast _)]), ev_now 0 1 (fun k _ => by
      simp only [impl_WheelOk.l1]
      rw [if_neg (not_lt_cast _)])⟩
    (fun i hi => by
      obtain ⟨s1, s2⟩ := spec_ids l hl i hi i 0 (by omega)
      obtain ⟨t1, t2⟩ := impl_ids l hl i hi i 0 (by omega)
      have hS : ∀ r, Ev (fun k => spec_WheelOk.l2 k l (i : Int) ((0 : Nat) : Int)) r → Ev (fun k => spec_WheelOk.l1 k l (i : Int)) r := fun r => ev_step 0 1 (fun k _ => by
        simp only [spec_WheelOk.l1]
        rw [if_pos (lt_cast hi)]
        rfl)
      have hI : ∀ p : Int, Ev (fun k => impl_Timer.l0 (fun x _ _ => some (x == l[i].f0)) k l l.length ((0 : Nat) : Int)) p → ∃ K, ∀ k, K ≤ k → impl_WheelOk.l1 (k + 1) l l l.length (i : Int) = if p = (i : Int) then impl_WheelOk.l1 k l l l.length ((i : Int) + 1) else some false := by
        rintro p ⟨K, hK⟩
        refine ⟨K, fun k hk => ?_⟩
        have e : impl_timerAt.f k l l[i].f0 = some p := hK k hk
        simp only [impl_WheelOk.l1]
        rw [if_pos (lt_cast hi), if_pos (nn_cast i), if_pos (lt_cast hi), rdIT _ _ hi, e, Option.bind_some, wrap_nat1 hi (by omega)]
      by_cases hd : ∃ m, ∃ hm : m < l.length, 0 ≤ m ∧ m < i ∧ l[m].f0 = l[i].f0
      · obtain ⟨p, hp, he⟩ := t1 hd
        obtain ⟨K, hK⟩ := hI _ he
        exact .inl ⟨false, hS _ (s1 hd), ev_now K 1 (fun k hk => by rw [hK k hk, if_neg (by omega)])⟩
      · obtain ⟨K, hK⟩ := hI _ (t2 hd)
        refine .inr ⟨fun r hr => hS _ (s2 hd r hr), fun r hr => ?_⟩
        rw [cast1] at hr
        exact ev_step K 1 (fun k hk => by rw [hK k hk, if_pos rfl]) hr) l.length 0 (by omega)
  exact h

def timersV (l m : List (List S46)) (q : List S46) : List S46 := l.flatten ++ m.flatten ++ q
theorem flat_take (l : List (List S46)) (i : Nat) (h : i < l.length) : (l.take (i + 1)).flatten = (l.take i).flatten ++ l[i] := by
  rw [List.take_succ_eq_append_getElem h, List.flatten_append]
  simp
theorem flat_take_le (l : List (List S46)) (i : Nat) : (l.take i).flatten.length ≤ l.flatten.length := by
  have h : l.flatten = (l.take i).flatten ++ (l.drop i).flatten := by rw [← List.flatten_append, List.take_append_drop]
  rw [h, List.length_append]
  omega
theorem spec_Timers_at (a : Int) (l m : List (List S46)) (q : List S46) (hl : l.length ≤ 1048576) (hm : m.length ≤ 1048576) (ht : l.flatten.length + m.flatten.length + q.length ≤ 1048576) :
    ∀ k, 2097154 < k → spec_Timers.f k a l m q = some (timersV l m q) := by
  obtain ⟨r, hr, h⟩ := loop_ex (σ := List S46) (L := fun k s i => spec_Timers.l1 k s i a l m q) (n := m.length) (K := 0)
    (I := fun s i => s = l.flatten ++ (m.take i).flatten) (Post := fun _ _ r => r = timersV l m q)
    (fun s hI => ⟨_, rfl, fun k => by
      simp only [spec_Timers.l1]
      rw [List.take_length] at hI
      rw [if_neg (not_lt_cast _), hI, if_pos (by rw [List.length_append]; omega)]
      rfl⟩)
    (fun s i hi hI => .inr ⟨_, rfl, fun k hk => by
      have h1 := flat_take_le m (i + 1)
      rw [flat_take m i hi, List.length_append] at h1
      simp only [spec_Timers.l1]
      rw [if_pos (lt_cast hi), if_pos (nn_cast i), rdLIT _ _ hi, hI, if_pos (by rw [List.length_append]; omega), wrap_nat1 hi (by omega), flat_take m i hi, List.append_assoc], fun _ h => h⟩) m.length l.flatten 0 (by omega) (by simp)
  subst hr
  obtain ⟨N, hN⟩ : ∃ N : Nat, N = 1048577 := ⟨_, rfl⟩
  obtain ⟨r, hr, h'⟩ := loop_ex (σ := List S46) (L := fun k s i => spec_Timers.l0 (k + N) s i a l m q) (n := l.length) (K := 0)
    (I := fun s i => s = (l.take i).flatten) (Post := fun _ _ r => r = timersV l m q)
    (fun s hI => ⟨_, rfl, fun k => by
      rw [show k + 1 + N = (k + N) + 1 by omega]
      simp only [spec_Timers.l0]
      rw [List.take_length] at hI
      rw [if_neg (not_lt_cast _), hI]
      exact h _ (by omega)⟩)
    (fun s i hi hI => .inr ⟨_, rfl, fun k hk => by
      have h1 := flat_take_le l (i + 1)
      rw [flat_take l i hi, List.length_append] at h1
      rw [show k + 1 + N = (k + N) + 1 by omega]
      simp only [spec_Timers.l0]
      rw [if_pos (lt_cast hi), if_pos (nn_cast i), rdLIT _ _ hi, hI, if_pos (by omega), wrap_nat1 hi (by omega), flat_take l i hi], fun _ h => h⟩) l.length [] 0 (by omega) (by simp)
  subst hr
  intro k hk
  simp only [spec_Timers.f]
  have := h' (k - N) (by omega)
  rw [show k - N + N = k by omega] at this
  exact this
theorem impl_Timers_at (a : Int) (l m : List (List S46)) (q : List S46) (hl : l.length ≤ 1048576) (hm : m.length ≤ 1048576) (ht : l.flatten.length + m.flatten.length + q.length ≤ 1048576) :
    ∀ k, 2097154 < k → impl_Timers.f k a l m q = some (timersV l m q) := by
  obtain ⟨r, hr, h⟩ := loop_ex (σ := List S46) (L := fun k s i => impl_Timers.l1 k s m m.length i a l m q) (n := m.length) (K := 0)
    (I := fun s i => s = l.flatten ++ (m.take i).flatten) (Post := fun _ _ r => r = timersV l m q)
    (fun s hI => ⟨_, rfl, fun k => by
      simp only [impl_Timers.l1]
      rw [List.take_length] at hI
      rw [if_neg (not_lt_cast _), hI, if_pos (by rw [List.length_append]; omega)]
      rfl⟩)
    (fun s i hi hI => .inr ⟨_, rfl, fun k hk => by
      have h1 := flat_take_le m (i + 1)
      rw [flat_take m i hi, List.length_append] at h1
      simp only [impl_Timers.l1]
      rw [if_pos (lt_cast hi), if_pos (nn_cast i), if_pos (lt_cast hi), rdLIT _ _ hi, hI, if_pos (by rw [List.length_append]; omega), wrap_nat1 hi (by omega), flat_take m i hi, List.append_assoc], fun _ h => h⟩) m.length l.flatten 0 (by omega) (by simp)
  subst hr
  obtain ⟨N, hN⟩ : ∃ N : Nat, N = 1048577 := ⟨_, rfl⟩
  obtain ⟨r, hr, h'⟩ := loop_ex (σ := List S46) (L := fun k s i => impl_Timers.l0 (k + N) s l l.length i a l m q) (n := l.length) (K := 0)
    (I := fun s i => s = (l.take i).flatten) (Post := fun _ _ r => r = timersV l m q)
    (fun s hI => ⟨_, rfl, fun k => by
      rw [show k + 1 + N = (k + N) + 1 by omega]
      simp only [impl_Timers.l0]
      rw [List.take_length] at hI
      rw [if_neg (not_lt_cast _), hI]
      exact h _ (by omega)⟩)
    (fun s i hi hI => .inr ⟨_, rfl, fun k hk => by
      have h1 := flat_take_le l (i + 1)
      rw [flat_take l i hi, List.length_append] at h1
      rw [show k + 1 + N = (k + N) + 1 by omega]
      simp only [impl_Timers.l0]
      rw [if_pos (lt_cast hi), if_pos (nn_cast i), if_pos (lt_cast hi), rdLIT _ _ hi, hI, if_pos (by omega), wrap_nat1 hi (by omega), flat_take l i hi], fun _ h => h⟩) l.length [] 0 (by omega) (by simp)
  subst hr
  intro k hk
  simp only [impl_Timers.f]
  have := h' (k - N) (by omega)
  rw [show k - N + N = k by omega] at this
  exact this
theorem timersV_len (l m : List (List S46)) (q : List S46) : (timersV l m q).length = l.flatten.length + m.flatten.length + q.length := by
  unfold timersV
  rw [List.length_append, List.length_append]

theorem wheelOk_both (a : Int) (l m : List (List S46)) (q : List S46) (hl : l.length ≤ 1048576 ∧ ∀ x ∈ l, x.length ≤ 1048576) (hm : m.length ≤ 1048576 ∧ ∀ x ∈ m, x.length ≤ 1048576) (hq : q.length ≤ 1048576) (ht : l.flatten.length + m.flatten.length + q.length ≤ 1048576) :
    ∃ r, Ev (fun k => spec_WheelOk.f k a l m q) r ∧ Ev (fun k => impl_WheelOk.f k a l m q) r := by
  have sj : ∀ k, spec_WheelOk.j0 (k + 1) true a l m q = some false := by
    intro k
    simp only [spec_WheelOk.j0, if_true]
  have ij : ∀ k, impl_WheelOk.j0 (k + 1) true a l m q = some false := by
    intro k
    simp only [impl_WheelOk.j0, if_true]
  by_cases c1 : (l.length : Int) = 8
  case neg =>
    refine ⟨false, ev_now 0 1 (fun k _ => ?_), ev_now 0 1 (fun k _ => ?_)⟩
    · simp only [spec_WheelOk.f]
      rw [if_neg c1, sj]
    · simp only [impl_WheelOk.f, impl_within_eq, Option.bind_some]
      rw [if_neg c1, ij]
      exact ite_self _
  by_cases c2 : (m.length : Int) = 8
  case neg =>
    refine ⟨false, ev_now 0 1 (fun k _ => ?_), ev_now 0 1 (fun k _ => ?_)⟩
    · simp only [spec_WheelOk.f]
      rw [if_pos c1, if_neg c2, sj]
    · simp only [impl_WheelOk.f, impl_within_eq, Option.bind_some]
      rw [if_pos c1, if_neg c2, ij]
      exact ite_self _
  by_cases c3 : inB a 0 2147483647 = true
  case neg =>
    refine ⟨false, ev_now 0 1 (fun k _ => ?_), ev_now 0 1 (fun k _ => ?_)⟩
    · simp only [spec_WheelOk.f, spec_l1In_eq, Option.bind_some]
      rw [if_pos c1, if_pos c2, if_neg c3, sj]
    · simp only [impl_WheelOk.f, impl_within_eq, Option.bind_some]
      rw [if_neg c3, ij]
  have ha : 0 ≤ a ∧ a ≤ 2147483647 := by simpa [inB] using c3
  obtain ⟨r, ⟨K1, h1⟩, ⟨K2, h2⟩⟩ := slot_both a ha.1 ha.2 l m q q hq 3 2 0 (.inr (.inr ⟨rfl, rfl, rfl⟩))
  simp only at h1 h2
  cases r with
  | false =>
    refine ⟨false, ev_now (K1 + K2) 1 (fun k hk => ?_), ev_now (K1 + K2) 1 (fun k hk => ?_)⟩
    · simp only [spec_WheelOk.f, spec_l1In_eq, Option.bind_some]
      rw [if_pos c1, if_pos c2, if_pos c3, h1 _ (by omega), Option.bind_some]
      exact sj k
    · simp only [impl_WheelOk.f, impl_within_eq, Option.bind_some]
      rw [if_pos c3, if_pos c1, if_pos c2, h2 _ (by omega), Option.bind_some]
      exact ij k
  | true =>
    have hS : ∀ r, Ev (fun k => spec_WheelOk.l0 k ((0 : Nat) : Int) a l m q) r → Ev (fun k => spec_WheelOk.f k a l m q) r := fun r => ev_step (K1 + K2) 1 (fun k hk => by
      simp only [spec_WheelOk.f, spec_l1In_eq, Option.bind_some]
      rw [if_pos c1, if_pos c2, if_pos c3, h1 _ (by omega), Option.bind_some]
      simp only [spec_WheelOk.j0]
      rw [if_neg (by simp)]
      rfl)
    have hI : ∀ r, Ev (fun k => impl_WheelOk.l0 k ((0 : Nat) : Int) a l m q) r → Ev (fun k => impl_WheelOk.f k a l m q) r := fun r => ev_step (K1 + K2) 1 (fun k hk => by
      simp only [impl_WheelOk.f, impl_within_eq, Option.bind_some]
      rw [if_pos c3, if_pos c1, if_pos c2, h2 _ (by omega), Option.bind_some]
      simp only [impl_WheelOk.j0]
      rw [if_neg (by simp)]
      rfl)
    obtain ⟨r, e1, e2⟩ := ids_both (timersV l m q) (by rw [timersV_len]; omega)
    obtain ⟨r, e1, e2⟩ := loop_ev (L := fun k i => spec_WheelOk.l0 k (i : Int) a l m q) (L' := fun k i => impl_WheelOk.l0 k (i : Int) a l m q) (n := 8)
      ⟨r, ev_step 2097155 1 (fun k hk => by
        simp only [spec_WheelOk.l0]
        rw [if_neg (by omega), spec_Timers_at a l m q hl.1 hm.1 ht k (by omega), Option.bind_some]) e1, ev_step 2097155 1 (fun k hk => by
        simp only [impl_WheelOk.l0]
        rw [if_neg (by omega), impl_Timers_at a l m q hl.1 hm.1 ht k (by omega), Option.bind_some]) e2⟩
      (fun i hi => by
        have hil : i < l.length := by omega
        have him : i < m.length := by omega
        obtain ⟨r1, ⟨A1, a1⟩, ⟨A2, a2⟩⟩ := slot_both a ha.1 ha.2 l m q l[i] (hl.2 _ (List.getElem_mem hil)) 1 0 (i : Int) (.inl ⟨rfl, rfl⟩)
        obtain ⟨r2, ⟨B1, b1⟩, ⟨B2, b2⟩⟩ := slot_both a ha.1 ha.2 l m q m[i] (hm.2 _ (List.getElem_mem him)) 2 1 (i : Int) (.inr (.inl ⟨rfl, rfl⟩))
        simp only at a1 a2 b1 b2
        have sL : ∀ k, A1 + B1 ≤ k → spec_WheelOk.l0 (k + 1) (i : Int) a l m q = if r1 = true then (if r2 = true then spec_WheelOk.l0 k ((i : Int) + 1) a l m q else some false) else some false := by
          intro k hk
          simp only [spec_WheelOk.l0]
          rw [if_pos (by omega), if_pos (nn_cast i), if_pos (lt_cast hil), rdLIT _ _ hil, a1 k (by omega), Option.bind_some, if_pos (lt_cast him), rdLIT _ _ him, b1 k (by omega), Option.bind_some, wrap_nat1 hil (by omega)]
        have iL : ∀ k, A2 + B2 ≤ k → impl_WheelOk.l0 (k + 1) (i : Int) a l m q = if r1 = true then (if r2 = true then impl_WheelOk.l0 k ((i : Int) + 1) a l m q else some false) else some false := by
          intro k hk
          simp only [impl_WheelOk.l0]
          rw [if_pos (by omega), if_pos (nn_cast i), if_pos (lt_cast hil), rdLIT _ _ hil, a2 k (by omega), Option.bind_some, if_pos (lt_cast him), rdLIT _ _ him, b2 k (by omega), Option.bind_some, wrap_nat1 hil (by omega)]
        cases r1 with
        | false => exact .inl ⟨false, ev_now _ 1 (fun k hk => by rw [sL k hk, if_neg (by decide)]), ev_now _ 1 (fun k hk => by rw [iL k hk, if_neg (by decide)])⟩
        | true =>
          cases r2 with
          | false => exact .inl ⟨false, ev_now _ 1 (fun k hk => by rw [sL k hk, if_pos rfl, if_neg (by decide)]), ev_now _ 1 (fun k hk => by rw [iL k hk, if_pos rfl, if_neg (by decide)])⟩
          | true =>
            refine .inr ?_
            rw [cast1]
            exact ⟨fun r => ev_step _ 1 (fun k hk => by rw [sL k hk, if_pos rfl, if_pos rfl]), fun r => ev_step _ 1 (fun k hk => by rw [iL k hk, if_pos rfl, if_pos rfl])⟩) 8 0 (by omega)
    exact ⟨r, hS r e1, hI r e2⟩

theorem FnExactWheelOk : ∀ (a0_0 : Int) (l0_1 : (List (List S43))) (l0_2 : (List (List S43))) (l0_3 : (List S43)), ((Lit.int .i64 a0_0).wf = true ∧ (l0_1.length ≤ maxLen ∧ ∀ y31 ∈ l0_1, (y31.length ≤ maxLen ∧ ∀ y43 ∈ y31, good43 y43)) ∧ (l0_2.length ≤ maxLen ∧ ∀ y31 ∈ l0_2, (y31.length ≤ maxLen ∧ ∀ y43 ∈ y31, good43 y43)) ∧ (l0_3.length ≤ maxLen ∧ ∀ y43 ∈ l0_3, good43 y43)) → ∃ k, laws_FnExactWheelOk.f k a0_0 l0_1 l0_2 l0_3 = some true := by
  intro a l m q hg
  obtain ⟨v, hv, hv2⟩ := szWheel_at a l m q ⟨hg.2.1.1, fun x hx => (hg.2.1.2 x hx).1⟩ ⟨hg.2.2.1.1, fun x hx => (hg.2.2.1.2 x hx).1⟩ hg.2.2.2.1
  by_cases hn : v < 0
  · refine ⟨2097155, ?_⟩
    simp only [laws_FnExactWheelOk.f, hv 2097155 (by omega), Option.bind_some]
    rw [if_pos hn]
  · obtain ⟨f1, f2, f3, f4⟩ := hv2 (by omega)
    have g1 := fit_cv l f1
    have g2 := fit_cv m f2
    have e1 : (cvTT l).flatten.length = l.flatten.length := flat_cv_len l
    have e2 : (cvTT m).flatten.length = m.flatten.length := flat_cv_len m
    have e3 : (q.map cvT).length = q.length := by simp
    obtain ⟨r, ⟨K1, h2⟩, ⟨K2, h3⟩⟩ := wheelOk_both a (cvTT l) (cvTT m) (q.map cvT) ⟨g1.1, g1.2.2⟩ ⟨g2.1, g2.2.2⟩ (by omega) (by omega)
    simp only at h2 h3
    generalize hk : K1 + K2 + 2097155 = k
    refine ⟨k, ?_⟩
    have h1 := toWheel_at a l m q f1 f2 f3 k (by omega)
    have h4 := eqWheel_at a (cvTT l) (cvTT m) (q.map cvT) ⟨g1.1, g1.2.2⟩ ⟨g2.1, g2.2.2⟩ (by omega) k (by omega)
    simp only [laws_FnExactWheelOk.f, hv k (by omega), h1, h2 k (by omega), h3 k (by omega), h4, Option.bind_some, if_true]
    rw [if_neg hn]
    simp

end Go.Proofs.Ytggenhomnbnodaa.Pure
