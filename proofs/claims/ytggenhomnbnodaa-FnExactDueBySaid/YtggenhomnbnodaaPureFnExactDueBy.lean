/- The program's DueBy returns what the reference's returns, for all arguments. Conditions: none beyond the statement's own. -/
import Derived.Test.YtggenhomnbnodaaQFnExactDueByx
set_option linter.unusedVariables false
set_option linter.unusedSimpArgs false
namespace Go.Proofs.Ytggenhomnbnodaa.Pure
open Go.RowKit Go.Proofs.Ytggenhomnbnodaa.QFnExactDueBy Go.Proofs.YtggenhomnbnodaaW.PrintWords Go.Proofs.YtggenhomnbnodaaW.PrintLast Go.Proofs.YtggenhomnbnodaaW.PrintMore
def good43 (x : S43) : Prop := (Lit.int .i64 x.f0).wf = true ∧ (Lit.int .i64 x.f1).wf = true ∧ (Lit.int .i64 x.f2).wf = true

/-- A loop over an index: from a state that is good, with enough rounds, it comes to an end that meets what is told of it. -/
theorem loop_ex {σ β : Type} {L : Nat → σ → Int → Option β} {n K : Nat} {I : σ → Nat → Prop} {Post : σ → Nat → β → Prop}
    (hend : ∀ s, I s n → ∃ r, Post s n r ∧ ∀ k, L (k + 1) s (n : Int) = some r)
    (hstep : ∀ s (i : Nat), i < n → I s i → (∃ r, Post s i r ∧ ∀ k, K ≤ k → L (k + 1) s (i : Int) = some r) ∨
      ∃ s', I s' (i + 1) ∧ (∀ k, K ≤ k → L (k + 1) s (i : Int) = L k s' ((i : Int) + 1)) ∧ ∀ r, Post s' (i + 1) r → Post s i r) :
    ∀ (d : Nat) s (i : Nat), i + d = n → I s i → ∃ r, Post s i r ∧ ∀ k, K + d < k → L k s (i : Int) = some r := by
  intro d
  induction d with
  | zero =>
    intro s i hd hI
    obtain rfl : i = n := by omega
    obtain ⟨r, hp, hr⟩ := hend s hI
    refine ⟨r, hp, fun k hk => ?_⟩
    obtain ⟨k, rfl⟩ : ∃ m, k = m + 1 := ⟨k - 1, by omega⟩
    exact hr k
  | succ d ih =>
    intro s i hd hI
    rcases hstep s i (by omega) hI with ⟨r, hp, hr⟩ | ⟨s', hI', he, hp⟩
    · refine ⟨r, hp, fun k hk => ?_⟩
      obtain ⟨k, rfl⟩ : ∃ m, k = m + 1 := ⟨k - 1, by omega⟩
      exact hr k (by omega)
    · obtain ⟨r, hq, hr⟩ := ih s' (i + 1) (by omega) hI'
      refine ⟨r, hp r hq, fun k hk => ?_⟩
      obtain ⟨k, rfl⟩ : ∃ m, k = m + 1 := ⟨k - 1, by omega⟩
      rw [he k (by omega)]
      have := hr k (by omega)
      rw [Int.natCast_add] at this
      exact this
theorem ev_at {α : Type} {g : Nat → Option α} {r : α} (K : Nat) (h : ∀ k, K < k → g k = some r) : Ev g r := ⟨K + 1, fun k hk => h k (by omega)⟩
theorem wrap_of {x : Int} (h0 : -9223372036854775808 ≤ x) (h1 : x ≤ 9223372036854775807) : wrap64 x = x := by
  unfold wrap64
  omega
theorem wrap_nat1 {i n : Nat} (h : i < n) (hn : n ≤ 9223372036854775807) : wrap64 ((i : Int) + 1) = (i : Int) + 1 := wrap_of (by omega) (by omega)
theorem lt_cast {i n : Nat} (h : i < n) : (i : Int) < (n : Int) := by omega
theorem nn_cast (i : Nat) : 0 ≤ (i : Int) := by omega
theorem not_lt_cast (n : Nat) : ¬ (n : Int) < (n : Int) := by omega
/-- What is written cell by cell. -/
theorem fill_set {α : Type} (l : List α) (z : α) (i : Nat) (h : i < l.length) : (l.take i ++ List.replicate (l.length - i) z).set i l[i] = l.take (i + 1) ++ List.replicate (l.length - (i + 1)) z := by
  have e1 : l.length - i = (l.length - (i + 1)) + 1 := by omega
  have e2 : (l.take i).length = i := by rw [List.length_take]; omega
  rw [e1, List.replicate_succ, List.set_append_right _ _ (by omega), e2, Nat.sub_self, List.set_cons_zero, List.take_succ_eq_append_getElem h, List.append_assoc]
  rfl
theorem fill_len {α : Type} (l : List α) (z : α) (i : Nat) (h : i ≤ l.length) : (l.take i ++ List.replicate (l.length - i) z).length = l.length := by
  rw [List.length_append, List.length_take, List.length_replicate]
  omega

theorem rdLT (l : List S43) (i : Nat) (h : i < l.length) : rd_T43 l (i : Int) = l[i] := by
  simp [rd_T43, List.getD_eq_getElem?_getD, h]
theorem rdLLT (l : List (List S43)) (i : Nat) (h : i < l.length) : rd_L6 l (i : Int) = l[i] := by
  simp [rd_L6, List.getD_eq_getElem?_getD, h]

theorem szTimerS_ex (l : List S43) (left : Int) (hl : l.length ≤ maxLen) (h0 : 0 ≤ left) (h1 : left ≤ 1048576) :
    ∃ v, laws_szTimerS.f l left = some v ∧ v ≤ left ∧ (0 ≤ v → (l.length : Int) + v ≤ left) := by
  unfold maxLen at hl
  have w1 : wrap64 (left - (l.length : Int)) = left - (l.length : Int) := wrap_of (by omega) (by omega)
  unfold laws_szTimerS.f
  rw [w1]
  by_cases c : left - (l.length : Int) < 0
  · rw [if_pos c]
    exact ⟨-1, rfl, by omega, by omega⟩
  · rw [if_neg c]
    exact ⟨_, rfl, by omega, by omega⟩
/-- Each row is short, and all of them together. -/
def fitT (l : List (List S43)) : Prop := l.length ≤ 1048576 ∧ (l.flatten.length ≤ 1048576 ∧ ∀ x ∈ l, x.length ≤ 1048576)
theorem szTimerSS_at (l : List (List S43)) (left : Int) (hl : l.length ≤ maxLen) (hg : ∀ x ∈ l, x.length ≤ maxLen) (h0 : 0 ≤ left) (h1 : left ≤ 1048576) :
    ∃ v, (∀ k, 1048577 < k → laws_szTimerSS.f k l left = some v) ∧ v ≤ left ∧ (0 ≤ v → (l.length : Int) + l.flatten.length + v ≤ left ∧ fitT l) := by
  unfold maxLen at hl
  have w1 : wrap64 (left - (l.length : Int)) = left - (l.length : Int) := wrap_of (by omega) (by omega)
  by_cases c1 : left - (l.length : Int) < 0
  · refine ⟨-1, fun k _ => ?_, by omega, by omega⟩
    simp only [laws_szTimerSS.f]
    rw [w1, if_pos c1]
  · obtain ⟨r, ⟨hr1, hr2⟩, h⟩ := loop_ex (σ := Int) (L := fun k s i => laws_szTimerSS.l0 k l s i) (n := l.length) (K := 0)
      (I := fun s _ => 0 ≤ s ∧ s ≤ left) (Post := fun s i r => r ≤ s ∧ (0 ≤ r → ((l.drop i).flatten.length : Int) + r ≤ s))
      (fun s hI => ⟨s, ⟨by omega, fun _ => by simp⟩, fun k => by
        simp only [laws_szTimerSS.l0]
        rw [if_neg (not_lt_cast _)]⟩)
      (fun s i hi hI => by
        obtain ⟨v, hv, hv1, hv2⟩ := szTimerS_ex l[i] s (hg _ (List.getElem_mem hi)) hI.1 (by omega)
        by_cases hneg : v < 0
        · refine .inl ⟨-1, ⟨by omega, by omega⟩, fun k hk => ?_⟩
          simp only [laws_szTimerSS.l0]
          rw [if_pos (lt_cast hi), if_pos (nn_cast i), rdLLT _ _ hi, hv, Option.bind_some, if_pos hneg]
        · refine .inr ⟨v, ⟨by omega, by omega⟩, fun k hk => ?_, fun r hr => ⟨by omega, fun hr0 => ?_⟩⟩
          · simp only [laws_szTimerSS.l0]
            rw [if_pos (lt_cast hi), if_pos (nn_cast i), rdLLT _ _ hi, hv, Option.bind_some, if_neg hneg, wrap_nat1 hi (by omega)]
          · have h3 := hr.2 hr0
            have h4 := hv2 (by omega)
            rw [List.drop_eq_getElem_cons hi, List.flatten_cons, List.length_append]
            push_cast
            omega) l.length (left - (l.length : Int)) 0 (by omega) ⟨by omega, by omega⟩
    refine ⟨r, fun k hk => ?_, by omega, fun hr0 => ?_⟩
    · simp only [laws_szTimerSS.f]
      rw [w1, if_neg c1]
      exact h k (by omega)
    · have h3 := hr2 hr0
      rw [List.drop_zero] at h3
      refine ⟨by omega, by omega, by omega, fun x hx => ?_⟩
      have := (List.sublist_flatten_of_mem hx).length_le
      omega
theorem szWheel_at (a : Int) (l m : List (List S43)) (q : List S43) (hl : l.length ≤ maxLen ∧ ∀ x ∈ l, x.length ≤ maxLen) (hm : m.length ≤ maxLen ∧ ∀ x ∈ m, x.length ≤ maxLen) (hq : q.length ≤ maxLen) :
    ∃ v, (∀ k, 1048577 < k → laws_szWheel.f k a l m q 1048576 = some v) ∧ (0 ≤ v → fitT l ∧ fitT m ∧ q.length ≤ 1048576 ∧ l.flatten.length + m.flatten.length + q.length ≤ 1048576) := by
  obtain ⟨v1, h1, b1, c1⟩ := szTimerSS_at l 1048576 hl.1 hl.2 (by omega) (by omega)
  by_cases n1 : v1 < 0
  · refine ⟨-1, fun k hk => ?_, by omega⟩
    simp only [laws_szWheel.f, h1 k hk, Option.bind_some]
    rw [if_pos n1]
  obtain ⟨v2, h2, b2, c2⟩ := szTimerSS_at m v1 hm.1 hm.2 (by omega) (by omega)
  by_cases n2 : v2 < 0
  · refine ⟨-1, fun k hk => ?_, by omega⟩
    simp only [laws_szWheel.f, h1 k hk, h2 k hk, Option.bind_some]
    rw [if_neg n1, if_pos n2]
  obtain ⟨v3, h3, b3, c3⟩ := szTimerS_ex q v2 hq (by omega) (by omega)
  by_cases n3 : v3 < 0
  · refine ⟨-1, fun k hk => ?_, by omega⟩
    simp only [laws_szWheel.f, h1 k hk, h2 k hk, h3, Option.bind_some]
    rw [if_neg n1, if_neg n2, if_pos n3]
  refine ⟨v3, fun k hk => ?_, fun _ => ?_⟩
  · simp only [laws_szWheel.f, h1 k hk, h2 k hk, h3, Option.bind_some]
    rw [if_neg n1, if_neg n2, if_neg n3]
  · have d1 := c1 (by omega)
    have d2 := c2 (by omega)
    have d3 := c3 (by omega)
    exact ⟨d1.2, d2.2, by omega, by omega⟩

def cvT (x : S43) : S46 := ⟨x.f0, x.f1, x.f2⟩
theorem toTimerS_at (l : List S43) (hl : l.length ≤ 1048576) : ∀ k, 1048576 < k → laws_toTimerS.f k l = some (l.map cvT) := by
  have hm : (l.map cvT).length = l.length := by simp
  obtain ⟨r, hr, h⟩ := loop_ex (σ := List S46) (L := fun k s i => laws_toTimerS.l0 k l s i) (n := l.length) (K := 0)
    (I := fun s i => s = (l.map cvT).take i ++ List.replicate ((l.map cvT).length - i) z46) (Post := fun _ _ r => r = l.map cvT)
    (fun s hI => ⟨_, rfl, fun k => by
      simp only [laws_toTimerS.l0]
      rw [if_neg (not_lt_cast _), hI, ← hm, List.take_length, Nat.sub_self]
      simp⟩)
    (fun s i hi hI => .inr ⟨_, rfl, fun k _ => by
      have hi' : i < (l.map cvT).length := by omega
      have e : (⟨l[i].f0, l[i].f1, l[i].f2⟩ : S46) = (l.map cvT)[i] := by rw [List.getElem_map]; rfl
      simp only [laws_toTimerS.l0, laws_toTimer.f, Option.bind_some]
      rw [if_pos (lt_cast hi), if_pos (nn_cast i), hI, fill_len _ _ _ (by omega), if_pos (lt_cast hi'), rdLT _ _ hi, wrap_nat1 hi (by omega), e]
      simp only [Int.toNat_natCast]
      rw [fill_set _ _ _ hi'], fun _ h => h⟩) l.length (List.replicate l.length z46) 0 (by omega) (by simp)
  subst hr
  intro k hk
  simp only [laws_toTimerS.f]
  rw [if_pos (by omega), if_pos (by simp; omega)]
  exact h k (by omega)
def cvTT (l : List (List S43)) : List (List S46) := l.map fun x => x.map cvT
theorem toTimerSS_at (l : List (List S43)) (hf : fitT l) : ∀ k, 2097153 < k → laws_toTimerSS.f k l = some (cvTT l) := by
  have hm : (cvTT l).length = l.length := by simp [cvTT]
  obtain ⟨hl, hl2, hf⟩ := hf
  obtain ⟨r, hr, h⟩ := loop_ex (σ := List (List S46)) (L := fun k s i => laws_toTimerSS.l0 k l s i) (n := l.length) (K := 1048577)
    (I := fun s i => s = (cvTT l).take i ++ List.replicate ((cvTT l).length - i) []) (Post := fun _ _ r => r = cvTT l)
    (fun s hI => ⟨_, rfl, fun k => by
      simp only [laws_toTimerSS.l0]
      rw [if_neg (not_lt_cast _), hI, ← hm, List.take_length, Nat.sub_self]
      simp⟩)
    (fun s i hi hI => .inr ⟨_, rfl, fun k hk => by
      have hi' : i < (cvTT l).length := by omega
      have e : l[i].map cvT = (cvTT l)[i] := by simp [cvTT]
      simp only [laws_toTimerSS.l0]
      rw [if_pos (lt_cast hi), if_pos (nn_cast i), rdLLT _ _ hi, toTimerS_at _ (hf _ (List.getElem_mem hi)) k (by omega), Option.bind_some, hI, fill_len _ _ _ (by omega), if_pos (lt_cast hi'), wrap_nat1 hi (by omega), e]
      simp only [Int.toNat_natCast]
      rw [fill_set _ _ _ hi'], fun _ h => h⟩) l.length (List.replicate l.length []) 0 (by omega) (by simp [hm])
  subst hr
  intro k hk
  simp only [laws_toTimerSS.f]
  rw [if_pos (by omega), if_pos (by simp; omega)]
  exact h k (by omega)
theorem toWheel_at (a : Int) (l m : List (List S43)) (q : List S43) (hl : fitT l) (hm : fitT m) (hq : q.length ≤ 1048576) : ∀ k, 2097153 < k → laws_toWheel.f k a l m q = some (a, cvTT l, cvTT m, q.map cvT) := by
  intro k hk
  simp only [laws_toWheel.f, toTimerSS_at l hl k hk, toTimerSS_at m hm k hk, toTimerS_at q hq k (by omega), Option.bind_some]
/-- Rows of timers that are short. -/
def fitI (l : List (List S46)) : Prop := l.length ≤ 1048576 ∧ (l.flatten.length ≤ 1048576 ∧ ∀ x ∈ l, x.length ≤ 1048576)
theorem flat_cv (l : List (List S43)) : (cvTT l).flatten = l.flatten.map cvT := by
  unfold cvTT
  rw [List.map_flatten]
theorem flat_cv_len (l : List (List S43)) : (cvTT l).flatten.length = l.flatten.length := by rw [flat_cv, List.length_map]
theorem fit_cv (l : List (List S43)) (h : fitT l) : fitI (cvTT l) := by
  obtain ⟨h1, h2, h3⟩ := h
  have e : (cvTT l).flatten = l.flatten.map cvT := by
    unfold cvTT
    rw [List.map_flatten]
  refine ⟨by simpa [cvTT] using h1, by rw [e, List.length_map]; exact h2, fun x hx => ?_⟩
  obtain ⟨y, hy, rfl⟩ := List.mem_map.1 hx
  simpa using h3 y hy

theorem rdIT (l : List S46) (i : Nat) (h : i < l.length) : rd_T46 l (i : Int) = l[i] := by
  simp [rd_T46, List.getD_eq_getElem?_getD, h]

theorem rdLIT (l : List (List S46)) (i : Nat) (h : i < l.length) : rd_L2 l (i : Int) = l[i] := by
  simp [rd_L2, List.getD_eq_getElem?_getD, h]

theorem eqTimer_self (a b c : Int) : laws_eqTimer.f a b c a b c = some true := by
  simp [laws_eqTimer.f]
theorem eqTimerS_at (l : List S46) (hl : l.length ≤ 1048576) : ∀ k, 1048576 < k → laws_eqTimerS.f k l l = some true := by
  obtain ⟨r, hr, h⟩ := loop_ex (σ := Unit) (L := fun k _ i => laws_eqTimerS.l0 k l l i) (n := l.length) (K := 0)
    (I := fun _ _ => True) (Post := fun _ _ r => r = true)
    (fun s hI => ⟨true, rfl, fun k => by
      simp only [laws_eqTimerS.l0]
      rw [if_neg (not_lt_cast _)]⟩)
    (fun s i hi hI => .inr ⟨(), trivial, fun k _ => by
      simp only [laws_eqTimerS.l0, eqTimer_self, Option.bind_some, if_true]
      rw [if_pos (lt_cast hi), if_pos (nn_cast i), if_pos (lt_cast hi), wrap_nat1 hi (by omega)], fun _ h => h⟩) l.length () 0 (by omega) trivial
  subst hr
  intro k hk
  simp only [laws_eqTimerS.f, if_true]
  exact h k (by omega)
theorem eqTimerSS_at (l : List (List S46)) (hl : l.length ≤ 1048576) (hf : ∀ x ∈ l, x.length ≤ 1048576) : ∀ k, 2097153 < k → laws_eqTimerSS.f k l l = some true := by
  obtain ⟨r, hr, h⟩ := loop_ex (σ := Unit) (L := fun k _ i => laws_eqTimerSS.l0 k l l i) (n := l.length) (K := 1048577)
    (I := fun _ _ => True) (Post := fun _ _ r => r = true)
    (fun s hI => ⟨true, rfl, fun k => by
      simp only [laws_eqTimerSS.l0]
      rw [if_neg (not_lt_cast _)]⟩)
    (fun s i hi hI => .inr ⟨(), trivial, fun k hk => by
      simp only [laws_eqTimerSS.l0]
      rw [if_pos (lt_cast hi), if_pos (nn_cast i), if_pos (lt_cast hi), rdLIT _ _ hi, eqTimerS_at _ (hf _ (List.getElem_mem hi)) k (by omega), wrap_nat1 hi (by omega)]
      rfl, fun _ h => h⟩) l.length () 0 (by omega) trivial
  subst hr
  intro k hk
  simp only [laws_eqTimerSS.f, if_true]
  exact h k (by omega)
theorem eqWheel_at (a : Int) (l m : List (List S46)) (q : List S46) (hl : l.length ≤ 1048576 ∧ ∀ x ∈ l, x.length ≤ 1048576) (hm : m.length ≤ 1048576 ∧ ∀ x ∈ m, x.length ≤ 1048576) (hq : q.length ≤ 1048576) : ∀ k, 2097153 < k → laws_eqWheel.f k a l m q a l m q = some true := by
  intro k hk
  simp [laws_eqWheel.f, eqTimerSS_at l hl.1 hl.2 k hk, eqTimerSS_at m hm.1 hm.2 k hk, eqTimerS_at q hq k (by omega)]

def timersV (l m : List (List S46)) (q : List S46) : List S46 := l.flatten ++ m.flatten ++ q
theorem flat_take (l : List (List S46)) (i : Nat) (h : i < l.length) : (l.take (i + 1)).flatten = (l.take i).flatten ++ l[i] := by
  rw [List.take_succ_eq_append_getElem h, List.flatten_append]
  simp
theorem flat_take_le (l : List (List S46)) (i : Nat) : (l.take i).flatten.length ≤ l.flatten.length := by
  have h : l.flatten = (l.take i).flatten ++ (l.drop i).flatten := by rw [← List.flatten_append, List.take_append_drop]
  rw [h, List.length_append]
  omega
theorem spec_Timers_at (a : Int) (l m : List (List S46)) (q : List S46) (hl : l.length ≤ 1048576) (hm : m.length ≤ 1048576) (ht : l.flatten.length + m.flatten.length + q.length ≤ 1048576) :
    ∀ k, 2097154 < k → spec_Timers.f k a l m q = some (timersV l m q) := by
  obtain ⟨r, hr, h⟩ := loop_ex (σ := List S46) (L := fun k s i => spec_Timers.l1 k s i a l m q) (n := m.length) (K := 0)
    (I := fun s i => s = l.flatten ++ (m.take i).flatten) (Post := fun _ _ r => r = timersV l m q)
    (fun s hI => ⟨_, rfl, fun k => by
      simp only [spec_Timers.l1]
      rw [List.take_length] at hI
      rw [if_neg (not_lt_cast _), hI, if_pos (by rw [List.length_append]; omega)]
      rfl⟩)
    (fun s i hi hI => .inr ⟨_, rfl, fun k hk => by
      have h1 := flat_take_le m (i + 1)
      rw [flat_take m i hi, List.length_append] at h1
      simp only [spec_Timers.l1]
      rw [if_pos (lt_cast hi), if_pos (nn_cast i), rdLIT _ _ hi, hI, if_pos (by rw [List.length_append]; omega), wrap_nat1 hi (by omega), flat_take m i hi, List.append_assoc], fun _ h => h⟩) m.length l.flatten 0 (by omega) (by simp)
  subst hr
  obtain ⟨N, hN⟩ : ∃ N : Nat, N = 1048577 := ⟨_, rfl⟩
  obtain ⟨r, hr, h'⟩ := loop_ex (σ := List S46) (L := fun k s i => spec_Timers.l0 (k + N) s i a l m q) (n := l.length) (K := 0)
    (I := fun s i => s = (l.take i).flatten) (Post := fun _ _ r => r = timersV l m q)
    (fun s hI => ⟨_, rfl, fun k => by
      rw [show k + 1 + N = (k + N) + 1 by omega]
      simp only [spec_Timers.l0]
      rw [List.take_length] at hI
      rw [if_neg (not_lt_cast _), hI]
      exact h _ (by omega)⟩)
    (fun s i hi hI => .inr ⟨_, rfl, fun k hk => by
      have h1 := flat_take_le l (i + 1)
      rw [flat_take l i hi, List.length_append] at h1
      rw [show k + 1 + N = (k + N) + 1 by omega]
      simp only [spec_Timers.l0]
      rw [if_pos (lt_cast hi), if_pos (nn_cast i), rdLIT _ _ hi, hI, if_pos (by omega), wrap_nat1 hi (by omega), flat_take l i hi], fun _ h => h⟩) l.length [] 0 (by omega) (by simp)
  subst hr
  intro k hk
  simp only [spec_Timers.f]
  have := h' (k - N) (by omega)
  rw [show k - N + N = k by omega] at this
  exact this
theorem impl_Timers_at (a : Int) (l m : List (List S46)) (q : List S46) (hl : l.length ≤ 1048576) (hm : m.length ≤ 1048576) (ht : l.flatten.length + m.flatten.length + q.length ≤ 1048576) :
    ∀ k, 2097154 < k → impl_Timers.f k a l m q = some (timersV l m q) := by
  obtain ⟨r, hr, h⟩ := loop_ex (σ := List S46) (L := fun k s i => impl_Timers.l1 k s m m.length i a l m q) (n := m.length) (K := 0)
    (I := fun s i => s = l.flatten ++ (m.take i).flatten) (Post := fun _ _ r => r = timersV l m q)
    (fun s hI => ⟨_, rfl, fun k => by
      simp only [impl_Timers.l1]
      rw [List.take_length] at hI
      rw [if_neg (not_lt_cast _), hI, if_pos (by rw [List.length_append]; omega)]
      rfl⟩)
    (fun s i hi hI => .inr ⟨_, rfl, fun k hk => by
      have h1 := flat_take_le m (i + 1)
      rw [flat_take m i hi, List.length_append] at h1
      simp only [impl_Timers.l1]
      rw [if_pos (lt_cast hi), if_pos (nn_cast i), if_pos (lt_cast hi), rdLIT _ _ hi, hI, if_pos (by rw [List.length_append]; omega), wrap_nat1 hi (by omega), flat_take m i hi, List.append_assoc], fun _ h => h⟩) m.length l.flatten 0 (by omega) (by simp)
  subst hr
  obtain ⟨N, hN⟩ : ∃ N : Nat, N = 1048577 := ⟨_, rfl⟩
  obtain ⟨r, hr, h'⟩ := loop_ex (σ := List S46) (L := fun k s i => impl_Timers.l0 (k + N) s l l.length i a l m q) (n := l.length) (K := 0)
    (I := fun s i => s = (l.take i).flatten) (Post := fun _ _ r => r = timersV l m q)
    (fun s hI => ⟨_, rfl, fun k => by
      rw [show k + 1 + N = (k + N) + 1 by omega]
      simp only [impl_Timers.l0]
      rw [List.take_length] at hI
      rw [if_neg (not_lt_cast _), hI]
      exact h _ (by omega)⟩)
    (fun s i hi hI => .inr ⟨_, rfl, fun k hk => by
      have h1 := flat_take_le l (i + 1)
      rw [flat_take l i hi, List.length_append] at h1
      rw [show k + 1 + N = (k + N) + 1 by omega]
      simp only [impl_Timers.l0]
      rw [if_pos (lt_cast hi), if_pos (nn_cast i), if_pos (lt_cast hi), rdLIT _ _ hi, hI, if_pos (by omega), wrap_nat1 hi (by omega), flat_take l i hi], fun _ h => h⟩) l.length [] 0 (by omega) (by simp)
  subst hr
  intro k hk
  simp only [impl_Timers.f]
  have := h' (k - N) (by omega)
  rw [show k - N + N = k by omega] at this
  exact this
theorem timersV_len (l m : List (List S46)) (q : List S46) : (timersV l m q).length = l.flatten.length + m.flatten.length + q.length := by
  unfold timersV
  rw [List.length_append, List.length_append]

def markAt (q : Int) (i : Nat) : S46 := ⟨q + 3 * (i : Int), q + 3 * (i : Int) + 1, q + 3 * (i : Int) + 2⟩
def marksT (q : Int) (n : Nat) : List S46 := (List.range n).map (markAt q)
theorem marksT_len (q : Int) (n : Nat) : (marksT q n).length = n := by simp [marksT]
theorem marksT_succ (q : Int) (n : Nat) : marksT q (n + 1) = marksT q n ++ [markAt q n] := by
  unfold marksT
  rw [List.range_succ, List.map_append]
  rfl
theorem marksT_at (q : Int) (n i : Nat) (h : i < n) : rd_T46 (marksT q n) (i : Int) = markAt q i := by
  rw [rdIT _ _ (by rw [marksT_len]; exact h)]
  simp [marksT]
theorem rd_setT (l : List S46) (i : Nat) (h : i < l.length) (v : S46) : rd_T46 (l.set i v) (i : Int) = v := by
  rw [rdIT _ _ (by rw [List.length_set]; exact h)]
  simp
theorem set_mid (A l : List S46) (i : Nat) (hA : A.length = i) (h : i < l.length) (v : S46) : (A ++ l.drop i).set i v = (A ++ [v]) ++ l.drop (i + 1) := by
  rw [List.drop_eq_getElem_cons h, List.set_append_right _ _ (by omega), hA, Nat.sub_self, List.set_cons_zero, List.append_assoc]
  rfl
theorem markTimerS_at (l : List S46) (hl : l.length ≤ 1048576) (q : Int) (hq0 : 0 ≤ q) (hq : q ≤ 4294967296) : ∀ k, l.length < k → laws_markTimerS.f k l q = some (q + 3 * (l.length : Int), marksT q l.length) := by
  obtain ⟨r, hr, h⟩ := loop_ex (σ := List S46 × Int) (L := fun k s i => laws_markTimerS.l0 k s.1 s.2 i) (n := l.length) (K := 0)
    (I := fun s i => s = (marksT q i ++ l.drop i, q + 3 * (i : Int))) (Post := fun _ _ r => r = (q + 3 * (l.length : Int), marksT q l.length))
    (fun s hI => ⟨_, rfl, fun k => by
      subst hI
      simp only [laws_markTimerS.l0]
      rw [List.drop_length, List.append_nil, marksT_len, if_neg (not_lt_cast _)]⟩)
    (fun s i hi hI => .inr ⟨(marksT q (i + 1) ++ l.drop (i + 1), q + 3 * ((i + 1 : Nat) : Int)), rfl, fun k _ => by
      subst hI
      have hlen : (marksT q i ++ l.drop i).length = l.length := by rw [List.length_append, marksT_len, List.length_drop]; omega
      have w1 : wrap64 (q + 3 * (i : Int) + 1) = q + 3 * (i : Int) + 1 := wrap_of (by omega) (by omega)
      have w2 : wrap64 (q + 3 * (i : Int) + 1 + 1) = q + 3 * (i : Int) + 2 := by rw [wrap_of (by omega) (by omega)]; omega
      have w3 : wrap64 (q + 3 * (i : Int) + 2 + 1) = q + 3 * ((i + 1 : Nat) : Int) := by rw [wrap_of (by omega) (by omega)]; omega
      have e : ((i : Int)).toNat = i := by omega
      have e3 := set_mid (marksT q i) l i (marksT_len q i) hi (markAt q i)
      simp only [laws_markTimerS.l0, Option.bind_some]
      rw [if_pos (by rw [hlen]; exact lt_cast hi), if_pos (nn_cast i), w1, w2, w3, e]
      generalize marksT q i ++ l.drop i = A at *
      simp only [List.set_set, rd_setT A i (by omega : i < A.length)]
      rw [wrap_nat1 hi (by omega)]
      show laws_markTimerS.l0 k (A.set i (markAt q i)) _ _ = _
      rw [e3, marksT_succ], fun _ h => h⟩) l.length (l, q) 0 (by omega) (by simp [marksT])
  subst hr
  exact fun k hk => h k (by omega)
theorem markTimerSS_at (l : List (List S46)) (hl : l.length ≤ 1048576) (ht : l.flatten.length ≤ 1048576) (q : Int) (hq0 : 0 ≤ q) (hq : q ≤ 16777216) : ∃ l', ∀ k, 2097153 < k → laws_markTimerSS.f k l q = some (q + 3 * (l.flatten.length : Int), l') := by
  obtain ⟨r, hr, h⟩ := loop_ex (σ := List (List S46) × Int) (L := fun k s i => laws_markTimerSS.l0 k s.1 s.2 i) (n := l.length) (K := 1048577)
    (I := fun s i => s.1.length = l.length ∧ s.1.drop i = l.drop i ∧ s.2 = q + 3 * ((l.take i).flatten.length : Int)) (Post := fun _ _ r => r.1 = q + 3 * (l.flatten.length : Int))
    (fun s hI => ⟨(s.2, s.1), by rw [hI.2.2, List.take_length], fun k => by
      simp only [laws_markTimerSS.l0]
      rw [hI.1, if_neg (not_lt_cast _)]⟩)
    (fun s i hi hI => by
      obtain ⟨h1, h2, h3⟩ := hI
      have hle := flat_take_le l (i + 1)
      rw [flat_take l i hi, List.length_append] at hle
      have e : ((i : Int)).toNat = i := by omega
      have hget : s.1.getD i [] = l[i] := by
        have h4 : (s.1.drop i)[0]? = (l.drop i)[0]? := by rw [h2]
        rw [List.getElem?_drop, List.getElem?_drop, Nat.add_zero, List.getElem?_eq_getElem hi] at h4
        rw [List.getD_eq_getElem?_getD, h4]
        rfl
      have hm := markTimerS_at l[i] (by omega) s.2 (by omega) (by omega)
      refine .inr ⟨(s.1.set i (marksT s.2 l[i].length), s.2 + 3 * (l[i].length : Int)), ⟨by rw [List.length_set]; exact h1, ?_, ?_⟩, fun k hk => ?_, fun r hr => hr⟩
      · rw [List.drop_set_of_lt (by omega)]
        have h5 := congrArg (List.drop 1) h2
        rwa [List.drop_drop, List.drop_drop] at h5
      · rw [h3, flat_take l i hi, List.length_append]
        simp only
        push_cast
        omega
      · simp only [laws_markTimerSS.l0]
        rw [h1, if_pos (lt_cast hi), if_pos (nn_cast i), e, hget, hm k (by omega), Option.bind_some, wrap_nat1 hi (by omega)]) l.length (l, q) 0 (by omega) ⟨rfl, rfl, by simp⟩
  obtain ⟨r1, r2⟩ := r
  simp only at hr
  subst hr
  exact ⟨r2, fun k hk => h k (by omega)⟩
theorem markWheel_at (a : Int) (l m : List (List S46)) (p : List S46) (hl : l.length ≤ 1048576) (hm : m.length ≤ 1048576) (ht : l.flatten.length + m.flatten.length + p.length ≤ 1048576) : ∃ r, 0 ≤ r ∧ ∀ k, 2097153 < k → laws_markWheel.f k a l m p 1 = some r := by
  obtain ⟨l', h1⟩ := markTimerSS_at l hl (by omega) 1 (by omega) (by omega)
  obtain ⟨m', h2⟩ := markTimerSS_at m hm (by omega) (1 + 3 * (l.flatten.length : Int)) (by omega) (by omega)
  have h3 := markTimerS_at p (by omega) (1 + 3 * (l.flatten.length : Int) + 3 * (m.flatten.length : Int)) (by omega) (by omega)
  refine ⟨1 + 3 * (l.flatten.length : Int) + 3 * (m.flatten.length : Int) + 3 * (p.length : Int), by omega, fun k hk => ?_⟩
  simp only [laws_markWheel.f, laws_markWheel.all, h1 k hk, h2 k hk, h3 k (by omega), Option.bind_some]

theorem ev_step {α : Type} {g g' : Nat → Option α} {r : α} (K c : Nat) (h : ∀ k, K ≤ k → g (k + c) = g' k) (hg : Ev g' r) : Ev g r := by
  obtain ⟨M, hM⟩ := hg
  refine ⟨M + K + c, fun k hk => ?_⟩
  obtain ⟨m, rfl⟩ : ∃ m, k = m + c := ⟨k - c, by omega⟩
  rw [h m (by omega)]
  exact hM m (by omega)
theorem ev_now {α : Type} {g : Nat → Option α} {r : α} (K c : Nat) (h : ∀ k, K ≤ k → g (k + c) = some r) : Ev g r := by
  refine ⟨K + c, fun k hk => ?_⟩
  obtain ⟨m, rfl⟩ : ∃ m, k = m + c := ⟨k - c, by omega⟩
  exact h m (by omega)
theorem loop_ev {α : Type} {L L' : Nat → Nat → Option α} {n : Nat} (hend : ∃ r, Ev (fun k => L k n) r ∧ Ev (fun k => L' k n) r)
    (hstep : ∀ i, i < n → (∃ r, Ev (fun k => L k i) r ∧ Ev (fun k => L' k i) r) ∨ ((∀ r, Ev (fun k => L k (i + 1)) r → Ev (fun k => L k i) r) ∧ ∀ r, Ev (fun k => L' k (i + 1)) r → Ev (fun k => L' k i) r)) :
    ∀ d i, i + d = n → ∃ r, Ev (fun k => L k i) r ∧ Ev (fun k => L' k i) r := by
  intro d
  induction d with
  | zero =>
    intro i hi
    obtain rfl : i = n := by omega
    exact hend
  | succ d ih =>
    intro i hi
    rcases hstep i (by omega) with h | ⟨h1, h2⟩
    · exact h
    · obtain ⟨r, e1, e2⟩ := ih (i + 1) (by omega)
      exact ⟨r, h1 r e1, h2 r e2⟩
theorem cast1 (i : Nat) : ((i + 1 : Nat) : Int) = (i : Int) + 1 := by omega

theorem rd_nat (l : List Int) (i : Nat) (h : i < l.length) : rd l (i : Int) = l[i] := by
  simp [rd, List.getD_eq_getElem?_getD, h]

theorem perm_sorted_eq : ∀ (l l' : List Int), l.Perm l' → l.Pairwise (fun a b => a ≤ b) → l'.Pairwise (fun a b => a ≤ b) → l = l' := by
  intro l
  induction l with
  | nil =>
    intro l' h _ _
    exact h.nil_eq
  | cons a t ih =>
    intro l' h s s'
    cases l' with
    | nil => exact absurd h.length_eq (by simp)
    | cons b u =>
      rw [List.pairwise_cons] at s s'
      have hab : a = b := by
        have h1 : b ∈ a :: t := h.mem_iff.mpr List.mem_cons_self
        have h2 : a ∈ b :: u := h.mem_iff.mp List.mem_cons_self
        rcases List.mem_cons.mp h1 with e | h1
        · exact e.symm
        · rcases List.mem_cons.mp h2 with e | h2
          · exact e
          · have := s.1 b h1
            have := s'.1 a h2
            omega
      subst hab
      rw [ih u h.cons_inv s.2 s'.2]
def duesV (T : List S46) (c : Int) : List Int := (T.filter fun t => decide (t.f2 ≤ c)).map fun t => t.f0
theorem duesV_len (T : List S46) (c : Int) : (duesV T c).length ≤ T.length := by
  unfold duesV
  rw [List.length_map]
  exact List.length_filter_le _ _
theorem duesV_take (T : List S46) (c : Int) (i : Nat) (hi : i < T.length) : duesV (T.take (i + 1)) c = duesV (T.take i) c ++ (if T[i].f2 ≤ c then [T[i].f0] else []) := by
  unfold duesV
  rw [List.take_succ_eq_append_getElem hi, List.filter_append, List.map_append]
  by_cases h : T[i].f2 ≤ c
  · simp [h]
  · simp [h]
def sortV (l : List Int) : List Int := l.mergeSort fun x y => decide (x ≤ y)
theorem sortV_perm (l : List Int) : (sortV l).Perm l := List.mergeSort_perm _ _
theorem sortV_sorted (l : List Int) : (sortV l).Pairwise (fun a b => a ≤ b) := by
  have h := List.pairwise_mergeSort (le := fun x y : Int => decide (x ≤ y)) (fun a b c h1 h2 => by simp at *; omega) (fun a b => by simp; omega) l
  exact h.imp (fun h => by simpa using h)
theorem impl_dueBy_l0 (T : List S46) (hT : T.length ≤ 1048576) (c : Int) : ∀ k, T.length < k → impl_DueBy.l0 k c [] T (T.length : Int) 0 = some (sortV (duesV T c)) := by
  obtain ⟨r, hr, h⟩ := loop_ex (σ := List Int) (L := fun k s i => impl_DueBy.l0 k c s T (T.length : Int) i) (n := T.length) (K := 0)
    (I := fun s i => s = duesV (T.take i) c) (Post := fun _ _ r => r = sortV (duesV T c))
    (fun s hI => ⟨sortV (duesV T c), rfl, fun k => by
      rw [List.take_length] at hI
      have := duesV_len T c
      simp only [impl_DueBy.l0]
      rw [if_neg (not_lt_cast _), hI]
      unfold slices_Sort.f
      rw [if_pos (by omega), Option.bind_some]
      rfl⟩)
    (fun s i hi hI => .inr ⟨duesV (T.take (i + 1)) c, rfl, fun k _ => by
      have h1 := duesV_len (T.take i) c
      rw [List.length_take] at h1
      simp only [impl_DueBy.l0]
      rw [if_pos (lt_cast hi), if_pos (nn_cast i), if_pos (lt_cast hi), rdIT _ _ hi, wrap_nat1 hi (by omega), hI, duesV_take T c i hi]
      by_cases hc : T[i].f2 ≤ c
      · rw [if_pos hc, if_pos hc, if_pos (by omega)]
      · rw [if_neg hc, if_neg hc, List.append_nil], fun _ h => h⟩) T.length [] 0 (by omega) (by simp [duesV])
  subst hr
  exact fun k hk => h k (by omega)
theorem spec_dueBy_l1 (c : Int) (s : List Int) (T : List S46) (i : Nat) (hi : i < T.length) (hT : T.length ≤ 1048576) (hl : s.length ≤ 1048576) (hs : s.Pairwise (fun a b => a ≤ b)) :
    ∀ n : Nat, n ≤ s.length → (∀ y ∈ s.drop n, T[i].f0 < y) → ∃ n' : Nat, n' ≤ s.length ∧ (∀ y ∈ s.take n', y ≤ T[i].f0) ∧ (∀ y ∈ s.drop n', T[i].f0 < y) ∧ ∃ d, ∀ k, spec_DueBy.l1 (k + (1 + d)) c s T (i : Int) (n : Int) = spec_DueBy.l0 k c (s.take n' ++ [T[i].f0] ++ s.drop n') T ((i : Int) + 1) := by
  intro n
  induction n with
  | zero =>
    intro _ hd
    refine ⟨0, Nat.zero_le _, by simp, hd, 0, fun k => ?_⟩
    show spec_DueBy.l1 (k + 1) c s T (i : Int) ((0 : Nat) : Int) = _
    simp only [spec_DueBy.l1, Option.bind_some]
    rw [if_neg (by omega), if_pos (by omega), if_pos (by omega), rdIT _ _ hi, wrap_nat1 hi (by omega)]
    simp only [Int.toNat_natCast, List.take_zero, List.drop_zero, List.length_nil, List.nil_append, List.length_append, List.length_cons]
    rw [if_pos (by omega), if_pos (nn_cast i), if_pos (lt_cast hi), if_pos (by omega), if_pos (by omega)]
  | succ n ih =>
    intro hn hd
    have hn' : n < s.length := by omega
    have w1 : wrap64 (((n + 1 : Nat) : Int) - 1) = (n : Int) := by rw [wrap_of (by omega) (by omega)]; omega
    by_cases hx : s[n] > T[i].f0
    · obtain ⟨n', h1, h2, h3, d, h4⟩ := ih (by omega) (by
        intro y hy
        rw [List.drop_eq_getElem_cons hn'] at hy
        rcases List.mem_cons.mp hy with rfl | hy
        · exact hx
        · exact hd y hy)
      refine ⟨n', h1, h2, h3, d + 1, fun k => ?_⟩
      rw [← h4 k, show k + (1 + (d + 1)) = (k + (1 + d)) + 1 by omega]
      rw [spec_DueBy.l1]
      rw [if_pos (by omega), w1, if_pos (nn_cast n), if_pos (lt_cast hn'), if_pos (nn_cast i), if_pos (lt_cast hi), rdIT _ _ hi, rd_nat _ _ hn', if_pos hx]
    · refine ⟨n + 1, hn, ?_, hd, 0, fun k => ?_⟩
      · intro y hy
        obtain ⟨j, hj, rfl⟩ := List.getElem_of_mem hy
        rw [List.length_take] at hj
        rw [List.getElem_take]
        rcases Nat.lt_or_ge j n with h | h
        · have := (List.pairwise_iff_getElem.mp hs) j n (by omega) hn' h
          omega
        · obtain rfl : j = n := by omega
          omega
      · show spec_DueBy.l1 (k + 1) c s T (i : Int) ((n + 1 : Nat) : Int) = _
        simp only [spec_DueBy.l1, Option.bind_some]
        rw [if_pos (by omega), w1, if_pos (nn_cast n), if_pos (lt_cast hn'), if_pos (nn_cast i), if_pos (lt_cast hi), rdIT _ _ hi, rd_nat _ _ hn', if_neg hx, if_pos (by omega), if_pos (by omega), wrap_nat1 hi (by omega)]
        simp only [Int.toNat_natCast, List.length_nil, List.nil_append, List.length_append, List.length_cons, List.length_take, List.length_drop]
        rw [if_pos (by omega), if_pos (by omega), if_pos (by omega)]
theorem spec_dueBy_l0 (T : List S46) (hT : T.length ≤ 1048576) (c : Int) : ∀ d i s, i + d = T.length → s.Pairwise (fun a b => a ≤ b) → s.Perm (duesV (T.take i) c) →
    ∃ r : List Int, r.Pairwise (fun a b => a ≤ b) ∧ r.Perm (duesV T c) ∧ Ev (fun k => spec_DueBy.l0 k c s T (i : Int)) r := by
  intro d
  induction d with
  | zero =>
    intro i s hd hs hp
    obtain rfl : i = T.length := by omega
    rw [List.take_length] at hp
    refine ⟨s, hs, hp, ev_now 0 1 fun k _ => ?_⟩
    simp only [spec_DueBy.l0]
    rw [if_neg (not_lt_cast _)]
  | succ d ih =>
    intro i s hd hs hp
    have hi : i < T.length := by omega
    have hl := hp.length_eq
    have hl2 := duesV_len (T.take i) c
    rw [List.length_take] at hl2
    have ht := duesV_take T c i hi
    by_cases hc : T[i].f2 ≤ c
    · rw [if_pos hc] at ht
      obtain ⟨n', h1, h2, h3, e, h4⟩ := spec_dueBy_l1 c s T i hi hT (by omega) hs s.length (Nat.le_refl _) (by simp)
      have hs2 : (s.take n' ++ s.drop n').Pairwise (fun a b => a ≤ b) := by rw [List.take_append_drop]; exact hs
      rw [List.pairwise_append] at hs2
      obtain ⟨p1, p2, p3⟩ := hs2
      obtain ⟨r, r1, r2, r3⟩ := ih (i + 1) (s.take n' ++ [T[i].f0] ++ s.drop n') (by omega) (by
        rw [List.append_assoc, List.pairwise_append]
        refine ⟨p1, ?_, ?_⟩
        · show (T[i].f0 :: s.drop n').Pairwise _
          rw [List.pairwise_cons]
          exact ⟨fun y hy => by have := h3 y hy; omega, p2⟩
        · intro x hx y hy
          have hx2 := h2 x hx
          rcases List.mem_cons.mp (show y ∈ T[i].f0 :: s.drop n' from hy) with rfl | hy
          · exact hx2
          · have := h3 y hy
            omega) (by
        rw [ht]
        have q1 : (s.take n' ++ [T[i].f0] ++ s.drop n').Perm (s ++ [T[i].f0]) := by
          rw [List.append_assoc]
          refine (List.Perm.append_left _ List.perm_append_comm).trans ?_
          rw [← List.append_assoc, List.take_append_drop]
        exact q1.trans (hp.append_right _))
      refine ⟨r, r1, r2, ev_step 0 (1 + (1 + e)) (fun k _ => ?_) r3⟩
      rw [show k + (1 + (1 + e)) = (k + (1 + e)) + 1 by omega, cast1, ← h4 k]
      simp only [spec_DueBy.l0]
      rw [if_pos (lt_cast hi), if_pos (nn_cast i), rdIT _ _ hi, if_neg (by omega)]
    · rw [if_neg hc, List.append_nil] at ht
      obtain ⟨r, r1, r2, r3⟩ := ih (i + 1) s (by omega) hs (by rw [ht]; exact hp)
      refine ⟨r, r1, r2, ev_step 0 1 (fun k _ => ?_) r3⟩
      simp only [spec_DueBy.l0]
      rw [if_pos (lt_cast hi), if_pos (nn_cast i), rdIT _ _ hi, if_pos (by omega), wrap_nat1 hi (by omega), cast1]
theorem spec_dueBy_at (T : List S46) (hT : T.length ≤ 1048576) (c : Int) : Ev (fun k => spec_DueBy.l0 k c [] T 0) (sortV (duesV T c)) := by
  obtain ⟨r, r1, r2, r3⟩ := spec_dueBy_l0 T hT c T.length 0 [] (by omega) List.Pairwise.nil (by simp [duesV])
  rw [perm_sorted_eq (sortV (duesV T c)) r ((sortV_perm _).trans r2.symm) (sortV_sorted _) r1]
  exact r3

theorem eqIntS_self (l : List Int) (hl : l.length ≤ 4294967296) : Ev (fun k => laws_eqIntS.f k l l) true := by
  obtain ⟨r, hr, h⟩ := loop_ex (σ := Unit) (L := fun k _ i => laws_eqIntS.l0 k l l i) (n := l.length) (K := 0)
    (I := fun _ _ => True) (Post := fun _ _ r => r = true)
    (fun s hI => ⟨true, rfl, fun k => by
      simp only [laws_eqIntS.l0]
      rw [if_neg (not_lt_cast _)]⟩)
    (fun s i hi hI => .inr ⟨(), trivial, fun k _ => by
      simp only [laws_eqIntS.l0]
      rw [if_pos (lt_cast hi), if_pos (nn_cast i), if_pos (lt_cast hi), if_pos trivial, wrap_nat1 hi (by omega)], fun _ h => h⟩) l.length () 0 (by omega) trivial
  subst hr
  refine ev_at (0 + l.length) fun k hk => ?_
  simp only [laws_eqIntS.f]
  rw [if_pos trivial]
  exact h k hk

/-- The marks k, k + 1, .. -/
def marks (k : Int) (n : Nat) : List Int := (List.range n).map fun (i : Nat) => k + (i : Int)
theorem marks_len (k : Int) (n : Nat) : (marks k n).length = n := by simp [marks]
theorem marks_at (k : Int) (n i : Nat) (h : i < (marks k n).length) : (marks k n)[i] = k + (i : Int) := by simp [marks]
theorem mark_set (l : List Int) (k : Int) (i : Nat) (h : i < l.length) : ((marks k i) ++ l.drop i).set i (k + i) = marks k (i + 1) ++ l.drop (i + 1) := by
  have e2 : (marks k i).length = i := marks_len k i
  rw [List.set_append_right _ _ (by omega), e2, Nat.sub_self, List.drop_eq_getElem_cons h, List.set_cons_zero]
  have e3 : marks k (i + 1) = marks k i ++ [k + (i : Int)] := by simp [marks, List.range_succ]
  rw [e3, List.append_assoc]
  rfl

theorem markIntS_ev (l : List Int) (hl : l.length ≤ 4294967296) (q : Int) (hq0 : 0 ≤ q) (hq : q ≤ 4294967296) : Ev (fun k => laws_markIntS.f k l q) (q + l.length, marks q l.length) := by
  obtain ⟨r, hr, h⟩ := loop_ex (σ := List Int × Int) (L := fun k s i => laws_markIntS.l0 k s.1 s.2 i) (n := l.length) (K := 0)
    (I := fun s i => s.1 = marks q i ++ l.drop i ∧ s.2 = q + i) (Post := fun _ _ r => r = (q + l.length, marks q l.length))
    (fun s hI => ⟨_, rfl, fun k => by
      obtain ⟨h1, h2⟩ := hI
      simp only [laws_markIntS.l0]
      have e : s.1.length = l.length := by rw [h1, List.length_append, marks_len, List.length_drop]; omega
      rw [e, if_neg (not_lt_cast _), h1, h2]
      simp⟩)
    (fun s i hi hI => .inr ⟨(marks q (i + 1) ++ l.drop (i + 1), q + (i : Int) + 1), ⟨rfl, by push_cast; omega⟩, fun k _ => by
      obtain ⟨h1, h2⟩ := hI
      simp only [laws_markIntS.l0]
      have e : s.1.length = l.length := by rw [h1, List.length_append, marks_len, List.length_drop]; omega
      rw [e, if_pos (lt_cast hi), if_pos (nn_cast i), h1, h2, wrap_nat1 hi (by omega), wrap_of (by omega) (by omega)]
      simp only [Int.toNat_natCast]
      rw [mark_set _ _ _ hi], fun _ h => h⟩) l.length (l, q) 0 (by omega) (by simp [marks])
  subst hr
  refine ev_at (0 + l.length) fun k hk => ?_
  exact h k hk
theorem heldIntS_ev (n : Nat) (hl : n ≤ 4294967296) (q : Int) (hq0 : 0 ≤ q) (hq : q ≤ 4294967296) : Ev (fun k => laws_heldIntS.f k (marks q n) q) (q + n) := by
  have hm := marks_len q n
  obtain ⟨r, hr, h⟩ := loop_ex (σ := Int) (L := fun k s i => laws_heldIntS.l0 k (marks q n) s i) (n := n) (K := 0)
    (I := fun s i => s = q + i) (Post := fun _ _ r => r = q + n)
    (fun s hI => ⟨_, rfl, fun k => by
      simp only [laws_heldIntS.l0]
      rw [hm, if_neg (not_lt_cast _), hI]⟩)
    (fun s i hi hI => .inr ⟨q + (i : Int) + 1, by push_cast; omega, fun k _ => by
      simp only [laws_heldIntS.l0]
      rw [hm, if_pos (lt_cast hi), if_pos (nn_cast i), rd_nat _ _ (by omega), marks_at, hI, if_pos rfl, wrap_nat1 hi (by omega), wrap_of (by omega) (by omega)], fun _ h => h⟩) n q 0 (by omega) (by simp)
  subst hr
  exact ev_at (0 + n) fun k hk => h k hk

theorem FnExactDueBy : ∀ (a0_0 : Int) (l0_1 : (List (List S43))) (l0_2 : (List (List S43))) (l0_3 : (List S43)) (a1 : Int), ((Lit.int .i64 a0_0).wf = true ∧ (l0_1.length ≤ maxLen ∧ ∀ y31 ∈ l0_1, (y31.length ≤ maxLen ∧ ∀ y43 ∈ y31, good43 y43)) ∧ (l0_2.length ≤ maxLen ∧ ∀ y31 ∈ l0_2, (y31.length ≤ maxLen ∧ ∀ y43 ∈ y31, good43 y43)) ∧ (l0_3.length ≤ maxLen ∧ ∀ y43 ∈ l0_3, good43 y43)) → ((Lit.int .i64 a1).wf = true) → ∃ k, laws_FnExactDueBy.f k a0_0 l0_1 l0_2 l0_3 a1 = some true := by
  intro a l m q c hg hc
  obtain ⟨v, hv, hv2⟩ := szWheel_at a l m q ⟨hg.2.1.1, fun x hx => (hg.2.1.2 x hx).1⟩ ⟨hg.2.2.1.1, fun x hx => (hg.2.2.1.2 x hx).1⟩ hg.2.2.2.1
  by_cases hn : v < 0
  · refine ⟨2097156, ?_⟩
    simp only [laws_FnExactDueBy.f, hv 2097156 (by omega), Option.bind_some]
    rw [if_pos hn]
  · obtain ⟨f1, f2, f3, f4⟩ := hv2 (by omega)
    have g1 := fit_cv l f1
    have g2 := fit_cv m f2
    have e1 : (cvTT l).flatten.length = l.flatten.length := flat_cv_len l
    have e2 : (cvTT m).flatten.length = m.flatten.length := flat_cv_len m
    have e3 : (q.map cvT).length = q.length := by simp
    have h1 : ∀ k, 2097153 < k → _ := toWheel_at a l m q f1 f2 f3
    have h2 := spec_Timers_at a (cvTT l) (cvTT m) (q.map cvT) g1.1 g2.1 (by omega)
    have h3 := impl_Timers_at a (cvTT l) (cvTT m) (q.map cvT) g1.1 g2.1 (by omega)
    have h4 := eqWheel_at a (cvTT l) (cvTT m) (q.map cvT) ⟨g1.1, g1.2.2⟩ ⟨g2.1, g2.2.2⟩ (by omega)
    have hT := timersV_len (cvTT l) (cvTT m) (q.map cvT)
    obtain ⟨r, r0, h5⟩ := markWheel_at a (cvTT l) (cvTT m) (q.map cvT) g1.1 g2.1 (by omega)
    generalize timersV (cvTT l) (cvTT m) (q.map cvT) = T at *
    obtain ⟨K1, s1⟩ := spec_dueBy_at T (by omega) c
    have s2 := impl_dueBy_l0 T (by omega) c
    have hR : (sortV (duesV T c)).length ≤ 1048576 := by
      rw [(sortV_perm _).length_eq]
      have := duesV_len T c
      omega
    generalize sortV (duesV T c) = R at *
    obtain ⟨K2, h6⟩ := eqIntS_self R (by omega)
    obtain ⟨K3, h7⟩ := markIntS_ev R (by omega) 1 (by omega) (by omega)
    obtain ⟨K4, h8⟩ := heldIntS_ev R.length (by omega) 1 (by omega) (by omega)
    simp only at s1 h6 h7 h8
    obtain ⟨k, hk⟩ : ∃ k, k = K1 + K2 + K3 + K4 + 2097155 := ⟨_, rfl⟩
    have sk : ∀ n, k ≤ n → spec_DueBy.f n a (cvTT l) (cvTT m) (q.map cvT) c = some R := by
      intro n hn
      simp only [spec_DueBy.f, h2 n (by omega), Option.bind_some]
      exact s1 n (by omega)
    have ik : ∀ n, k ≤ n → impl_DueBy.f n a (cvTT l) (cvTT m) (q.map cvT) c = some R := by
      intro n hn
      simp only [impl_DueBy.f, h3 n (by omega), Option.bind_some]
      exact s2 n (by omega)
    have hj : laws_FnExactDueBy.j0 (k + 1) c R R false a l m q = some true := by
      simp only [laws_FnExactDueBy.j0, h7 k (by omega), h8 k (by omega), h1 k (by omega), ik k (by omega), h6 k (by omega), Option.bind_some, if_true, Bool.false_eq_true, if_false]
      rw [if_neg (by omega), if_neg (by omega)]
    refine ⟨k + 1, ?_⟩
    simp only [laws_FnExactDueBy.f, hv (k + 1) (by omega), h1 (k + 1) (by omega), sk (k + 1) (by omega), ik (k + 1) (by omega), h4 (k + 1) (by omega), h5 (k + 1) (by omega), h6 (k + 1) (by omega), Option.bind_some, if_true]
    rw [if_neg hn, if_neg (by omega)]
    exact hj

end Go.Proofs.Ytggenhomnbnodaa.Pure
