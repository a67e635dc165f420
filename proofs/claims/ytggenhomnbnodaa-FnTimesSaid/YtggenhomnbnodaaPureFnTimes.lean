/- What is due by a time is just what comes, each once, none too early and none too late; ticks in two parts are ticks in one. Conditions: none beyond the statement's own. -/
import Derived.Test.YtggenhomnbnodaaQFnTimesx
set_option linter.unusedVariables false
set_option linter.unusedSimpArgs false
namespace Go.Proofs.Ytggenhomnbnodaa.Pure
open Go.RowKit Go.Proofs.Ytggenhomnbnodaa.QFnTimes Go.Proofs.YtggenhomnbnodaaW.PrintWords Go.Proofs.YtggenhomnbnodaaW.PrintLast Go.Proofs.YtggenhomnbnodaaW.PrintMore


theorem loop_ex {σ β : Type} {L : Nat → σ → Int → Option β} {n K : Nat} {I : σ → Nat → Prop} {Post : σ → Nat → β → Prop}
  (hend : ∀ s, I s n → ∃ r, Post s n r ∧ ∀ k, L (k + 1) s (n : Int) = some r)
  (hstep : ∀ s (i : Nat), i < n → I s i → (∃ r, Post s i r ∧ ∀ k, K ≤ k → L (k + 1) s (i : Int) = some r) ∨
   ∃ s', I s' (i + 1) ∧ (∀ k, K ≤ k → L (k + 1) s (i : Int) = L k s' ((i : Int) + 1)) ∧ ∀ r, Post s' (i + 1) r → Post s i r) :
  ∀ (d : Nat) s (i : Nat), i + d = n → I s i → ∃ r, Post s i r ∧ ∀ k, K + d < k → L k s (i : Int) = some r := by
 intro d
 induction d with
 | zero =>
  intro s i hd hI
  obtain rfl : i = n := by omega
  obtain ⟨r, hp, hr⟩ := hend s hI
  refine ⟨r, hp, fun k hk => ?_⟩
  obtain ⟨k, rfl⟩ : ∃ m, k = m + 1 := ⟨k - 1, by omega⟩
  exact hr k
 | succ d ih =>
  intro s i hd hI
  rcases hstep s i (by omega) hI with ⟨r, hp, hr⟩ | ⟨s', hI', he, hp⟩
  ·refine ⟨r, hp, fun k hk => ?_⟩
   obtain ⟨k, rfl⟩ : ∃ m, k = m + 1 := ⟨k - 1, by omega⟩
   exact hr k (by omega)
  ·obtain ⟨r, hq, hr⟩ := ih s' (i + 1) (by omega) hI'
   refine ⟨r, hp r hq, fun k hk => ?_⟩
   obtain ⟨k, rfl⟩ : ∃ m, k = m + 1 := ⟨k - 1, by omega⟩
   rw [he k (by omega)]
   have := hr k (by omega)
   rw [Int.natCast_add] at this
   exact this
theorem ev_at {α : Type} {g : Nat → Option α} {r : α} (K : Nat) (h : ∀ k, K < k → g k = some r) : Ev g r := ⟨K + 1, fun k hk => h k (by omega)⟩
theorem wrap_of {x : Int} (h0 : -9223372036854775808 ≤ x) (h1 : x ≤ 9223372036854775807) : wrap64 x = x := by
 unfold wrap64
 omega
theorem wrap_nat1 {i n : Nat} (h : i < n) (hn : n ≤ 9223372036854775807) : wrap64 ((i : Int) + 1) = (i : Int) + 1 := wrap_of (by omega) (by omega)
theorem lt_cast {i n : Nat} (h : i < n) : (i : Int) < (n : Int) := by omega
theorem nn_cast (i : Nat) : 0 ≤ (i : Int) := by omega
theorem not_lt_cast (n : Nat) : ¬ (n : Int) < (n : Int) := by omega
theorem rdIT (l : List S46) (i : Nat) (h : i < l.length) : rd_T46 l (i : Int) = l[i] := by
 simp [rd_T46, List.getD_eq_getElem?_getD, h]

theorem rdLIT (l : List (List S46)) (i : Nat) (h : i < l.length) : rd_L2 l (i : Int) = l[i] := by
 simp [rd_L2, List.getD_eq_getElem?_getD, h]

def timersV (l m : List (List S46)) (q : List S46) : List S46 := l.flatten ++ m.flatten ++ q
theorem flat_take (l : List (List S46)) (i : Nat) (h : i < l.length) : (l.take (i + 1)).flatten = (l.take i).flatten ++ l[i] := by
 rw [List.take_succ_eq_append_getElem h, List.flatten_append]
 simp
theorem flat_take_le (l : List (List S46)) (i : Nat) : (l.take i).flatten.length ≤ l.flatten.length := by
 have h : l.flatten = (l.take i).flatten ++ (l.drop i).flatten := by rw [← List.flatten_append, List.take_append_drop]
 rw [h, List.length_append]
 omega
theorem spec_Timers_at (a : Int) (l m : List (List S46)) (q : List S46) (hl : l.length ≤ 1048576) (hm : m.length ≤ 1048576) (ht : l.flatten.length + m.flatten.length + q.length ≤ 1048576) :
  ∀ k, 2097154 < k → spec_Timers.f k a l m q = some (timersV l m q) := by
 obtain ⟨r, hr, h⟩ := loop_ex (σ := List S46) (L := fun k s i => spec_Timers.l1 k s i a l m q) (n := m.length) (K := 0)
  (I := fun s i => s = l.flatten ++ (m.take i).flatten) (Post := fun _ _ r => r = timersV l m q)
  (fun s hI => ⟨_, rfl, fun k => by
   simp only [spec_Timers.l1]
   rw [List.take_length] at hI
   rw [if_neg (not_lt_cast _), hI, if_pos (by rw [List.length_append]; omega)]
   rfl⟩)
  (fun s i hi hI => .inr ⟨_, rfl, fun k hk => by
   have h1 := flat_take_le m (i + 1)
   rw [flat_take m i hi, List.length_append] at h1
   simp only [spec_Timers.l1]
   rw [if_pos (lt_cast hi), if_pos (nn_cast i), rdLIT _ _ hi, hI, if_pos (by rw [List.length_append]; omega), wrap_nat1 hi (by omega), flat_take m i hi, List.append_assoc], fun _ h => h⟩) m.length l.flatten 0 (by omega) (by simp)
 subst hr
 obtain ⟨N, hN⟩ : ∃ N : Nat, N = 1048577 := ⟨_, rfl⟩
 obtain ⟨r, hr, h'⟩ := loop_ex (σ := List S46) (L := fun k s i => spec_Timers.l0 (k + N) s i a l m q) (n := l.length) (K := 0)
  (I := fun s i => s = (l.take i).flatten) (Post := fun _ _ r => r = timersV l m q)
  (fun s hI => ⟨_, rfl, fun k => by
   rw [show k + 1 + N = (k + N) + 1 by omega]
   simp only [spec_Timers.l0]
   rw [List.take_length] at hI
   rw [if_neg (not_lt_cast _), hI]
   exact h _ (by omega)⟩)
  (fun s i hi hI => .inr ⟨_, rfl, fun k hk => by
   have h1 := flat_take_le l (i + 1)
   rw [flat_take l i hi, List.length_append] at h1
   rw [show k + 1 + N = (k + N) + 1 by omega]
   simp only [spec_Timers.l0]
   rw [if_pos (lt_cast hi), if_pos (nn_cast i), rdLIT _ _ hi, hI, if_pos (by omega), wrap_nat1 hi (by omega), flat_take l i hi], fun _ h => h⟩) l.length [] 0 (by omega) (by simp)
 subst hr
 intro k hk
 simp only [spec_Timers.f]
 have := h' (k - N) (by omega)
 rw [show k - N + N = k by omega] at this
 exact this
theorem impl_Timers_at (a : Int) (l m : List (List S46)) (q : List S46) (hl : l.length ≤ 1048576) (hm : m.length ≤ 1048576) (ht : l.flatten.length + m.flatten.length + q.length ≤ 1048576) :
  ∀ k, 2097154 < k → impl_Timers.f k a l m q = some (timersV l m q) := by
 obtain ⟨r, hr, h⟩ := loop_ex (σ := List S46) (L := fun k s i => impl_Timers.l1 k s m m.length i a l m q) (n := m.length) (K := 0)
  (I := fun s i => s = l.flatten ++ (m.take i).flatten) (Post := fun _ _ r => r = timersV l m q)
  (fun s hI => ⟨_, rfl, fun k => by
   simp only [impl_Timers.l1]
   rw [List.take_length] at hI
   rw [if_neg (not_lt_cast _), hI, if_pos (by rw [List.length_append]; omega)]
   rfl⟩)
  (fun s i hi hI => .inr ⟨_, rfl, fun k hk => by
   have h1 := flat_take_le m (i + 1)
   rw [flat_take m i hi, List.length_append] at h1
   simp only [impl_Timers.l1]
   rw [if_pos (lt_cast hi), if_pos (nn_cast i), if_pos (lt_cast hi), rdLIT _ _ hi, hI, if_pos (by rw [List.length_append]; omega), wrap_nat1 hi (by omega), flat_take m i hi, List.append_assoc], fun _ h => h⟩) m.length l.flatten 0 (by omega) (by simp)
 subst hr
 obtain ⟨N, hN⟩ : ∃ N : Nat, N = 1048577 := ⟨_, rfl⟩
 obtain ⟨r, hr, h'⟩ := loop_ex (σ := List S46) (L := fun k s i => impl_Timers.l0 (k + N) s l l.length i a l m q) (n := l.length) (K := 0)
  (I := fun s i => s = (l.take i).flatten) (Post := fun _ _ r => r = timersV l m q)
  (fun s hI => ⟨_, rfl, fun k => by
   rw [show k + 1 + N = (k + N) + 1 by omega]
   simp only [impl_Timers.l0]
   rw [List.take_length] at hI
   rw [if_neg (not_lt_cast _), hI]
   exact h _ (by omega)⟩)
  (fun s i hi hI => .inr ⟨_, rfl, fun k hk => by
   have h1 := flat_take_le l (i + 1)
   rw [flat_take l i hi, List.length_append] at h1
   rw [show k + 1 + N = (k + N) + 1 by omega]
   simp only [impl_Timers.l0]
   rw [if_pos (lt_cast hi), if_pos (nn_cast i), if_pos (lt_cast hi), rdLIT _ _ hi, hI, if_pos (by omega), wrap_nat1 hi (by omega), flat_take l i hi], fun _ h => h⟩) l.length [] 0 (by omega) (by simp)
 subst hr
 intro k hk
 simp only [impl_Timers.f]
 have := h' (k - N) (by omega)
 rw [show k - N + N = k by omega] at this
 exact this
theorem timersV_len (l m : List (List S46)) (q : List S46) : (timersV l m q).length = l.flatten.length + m.flatten.length + q.length := by
 unfold timersV
 rw [List.length_append, List.length_append]

def SZ (l m : List (List S46)) (q : List S46) : Prop := l.length ≤ 1048576 ∧ m.length ≤ 1048576 ∧ l.flatten.length + m.flatten.length + q.length ≤ 1048576
theorem row_le (l : List (List S46)) (x : List S46) (h : x ∈ l) : x.length ≤ l.flatten.length := (List.sublist_flatten_of_mem h).length_le
theorem SZ.rows {l m : List (List S46)} {q : List S46} (h : SZ l m q) : (∀ x ∈ l, x.length ≤ 1048576) ∧ (∀ x ∈ m, x.length ≤ 1048576) ∧ q.length ≤ 1048576 := by
 obtain ⟨h1, h2, h3⟩ := h
 exact ⟨fun x hx => by have := row_le l x hx; omega, fun x hx => by have := row_le m x hx; omega, by omega⟩
theorem copySlots_at (l : List (List S46)) (hl : l.length ≤ 1048576) (hf : ∀ x ∈ l, x.length ≤ 1048576) : ∀ k, 1048576 < k → impl_copySlots.f k l = some l := by
 obtain ⟨r, hr, h⟩ := loop_ex (σ := List (List S46)) (L := fun k s i => impl_copySlots.l0 k s l l.length i) (n := l.length) (K := 0)
  (I := fun s i => s = l.take i) (Post := fun _ _ r => r = l)
  (fun s hI => ⟨_, rfl, fun k => by
   simp only [impl_copySlots.l0]
   rw [if_neg (not_lt_cast _), hI, List.take_length]⟩)
  (fun s i hi hI => .inr ⟨_, rfl, fun k _ => by
   have h1 := hf _ (List.getElem_mem hi)
   simp only [impl_copySlots.l0]
   rw [if_pos (lt_cast hi), if_pos (nn_cast i), if_pos (lt_cast hi), rdLIT _ _ hi, if_pos (by simp only [List.length_nil]; omega), if_pos (by rw [hI, List.length_take]; omega), wrap_nat1 hi (by omega), hI, List.nil_append, List.take_succ_eq_append_getElem hi], fun _ h => h⟩) l.length [] 0 (by omega) (by simp)
 subst hr
 exact fun k hk => h k (by omega)
theorem l8Lists_at (l : List (List S46)) (hl : l.length ≤ 1048576) (hf : ∀ x ∈ l, x.length ≤ 1048576) : ∀ k, 1048576 < k → spec_l8Lists.f k l = some l := by
 obtain ⟨r, hr, h⟩ := loop_ex (σ := List (List S46)) (L := fun k s i => spec_l8Lists.l0 k l s i) (n := l.length) (K := 0)
  (I := fun s i => s = l.take i) (Post := fun _ _ r => r = l)
  (fun s hI => ⟨_, rfl, fun k => by
   simp only [spec_l8Lists.l0]
   rw [if_neg (not_lt_cast _), hI, List.take_length]⟩)
  (fun s i hi hI => .inr ⟨_, rfl, fun k _ => by
   have h1 := hf _ (List.getElem_mem hi)
   simp only [spec_l8Lists.l0, Option.bind_some]
   rw [if_pos (lt_cast hi), if_pos (nn_cast i), rdLIT _ _ hi, if_pos (by simp only [List.length_nil]; omega), if_pos (by rw [hI, List.length_take]; omega), wrap_nat1 hi (by omega), hI, List.nil_append, List.take_succ_eq_append_getElem hi], fun _ h => h⟩) l.length [] 0 (by omega) (by simp)
 subst hr
 exact fun k hk => h k (by omega)
theorem copyWheel_at (a : Int) (l m : List (List S46)) (q : List S46) (hz : SZ l m q) : ∀ k, 1048576 < k → impl_copyWheel.f k a l m q = some (a, l, m, q) := by
 intro k hk
 obtain ⟨r1, r2, r3⟩ := hz.rows
 simp only [impl_copyWheel.f, copySlots_at l hz.1 r1 k hk, copySlots_at m hz.2.1 r2 k hk, Option.bind_some]
 rw [if_pos (by simp only [List.length_nil]; omega), List.nil_append]
theorem l8Copy_at (a : Int) (l m : List (List S46)) (q : List S46) (hz : SZ l m q) : ∀ k, 1048576 < k → spec_l8Copy.f k a l m q = some (a, l, m, q) := by
 intro k hk
 obtain ⟨r1, r2, r3⟩ := hz.rows
 simp only [spec_l8Copy.f, l8Lists_at l hz.1 r1 k hk, l8Lists_at m hz.2.1 r2 k hk, Option.bind_some]
 rw [if_pos (by simp only [List.length_nil]; omega), List.nil_append]

theorem sameTimers_self (l : List S46) (hl : l.length ≤ 1048576) : ∀ k, 1048576 < k → laws_sameTimers.f k l l = some true := by
 obtain ⟨r, hr, h⟩ := loop_ex (σ := Unit) (L := fun k _ i => laws_sameTimers.l0 k l l i) (n := l.length) (K := 0) (I := fun _ _ => True) (Post := fun _ _ r => r = true)
  (fun s _ => ⟨_, rfl, fun k => by
   simp only [laws_sameTimers.l0]
   rw [if_neg (not_lt_cast _)]⟩)
  (fun s i hi _ => .inr ⟨(), trivial, fun k _ => by
   simp only [laws_sameTimers.l0]
   rw [if_pos (lt_cast hi), if_pos (nn_cast i), if_pos (lt_cast hi), if_neg (by simp), wrap_nat1 hi (by omega)], fun _ h => h⟩) l.length () 0 (by omega) trivial
 subst hr
 intro k hk
 simp only [laws_sameTimers.f, if_true]
 exact h k (by omega)
theorem sameWheel_self (a : Int) (l m : List (List S46)) (q : List S46) (hz : SZ l m q) : ∀ k, 4194304 < k → laws_sameWheel.f k a l m q a l m q = some true := by
 obtain ⟨r1, r2, r3⟩ := hz.rows
 obtain ⟨N, hN⟩ : ∃ N : Nat, N = 1048577 := ⟨_, rfl⟩
 obtain ⟨r, hr, h1⟩ := loop_ex (σ := Unit) (L := fun k _ i => laws_sameWheel.l1 (k + N) i a l m q a l m q) (n := m.length) (K := 0) (I := fun _ _ => True) (Post := fun _ _ r => r = true)
  (fun s _ => ⟨_, rfl, fun k => by
   rw [show k + 1 + N = (k + N) + 1 by omega, laws_sameWheel.l1, if_neg (not_lt_cast _)]⟩)
  (fun s i hi _ => .inr ⟨(), trivial, fun k _ => by
   have e := sameTimers_self m[i] (r2 _ (List.getElem_mem hi)) (k + N) (by omega)
   rw [show k + 1 + N = (k + N) + 1 by omega, laws_sameWheel.l1, if_pos (lt_cast hi), if_pos (nn_cast i), if_pos (lt_cast hi), rdLIT _ _ hi, e, Option.bind_some, if_pos rfl, wrap_nat1 hi (by have := hz.2.1; omega)], fun _ h => h⟩) m.length () 0 (by omega) trivial
 subst hr
 obtain ⟨M, hM⟩ : ∃ M : Nat, M = 2097155 := ⟨_, rfl⟩
 obtain ⟨r, hr, h0⟩ := loop_ex (σ := Unit) (L := fun k _ i => laws_sameWheel.l0 (k + M) i a l m q a l m q) (n := l.length) (K := 0) (I := fun _ _ => True) (Post := fun _ _ r => r = true)
  (fun s _ => ⟨_, rfl, fun k => by
   have e := h1 (k + M - N) (by have := hz.2.1; omega)
   rw [show k + M - N + N = k + M by omega] at e
   rw [show k + 1 + M = (k + M) + 1 by omega, laws_sameWheel.l0, if_neg (not_lt_cast _)]
   exact e⟩)
  (fun s i hi _ => .inr ⟨(), trivial, fun k _ => by
   have e := sameTimers_self l[i] (r1 _ (List.getElem_mem hi)) (k + M) (by omega)
   rw [show k + 1 + M = (k + M) + 1 by omega, laws_sameWheel.l0, if_pos (lt_cast hi), if_pos (nn_cast i), if_pos (lt_cast hi), rdLIT _ _ hi, e, Option.bind_some, if_pos rfl, wrap_nat1 hi (by have := hz.1; omega)], fun _ h => h⟩) l.length () 0 (by omega) trivial
 subst hr
 intro k hk
 obtain ⟨k, rfl⟩ : ∃ n, k = n + 1 := ⟨k - 1, by omega⟩
 have e := h0 (k - M) (by have := hz.1; omega)
 rw [show k - M + M = k by omega] at e
 simp only [laws_sameWheel.f, if_true, sameTimers_self q r3 (k + 1) (by omega), Option.bind_some, laws_sameWheel.j0, Bool.not_true, Bool.false_eq_true, if_false]
 exact e

theorem ev_step {α : Type} {g g' : Nat → Option α} {r : α} (K c : Nat) (h : ∀ k, K ≤ k → g (k + c) = g' k) (hg : Ev g' r) : Ev g r := by
 obtain ⟨M, hM⟩ := hg
 refine ⟨M + K + c, fun k hk => ?_⟩
 obtain ⟨m, rfl⟩ : ∃ m, k = m + c := ⟨k - c, by omega⟩
 rw [h m (by omega)]
 exact hM m (by omega)
theorem ev_now {α : Type} {g : Nat → Option α} {r : α} (K c : Nat) (h : ∀ k, K ≤ k → g (k + c) = some r) : Ev g r := by
 refine ⟨K + c, fun k hk => ?_⟩
 obtain ⟨m, rfl⟩ : ∃ m, k = m + c := ⟨k - c, by omega⟩
 exact h m (by omega)
theorem loop_ev {α : Type} {L L' : Nat → Nat → Option α} {n : Nat} (hend : ∃ r, Ev (fun k => L k n) r ∧ Ev (fun k => L' k n) r)
  (hstep : ∀ i, i < n → (∃ r, Ev (fun k => L k i) r ∧ Ev (fun k => L' k i) r) ∨ ((∀ r, Ev (fun k => L k (i + 1)) r → Ev (fun k => L k i) r) ∧ ∀ r, Ev (fun k => L' k (i + 1)) r → Ev (fun k => L' k i) r)) :
  ∀ d i, i + d = n → ∃ r, Ev (fun k => L k i) r ∧ Ev (fun k => L' k i) r := by
 intro d
 induction d with
 | zero =>
  intro i hi
  obtain rfl : i = n := by omega
  exact hend
 | succ d ih =>
  intro i hi
  rcases hstep i (by omega) with h | ⟨h1, h2⟩
  ·exact h
  ·obtain ⟨r, e1, e2⟩ := ih (i + 1) (by omega)
   exact ⟨r, h1 r e1, h2 r e2⟩
theorem cast1 (i : Nat) : ((i + 1 : Nat) : Int) = (i : Int) + 1 := by omega

def inB (a b c : Int) : Bool := decide (b ≤ a) && decide (a ≤ c)
theorem impl_within_eq (a b c : Int) : impl_within.f a b c = some (inB a b c) := by
 unfold impl_within.f inB
 by_cases h : a ≥ b
 ·rw [if_pos h]
  simp [show b ≤ a from h]
 ·rw [if_neg h]
  simp [show ¬ b ≤ a from h]

theorem spec_l1In_eq (a b c : Int) : spec_l1In.f a b c = some (inB a b c) := by
 unfold spec_l1In.f inB
 by_cases h : a ≥ b
 ·rw [if_pos h]
  simp [show b ≤ a from h]
 ·rw [if_neg h]
  simp [show ¬ b ≤ a from h]

theorem slot_both (a : Int) (ha : 0 ≤ a) (ha2 : a ≤ 2147483647) (w1 w2 : List (List S46)) (w3 : List S46) (l : List S46) (hl : l.length ≤ 1048576) (q q' s : Int)
  (hq : (q = 1 ∧ q' = 0) ∨ (q = 2 ∧ q' = 1) ∨ (q = 3 ∧ q' = 2 ∧ s = 0)) :
  ∃ r, Ev (fun k => spec_l8Slot.f k a w1 w2 w3 l q s) r ∧ Ev (fun k => impl_belongs.f k a w1 w2 w3 l q' s) r := by
 have h := loop_ev (L := fun k i => spec_l8Slot.l0 k l q s (i : Int) a w1 w2 w3) (L' := fun k i => impl_belongs.l0 k q' s l l.length (i : Int) a w1 w2 w3) (n := l.length)
  ⟨true, ev_now 0 1 (fun k _ => by
   simp only [spec_l8Slot.l0]
   rw [if_neg (not_lt_cast _)]), ev_now 0 1 (fun k _ => by
   simp only [impl_belongs.l0]
   rw [if_neg (not_lt_cast _)])⟩
  (fun i hi => by
   have hw : wrap64 (a + 1) = a + 1 := wrap_of (by omega) (by omega)
   have bad : ∀ (hs : ∀ k, spec_l8Slot.l0 (k + 2) l q s (i : Int) a w1 w2 w3 = some false) (hm : ∀ k, impl_belongs.l0 (k + 2) q' s l l.length (i : Int) a w1 w2 w3 = some false),
     ∃ r, Ev (fun k => spec_l8Slot.l0 k l q s (i : Int) a w1 w2 w3) r ∧ Ev (fun k => impl_belongs.l0 k q' s l l.length (i : Int) a w1 w2 w3) r :=
    fun hs hm => ⟨false, ev_now 0 2 (fun k _ => hs k), ev_now 0 2 (fun k _ => hm k)⟩
   have hS : ∀ k, spec_l8Slot.l0 (k + 2) l q s (i : Int) a w1 w2 w3 = (if l[i].f0 < 1 then some false else if inB l[i].f1 1 999 = true then (if inB l[i].f2 (a + 1) 2147483647 = true then ((spec_l8Place.f a l[i].f2).bind fun b => if b.1 = q then (if b.2 = s then spec_l8Slot.l0 k l q s ((i : Int) + 1) a w1 w2 w3 else some false) else some false) else some false) else some false) := by
    intro k
    simp only [spec_l8Slot.l0, spec_l8Slot.j1, spec_l1In_eq, Option.bind_some]
    rw [if_pos (lt_cast hi), if_pos (nn_cast i), rdIT _ _ hi, hw, wrap_nat1 hi (by omega)]
    cases inB l[i].f1 1 999 <;> cases inB l[i].f2 (a + 1) 2147483647 <;> simp
   have hI : ∀ k, impl_belongs.l0 (k + 2) q' s l l.length (i : Int) a w1 w2 w3 = (if l[i].f0 < 1 then some false else if inB l[i].f1 1 999 = true then (if l[i].f2 ≤ a then some false else impl_belongs.j1 (k + 1) q' s l l.length (i : Int) (decide (l[i].f2 > 2147483647)) a w1 w2 w3 l[i].f0 l[i].f1 l[i].f2) else some false) := by
    intro k
    simp only [impl_belongs.l0, impl_within_eq, Option.bind_some]
    rw [if_pos (lt_cast hi), if_pos (nn_cast i), if_pos (lt_cast hi), rdIT _ _ hi]
    have hj : ∀ k, impl_belongs.j1 (k + 1) q' s l l.length (i : Int) true a w1 w2 w3 l[i].f0 l[i].f1 l[i].f2 = some false := by
     intro k
     simp only [impl_belongs.j1, if_true]
    rw [hj k]
   by_cases h1 : l[i].f0 < 1
   ·exact .inl (bad (fun k => by rw [hS, if_pos h1]) (fun k => by rw [hI, if_pos h1]))
   by_cases h2 : inB l[i].f1 1 999 = true
   case neg => exact .inl (bad (fun k => by rw [hS, if_neg h1, if_neg h2]) (fun k => by rw [hI, if_neg h1, if_neg h2]))
   by_cases h3 : l[i].f2 ≤ a
   ·have e : ¬ inB l[i].f2 (a + 1) 2147483647 = true := by simp [inB]; omega
    exact .inl (bad (fun k => by rw [hS, if_neg h1, if_pos h2, if_neg e]) (fun k => by rw [hI, if_neg h1, if_pos h2, if_pos h3]))
   by_cases h4 : l[i].f2 > 2147483647
   ·have e : ¬ inB l[i].f2 (a + 1) 2147483647 = true := by simp [inB]; omega
    exact .inl (bad (fun k => by rw [hS, if_neg h1, if_pos h2, if_neg e]) (fun k => by
     rw [hI, if_neg h1, if_pos h2, if_neg h3, decide_eq_true h4]
     simp only [impl_belongs.j1, if_true]))
   have e : inB l[i].f2 (a + 1) 2147483647 = true := by simp [inB]; omega
   have hJ : ∀ k, impl_belongs.l0 (k + 2) q' s l l.length (i : Int) a w1 w2 w3 = impl_belongs.j1 (k + 1) q' s l l.length (i : Int) false a w1 w2 w3 l[i].f0 l[i].f1 l[i].f2 := by
    intro k
    rw [hI, if_neg h1, if_pos h2, if_neg h3, decide_eq_false h4]
   have hS' : ∀ k, spec_l8Slot.l0 (k + 2) l q s (i : Int) a w1 w2 w3 = ((spec_l8Place.f a l[i].f2).bind fun b => if b.1 = q then (if b.2 = s then spec_l8Slot.l0 k l q s ((i : Int) + 1) a w1 w2 w3 else some false) else some false) := by
    intro k
    rw [hS, if_neg h1, if_pos h2, if_pos e]
   generalize l[i].f2 = t at *
   have d1 : Int.tdiv t 8 = t / 8 := Int.tdiv_eq_ediv_of_nonneg (by omega)
   have d2 : Int.tdiv a 8 = a / 8 := Int.tdiv_eq_ediv_of_nonneg ha
   have u1 : wrap64 (t / 8) = t / 8 := wrap_of (by omega) (by omega)
   have u2 : wrap64 (a / 8) = a / 8 := wrap_of (by omega) (by omega)
   have u3 : wrap64 (t / 8 - a / 8) = t / 8 - a / 8 := wrap_of (by omega) (by omega)
   have hP : spec_l8Place.f a t = if t / 8 = a / 8 then some (1, Int.tmod t 8) else if t / 8 - a / 8 < 8 then some (2, Int.tmod (t / 8) 8) else some (3, 0) := by
    unfold spec_l8Place.f
    rw [d1, d2, u1, u2, u3]
   have hG : ∀ k, impl_belongs.j1 (k + 1) q' s l l.length (i : Int) false a w1 w2 w3 l[i].f0 l[i].f1 t = if q' = 0 then (if t / 8 - a / 8 = 0 then (if Int.tmod t 8 = s then impl_belongs.l0 k q' s l l.length ((i : Int) + 1) a w1 w2 w3 else some false) else some false) else if q' = 1 then (if inB (t / 8 - a / 8) 1 7 = true then (if Int.tmod (t / 8) 8 = s then impl_belongs.l0 k q' s l l.length ((i : Int) + 1) a w1 w2 w3 else some false) else some false) else (if t / 8 - a / 8 ≥ 8 then impl_belongs.l0 k q' s l l.length ((i : Int) + 1) a w1 w2 w3 else some false) := by
    intro k
    simp only [impl_belongs.j1, impl_within_eq, Option.bind_some]
    rw [if_neg (by simp), d1, d2, u1, u2, u3, wrap_nat1 hi (by omega)]
   have go : ∀ (hs : ∀ k, spec_l8Slot.l0 (k + 2) l q s (i : Int) a w1 w2 w3 = spec_l8Slot.l0 k l q s ((i : Int) + 1) a w1 w2 w3) (hm : ∀ k, impl_belongs.l0 (k + 2) q' s l l.length (i : Int) a w1 w2 w3 = impl_belongs.l0 k q' s l l.length ((i : Int) + 1) a w1 w2 w3),
     (∀ r, Ev (fun k => spec_l8Slot.l0 k l q s ((i + 1 : Nat) : Int) a w1 w2 w3) r → Ev (fun k => spec_l8Slot.l0 k l q s (i : Int) a w1 w2 w3) r) ∧ ∀ r, Ev (fun k => impl_belongs.l0 k q' s l l.length ((i + 1 : Nat) : Int) a w1 w2 w3) r → Ev (fun k => impl_belongs.l0 k q' s l l.length (i : Int) a w1 w2 w3) r := by
    intro hs hm
    rw [cast1]
    exact ⟨fun r => ev_step 0 2 (fun k _ => hs k), fun r => ev_step 0 2 (fun k _ => hm k)⟩
   rcases hq with ⟨rfl, rfl⟩ | ⟨rfl, rfl⟩ | ⟨rfl, rfl, rfl⟩
   ·by_cases c1 : t / 8 = a / 8
    ·by_cases c2 : Int.tmod t 8 = s
     ·exact .inr (go (fun k => by rw [hS', hP, if_pos c1, Option.bind_some, if_pos rfl, if_pos c2]) (fun k => by rw [hJ, hG, if_pos rfl, if_pos (by omega), if_pos c2]))
     ·exact .inl (bad (fun k => by rw [hS', hP, if_pos c1, Option.bind_some, if_pos rfl, if_neg c2]) (fun k => by rw [hJ, hG, if_pos rfl, if_pos (by omega), if_neg c2]))
    ·refine .inl (bad (fun k => ?_) (fun k => by rw [hJ, hG, if_pos rfl, if_neg (by omega)]))
     rw [hS', hP, if_neg c1]
     by_cases c3 : t / 8 - a / 8 < 8
     ·rw [if_pos c3, Option.bind_some, if_neg (by simp)]
     ·rw [if_neg c3, Option.bind_some, if_neg (by simp)]
   ·by_cases c1 : t / 8 = a / 8
    ·exact .inl (bad (fun k => by rw [hS', hP, if_pos c1, Option.bind_some, if_neg (by simp)]) (fun k => by rw [hJ, hG, if_neg (by omega), if_pos rfl, if_neg (by simp [inB]; omega)]))
    ·by_cases c3 : t / 8 - a / 8 < 8
     ·have e2 : inB (t / 8 - a / 8) 1 7 = true := by simp [inB]; omega
      by_cases c2 : Int.tmod (t / 8) 8 = s
      ·exact .inr (go (fun k => by rw [hS', hP, if_neg c1, if_pos c3, Option.bind_some, if_pos rfl, if_pos c2]) (fun k => by rw [hJ, hG, if_neg (by omega), if_pos rfl, if_pos e2, if_pos c2]))
      ·exact .inl (bad (fun k => by rw [hS', hP, if_neg c1, if_pos c3, Option.bind_some, if_pos rfl, if_neg c2]) (fun k => by rw [hJ, hG, if_neg (by omega), if_pos rfl, if_pos e2, if_neg c2]))
     ·exact .inl (bad (fun k => by rw [hS', hP, if_neg c1, if_neg c3, Option.bind_some, if_neg (by simp)]) (fun k => by rw [hJ, hG, if_neg (by omega), if_pos rfl, if_neg (by simp [inB]; omega)]))
   ·by_cases c1 : t / 8 = a / 8
    ·exact .inl (bad (fun k => by rw [hS', hP, if_pos c1, Option.bind_some, if_neg (by simp)]) (fun k => by rw [hJ, hG, if_neg (by omega), if_neg (by omega), if_neg (by omega)]))
    ·by_cases c3 : t / 8 - a / 8 < 8
     ·exact .inl (bad (fun k => by rw [hS', hP, if_neg c1, if_pos c3, Option.bind_some, if_neg (by simp)]) (fun k => by rw [hJ, hG, if_neg (by omega), if_neg (by omega), if_neg (by omega)]))
     ·exact .inr (go (fun k => by rw [hS', hP, if_neg c1, if_neg c3, Option.bind_some, if_pos rfl, if_pos rfl]) (fun k => by rw [hJ, hG, if_neg (by omega), if_neg (by omega), if_pos (by omega)]))) l.length 0 (by omega)
 exact h

theorem spec_ids (l : List S46) (hl : l.length ≤ 1048576) (i : Nat) (hi : i < l.length) : ∀ d j, j + d = i →
  ((∃ m, ∃ hm : m < l.length, j ≤ m ∧ m < i ∧ l[m].f0 = l[i].f0) → Ev (fun k => spec_WheelOk.l2 k l (i : Int) (j : Int)) false) ∧
  ((¬ ∃ m, ∃ hm : m < l.length, j ≤ m ∧ m < i ∧ l[m].f0 = l[i].f0) → ∀ r, Ev (fun k => spec_WheelOk.l1 k l ((i + 1 : Nat) : Int)) r → Ev (fun k => spec_WheelOk.l2 k l (i : Int) (j : Int)) r) := by
 intro d
 induction d with
 | zero =>
  intro j hj
  obtain rfl : j = i := by omega
  refine ⟨fun ⟨m, _, h1, h2, _⟩ => by omega, fun _ r hr => ?_⟩
  rw [cast1] at hr
  exact ev_step 0 1 (fun k _ => by
   simp only [spec_WheelOk.l2]
   rw [if_neg (not_lt_cast _), wrap_nat1 hi (by omega)]) hr
 | succ d ih =>
  intro j hj
  have hjl : j < l.length := by omega
  obtain ⟨i1, i2⟩ := ih (j + 1) (by omega)
  have hs : ∀ k, spec_WheelOk.l2 (k + 1) l (i : Int) (j : Int) = if l[j].f0 = l[i].f0 then some false else spec_WheelOk.l2 k l (i : Int) ((j + 1 : Nat) : Int) := by
   intro k
   simp only [spec_WheelOk.l2]
   rw [if_pos (by omega), if_pos (nn_cast j), if_pos (lt_cast hjl), if_pos (nn_cast i), if_pos (lt_cast hi), rdIT _ _ hjl, rdIT _ _ hi, wrap_nat1 hjl (by omega), cast1]
  by_cases c : l[j].f0 = l[i].f0
  ·have hf : Ev (fun k => spec_WheelOk.l2 k l (i : Int) (j : Int)) false := ev_now 0 1 (fun k _ => by rw [hs, if_pos c])
   exact ⟨fun _ => hf, fun hn => absurd ⟨j, hjl, Nat.le_refl _, by omega, c⟩ hn⟩
  ·have hg : ∀ r, Ev (fun k => spec_WheelOk.l2 k l (i : Int) ((j + 1 : Nat) : Int)) r → Ev (fun k => spec_WheelOk.l2 k l (i : Int) (j : Int)) r := fun r => ev_step 0 1 (fun k _ => by rw [hs, if_neg c])
   refine ⟨fun ⟨m, hm, h1, h2, h3⟩ => ?_, fun hn r hr => hg r (i2 (fun ⟨m, hm, h1, h2, h3⟩ => hn ⟨m, hm, by omega, h2, h3⟩) r hr)⟩
   refine hg false (i1 ⟨m, hm, ?_, h2, h3⟩)
   rcases Nat.lt_or_ge j m with h | h
   ·exact h
   ·obtain rfl : m = j := by omega
    exact absurd h3 c
theorem impl_ids (l : List S46) (hl : l.length ≤ 1048576) (i : Nat) (hi : i < l.length) : ∀ d j, j + d = i →
  ((∃ m, ∃ hm : m < l.length, j ≤ m ∧ m < i ∧ l[m].f0 = l[i].f0) → ∃ p : Nat, p < i ∧ Ev (fun k => impl_Timer.l0 (fun x _ _ => some (x == l[i].f0)) k l l.length (j : Int)) (p : Int)) ∧
  ((¬ ∃ m, ∃ hm : m < l.length, j ≤ m ∧ m < i ∧ l[m].f0 = l[i].f0) → Ev (fun k => impl_Timer.l0 (fun x _ _ => some (x == l[i].f0)) k l l.length (j : Int)) (i : Int)) := by
 have hs : ∀ k (j : Nat) (hjl : j < l.length), impl_Timer.l0 (fun x _ _ => some (x == l[i].f0)) (k + 1) l l.length (j : Int) = if l[j].f0 = l[i].f0 then some (j : Int) else impl_Timer.l0 (fun x _ _ => some (x == l[i].f0)) k l l.length ((j + 1 : Nat) : Int) := by
  intro k j hjl
  simp only [impl_Timer.l0]
  rw [if_pos (lt_cast hjl), if_pos (nn_cast j), if_pos (lt_cast hjl), rdIT _ _ hjl, wrap_nat1 hjl (by omega), Option.bind_some, cast1]
  by_cases c : l[j].f0 = l[i].f0
  ·rw [if_pos c, if_pos (by simpa using c)]
  ·rw [if_neg c, if_neg (by simpa using c)]
 intro d
 induction d with
 | zero =>
  intro j hj
  obtain rfl : j = i := by omega
  exact ⟨fun ⟨m, _, h1, h2, _⟩ => by omega, fun _ => ev_now 0 1 (fun k _ => by rw [hs k j hi, if_pos rfl])⟩
 | succ d ih =>
  intro j hj
  have hjl : j < l.length := by omega
  obtain ⟨i1, i2⟩ := ih (j + 1) (by omega)
  by_cases c : l[j].f0 = l[i].f0
  ·exact ⟨fun _ => ⟨j, by omega, ev_now 0 1 (fun k _ => by rw [hs k j hjl, if_pos c])⟩, fun hn => absurd ⟨j, hjl, Nat.le_refl _, by omega, c⟩ hn⟩
  ·have hg : ∀ r, Ev (fun k => impl_Timer.l0 (fun x _ _ => some (x == l[i].f0)) k l l.length ((j + 1 : Nat) : Int)) r → Ev (fun k => impl_Timer.l0 (fun x _ _ => some (x == l[i].f0)) k l l.length (j : Int)) r := fun r => ev_step 0 1 (fun k _ => by rw [hs k j hjl, if_neg c])
   refine ⟨fun ⟨m, hm, h1, h2, h3⟩ => ?_, fun hn => hg _ (i2 (fun ⟨m, hm, h1, h2, h3⟩ => hn ⟨m, hm, by omega, h2, h3⟩))⟩
   obtain ⟨p, hp, he⟩ := i1 ⟨m, hm, by
    rcases Nat.lt_or_ge j m with h | h
    ·exact h
    ·obtain rfl : m = j := by omega
     exact absurd h3 c, h2, h3⟩
   exact ⟨p, hp, hg _ he⟩
theorem ids_both (l : List S46) (hl : l.length ≤ 1048576) : ∃ r, Ev (fun k => spec_WheelOk.l1 k l 0) r ∧ Ev (fun k => impl_WheelOk.l1 k l l l.length 0) r := by
 have h := loop_ev (L := fun k i => spec_WheelOk.l1 k l (i : Int)) (L' := fun k i => impl_WheelOk.l1 k l l l.length (i : Int)) (n := l.length)
  ⟨decide ((l.length : Int) ≤ 16), ev_now 0 1 (fun k _ => by
   simp only [spec_WheelOk.l1]
   rw [if_neg (not_lt_cast _)]), ev_now 0 1 (fun k _ => by
   simp only [impl_WheelOk.l1]
   rw [if_neg (not_lt_cast _)])⟩
  (fun i hi => by
   obtain ⟨s1, s2⟩ := spec_ids l hl i hi i 0 (by omega)
   obtain ⟨t1, t2⟩ := impl_ids l hl i hi i 0 (by omega)
   have hS : ∀ r, Ev (fun k => spec_WheelOk.l2 k l (i : Int) ((0 : Nat) : Int)) r → Ev (fun k => spec_WheelOk.l1 k l (i : Int)) r := fun r => ev_step 0 1 (fun k _ => by
    simp only [spec_WheelOk.l1]
    rw [if_pos (lt_cast hi)]
    rfl)
   have hI : ∀ p : Int, Ev (fun k => impl_Timer.l0 (fun x _ _ => some (x == l[i].f0)) k l l.length ((0 : Nat) : Int)) p → ∃ K, ∀ k, K ≤ k → impl_WheelOk.l1 (k + 1) l l l.length (i : Int) = if p = (i : Int) then impl_WheelOk.l1 k l l l.length ((i : Int) + 1) else some false := by
    rintro p ⟨K, hK⟩
    refine ⟨K, fun k hk => ?_⟩
    have e : impl_timerAt.f k l l[i].f0 = some p := hK k hk
    simp only [impl_WheelOk.l1]
    rw [if_pos (lt_cast hi), if_pos (nn_cast i), if_pos (lt_cast hi), rdIT _ _ hi, e, Option.bind_some, wrap_nat1 hi (by omega)]
   by_cases hd : ∃ m, ∃ hm : m < l.length, 0 ≤ m ∧ m < i ∧ l[m].f0 = l[i].f0
   ·obtain ⟨p, hp, he⟩ := t1 hd
    obtain ⟨K, hK⟩ := hI _ he
    exact .inl ⟨false, hS _ (s1 hd), ev_now K 1 (fun k hk => by rw [hK k hk, if_neg (by omega)])⟩
   ·obtain ⟨K, hK⟩ := hI _ (t2 hd)
    refine .inr ⟨fun r hr => hS _ (s2 hd r hr), fun r hr => ?_⟩
    rw [cast1] at hr
    exact ev_step K 1 (fun k hk => by rw [hK k hk, if_pos rfl]) hr) l.length 0 (by omega)
 exact h

theorem wheelOk_both (a : Int) (l m : List (List S46)) (q : List S46) (hl : l.length ≤ 1048576 ∧ ∀ x ∈ l, x.length ≤ 1048576) (hm : m.length ≤ 1048576 ∧ ∀ x ∈ m, x.length ≤ 1048576) (hq : q.length ≤ 1048576) (ht : l.flatten.length + m.flatten.length + q.length ≤ 1048576) :
  ∃ r, Ev (fun k => spec_WheelOk.f k a l m q) r ∧ Ev (fun k => impl_WheelOk.f k a l m q) r := by
 have sj : ∀ k, spec_WheelOk.j0 (k + 1) true a l m q = some false := by
  intro k
  simp only [spec_WheelOk.j0, if_true]
 have ij : ∀ k, impl_WheelOk.j0 (k + 1) true a l m q = some false := by
  intro k
  simp only [impl_WheelOk.j0, if_true]
 by_cases c1 : (l.length : Int) = 8
 case neg =>
  refine ⟨false, ev_now 0 1 (fun k _ => ?_), ev_now 0 1 (fun k _ => ?_)⟩
  ·simp only [spec_WheelOk.f]
   rw [if_neg c1, sj]
  ·simp only [impl_WheelOk.f, impl_within_eq, Option.bind_some]
   rw [if_neg c1, ij]
   exact ite_self _
 by_cases c2 : (m.length : Int) = 8
 case neg =>
  refine ⟨false, ev_now 0 1 (fun k _ => ?_), ev_now 0 1 (fun k _ => ?_)⟩
  ·simp only [spec_WheelOk.f]
   rw [if_pos c1, if_neg c2, sj]
  ·simp only [impl_WheelOk.f, impl_within_eq, Option.bind_some]
   rw [if_pos c1, if_neg c2, ij]
   exact ite_self _
 by_cases c3 : inB a 0 2147483647 = true
 case neg =>
  refine ⟨false, ev_now 0 1 (fun k _ => ?_), ev_now 0 1 (fun k _ => ?_)⟩
  ·simp only [spec_WheelOk.f, spec_l1In_eq, Option.bind_some]
   rw [if_pos c1, if_pos c2, if_neg c3, sj]
  ·simp only [impl_WheelOk.f, impl_within_eq, Option.bind_some]
   rw [if_neg c3, ij]
 have ha : 0 ≤ a ∧ a ≤ 2147483647 := by simpa [inB] using c3
 obtain ⟨r, ⟨K1, h1⟩, ⟨K2, h2⟩⟩ := slot_both a ha.1 ha.2 l m q q hq 3 2 0 (.inr (.inr ⟨rfl, rfl, rfl⟩))
 simp only at h1 h2
 cases r with
 | false =>
  refine ⟨false, ev_now (K1 + K2) 1 (fun k hk => ?_), ev_now (K1 + K2) 1 (fun k hk => ?_)⟩
  ·simp only [spec_WheelOk.f, spec_l1In_eq, Option.bind_some]
   rw [if_pos c1, if_pos c2, if_pos c3, h1 _ (by omega), Option.bind_some]
   exact sj k
  ·simp only [impl_WheelOk.f, impl_within_eq, Option.bind_some]
   rw [if_pos c3, if_pos c1, if_pos c2, h2 _ (by omega), Option.bind_some]
   exact ij k
 | true =>
  have hS : ∀ r, Ev (fun k => spec_WheelOk.l0 k ((0 : Nat) : Int) a l m q) r → Ev (fun k => spec_WheelOk.f k a l m q) r := fun r => ev_step (K1 + K2) 1 (fun k hk => by
   simp only [spec_WheelOk.f, spec_l1In_eq, Option.bind_some]
   rw [if_pos c1, if_pos c2, if_pos c3, h1 _ (by omega), Option.bind_some]
   simp only [spec_WheelOk.j0]
   rw [if_neg (by simp)]
   rfl)
  have hI : ∀ r, Ev (fun k => impl_WheelOk.l0 k ((0 : Nat) : Int) a l m q) r → Ev (fun k => impl_WheelOk.f k a l m q) r := fun r => ev_step (K1 + K2) 1 (fun k hk => by
   simp only [impl_WheelOk.f, impl_within_eq, Option.bind_some]
   rw [if_pos c3, if_pos c1, if_pos c2, h2 _ (by omega), Option.bind_some]
   simp only [impl_WheelOk.j0]
   rw [if_neg (by simp)]
   rfl)
  obtain ⟨r, e1, e2⟩ := ids_both (timersV l m q) (by rw [timersV_len]; omega)
  obtain ⟨r, e1, e2⟩ := loop_ev (L := fun k i => spec_WheelOk.l0 k (i : Int) a l m q) (L' := fun k i => impl_WheelOk.l0 k (i : Int) a l m q) (n := 8)
   ⟨r, ev_step 2097155 1 (fun k hk => by
    simp only [spec_WheelOk.l0]
    rw [if_neg (by omega), spec_Timers_at a l m q hl.1 hm.1 ht k (by omega), Option.bind_some]) e1, ev_step 2097155 1 (fun k hk => by
    simp only [impl_WheelOk.l0]
    rw [if_neg (by omega), impl_Timers_at a l m q hl.1 hm.1 ht k (by omega), Option.bind_some]) e2⟩
   (fun i hi => by
    have hil : i < l.length := by omega
    have him : i < m.length := by omega
    obtain ⟨r1, ⟨A1, a1⟩, ⟨A2, a2⟩⟩ := slot_both a ha.1 ha.2 l m q l[i] (hl.2 _ (List.getElem_mem hil)) 1 0 (i : Int) (.inl ⟨rfl, rfl⟩)
    obtain ⟨r2, ⟨B1, b1⟩, ⟨B2, b2⟩⟩ := slot_both a ha.1 ha.2 l m q m[i] (hm.2 _ (List.getElem_mem him)) 2 1 (i : Int) (.inr (.inl ⟨rfl, rfl⟩))
    simp only at a1 a2 b1 b2
    have sL : ∀ k, A1 + B1 ≤ k → spec_WheelOk.l0 (k + 1) (i : Int) a l m q = if r1 = true then (if r2 = true then spec_WheelOk.l0 k ((i : Int) + 1) a l m q else some false) else some false := by
     intro k hk
     simp only [spec_WheelOk.l0]
     rw [if_pos (by omega), if_pos (nn_cast i), if_pos (lt_cast hil), rdLIT _ _ hil, a1 k (by omega), Option.bind_some, if_pos (lt_cast him), rdLIT _ _ him, b1 k (by omega), Option.bind_some, wrap_nat1 hil (by omega)]
    have iL : ∀ k, A2 + B2 ≤ k → impl_WheelOk.l0 (k + 1) (i : Int) a l m q = if r1 = true then (if r2 = true then impl_WheelOk.l0 k ((i : Int) + 1) a l m q else some false) else some false := by
     intro k hk
     simp only [impl_WheelOk.l0]
     rw [if_pos (by omega), if_pos (nn_cast i), if_pos (lt_cast hil), rdLIT _ _ hil, a2 k (by omega), Option.bind_some, if_pos (lt_cast him), rdLIT _ _ him, b2 k (by omega), Option.bind_some, wrap_nat1 hil (by omega)]
    cases r1 with
    | false => exact .inl ⟨false, ev_now _ 1 (fun k hk => by rw [sL k hk, if_neg (by decide)]), ev_now _ 1 (fun k hk => by rw [iL k hk, if_neg (by decide)])⟩
    | true =>
     cases r2 with
     | false => exact .inl ⟨false, ev_now _ 1 (fun k hk => by rw [sL k hk, if_pos rfl, if_neg (by decide)]), ev_now _ 1 (fun k hk => by rw [iL k hk, if_pos rfl, if_neg (by decide)])⟩
     | true =>
      refine .inr ?_
      rw [cast1]
      exact ⟨fun r => ev_step _ 1 (fun k hk => by rw [sL k hk, if_pos rfl, if_pos rfl]), fun r => ev_step _ 1 (fun k hk => by rw [iL k hk, if_pos rfl, if_pos rfl])⟩) 8 0 (by omega)
  exact ⟨r, hS r e1, hI r e2⟩

def inSlot (a q s : Int) (t : S46) : Prop := 1 ≤ t.f0 ∧ (1 ≤ t.f1 ∧ t.f1 ≤ 999) ∧ (a + 1 ≤ t.f2 ∧ t.f2 ≤ 2147483647) ∧ (if t.f2 / 8 = a / 8 then q = 1 ∧ s = t.f2 % 8 else if t.f2 / 8 - a / 8 < 8 then q = 2 ∧ s = t.f2 / 8 % 8 else q = 3 ∧ s = 0)
theorem slot_val (a : Int) (ha : 0 ≤ a) (ha2 : a ≤ 2147483647) (w1 w2 : List (List S46)) (w3 : List S46) (l : List S46) (hl : l.length ≤ 1048576) (q s : Int) :
  ∃ r, Ev (fun k => spec_l8Slot.f k a w1 w2 w3 l q s) r ∧ (r = true ↔ ∀ t ∈ l, inSlot a q s t) := by
 have h : ∀ d i, i + d = l.length → ∃ r, Ev (fun k => spec_l8Slot.l0 k l q s (i : Int) a w1 w2 w3) r ∧ (r = true ↔ ∀ t ∈ l.drop i, inSlot a q s t) := by
  intro d
  induction d with
  | zero =>
   intro i hd
   obtain rfl : i = l.length := by omega
   refine ⟨true, ev_now 0 1 (fun k _ => ?_), by simp⟩
   simp only [spec_l8Slot.l0]
   rw [if_neg (not_lt_cast _)]
  | succ d ih =>
   intro i hd
   have hi : i < l.length := by omega
   obtain ⟨r, hr, hr2⟩ := ih (i + 1) (by omega)
   have hw : wrap64 (a + 1) = a + 1 := wrap_of (by omega) (by omega)
   have hS : ∀ k, spec_l8Slot.l0 (k + 2) l q s (i : Int) a w1 w2 w3 = (if l[i].f0 < 1 then some false else if inB l[i].f1 1 999 = true then (if inB l[i].f2 (a + 1) 2147483647 = true then ((spec_l8Place.f a l[i].f2).bind fun b => if b.1 = q then (if b.2 = s then spec_l8Slot.l0 k l q s ((i : Int) + 1) a w1 w2 w3 else some false) else some false) else some false) else some false) := by
    intro k
    simp only [spec_l8Slot.l0, spec_l8Slot.j1, spec_l1In_eq, Option.bind_some]
    rw [if_pos (lt_cast hi), if_pos (nn_cast i), rdIT _ _ hi, hw, wrap_nat1 hi (by omega)]
    cases inB l[i].f1 1 999 <;> cases inB l[i].f2 (a + 1) 2147483647 <;> simp
   have bad : ∀ (hs : ∀ k, spec_l8Slot.l0 (k + 2) l q s (i : Int) a w1 w2 w3 = some false) (hn : ¬ inSlot a q s l[i]), ∃ r, Ev (fun k => spec_l8Slot.l0 k l q s (i : Int) a w1 w2 w3) r ∧ (r = true ↔ ∀ t ∈ l.drop i, inSlot a q s t) := by
    intro hs hn
    refine ⟨false, ev_now 0 2 (fun k _ => hs k), ⟨fun h => absurd h (by simp), fun h => absurd (h l[i] ?_) hn⟩⟩
    rw [List.drop_eq_getElem_cons hi]
    exact List.mem_cons_self
   by_cases h1 : l[i].f0 < 1
   ·exact bad (fun k => by rw [hS, if_pos h1]) (fun h => by have := h.1; omega)
   by_cases h2 : inB l[i].f1 1 999 = true
   case neg => exact bad (fun k => by rw [hS, if_neg h1, if_neg h2]) (fun h => h2 (by simp [inB]; have := h.2.1; omega))
   by_cases h3 : inB l[i].f2 (a + 1) 2147483647 = true
   case neg => exact bad (fun k => by rw [hS, if_neg h1, if_pos h2, if_neg h3]) (fun h => h3 (by simp [inB]; have := h.2.2.1; omega))
   have h2' : 1 ≤ l[i].f1 ∧ l[i].f1 ≤ 999 := by simpa [inB] using h2
   have h3' : a + 1 ≤ l[i].f2 ∧ l[i].f2 ≤ 2147483647 := by simpa [inB] using h3
   have d1 : Int.tdiv l[i].f2 8 = l[i].f2 / 8 := Int.tdiv_eq_ediv_of_nonneg (by omega)
   have d2 : Int.tdiv a 8 = a / 8 := Int.tdiv_eq_ediv_of_nonneg ha
   have d3 : Int.tmod l[i].f2 8 = l[i].f2 % 8 := Int.tmod_eq_emod_of_nonneg (by omega)
   have d4 : Int.tmod (l[i].f2 / 8) 8 = l[i].f2 / 8 % 8 := Int.tmod_eq_emod_of_nonneg (by omega)
   have u1 : wrap64 (l[i].f2 / 8) = l[i].f2 / 8 := wrap_of (by omega) (by omega)
   have u2 : wrap64 (a / 8) = a / 8 := wrap_of (by omega) (by omega)
   have u3 : wrap64 (l[i].f2 / 8 - a / 8) = l[i].f2 / 8 - a / 8 := wrap_of (by omega) (by omega)
   have hP : spec_l8Place.f a l[i].f2 = if l[i].f2 / 8 = a / 8 then some (1, l[i].f2 % 8) else if l[i].f2 / 8 - a / 8 < 8 then some (2, l[i].f2 / 8 % 8) else some (3, 0) := by
    unfold spec_l8Place.f
    rw [d1, d2, u1, u2, u3, d3, d4]
   obtain ⟨b, hb⟩ : ∃ b : Int × Int, b = if l[i].f2 / 8 = a / 8 then (1, l[i].f2 % 8) else if l[i].f2 / 8 - a / 8 < 8 then (2, l[i].f2 / 8 % 8) else (3, 0) := ⟨_, rfl⟩
   have hP2 : spec_l8Place.f a l[i].f2 = some b := by
    rw [hP, hb]
    by_cases c1 : l[i].f2 / 8 = a / 8
    ·rw [if_pos c1, if_pos c1]
    ·rw [if_neg c1, if_neg c1]
     by_cases c2 : l[i].f2 / 8 - a / 8 < 8
     ·rw [if_pos c2, if_pos c2]
     ·rw [if_neg c2, if_neg c2]
   have hin : inSlot a q s l[i] ↔ b.1 = q ∧ b.2 = s := by
    unfold inSlot
    rw [hb]
    by_cases c1 : l[i].f2 / 8 = a / 8
    ·rw [if_pos c1, if_pos c1]
     exact ⟨fun h => ⟨h.2.2.2.1.symm, h.2.2.2.2.symm⟩, fun h => ⟨by omega, h2', h3', h.1.symm, h.2.symm⟩⟩
    ·rw [if_neg c1, if_neg c1]
     by_cases c2 : l[i].f2 / 8 - a / 8 < 8
     ·rw [if_pos c2, if_pos c2]
      exact ⟨fun h => ⟨h.2.2.2.1.symm, h.2.2.2.2.symm⟩, fun h => ⟨by omega, h2', h3', h.1.symm, h.2.symm⟩⟩
     ·rw [if_neg c2, if_neg c2]
      exact ⟨fun h => ⟨h.2.2.2.1.symm, h.2.2.2.2.symm⟩, fun h => ⟨by omega, h2', h3', h.1.symm, h.2.symm⟩⟩
   have hS2 : ∀ k, spec_l8Slot.l0 (k + 2) l q s (i : Int) a w1 w2 w3 = if b.1 = q then (if b.2 = s then spec_l8Slot.l0 k l q s ((i : Int) + 1) a w1 w2 w3 else some false) else some false := by
    intro k
    rw [hS, if_neg h1, if_pos h2, if_pos h3, hP2, Option.bind_some]
   by_cases c1 : b.1 = q
   case neg => exact bad (fun k => by rw [hS2, if_neg c1]) (fun h => c1 (hin.1 h).1)
   by_cases c2 : b.2 = s
   case neg => exact bad (fun k => by rw [hS2, if_pos c1, if_neg c2]) (fun h => c2 (hin.1 h).2)
   refine ⟨r, ev_step 0 2 (fun k _ => by rw [hS2, if_pos c1, if_pos c2, cast1]) hr, ?_⟩
   rw [hr2, List.drop_eq_getElem_cons hi]
   refine ⟨fun h t ht => ?_, fun h t ht => h t (List.mem_cons_of_mem _ ht)⟩
   rcases List.mem_cons.1 ht with rfl | ht
   ·exact hin.2 ⟨c1, c2⟩
   ·exact h t ht
 have := h l.length 0 (by omega)
 rw [List.drop_zero] at this
 exact this
def dupT (T : List S46) (i : Nat) (hi : i < T.length) : Prop := ∃ m, ∃ hm : m < T.length, 0 ≤ m ∧ m < i ∧ T[m].f0 = T[i].f0
theorem ids_val (T : List S46) (hT : T.length ≤ 1048576) : ∃ r, Ev (fun k => spec_WheelOk.l1 k T 0) r ∧ (r = true ↔ (∀ j (hj : j < T.length), ¬ dupT T j hj) ∧ T.length ≤ 16) := by
 have h : ∀ d i, i + d = T.length → ∃ r, Ev (fun k => spec_WheelOk.l1 k T (i : Int)) r ∧ (r = true ↔ (∀ j (hj : j < T.length), i ≤ j → ¬ dupT T j hj) ∧ T.length ≤ 16) := by
  intro d
  induction d with
  | zero =>
   intro i hd
   obtain rfl : i = T.length := by omega
   refine ⟨decide ((T.length : Int) ≤ 16), ev_now 0 1 (fun k _ => ?_), ?_⟩
   ·simp only [spec_WheelOk.l1]
    rw [if_neg (not_lt_cast _)]
   ·rw [decide_eq_true_iff]
    exact ⟨fun h => ⟨fun j hj hj2 => absurd hj (by omega), by omega⟩, fun h => by have := h.2; omega⟩
  | succ d ih =>
   intro i hd
   have hi : i < T.length := by omega
   obtain ⟨r, hr, hr2⟩ := ih (i + 1) (by omega)
   obtain ⟨s1, s2⟩ := spec_ids T hT i hi i 0 (by omega)
   have hS : ∀ r, Ev (fun k => spec_WheelOk.l2 k T (i : Int) ((0 : Nat) : Int)) r → Ev (fun k => spec_WheelOk.l1 k T (i : Int)) r := fun r => ev_step 0 1 (fun k _ => by
    simp only [spec_WheelOk.l1]
    rw [if_pos (lt_cast hi)]
    rfl)
   by_cases hd : dupT T i hi
   ·exact ⟨false, hS _ (s1 hd), fun h => absurd h (by simp), fun h => absurd hd (h.1 i hi (Nat.le_refl _))⟩
   ·refine ⟨r, hS _ (s2 hd r hr), ?_⟩
    rw [hr2]
    refine ⟨fun h => ⟨fun j hj hij => ?_, h.2⟩, fun h => ⟨fun j hj hij => h.1 j hj (by omega), h.2⟩⟩
    rcases Nat.lt_or_ge i j with h3 | h3
    ·exact h.1 j hj h3
    ·obtain rfl : j = i := by omega
     exact hd
 obtain ⟨r, hr, hr2⟩ := h T.length 0 (by omega)
 exact ⟨r, hr, by rw [hr2]; exact ⟨fun h => ⟨fun j hj => h.1 j hj (Nat.zero_le _), h.2⟩, fun h => ⟨fun j hj _ => h.1 j hj, h.2⟩⟩⟩
structure OkW (a : Int) (l m : List (List S46)) (q : List S46) : Prop where
 hl : l.length = 8
 hm : m.length = 8
 h0 : 0 ≤ a
 h1 : a ≤ 2147483647
 rest : ∀ t ∈ q, inSlot a 3 0 t
 near : ∀ j, j < 8 → ∀ t ∈ l.getD j [], inSlot a 1 (j : Int) t
 far : ∀ j, j < 8 → ∀ t ∈ m.getD j [], inSlot a 2 (j : Int) t
 ids : ∀ j (hj : j < (timersV l m q).length), ¬ dupT (timersV l m q) j hj
 few : (timersV l m q).length ≤ 16
theorem ev_one {α : Type} {g : Nat → Option α} {r r' : α} (h : Ev g r) (h' : Ev g r') : r = r' := by
 obtain ⟨K, hK⟩ := h
 obtain ⟨K', hK'⟩ := h'
 have e1 := hK (K + K') (by omega)
 have e2 := hK' (K + K') (by omega)
 rw [e1] at e2
 exact Option.some.inj e2
theorem wheelOk_val (a : Int) (l m : List (List S46)) (q : List S46) (hl : l.length ≤ 1048576 ∧ ∀ x ∈ l, x.length ≤ 1048576) (hm : m.length ≤ 1048576 ∧ ∀ x ∈ m, x.length ≤ 1048576) (hq : q.length ≤ 1048576) (ht : l.flatten.length + m.flatten.length + q.length ≤ 1048576) :
  ∃ r, Ev (fun k => spec_WheelOk.f k a l m q) r ∧ Ev (fun k => impl_WheelOk.f k a l m q) r ∧ (r = true ↔ OkW a l m q) := by
 suffices H : ∃ r, Ev (fun k => spec_WheelOk.f k a l m q) r ∧ (r = true ↔ OkW a l m q) by
  obtain ⟨r, h1, h2⟩ := H
  obtain ⟨r', e1, e2⟩ := wheelOk_both a l m q hl hm hq ht
  obtain rfl := ev_one h1 e1
  exact ⟨r, h1, e2, h2⟩
 have sj : ∀ k, spec_WheelOk.j0 (k + 1) true a l m q = some false := by
  intro k
  simp only [spec_WheelOk.j0, if_true]
 by_cases c1 : (l.length : Int) = 8
 case neg =>
  refine ⟨false, ev_now 0 1 (fun k _ => ?_), fun h => absurd h (by simp), fun h => absurd h.hl (by omega)⟩
  simp only [spec_WheelOk.f]
  rw [if_neg c1, sj]
 by_cases c2 : (m.length : Int) = 8
 case neg =>
  refine ⟨false, ev_now 0 1 (fun k _ => ?_), fun h => absurd h (by simp), fun h => absurd h.hm (by omega)⟩
  simp only [spec_WheelOk.f]
  rw [if_pos c1, if_neg c2, sj]
 by_cases c3 : inB a 0 2147483647 = true
 case neg =>
  refine ⟨false, ev_now 0 1 (fun k _ => ?_), fun h => absurd h (by simp), fun h => absurd (show inB a 0 2147483647 = true by have := h.h0; have := h.h1; simp [inB]; omega) c3⟩
  simp only [spec_WheelOk.f, spec_l1In_eq, Option.bind_some]
  rw [if_pos c1, if_pos c2, if_neg c3, sj]
 have ha : 0 ≤ a ∧ a ≤ 2147483647 := by simpa [inB] using c3
 obtain ⟨r, ⟨K1, h1⟩, h2⟩ := slot_val a ha.1 ha.2 l m q q hq 3 0
 simp only at h1
 cases r with
 | false =>
  refine ⟨false, ev_now K1 1 (fun k hk => ?_), fun h => absurd h (by simp), fun h => absurd (h2.2 h.rest) (by simp)⟩
  simp only [spec_WheelOk.f, spec_l1In_eq, Option.bind_some]
  rw [if_pos c1, if_pos c2, if_pos c3, h1 _ (by omega), Option.bind_some]
  exact sj k
 | true =>
  have hR := h2.1 rfl
  have hS : ∀ r, Ev (fun k => spec_WheelOk.l0 k ((0 : Nat) : Int) a l m q) r → Ev (fun k => spec_WheelOk.f k a l m q) r := fun r => ev_step K1 1 (fun k hk => by
   simp only [spec_WheelOk.f, spec_l1In_eq, Option.bind_some]
   rw [if_pos c1, if_pos c2, if_pos c3, h1 _ (by omega), Option.bind_some]
   simp only [spec_WheelOk.j0]
   rw [if_neg (by simp)]
   rfl)
  obtain ⟨r, e1, e2⟩ := ids_val (timersV l m q) (by rw [timersV_len]; omega)
  have h : ∀ d i : Nat, i + d = 8 → ∃ r, Ev (fun k => spec_WheelOk.l0 k (i : Int) a l m q) r ∧ (r = true ↔ (∀ j, i ≤ j → j < 8 → (∀ t ∈ l.getD j [], inSlot a 1 (j : Int) t) ∧ ∀ t ∈ m.getD j [], inSlot a 2 (j : Int) t) ∧ (∀ j (hj : j < (timersV l m q).length), ¬ dupT (timersV l m q) j hj) ∧ (timersV l m q).length ≤ 16) := by
   intro d
   induction d with
   | zero =>
    intro i hi
    obtain rfl : i = 8 := by omega
    refine ⟨r, ev_step 2097155 1 (fun k hk => by
     simp only [spec_WheelOk.l0]
     rw [if_neg (by omega), spec_Timers_at a l m q hl.1 hm.1 ht k (by omega), Option.bind_some]) e1, ?_⟩
    rw [e2]
    exact ⟨fun h => ⟨fun j h1 h2 => absurd h1 (by omega), h⟩, fun h => h.2⟩
   | succ d ih =>
    intro i hi
    have hil : i < l.length := by omega
    have him : i < m.length := by omega
    obtain ⟨r0, i1, i2⟩ := ih (i + 1) (by omega)
    obtain ⟨r1, ⟨A1, a1⟩, a2⟩ := slot_val a ha.1 ha.2 l m q l[i] (hl.2 _ (List.getElem_mem hil)) 1 (i : Int)
    obtain ⟨r2, ⟨B1, b1⟩, b2⟩ := slot_val a ha.1 ha.2 l m q m[i] (hm.2 _ (List.getElem_mem him)) 2 (i : Int)
    simp only at a1 b1
    have g1 : l.getD i [] = l[i] := by simp [List.getD_eq_getElem?_getD, hil]
    have g2 : m.getD i [] = m[i] := by simp [List.getD_eq_getElem?_getD, him]
    have sL : ∀ k, A1 + B1 ≤ k → spec_WheelOk.l0 (k + 1) (i : Int) a l m q = if r1 = true then (if r2 = true then spec_WheelOk.l0 k ((i : Int) + 1) a l m q else some false) else some false := by
     intro k hk
     simp only [spec_WheelOk.l0]
     rw [if_pos (by omega), if_pos (nn_cast i), if_pos (lt_cast hil), rdLIT _ _ hil, a1 k (by omega), Option.bind_some, if_pos (lt_cast him), rdLIT _ _ him, b1 k (by omega), Option.bind_some, wrap_nat1 hil (by omega)]
    cases r1 with
    | false => exact ⟨false, ev_now _ 1 (fun k hk => by rw [sL k hk, if_neg (by decide)]), fun h => absurd h (by simp), fun h => absurd (a2.2 (g1 ▸ (h.1 i (Nat.le_refl _) (by omega)).1)) (by simp)⟩
    | true =>
     cases r2 with
     | false => exact ⟨false, ev_now _ 1 (fun k hk => by rw [sL k hk, if_pos rfl, if_neg (by decide)]), fun h => absurd h (by simp), fun h => absurd (b2.2 (g2 ▸ (h.1 i (Nat.le_refl _) (by omega)).2)) (by simp)⟩
     | true =>
      refine ⟨r0, ev_step _ 1 (fun k hk => by rw [sL k hk, if_pos rfl, if_pos rfl, cast1]) i1, ?_⟩
      rw [i2]
      refine ⟨fun h => ⟨fun j h3 h4 => ?_, h.2⟩, fun h => ⟨fun j h3 h4 => h.1 j (by omega) h4, h.2⟩⟩
      rcases Nat.lt_or_ge i j with h5 | h5
      ·exact h.1 j h5 h4
      ·obtain rfl : j = i := by omega
       rw [g1, g2]
       exact ⟨a2.1 rfl, b2.1 rfl⟩
  obtain ⟨r, q1, q2⟩ := h 8 0 rfl
  refine ⟨r, hS r q1, ?_⟩
  rw [q2]
  exact ⟨fun h => ⟨by omega, by omega, ha.1, ha.2, hR, fun j hj => (h.1 j (Nat.zero_le _) hj).1, fun j hj => (h.1 j (Nat.zero_le _) hj).2, h.2.1, h.2.2⟩, fun h => ⟨fun j _ hj => ⟨h.near j hj, h.far j hj⟩, h.ids, h.few⟩⟩

theorem set_perm (l : List (List S46)) (i : Nat) (hi : i < l.length) (x : List S46) : ((l.set i x).flatten ++ l.getD i []).Perm (l.flatten ++ x) := by
 have g1 : l.getD i [] = l[i] := by simp [List.getD_eq_getElem?_getD, hi]
 have e1 : l.flatten = (l.take i).flatten ++ (l[i] ++ (l.drop (i + 1)).flatten) := by
  have h : l = l.take i ++ (l[i] :: l.drop (i + 1)) := by rw [← List.drop_eq_getElem_cons hi, List.take_append_drop]
  have h2 := congrArg List.flatten h
  rwa [List.flatten_append, List.flatten_cons] at h2
 have e2 : (l.set i x).flatten = (l.take i).flatten ++ (x ++ (l.drop (i + 1)).flatten) := by
  rw [List.set_eq_take_append_cons_drop, if_pos hi, List.flatten_append, List.flatten_cons]
 rw [g1, e2, e1]
 simp only [List.append_assoc]
 refine List.Perm.append_left _ ?_
 generalize l[i] = y
 generalize (l.drop (i + 1)).flatten = z
 refine (List.perm_append_comm).trans ?_
 rw [List.append_assoc, ← List.append_assoc, ← List.append_assoc]
 exact (List.perm_append_comm).append_right _
theorem set_nil_perm (l : List (List S46)) (i : Nat) (hi : i < l.length) : ((l.set i []).flatten ++ l.getD i []).Perm l.flatten := by
 have := set_perm l i hi []
 rwa [List.append_nil] at this
theorem set_add_perm (l : List (List S46)) (i : Nat) (hi : i < l.length) (t : S46) : (l.set i (l.getD i [] ++ [t])).flatten.Perm (l.flatten ++ [t]) := by
 have h := set_perm l i hi (l.getD i [] ++ [t])
 refine (List.perm_append_right_iff (l.getD i [])).1 (h.trans ?_)
 rw [List.append_assoc]
 exact List.Perm.append_left _ List.perm_append_comm
theorem lay_perm (n : Int) (t : S46) (l1 l2 : List (List S46)) (l3 : List S46) (h1 : l1.length = 8) (h2 : l2.length = 8) :
  (timersV (layV n t l1 l2 l3).1 (layV n t l1 l2 l3).2.1 (layV n t l1 l2 l3).2.2).Perm (timersV l1 l2 l3 ++ [t]) ∧ (layV n t l1 l2 l3).1.length = 8 ∧ (layV n t l1 l2 l3).2.1.length = 8 := by
 unfold layV timersV
 have b1 : (t.f2 % 8).toNat < l1.length := by omega
 have b2 : (t.f2 / 8 % 8).toNat < l2.length := by omega
 by_cases c1 : t.f2 / 8 - n / 8 = 0
 ·rw [if_pos c1]
  refine ⟨?_, by rw [List.length_set]; exact h1, h2⟩
  have h := set_add_perm l1 _ b1 t
  simp only
  refine ((h.append_right _).append_right _).trans ?_
  simp only [List.append_assoc]
  refine List.Perm.append_left _ ?_
  exact (List.perm_append_comm).trans (by simp only [List.append_assoc]; exact List.Perm.refl _)
 ·rw [if_neg c1]
  by_cases c2 : t.f2 / 8 - n / 8 < 8
  ·rw [if_pos c2]
   refine ⟨?_, h1, by rw [List.length_set]; exact h2⟩
   have h := set_add_perm l2 _ b2 t
   simp only
   refine ((h.append_left _).append_right _).trans ?_
   simp only [List.append_assoc]
   refine List.Perm.append_left _ (List.Perm.append_left _ ?_)
   exact List.perm_append_comm
  ·rw [if_neg c2]
   refine ⟨?_, h1, h2⟩
   simp only [List.append_assoc]
   exact List.Perm.refl _
theorem all_le (l : List (List S46)) (h : l.flatten.length ≤ 1000000) : (l.all fun x => decide (x.length ≤ 1000000)) = true := by
 rw [List.all_eq_true]
 intro x hx
 have := row_le l x hx
 exact decide_eq_true (by omega)
theorem layOk_at (n : Int) (t : S46) (l1 l2 : List (List S46)) (l3 : List S46) (n0 : 0 ≤ n) (n1 : n ≤ 2147483647) (t0 : 0 ≤ t.f2) (t1 : t.f2 ≤ 2147483647) (h1 : l1.length = 8) (h2 : l2.length = 8) (h3 : (timersV l1 l2 l3).length ≤ 1000) : layOk n t l1 l2 l3 = true := by
 rw [timersV_len] at h3
 simp only [layOk, Bool.and_eq_true, decide_eq_true_eq]
 exact ⟨⟨⟨⟨⟨⟨⟨⟨n0, n1⟩, t0⟩, t1⟩, h1⟩, h2⟩, all_le l1 (by omega)⟩, all_le l2 (by omega)⟩, by omega⟩

theorem ids_nodup (T : List S46) : (∀ j (hj : j < T.length), ¬ dupT T j hj) ↔ (T.map fun t => t.f0).Nodup := by
 rw [List.nodup_iff_pairwise_ne, List.pairwise_iff_getElem]
 simp only [List.length_map, List.getElem_map]
 constructor
 ·exact fun h i j hi hj hij e => h j hj ⟨i, hi, Nat.zero_le _, hij, e⟩
 ·rintro h j hj ⟨m, hm, _, hmj, e⟩
  exact h m j hm hj hmj e
theorem nodup_of (T T' d : List S46) (p : (T' ++ d).Perm T) (h : ∀ j (hj : j < T.length), ¬ dupT T j hj) : ∀ j (hj : j < T'.length), ¬ dupT T' j hj := by
 rw [ids_nodup] at h ⊢
 have h2 := ((p.map fun t => t.f0).nodup_iff).2 h
 rw [List.map_append] at h2
 exact (List.nodup_append.1 h2).1
theorem slot_mem (l : List (List S46)) (t : S46) (h : t ∈ l.flatten) : ∃ j, j < l.length ∧ t ∈ l.getD j [] := by
 obtain ⟨x, hx, ht⟩ := List.mem_flatten.1 h
 obtain ⟨j, hj, rfl⟩ := List.mem_iff_getElem.1 hx
 exact ⟨j, hj, by rw [List.getD_eq_getElem?_getD, List.getElem?_eq_getElem hj]; exact ht⟩
theorem OkW.all {a : Int} {l m : List (List S46)} {q : List S46} (h : OkW a l m q) : ∀ t ∈ timersV l m q, 1 ≤ t.f0 ∧ (1 ≤ t.f1 ∧ t.f1 ≤ 999) ∧ a + 1 ≤ t.f2 ∧ t.f2 ≤ 2147483647 := by
 intro t ht
 unfold timersV at ht
 rcases List.mem_append.1 ht with ht | ht
 ·rcases List.mem_append.1 ht with ht | ht
  ·obtain ⟨j, hj, h1⟩ := slot_mem l t ht
   have g := h.near j (by have := h.hl; omega) t h1
   exact ⟨g.1, g.2.1, g.2.2.1⟩
  ·obtain ⟨j, hj, h1⟩ := slot_mem m t ht
   have g := h.far j (by have := h.hm; omega) t h1
   exact ⟨g.1, g.2.1, g.2.2.1⟩
 ·have g := h.rest t ht
  exact ⟨g.1, g.2.1, g.2.2.1⟩
theorem OkW.sz {a : Int} {l m : List (List S46)} {q : List S46} (h : OkW a l m q) : SZ l m q := by
 have h1 := h.hl
 have h2 := h.hm
 have h3 := h.few
 rw [timersV_len] at h3
 exact ⟨by omega, by omega, by omega⟩

def moveV (n : Int) : List S46 → List (List S46) → List (List S46) → List S46 → List S46 → List (List S46) × List (List S46) × List S46 × List S46
 | [], m1, m2, m3, d => (m1, m2, m3, d)
 | t :: r, m1, m2, m3, d => if t.f2 = n then moveV n r m1 m2 m3 (d ++ [t]) else moveV n r (layV n t m1 m2 m3).1 (layV n t m1 m2 m3).2.1 (layV n t m1 m2 m3).2.2 d
theorem move_val (n : Int) (n0 : 0 ≤ n) (n1 : n ≤ 2147483647) : ∀ (r : List S46) (m1 m2 : List (List S46)) (m3 d : List S46), m1.length = 8 → m2.length = 8 → (∀ t ∈ r, n ≤ t.f2 ∧ t.f2 ≤ 2147483647) → (timersV m1 m2 m3).length + d.length + r.length ≤ 1000 →
  moveF n r m1 m2 m3 d = some (moveV n r m1 m2 m3 d) ∧ (timersV (moveV n r m1 m2 m3 d).1 (moveV n r m1 m2 m3 d).2.1 (moveV n r m1 m2 m3 d).2.2.1 ++ (moveV n r m1 m2 m3 d).2.2.2).Perm (timersV m1 m2 m3 ++ d ++ r) ∧ (moveV n r m1 m2 m3 d).1.length = 8 ∧ (moveV n r m1 m2 m3 d).2.1.length = 8 := by
 intro r
 induction r with
 | nil =>
  intro m1 m2 m3 d h1 h2 _ _
  exact ⟨rfl, by rw [List.append_nil]; exact List.Perm.refl _, h1, h2⟩
 | cons t r ih =>
  intro m1 m2 m3 d h1 h2 h3 h4
  obtain ⟨t0, t1⟩ := h3 t List.mem_cons_self
  rw [List.length_cons] at h4
  have h5 : ∀ t ∈ r, n ≤ t.f2 ∧ t.f2 ≤ 2147483647 := fun x hx => h3 x (List.mem_cons_of_mem _ hx)
  by_cases c : t.f2 = n
  ·obtain ⟨i1, i2, i3, i4⟩ := ih m1 m2 m3 (d ++ [t]) h1 h2 h5 (by rw [List.length_append, List.length_singleton]; omega)
   have e : moveV n (t :: r) m1 m2 m3 d = moveV n r m1 m2 m3 (d ++ [t]) := by rw [moveV, if_pos c]
   rw [e]
   refine ⟨?_, ?_, i3, i4⟩
   ·rw [moveF, if_pos t0, if_pos c, if_pos (by omega)]
    exact i1
   ·refine i2.trans ?_
    simp only [List.append_assoc]
    exact List.Perm.refl _
  ·obtain ⟨p1, p2, p3⟩ := lay_perm n t m1 m2 m3 h1 h2
   have hlen := p1.length_eq
   rw [List.length_append, List.length_singleton] at hlen
   obtain ⟨i1, i2, i3, i4⟩ := ih _ _ (layV n t m1 m2 m3).2.2 d p2 p3 h5 (by omega)
   have e : moveV n (t :: r) m1 m2 m3 d = moveV n r (layV n t m1 m2 m3).1 (layV n t m1 m2 m3).2.1 (layV n t m1 m2 m3).2.2 d := by rw [moveV, if_neg c]
   rw [e]
   refine ⟨?_, ?_, i3, i4⟩
   ·rw [moveF, if_pos t0, if_neg c, if_pos (layOk_at n t m1 m2 m3 n0 n1 (by omega) t1 h1 h2 (by omega))]
    exact i1
   ·refine i2.trans ?_
    refine ((p1.append_right d).append_right r).trans ?_
    simp only [List.append_assoc]
    refine List.Perm.append_left _ ?_
    refine (List.perm_append_comm).trans ?_
    simp only [List.append_assoc]
    refine List.Perm.append_left _ ?_
    exact List.perm_append_comm
def tickV (a : Int) (l m : List (List S46)) (q : List S46) : Int × List (List S46) × List (List S46) × List S46 × List S46 :=
 if (a + 1) % 8 = 0 then (a + 1, moveV (a + 1) (m.getD ((a + 1) / 8 % 8).toNat [] ++ q) (l.set ((a + 1) % 8).toNat []) (m.set ((a + 1) / 8 % 8).toNat []) [] (l.getD ((a + 1) % 8).toNat []))
 else (a + 1, l.set ((a + 1) % 8).toNat [], m, q, l.getD ((a + 1) % 8).toNat [])
theorem tickF_val (a : Int) (l m : List (List S46)) (q : List S46) (h : OkW a l m q) (ha : a < 2147483647) :
  tickF a l m q = some (tickV a l m q) ∧ (timersV (tickV a l m q).2.1 (tickV a l m q).2.2.1 (tickV a l m q).2.2.2.1 ++ (tickV a l m q).2.2.2.2).Perm (timersV l m q) ∧ (tickV a l m q).2.1.length = 8 ∧ (tickV a l m q).2.2.1.length = 8 ∧ (tickV a l m q).1 = a + 1 := by
 have hl := h.hl
 have hm := h.hm
 have h0 := h.h0
 have few := h.few
 have few2 := few
 rw [timersV_len] at few2
 have ok : tickOk a l m q = true := by
  simp only [tickOk, Bool.and_eq_true, decide_eq_true_eq]
  exact ⟨⟨⟨⟨⟨⟨h0, ha⟩, hl⟩, hm⟩, all_le l (by omega)⟩, all_le m (by omega)⟩, by omega⟩
 have b1 : ((a + 1) % 8).toNat < l.length := by omega
 have b2 : ((a + 1) / 8 % 8).toNat < m.length := by omega
 have p1 := set_nil_perm l _ b1
 have p2 := set_nil_perm m _ b2
 unfold tickF tickV
 rw [if_pos ok]
 by_cases c : (a + 1) % 8 = 0
 ·rw [if_pos c, if_pos c]
  generalize hX : l.getD ((a + 1) % 8).toNat [] = X at *
  generalize hY : m.getD ((a + 1) / 8 % 8).toNat [] = Y at *
  have hr : ∀ t ∈ Y ++ q, a + 1 ≤ t.f2 ∧ t.f2 ≤ 2147483647 := by
   intro t ht
   rcases List.mem_append.1 ht with ht | ht
   ·rw [← hY] at ht
    exact (h.far _ (by omega) t ht).2.2.1
   ·exact (h.rest t ht).2.2.1
  have L1 := p1.length_eq
  have L2 := p2.length_eq
  rw [List.length_append] at L1 L2
  obtain ⟨i1, i2, i3, i4⟩ := move_val (a + 1) (by omega) (by omega) (Y ++ q) (l.set ((a + 1) % 8).toNat []) (m.set ((a + 1) / 8 % 8).toNat []) [] X (by rw [List.length_set]; exact hl) (by rw [List.length_set]; exact hm) hr (by
   rw [timersV_len, List.length_append, List.length_nil]
   omega)
  rw [i1, Option.bind_some]
  refine ⟨rfl, ?_, i3, i4, rfl⟩
  refine i2.trans ?_
  unfold timersV
  rw [List.append_nil]
  generalize (l.set ((a + 1) % 8).toNat []).flatten = A at *
  generalize (m.set ((a + 1) / 8 % 8).toNat []).flatten = B at *
  refine List.Perm.trans ?_ ((p1.append p2).append_right q)
  simp only [List.append_assoc]
  refine List.Perm.append_left _ ?_
  rw [← List.append_assoc B X, ← List.append_assoc X B]
  exact (List.perm_append_comm).append_right _
 ·rw [if_neg c, if_neg c]
  refine ⟨rfl, ?_, by rw [List.length_set]; exact hl, hm, rfl⟩
  unfold timersV
  generalize l.getD ((a + 1) % 8).toNat [] = X at *
  generalize (l.set ((a + 1) % 8).toNat []).flatten = A at *
  refine List.Perm.trans ?_ ((p1.append_right m.flatten).append_right q)
  simp only [List.append_assoc]
  refine List.Perm.append_left _ ?_
  refine (List.Perm.trans (by rw [List.append_assoc]) (List.perm_append_comm (l₁ := m.flatten ++ q) (l₂ := X)))
theorem tick_val (a : Int) (l m : List (List S46)) (q : List S46) (hz : SZ l m q) :
  ∃ R : Int × List (List S46) × List (List S46) × List S46 × List S46, Ev (fun k => spec_TickOn.f k a l m q) R ∧ Ev (fun k => impl_TickOn.f k a l m q) R ∧ ((¬ (OkW a l m q ∧ a < 2147483647) ∧ R = (a, l, m, q, [])) ∨ (OkW a l m q ∧ a < 2147483647 ∧ R = tickV a l m q)) := by
 obtain ⟨r1, r2, r3⟩ := hz.rows
 obtain ⟨r, ⟨K1, e1⟩, ⟨K2, e2⟩, hr⟩ := wheelOk_val a l m q ⟨hz.1, r1⟩ ⟨hz.2.1, r2⟩ r3 hz.2.2
 simp only at e1 e2
 have hs : ∀ R, (if r = true then (if a = 2147483647 then some (a, l, m, q, []) else tickF a l m q) else some (a, l, m, q, [])) = some R → Ev (fun k => spec_TickOn.f k a l m q) R ∧ Ev (fun k => impl_TickOn.f k a l m q) R := by
  intro R hR
  refine ⟨⟨K1 + 1048577, fun k hk => ?_⟩, ⟨K2 + 1048577, fun k hk => ?_⟩⟩
  ·simp only [spec_TickOn.f, l8Copy_at a l m q hz k (by omega), e1 k (by omega), Option.bind_some, if_true]
   exact hR
  ·simp only [impl_TickOn.f, copyWheel_at a l m q hz k (by omega), e2 k (by omega), Option.bind_some, if_true]
   exact hR
 cases r with
 | false =>
  obtain ⟨s1, s2⟩ := hs (a, l, m, q, []) (by rw [if_neg (by simp)])
  exact ⟨_, s1, s2, .inl ⟨fun h => absurd (hr.2 h.1) (by simp), rfl⟩⟩
 | true =>
  have ho := hr.1 rfl
  by_cases c : a = 2147483647
  ·obtain ⟨s1, s2⟩ := hs (a, l, m, q, []) (by rw [if_pos rfl, if_pos c])
   exact ⟨_, s1, s2, .inl ⟨fun h => absurd h.2 (by omega), rfl⟩⟩
  ·have ha : a < 2147483647 := by have := ho.h1; omega
   obtain ⟨s1, s2⟩ := hs _ (by rw [if_pos rfl, if_neg c]; exact (tickF_val a l m q ho ha).1)
   exact ⟨_, s1, s2, .inr ⟨ho, ha, rfl⟩⟩
theorem tick_sz (a : Int) (l m : List (List S46)) (q : List S46) (R : Int × List (List S46) × List (List S46) × List S46 × List S46) (hz : SZ l m q) (h : (¬ (OkW a l m q ∧ a < 2147483647) ∧ R = (a, l, m, q, [])) ∨ (OkW a l m q ∧ a < 2147483647 ∧ R = tickV a l m q)) : SZ R.2.1 R.2.2.1 R.2.2.2.1 ∧ R.2.2.2.2.length ≤ 16 := by
 rcases h with ⟨_, rfl⟩ | ⟨ho, ha, rfl⟩
 ·exact ⟨hz, by simp⟩
 ·obtain ⟨_, p, h1, h2, _⟩ := tickF_val a l m q ho ha
  have e := p.length_eq
  rw [List.length_append, timersV_len] at e
  have := ho.few
  exact ⟨⟨by omega, by omega, by omega⟩, by omega⟩

theorem getD_set (l : List (List S46)) (i j : Nat) (x : List S46) : (l.set i x).getD j [] = if i = j ∧ i < l.length then x else l.getD j [] := by
 rw [List.getD_eq_getElem?_getD, List.getElem?_set]
 by_cases c : i = j
 ·subst c
  rw [if_pos rfl]
  by_cases c2 : i < l.length
  ·rw [if_pos c2, if_pos ⟨rfl, c2⟩]
   rfl
  ·rw [if_neg c2, if_neg (fun h => c2 h.2), List.getD_eq_getElem?_getD, List.getElem?_eq_none (by omega)]
 ·rw [if_neg c, if_neg (fun h => c h.1), ← List.getD_eq_getElem?_getD]
def SlotsOk (n : Int) (l1 l2 : List (List S46)) (l3 : List S46) : Prop :=
 (l1.length = 8 ∧ l2.length = 8) ∧ (∀ t ∈ l3, inSlot n 3 0 t) ∧ (∀ j, j < 8 → ∀ t ∈ l1.getD j [], inSlot n 1 (j : Int) t) ∧ (∀ j, j < 8 → ∀ t ∈ l2.getD j [], inSlot n 2 (j : Int) t)
def fineT (n : Int) (t : S46) : Prop := 1 ≤ t.f0 ∧ (1 ≤ t.f1 ∧ t.f1 ≤ 999) ∧ (n ≤ t.f2 ∧ t.f2 ≤ 2147483647)
theorem inSlot_1 {n s : Int} {t : S46} (h : fineT (n + 1) t) (h1 : t.f2 / 8 = n / 8) (h2 : s = t.f2 % 8) : inSlot n 1 s t := by
 refine ⟨h.1, h.2.1, h.2.2, ?_⟩
 rw [if_pos h1]
 exact ⟨rfl, h2⟩
theorem inSlot_2 {n s : Int} {t : S46} (h : fineT (n + 1) t) (h1 : t.f2 / 8 ≠ n / 8) (h3 : t.f2 / 8 - n / 8 < 8) (h2 : s = t.f2 / 8 % 8) : inSlot n 2 s t := by
 refine ⟨h.1, h.2.1, h.2.2, ?_⟩
 rw [if_neg h1, if_pos h3]
 exact ⟨rfl, h2⟩
theorem inSlot_3 {n : Int} {t : S46} (h : fineT (n + 1) t) (h3 : 8 ≤ t.f2 / 8 - n / 8) : inSlot n 3 0 t := by
 refine ⟨h.1, h.2.1, h.2.2, ?_⟩
 rw [if_neg (by omega), if_neg (by omega)]
 exact ⟨rfl, rfl⟩
theorem inSlot_at {n q s : Int} {t : S46} (h : inSlot n q s t) : fineT (n + 1) t ∧ ((q = 1 ∧ t.f2 / 8 = n / 8 ∧ s = t.f2 % 8) ∨ (q = 2 ∧ t.f2 / 8 ≠ n / 8 ∧ t.f2 / 8 - n / 8 < 8 ∧ s = t.f2 / 8 % 8) ∨ (q = 3 ∧ 8 ≤ t.f2 / 8 - n / 8 ∧ s = 0)) := by
 obtain ⟨h1, h2, h3, h4⟩ := h
 refine ⟨⟨h1, h2, h3⟩, ?_⟩
 by_cases c : t.f2 / 8 = n / 8
 ·rw [if_pos c] at h4
  exact .inl ⟨h4.1, c, h4.2⟩
 ·rw [if_neg c] at h4
  by_cases c2 : t.f2 / 8 - n / 8 < 8
  ·rw [if_pos c2] at h4
   exact .inr (.inl ⟨h4.1, c, c2, h4.2⟩)
  ·rw [if_neg c2] at h4
   exact .inr (.inr ⟨h4.1, by omega, h4.2⟩)
theorem lay_slots (n : Int) (t : S46) (l1 l2 : List (List S46)) (l3 : List S46) (h : SlotsOk n l1 l2 l3) (ht : fineT (n + 1) t) : SlotsOk n (layV n t l1 l2 l3).1 (layV n t l1 l2 l3).2.1 (layV n t l1 l2 l3).2.2 := by
 obtain ⟨⟨h1, h2⟩, h3, h4, h5⟩ := h
 have hf := ht.2.2
 unfold layV
 by_cases c1 : t.f2 / 8 - n / 8 = 0
 ·rw [if_pos c1]
  refine ⟨⟨by rw [List.length_set]; exact h1, h2⟩, h3, fun j hj x hx => ?_, h5⟩
  simp only at hx
  rw [getD_set] at hx
  by_cases c : (t.f2 % 8).toNat = j ∧ (t.f2 % 8).toNat < l1.length
  ·rw [if_pos c] at hx
   obtain ⟨c, _⟩ := c
   rcases List.mem_append.1 hx with hx | hx
   ·rw [c] at hx
    exact h4 j hj x hx
   ·rw [List.mem_singleton] at hx
    subst hx
    exact inSlot_1 ht (by omega) (by omega)
  ·rw [if_neg c] at hx
   exact h4 j hj x hx
 ·rw [if_neg c1]
  by_cases c2 : t.f2 / 8 - n / 8 < 8
  ·rw [if_pos c2]
   refine ⟨⟨h1, by rw [List.length_set]; exact h2⟩, h3, h4, fun j hj x hx => ?_⟩
   simp only at hx
   rw [getD_set] at hx
   by_cases c : (t.f2 / 8 % 8).toNat = j ∧ (t.f2 / 8 % 8).toNat < l2.length
   ·rw [if_pos c] at hx
    obtain ⟨c, _⟩ := c
    rcases List.mem_append.1 hx with hx | hx
    ·rw [c] at hx
     exact h5 j hj x hx
    ·rw [List.mem_singleton] at hx
     subst hx
     exact inSlot_2 ht (by omega) c2 (by omega)
   ·rw [if_neg c] at hx
    exact h5 j hj x hx
  ·rw [if_neg c2]
   refine ⟨⟨h1, h2⟩, fun x hx => ?_, h4, h5⟩
   rcases List.mem_append.1 hx with hx | hx
   ·exact h3 x hx
   ·rw [List.mem_singleton] at hx
    subst hx
    exact inSlot_3 ht (by omega)
theorem move_slots (n : Int) : ∀ (r : List S46) (m1 m2 : List (List S46)) (m3 d : List S46), SlotsOk n m1 m2 m3 → (∀ t ∈ r, fineT n t) → (∀ t ∈ d, t.f2 = n) →
  SlotsOk n (moveV n r m1 m2 m3 d).1 (moveV n r m1 m2 m3 d).2.1 (moveV n r m1 m2 m3 d).2.2.1 ∧ ∀ t ∈ (moveV n r m1 m2 m3 d).2.2.2, t.f2 = n := by
 intro r
 induction r with
 | nil => exact fun m1 m2 m3 d h _ hd => ⟨h, hd⟩
 | cons t r ih =>
  intro m1 m2 m3 d h hr hd
  have ht := hr t List.mem_cons_self
  have hr2 : ∀ x ∈ r, fineT n x := fun x hx => hr x (List.mem_cons_of_mem _ hx)
  by_cases c : t.f2 = n
  ·rw [moveV, if_pos c]
   refine ih m1 m2 m3 _ h hr2 (fun x hx => ?_)
   rcases List.mem_append.1 hx with hx | hx
   ·exact hd x hx
   ·rw [List.mem_singleton] at hx
    rw [hx]
    exact c
  ·rw [moveV, if_neg c]
   exact ih _ _ _ d (lay_slots n t m1 m2 m3 h ⟨ht.1, ht.2.1, by have := ht.2.2; omega⟩) hr2 hd
theorem tick_slots (a : Int) (l m : List (List S46)) (q : List S46) (h : OkW a l m q) : SlotsOk (a + 1) (tickV a l m q).2.1 (tickV a l m q).2.2.1 (tickV a l m q).2.2.2.1 ∧ ∀ t ∈ (tickV a l m q).2.2.2.2, t.f2 = a + 1 := by
 have hl := h.hl
 have hm := h.hm
 have h0 := h.h0
 unfold tickV
 by_cases c : (a + 1) % 8 = 0
 ·rw [if_pos c]
  have noNear : ∀ j, j < 8 → ∀ t ∈ l.getD j [], False := by
   intro j hj t ht
   obtain ⟨f, g⟩ := inSlot_at (h.near j hj t ht)
   have := f.2.2
   omega
  refine move_slots (a + 1) _ _ _ _ _ ⟨⟨by rw [List.length_set]; exact hl, by rw [List.length_set]; exact hm⟩, fun t ht => by simp at ht, fun j hj t ht => ?_, fun j hj t ht => ?_⟩ (fun t ht => ?_) (fun t ht => (noNear _ (by omega) t ht).elim)
  ·rw [getD_set] at ht
   by_cases c2 : ((a + 1) % 8).toNat = j ∧ ((a + 1) % 8).toNat < l.length
   ·rw [if_pos c2] at ht
    simp at ht
   ·rw [if_neg c2] at ht
    exact (noNear j hj t ht).elim
  ·rw [getD_set] at ht
   by_cases c2 : ((a + 1) / 8 % 8).toNat = j ∧ ((a + 1) / 8 % 8).toNat < m.length
   ·rw [if_pos c2] at ht
    simp at ht
   ·rw [if_neg c2] at ht
    obtain ⟨f, g⟩ := inSlot_at (h.far j hj t ht)
    have f2 := f.2.2
    have c3 : ((a + 1) / 8 % 8).toNat ≠ j := fun e => c2 ⟨e, by omega⟩
    exact inSlot_2 ⟨f.1, f.2.1, by omega⟩ (by omega) (by omega) (by omega)
  ·rcases List.mem_append.1 ht with ht | ht
   ·exact (inSlot_at (h.far _ (by omega) t ht)).1
   ·exact (inSlot_at (h.rest t ht)).1
 ·rw [if_neg c]
  refine ⟨⟨⟨by rw [List.length_set]; exact hl, hm⟩, fun t ht => ?_, fun j hj t ht => ?_, fun j hj t ht => ?_⟩, fun t ht => ?_⟩
  ·obtain ⟨f, g⟩ := inSlot_at (h.rest t ht)
   have := f.2.2
   exact inSlot_3 ⟨f.1, f.2.1, by omega⟩ (by omega)
  ·simp only at ht
   rw [getD_set] at ht
   by_cases c2 : ((a + 1) % 8).toNat = j ∧ ((a + 1) % 8).toNat < l.length
   ·rw [if_pos c2] at ht
    simp at ht
   ·rw [if_neg c2] at ht
    obtain ⟨f, g⟩ := inSlot_at (h.near j hj t ht)
    have f2 := f.2.2
    have c3 : ((a + 1) % 8).toNat ≠ j := fun e => c2 ⟨e, by omega⟩
    exact inSlot_1 ⟨f.1, f.2.1, by omega⟩ (by omega) (by omega)
  ·obtain ⟨f, g⟩ := inSlot_at (h.far j hj t ht)
   have f2 := f.2.2
   exact inSlot_2 ⟨f.1, f.2.1, by omega⟩ (by omega) (by omega) (by omega)
  ·obtain ⟨f, g⟩ := inSlot_at (h.near _ (by omega) t ht)
   have f2 := f.2.2
   omega
theorem OkW.of {a : Int} {l m : List (List S46)} {q : List S46} (h : SlotsOk a l m q) (h0 : 0 ≤ a) (h1 : a ≤ 2147483647) (hi : ∀ j (hj : j < (timersV l m q).length), ¬ dupT (timersV l m q) j hj) (hf : (timersV l m q).length ≤ 16) : OkW a l m q :=
 ⟨h.1.1, h.1.2, h0, h1, h.2.1, h.2.2.1, h.2.2.2, hi, hf⟩
theorem tick_ok (a : Int) (l m : List (List S46)) (q : List S46) (h : OkW a l m q) (ha : a < 2147483647) : OkW (tickV a l m q).1 (tickV a l m q).2.1 (tickV a l m q).2.2.1 (tickV a l m q).2.2.2.1 ∧ ∀ t ∈ (tickV a l m q).2.2.2.2, t.f2 = a + 1 := by
 obtain ⟨h1, h2⟩ := tick_slots a l m q h
 obtain ⟨_, p, _, _, e⟩ := tickF_val a l m q h ha
 have h0 := h.h0
 have hf := h.few
 have hlen := p.length_eq
 rw [List.length_append] at hlen
 refine ⟨?_, h2⟩
 rw [e]
 exact OkW.of h1 (by omega) (by omega) (nodup_of _ _ _ p h.ids) (by omega)

theorem lay_szs (a : Int) (t : S46) (l m : List (List S46)) (q : List S46) (h : OkW a l m q) : SZ (layV a t l m q).1 (layV a t l m q).2.1 (layV a t l m q).2.2 := by
 obtain ⟨p, h1, h2⟩ := lay_perm a t l m q h.hl h.hm
 have e := p.length_eq
 have := h.few
 rw [List.length_append, List.length_singleton, timersV_len] at e
 exact ⟨by omega, by omega, by omega⟩
theorem put_vals (a : Int) (l m : List (List S46)) (q : List S46) (x0 x1 x2 : Int) (hz : SZ l m q) :
    ∃ R : Int × List (List S46) × List (List S46) × List S46 × Bool, Ev (fun k => spec_Put.f k a l m q x0 x1 x2) R ∧
      ((¬ (OkW a l m q ∧ (a < x2 ∧ x2 ≤ 2147483647) ∧ OkW a (layV a ⟨x0, x1, x2⟩ l m q).1 (layV a ⟨x0, x1, x2⟩ l m q).2.1 (layV a ⟨x0, x1, x2⟩ l m q).2.2) ∧ R = (a, l, m, q, false)) ∨
       ((OkW a l m q ∧ (a < x2 ∧ x2 ≤ 2147483647) ∧ OkW a (layV a ⟨x0, x1, x2⟩ l m q).1 (layV a ⟨x0, x1, x2⟩ l m q).2.1 (layV a ⟨x0, x1, x2⟩ l m q).2.2) ∧ R = (a, (layV a ⟨x0, x1, x2⟩ l m q).1, (layV a ⟨x0, x1, x2⟩ l m q).2.1, (layV a ⟨x0, x1, x2⟩ l m q).2.2, true))) := by
  obtain ⟨r1, r2, r3⟩ := hz.rows
  obtain ⟨r, ⟨K1, e1⟩, _, hr⟩ := wheelOk_val a l m q ⟨hz.1, r1⟩ ⟨hz.2.1, r2⟩ r3 hz.2.2
  simp only at e1
  cases r with
  | false =>
    refine ⟨(a, l, m, q, false), ⟨K1 + 1048577, fun k hk => ?_⟩, .inl ⟨fun h => absurd (hr.2 h.1) (by simp), rfl⟩⟩
    show spec_Put.f k a l m q x0 x1 x2 = _
    rw [spec_Put.f, l8Copy_at a l m q hz k (by omega), Option.bind_some, if_pos rfl, e1 k (by omega), Option.bind_some, if_neg (by simp)]
  | true =>
    have ho := hr.1 rfl
    have h0 := ho.h0
    have h1 := ho.h1
    by_cases c : a < x2 ∧ x2 ≤ 2147483647
    case neg =>
      refine ⟨(a, l, m, q, false), ⟨K1 + 1048577, fun k hk => ?_⟩, .inl ⟨fun h => c h.2.1, rfl⟩⟩
      show spec_Put.f k a l m q x0 x1 x2 = _
      rw [spec_Put.f, l8Copy_at a l m q hz k (by omega), Option.bind_some, if_pos rfl, e1 k (by omega), Option.bind_some, if_pos rfl]
      by_cases c1 : x2 ≤ a
      · rw [if_pos c1]
      · rw [if_neg c1, if_pos (by omega)]
    have ok := layOk_at a ⟨x0, x1, x2⟩ l m q h0 h1 (show 0 ≤ x2 by omega) c.2 ho.hl ho.hm (by have := ho.few; omega)
    have hz2 := lay_szs a ⟨x0, x1, x2⟩ l m q ho
    obtain ⟨s1, s2, s3⟩ := hz2.rows
    obtain ⟨r', ⟨K3, e3⟩, _, hr'⟩ := wheelOk_val a _ _ _ ⟨hz2.1, s1⟩ ⟨hz2.2.1, s2⟩ s3 hz2.2.2
    simp only at e3
    have hs : ∀ R, (if r' = true then some (a, (layV a ⟨x0, x1, x2⟩ l m q).1, (layV a ⟨x0, x1, x2⟩ l m q).2.1, (layV a ⟨x0, x1, x2⟩ l m q).2.2, true) else some (a, l, m, q, false)) = some R → Ev (fun k => spec_Put.f k a l m q x0 x1 x2) R := by
      intro R hR
      refine ⟨K1 + K3 + 1048577, fun k hk => ?_⟩
      show spec_Put.f k a l m q x0 x1 x2 = _
      rw [spec_Put.f, l8Copy_at a l m q hz k (by omega), Option.bind_some, if_pos rfl, e1 k (by omega), Option.bind_some, if_pos rfl, if_neg (by omega), if_neg (by omega), if_pos ok, e3 k (by omega), Option.bind_some]
      exact hR
    cases r' with
    | false => exact ⟨_, hs _ (by rw [if_neg (by simp)]), .inl ⟨fun h => absurd (hr'.2 h.2.2) (by simp), rfl⟩⟩
    | true => exact ⟨_, hs _ (by rw [if_pos rfl]), .inr ⟨⟨ho, c, hr'.1 rfl⟩, rfl⟩⟩

theorem band_range (x : Int) (m : Nat) (hm : m < 9223372036854775808) : 0 ≤ Go.bits .and .i64 x (m : Int) ∧ Go.bits .and .i64 x (m : Int) ≤ m := by
 have e1 : (BitVec.ofInt 64 (m : Int)).toNat = m := by
  rw [BitVec.ofInt_natCast, BitVec.toNat_ofNat]
  exact Nat.mod_eq_of_lt (by omega)
 have e2 : Go.bits .and .i64 x (m : Int) = IntKind.i64.wrap ((BitVec.ofInt 64 x &&& BitVec.ofInt 64 (m : Int)).toNat : Int) := rfl
 have h : (BitVec.ofInt 64 x).toNat &&& m ≤ m := Nat.and_le_right
 rw [e2, BitVec.toNat_and, e1, IntKind.wrap_i64]
 omega
def RdOk (s : List Int) (i : Int) : Prop := 0 ≤ i ∧ i ≤ s.length ∧ s.length ≤ 140737488351232
theorem l1Byte_ex (s : List Int) (i h : Int) (H : RdOk s i) : ∃ b j h', spec_l1Byte.f s i h = some (b, j, h') ∧ 0 ≤ b ∧ b ≤ 255 ∧ RdOk s j := by
 obtain ⟨h0, h1, h2⟩ := H
 unfold spec_l1Byte.f
 by_cases hc : i < (s.length : Int)
 ·rw [if_pos hc, if_pos h0]
  refine ⟨_, _, _, rfl, (band_range _ 255 (by omega)).1, (band_range _ 255 (by omega)).2, ?_⟩
  rw [wrap_of (by omega) (by omega)]
  exact ⟨by omega, by omega, h2⟩
 ·rw [if_neg hc]
  exact ⟨_, _, _, rfl, (band_range _ 255 (by omega)).1, (band_range _ 255 (by omega)).2, h0, h1, h2⟩
theorem l1Below_ex (s : List Int) (i h n : Int) (H : RdOk s i) : ∃ v j h', spec_l1Below.f s i h n = some (v, j, h') ∧ 0 ≤ v ∧ (0 < n → v < n) ∧ (n ≤ 0 → v = 0) ∧ RdOk s j := by
 unfold spec_l1Below.f
 by_cases h1 : n ≤ 0
 ·rw [if_pos h1]
  exact ⟨0, i, h, rfl, by omega, fun _ => by omega, fun _ => rfl, H⟩
 ·rw [if_neg h1]
  by_cases h2 : n ≤ 256
  ·rw [if_pos h2]
   obtain ⟨b, j, h', e, b0, b1, H1⟩ := l1Byte_ex s i h H
   rw [e, Option.bind_some, if_neg (by omega), Int.tmod_eq_emod_of_nonneg b0]
   exact ⟨_, _, _, rfl, Int.emod_nonneg _ (by omega), fun _ => Int.emod_lt_of_pos _ (by omega), fun _ => by omega, H1⟩
  ·rw [if_neg h2]
   obtain ⟨b, j, h', e, b0, b1, H1⟩ := l1Byte_ex s i h H
   obtain ⟨b', j', h'', e', b0', b1', H2⟩ := l1Byte_ex s j h' H1
   obtain ⟨b'', j'', h3, e'', b0'', b1'', H3⟩ := l1Byte_ex s j' h'' H2
   simp only [e, e', e'', Option.bind_some]
   have w1 : wrap64 (b * 65536) = b * 65536 := wrap_of (by omega) (by omega)
   have w2 : wrap64 (b' * 256) = b' * 256 := wrap_of (by omega) (by omega)
   have w3 : wrap64 (b * 65536 + b' * 256) = b * 65536 + b' * 256 := wrap_of (by omega) (by omega)
   have w4 : wrap64 (b * 65536 + b' * 256 + b'') = b * 65536 + b' * 256 + b'' := wrap_of (by omega) (by omega)
   rw [if_neg (by omega), w1, w2, w3, w4, Int.tmod_eq_emod_of_nonneg (by omega)]
   exact ⟨_, _, _, rfl, Int.emod_nonneg _ (by omega), fun _ => Int.emod_lt_of_pos _ (by omega), fun _ => by omega, H3⟩
theorem l1New_ex (l : List Int) (hl : l.length ≤ 140737488351232) : ∃ h, Ev (fun k => spec_l1New.f k l) (l, 0, h) := by
 obtain ⟨r, ⟨h, rfl⟩, hr⟩ := loop_ex (σ := Int) (L := fun k s i => spec_l1New.l0 k l s i) (n := l.length) (K := 0)
  (I := fun _ _ => True) (Post := fun _ _ r => ∃ h, r = (l, 0, h))
  (fun s _ => ⟨_, ⟨s, rfl⟩, fun k => by
   simp only [spec_l1New.l0]
   rw [if_neg (not_lt_cast _)]⟩)
  (fun s i hi _ => by
   by_cases h4 : (i : Int) < 4000
   ·refine .inr ⟨Go.bits .and .i64 (wrap64 ((wrap64 ((wrap64 (s * 137)) + (wrap64 (rd l (i : Int))))) + 11)) 1073741823, trivial, fun k _ => ?_, fun _ h => h⟩
    simp only [spec_l1New.l0]
    rw [if_pos (lt_cast hi), if_pos h4, if_pos (nn_cast i), wrap_nat1 hi (by omega)]
   ·refine .inl ⟨_, ⟨s, rfl⟩, fun k _ => ?_⟩
    simp only [spec_l1New.l0]
    rw [if_pos (lt_cast hi), if_neg h4]) l.length (wrap64 (140371 + (l.length : Int))) 0 (by omega) trivial
 exact ⟨h, ev_at (0 + l.length) fun k hk => hr k hk⟩
theorem rdOk_0 (l : List Int) (hl : l.length ≤ 140737488351232) : RdOk l 0 := ⟨by omega, by omega, hl⟩

theorem rd_nat (l : List Int) (i : Nat) (h : i < l.length) : rd l (i : Int) = l[i] := by
 simp [rd, List.getD_eq_getElem?_getD, h]

theorem l1Int_ex (s : List Int) (i h : Int) (l : List Int) (hl : 0 < l.length) (H : RdOk s i) : ∃ v j h', spec_l1Int.f s i h l = some (v, j, h') ∧ v ∈ l ∧ RdOk s j := by
 obtain ⟨v, j, h', e, v0, v1, _, H1⟩ := l1Below_ex s i h (l.length : Int) H
 have hv : v < (l.length : Int) := v1 (by omega)
 obtain ⟨m, rfl⟩ : ∃ m : Nat, v = m := ⟨v.toNat, by omega⟩
 have hm : m < l.length := by omega
 refine ⟨l[m], j, h', ?_, List.getElem_mem hm, H1⟩
 simp only [spec_l1Int.f, e, Option.bind_some]
 rw [if_pos v0, if_pos hv, rd_nat _ _ hm]

theorem wheelNew_at : ∀ k, 8 < k → spec_WheelNew.f k = some (0, List.replicate 8 [], List.replicate 8 [], []) := by
 obtain ⟨r, hr, h⟩ := loop_ex (σ := Unit) (L := fun k _ i => spec_WheelNew.l0 k i 0 (List.replicate i.toNat []) (List.replicate i.toNat [])) (n := 8) (K := 0) (I := fun _ _ => True) (Post := fun _ _ r => r = (0, List.replicate 8 [], List.replicate 8 [], []))
  (fun s _ => ⟨_, rfl, fun k => by
   rw [spec_WheelNew.l0, if_neg (by omega)]
   rfl⟩)
  (fun s i hi _ => .inr ⟨(), trivial, fun k _ => by
   rw [spec_WheelNew.l0, if_pos (by omega), if_pos (by rw [List.length_replicate]; omega), if_pos (by rw [List.length_replicate]; omega), wrap_of (by omega) (by omega), show ((i : Int) + 1).toNat = i + 1 by omega, Int.toNat_natCast, List.replicate_succ', ], fun _ h => h⟩) 8 () 0 (by omega) trivial
 subst hr
 exact fun k hk => h k (by omega)
theorem new_ok (a : Int) (h0 : 0 ≤ a) (h1 : a ≤ 2147483647) : OkW a (List.replicate 8 []) (List.replicate 8 []) [] := by
 have e : ∀ j t, t ∈ (List.replicate 8 ([] : List S46)).getD j [] → False := by
  intro j t ht
  rw [List.getD_eq_getElem?_getD, List.getElem?_replicate] at ht
  by_cases c : j < 8
  ·rw [if_pos c] at ht
   simp at ht
  ·rw [if_neg c] at ht
   simp at ht
 have eT : timersV (List.replicate 8 ([] : List S46)) (List.replicate 8 []) [] = [] := rfl
 exact ⟨rfl, rfl, h0, h1, fun t ht => by simp at ht, fun j _ t ht => (e j t ht).elim, fun j _ t ht => (e j t ht).elim, fun j hj => by rw [eT] at hj; exact absurd hj (by simp), by rw [eT]; simp⟩
theorem timer_ex (s : List Int) (i h a id : Int) (H : RdOk s i) : ∃ t1 t2 j h', spec_l8Timer.f s i h a id = some (id, t1, t2, j, h') ∧ RdOk s j := by
 obtain ⟨v, j, h1, e1, _, _, _, H1⟩ := l1Below_ex s i h 5 H
 obtain ⟨v2, j2, h2, e2, _, H2⟩ := l1Int_ex s j h1 [0, 1, 3, 6, 7, 8, 20, 55, 63, 64, 70, 200] (by decide) H1
 exact ⟨_, _, j2, h2, by simp only [spec_l8Timer.f, e1, e2, Option.bind_some]; rfl, H2⟩
theorem put_keeps (a : Int) (l m : List (List S46)) (q : List S46) (x0 x1 x2 : Int) (h : OkW a l m q) : ∃ l' m' q' b, Ev (fun k => spec_Put.f k a l m q x0 x1 x2) (a, l', m', q', b) ∧ OkW a l' m' q' := by
 obtain ⟨R, s1, hR⟩ := put_vals a l m q x0 x1 x2 h.sz
 rcases hR with ⟨_, rfl⟩ | ⟨hR, rfl⟩
 ·exact ⟨_, _, _, _, s1, h⟩
 ·exact ⟨_, _, _, _, s1, hR.2.2⟩
theorem draw_loop (s : List Int) (a : Int) : ∀ (n : Nat) (i h : Int) (l m : List (List S46)) (q : List S46), n ≤ 1048576 → RdOk s i → OkW a l m q →
  ∃ l' m' q' j h', Ev (fun k => spec_l8Draw.l0 k (n : Int) s i h a l m q) (a, l', m', q', j, h') ∧ OkW a l' m' q' ∧ RdOk s j := by
 intro n
 induction n with
 | zero => exact fun i h l m q _ H ho => ⟨l, m, q, i, h, ⟨1, fun k hk => by
   obtain ⟨k, rfl⟩ : ∃ n, k = n + 1 := ⟨k - 1, by omega⟩
   show spec_l8Draw.l0 (k + 1) ((0 : Nat) : Int) s i h a l m q = _
   rw [spec_l8Draw.l0, if_neg (by omega)]⟩, ho, H⟩
 | succ n ih =>
  intro i h l m q hn H ho
  obtain ⟨t1, t2, j, h1, e1, H1⟩ := timer_ex s i h a ((n + 1 : Nat) : Int) H
  obtain ⟨l', m', q', b, ⟨K1, e2⟩, ho2⟩ := put_keeps a l m q ((n + 1 : Nat) : Int) t1 t2 ho
  obtain ⟨l2, m2, q2, j2, h2, ⟨K2, e3⟩, ho3, H3⟩ := ih j h1 l' m' q' (by omega) H1 ho2
  simp only at e2 e3
  refine ⟨l2, m2, q2, j2, h2, ⟨K1 + K2 + 1, fun k hk => ?_⟩, ho3, H3⟩
  obtain ⟨k, rfl⟩ : ∃ n, k = n + 1 := ⟨k - 1, by omega⟩
  show spec_l8Draw.l0 (k + 1) ((n + 1 : Nat) : Int) s i h a l m q = _
  rw [spec_l8Draw.l0, if_pos (by omega), e1, Option.bind_some]
  dsimp only
  rw [e2 k (by omega), Option.bind_some]
  dsimp only
  rw [wrap_of (by omega) (by omega), show ((n + 1 : Nat) : Int) - 1 = (n : Int) by omega]
  exact e3 k (by omega)
theorem l8Draw_ex (s : List Int) (i h : Int) (H : RdOk s i) : ∃ a l m q j h', Ev (fun k => spec_l8Draw.f k s i h) (a, l, m, q, j, h') ∧ OkW a l m q ∧ a ≤ 1000 ∧ RdOk s j := by
 obtain ⟨a, j, h1, e1, ha, H1⟩ := l1Int_ex s i h [0, 0, 5, 7, 8, 63, 64, 1000] (by decide) H
 have ha2 : 0 ≤ a ∧ a ≤ 1000 := by
  simp only [List.mem_cons, List.not_mem_nil, or_false] at ha
  omega
 obtain ⟨n, j2, h2, e2, n0, n1, _, H2⟩ := l1Below_ex s j h1 7 H1
 have n2 := n1 (by omega)
 obtain ⟨n, rfl⟩ : ∃ m : Nat, n = (m : Int) := ⟨n.toNat, by omega⟩
 obtain ⟨l, m, q, j3, h3, ⟨K, e3⟩, ho, H3⟩ := draw_loop s a n j2 h2 _ _ _ (by omega) H2 (new_ok a ha2.1 (by omega))
 simp only at e3
 refine ⟨a, l, m, q, j3, h3, ⟨K + 9, fun k hk => ?_⟩, ho, ha2.2, H3⟩
 show spec_l8Draw.f k s i h = _
 rw [spec_l8Draw.f, wheelNew_at k (by omega), Option.bind_some, e1, Option.bind_some]
 dsimp only
 rw [e2, Option.bind_some]
 exact e3 k (by omega)
theorem l8Any_ex (s : List Int) (i h : Int) (H : RdOk s i) : ∃ a l m q j h', Ev (fun k => spec_l8Any.f k s i h) (a, l, m, q, j, h') ∧ SZ l m q ∧ RdOk s j := by
 obtain ⟨a, l, m, q, j, h1, ⟨K, e1⟩, ho, _, H1⟩ := l8Draw_ex s i h H
 simp only at e1
 obtain ⟨c, j2, h2, e2, _, _, _, H2⟩ := l1Below_ex s j h1 12 H1
 have hz := ho.sz
 have hl := ho.hl
 have hm := ho.hm
 have few := ho.few
 rw [timersV_len] at few
 have go : ∀ R : Int × List (List S46) × List (List S46) × List S46 × Int × Int, (∀ k, K ≤ k → spec_l8Any.f k s i h = some R) → SZ R.2.1 R.2.2.1 R.2.2.2.1 → RdOk s R.2.2.2.2.1 → ∃ a l m q j h', Ev (fun k => spec_l8Any.f k s i h) (a, l, m, q, j, h') ∧ SZ l m q ∧ RdOk s j :=
  fun R hR h1 h2 => ⟨R.1, R.2.1, R.2.2.1, R.2.2.2.1, R.2.2.2.2.1, R.2.2.2.2.2, ⟨K, hR⟩, h1, h2⟩
 have hs : ∀ k, K ≤ k → ∀ R, _ = some R → spec_l8Any.f k s i h = some R := fun k hk R hR => by
  rw [spec_l8Any.f, e1 k hk, Option.bind_some]
  dsimp only
  rw [e2, Option.bind_some]
  dsimp only
  exact hR
 have one : ∀ (x : List (List S46)) (p : Nat) (t : S46), p < x.length → (x.set p [t]).flatten.length ≤ x.flatten.length + 1 := by
  intro x p t hp
  have := (set_perm x p hp [t]).length_eq
  rw [List.length_append, List.length_append, List.length_singleton] at this
  omega
 by_cases c0 : c = 0
 ·obtain ⟨x, j3, h3, e3, _, H3⟩ := l1Int_ex s j2 h2 [(-1), 1, 8] (by decide) H2
  exact go _ (fun k hk => hs k hk _ (by rw [if_pos c0, e3, Option.bind_some])) hz H3
 by_cases c1 : c = 1
 ·obtain ⟨p, j3, h3, e3, p0, p1, _, H3⟩ := l1Below_ex s j2 h2 8 H2
  have p2 := p1 (by omega)
  obtain ⟨t1, t2, j4, h4, e4, H4⟩ := timer_ex s j3 h3 a 9 H3
  refine go _ (fun k hk => hs k hk _ (by
   rw [if_neg c0, if_pos c1, e3, Option.bind_some]
   dsimp only
   rw [e4, Option.bind_some]
   dsimp only
   rw [if_pos p0, if_pos (by omega)])) ?_ H4
  have := one l p.toNat ⟨9, t1, t2⟩ (by omega)
  exact ⟨by simp only; rw [List.length_set]; omega, by simp only; omega, by simp only; omega⟩
 by_cases c2 : c = 2
 ·obtain ⟨p, j3, h3, e3, p0, p1, _, H3⟩ := l1Below_ex s j2 h2 8 H2
  have p2 := p1 (by omega)
  obtain ⟨t1, t2, j4, h4, e4, H4⟩ := timer_ex s j3 h3 a 9 H3
  refine go _ (fun k hk => hs k hk _ (by
   rw [if_neg c0, if_neg c1, if_pos c2, e3, Option.bind_some]
   dsimp only
   rw [e4, Option.bind_some]
   dsimp only
   rw [if_pos p0, if_pos (by omega)])) ?_ H4
  have := one m p.toNat ⟨9, t1, t2⟩ (by omega)
  exact ⟨by simp only; omega, by simp only; rw [List.length_set]; omega, by simp only; omega⟩
 by_cases c3 : c = 3
 ·obtain ⟨p, j3, h3, e3, _, H3⟩ := l1Int_ex s j2 h2 [0, 1, 9] (by decide) H2
  obtain ⟨t1, t2, j4, h4, e4, H4⟩ := timer_ex s j3 h3 a p H3
  refine go _ (fun k hk => hs k hk _ (by
   rw [if_neg c0, if_neg c1, if_neg c2, if_pos c3, e3, Option.bind_some]
   dsimp only
   rw [e4, Option.bind_some]
   dsimp only
   rw [if_pos (by omega)])) ?_ H4
  exact ⟨by simp only; omega, by simp only; omega, by simp only; rw [List.length_append, List.length_singleton]; omega⟩
 by_cases c4 : c = 4
 ·refine go _ (fun k hk => hs k hk _ (by rw [if_neg c0, if_neg c1, if_neg c2, if_neg c3, if_pos c4, if_pos (by omega)])) ?_ H2
  have := flat_take_le l ((7 : Int)).toNat
  exact ⟨by simp only; rw [List.length_take]; omega, by simp only; omega, by simp only; omega⟩
 ·exact go _ (fun k hk => hs k hk _ (by rw [if_neg c0, if_neg c1, if_neg c2, if_neg c3, if_neg c4])) hz H2

def InvW (a : Int) (l m : List (List S46)) (q d : List S46) : Prop := SZ l m q ∧ d.length ≤ 16 ∧ (OkW a l m q → d.length + (timersV l m q).length ≤ 16)
theorem inv_tick (a : Int) (l m : List (List S46)) (q d : List S46) (R : Int × List (List S46) × List (List S46) × List S46 × List S46) (hi : InvW a l m q d) (h : (¬ (OkW a l m q ∧ a < 2147483647) ∧ R = (a, l, m, q, [])) ∨ (OkW a l m q ∧ a < 2147483647 ∧ R = tickV a l m q)) :
  InvW R.1 R.2.1 R.2.2.1 R.2.2.2.1 (d ++ R.2.2.2.2) ∧ d.length + R.2.2.2.2.length ≤ 16 := by
 obtain ⟨z1, z2⟩ := tick_sz a l m q R hi.1 h
 rcases h with ⟨_, rfl⟩ | ⟨ho, ha, rfl⟩
 ·simp only [List.append_nil, List.length_nil]
  exact ⟨hi, hi.2.1⟩
 ·obtain ⟨_, p, h1, h2, _⟩ := tickF_val a l m q ho ha
  have e := p.length_eq
  rw [List.length_append] at e
  have h3 := hi.2.2 ho
  refine ⟨⟨z1, by rw [List.length_append]; omega, fun _ => by rw [List.length_append]; omega⟩, by omega⟩
theorem adv_l (n : Nat) : ∀ (a : Int) (l m : List (List S46)) (q d : List S46), InvW a l m q d →
  ∃ R : Int × List (List S46) × List (List S46) × List S46 × List S46, Ev (fun k => spec_Advance.l k n a l m q d) R ∧ Ev (fun k => impl_Advance.l k n a l m q d) R ∧ SZ R.2.1 R.2.2.1 R.2.2.2.1 ∧ R.2.2.2.2.length ≤ 16 := by
 induction n with
 | zero => exact fun a l m q d hi => ⟨(a, l, m, q, d), ⟨0, fun k _ => rfl⟩, ⟨0, fun k _ => rfl⟩, hi.1, hi.2.1⟩
 | succ n ih =>
  intro a l m q d hi
  obtain ⟨R, ⟨K1, s1⟩, ⟨K2, s2⟩, hR⟩ := tick_val a l m q hi.1
  obtain ⟨h1, h2⟩ := inv_tick a l m q d R hi hR
  obtain ⟨R', ⟨K3, s3⟩, ⟨K4, s4⟩, hR'⟩ := ih _ _ _ _ _ h1
  simp only at s1 s2 s3 s4
  refine ⟨R', ⟨K1 + K3, fun k hk => ?_⟩, ⟨K2 + K4, fun k hk => ?_⟩, hR'⟩
  ·show spec_Advance.l k (n + 1) a l m q d = _
   rw [spec_Advance.l, s1 k (by omega), Option.bind_some, if_pos (by omega)]
   exact s3 k (by omega)
  ·show impl_Advance.l k (n + 1) a l m q d = _
   rw [impl_Advance.l, s2 k (by omega), Option.bind_some, if_pos (by omega)]
   exact s4 k (by omega)
theorem adv_val (a : Int) (l m : List (List S46)) (q : List S46) (t : Int) (hz : SZ l m q) :
  ∃ R : Int × List (List S46) × List (List S46) × List S46 × List S46, Ev (fun k => spec_Advance.f k a l m q t) R ∧ Ev (fun k => impl_Advance.f k a l m q t) R ∧ SZ R.2.1 R.2.2.1 R.2.2.2.1 ∧ R.2.2.2.2.length ≤ 16 := by
 by_cases c : inB t 0 200 = true
 ·obtain ⟨R, ⟨K1, s1⟩, ⟨K2, s2⟩, hR⟩ := adv_l t.toNat a l m q [] ⟨hz, by simp, fun h => by have := h.few; simp only [List.length_nil]; omega⟩
  simp only at s1 s2
  refine ⟨R, ⟨K1 + 1048577, fun k hk => ?_⟩, ⟨K2 + 1048577, fun k hk => ?_⟩, hR⟩
  ·show spec_Advance.f k a l m q t = _
   rw [spec_Advance.f, l8Copy_at a l m q hz k (by omega), Option.bind_some, if_pos rfl, spec_l1In_eq, Option.bind_some, if_pos c]
   exact s1 k (by omega)
  ·show impl_Advance.f k a l m q t = _
   rw [impl_Advance.f, copyWheel_at a l m q hz k (by omega), Option.bind_some, if_pos rfl, impl_within_eq, Option.bind_some, if_pos c]
   exact s2 k (by omega)
 ·refine ⟨(a, l, m, q, []), ⟨1048577, fun k hk => ?_⟩, ⟨1048577, fun k hk => ?_⟩, hz, by simp⟩
  ·show spec_Advance.f k a l m q t = _
   rw [spec_Advance.f, l8Copy_at a l m q hz k (by omega), Option.bind_some, if_pos rfl, spec_l1In_eq, Option.bind_some, if_neg c]
  ·show impl_Advance.f k a l m q t = _
   rw [impl_Advance.f, copyWheel_at a l m q hz k (by omega), Option.bind_some, if_pos rfl, impl_within_eq, Option.bind_some, if_neg c]

def itV : Nat → Int → List (List S46) → List (List S46) → List S46 → Int × List (List S46) × List (List S46) × List S46
 | 0, a, l, m, q => (a, l, m, q)
 | n + 1, a, l, m, q => itV n (tickV a l m q).1 (tickV a l m q).2.1 (tickV a l m q).2.2.1 (tickV a l m q).2.2.2.1
def duesI : Nat → Int → List (List S46) → List (List S46) → List S46 → List S46
 | 0, _, _, _, _ => []
 | n + 1, a, l, m, q => (tickV a l m q).2.2.2.2 ++ duesI n (tickV a l m q).1 (tickV a l m q).2.1 (tickV a l m q).2.2.1 (tickV a l m q).2.2.2.1
theorem itV_add (j : Nat) : ∀ (i : Nat) (a : Int) (l m : List (List S46)) (q : List S46), itV (i + j) a l m q = itV j (itV i a l m q).1 (itV i a l m q).2.1 (itV i a l m q).2.2.1 (itV i a l m q).2.2.2 := by
 intro i
 induction i with
 | zero => intro a l m q; rw [Nat.zero_add]; rfl
 | succ i ih =>
  intro a l m q
  rw [show i + 1 + j = (i + j) + 1 by omega]
  exact ih _ _ _ _
def srt : Int → List S46 → Prop
 | _, [] => True
 | a, t :: d => a ≤ t.f2 ∧ srt t.f2 d
theorem srt_mono (a b : Int) (h : a ≤ b) : ∀ d : List S46, srt b d → srt a d
 | [], _ => trivial
 | t :: d, hd => ⟨by have := hd.1; omega, hd.2⟩
theorem srt_app (v : Int) (r : List S46) (hr : srt v r) : ∀ (d : List S46) (a : Int), a ≤ v → (∀ t ∈ d, t.f2 = v) → srt a (d ++ r)
 | [], a, ha, _ => srt_mono a v ha r hr
 | t :: d, a, ha, hd => by
  have e := hd t List.mem_cons_self
  refine ⟨by omega, ?_⟩
  rw [e]
  exact srt_app v r hr d v (Int.le_refl _) (fun x hx => hd x (List.mem_cons_of_mem _ hx))
theorem adv_it (n : Nat) : ∀ (a : Int) (l m : List (List S46)) (q : List S46), OkW a l m q → a + n ≤ 2147483647 →
  (OkW (itV n a l m q).1 (itV n a l m q).2.1 (itV n a l m q).2.2.1 (itV n a l m q).2.2.2 ∧ (itV n a l m q).1 = a + n) ∧
  (timersV (itV n a l m q).2.1 (itV n a l m q).2.2.1 (itV n a l m q).2.2.2 ++ duesI n a l m q).Perm (timersV l m q) ∧ (∀ t ∈ duesI n a l m q, t.f2 ≤ a + n) ∧ srt a (duesI n a l m q) ∧
  ∀ d : List S46, d.length + (timersV l m q).length ≤ 16 → Ev (fun k => impl_Advance.l k n a l m q d) ((itV n a l m q).1, (itV n a l m q).2.1, (itV n a l m q).2.2.1, (itV n a l m q).2.2.2, d ++ duesI n a l m q) := by
 induction n with
 | zero =>
  intro a l m q ho _
  have e : itV 0 a l m q = (a, l, m, q) := rfl
  have e2 : duesI 0 a l m q = [] := rfl
  rw [e, e2]
  refine ⟨⟨ho, by simp⟩, by rw [List.append_nil], fun t ht => by simp at ht, trivial, fun d _ => ⟨0, fun k _ => ?_⟩⟩
  rw [List.append_nil]
  rfl
 | succ n ih =>
  intro a l m q ho hn
  have ha : a < 2147483647 := by omega
  obtain ⟨hok, hdue⟩ := tick_ok a l m q ho ha
  obtain ⟨_, p, _, _, ea⟩ := tickF_val a l m q ho ha
  obtain ⟨R, _, ⟨K1, s1⟩, hR⟩ := tick_val a l m q ho.sz
  have hR2 : R = tickV a l m q := by
   rcases hR with ⟨h, _⟩ | ⟨_, _, h⟩
   ·exact absurd ⟨ho, ha⟩ h
   ·exact h
  subst hR2
  obtain ⟨⟨i1, i2⟩, i3, i4, i5, i6⟩ := ih (tickV a l m q).1 (tickV a l m q).2.1 (tickV a l m q).2.2.1 (tickV a l m q).2.2.2.1 hok (by rw [ea]; omega)
  have e : itV (n + 1) a l m q = itV n (tickV a l m q).1 (tickV a l m q).2.1 (tickV a l m q).2.2.1 (tickV a l m q).2.2.2.1 := rfl
  have e2 : duesI (n + 1) a l m q = (tickV a l m q).2.2.2.2 ++ duesI n (tickV a l m q).1 (tickV a l m q).2.1 (tickV a l m q).2.2.1 (tickV a l m q).2.2.2.1 := rfl
  rw [e, e2]
  simp only at s1
  generalize tickV a l m q = T at *
  generalize duesI n T.1 T.2.1 T.2.2.1 T.2.2.2.1 = D at *
  generalize itV n T.1 T.2.1 T.2.2.1 T.2.2.2.1 = W at *
  refine ⟨⟨i1, by rw [i2, ea]; push_cast; omega⟩, ?_, ?_, ?_, ?_⟩
  ·refine List.Perm.trans ?_ ((i3.append_right T.2.2.2.2).trans p)
   rw [List.append_assoc]
   exact List.Perm.append_left _ List.perm_append_comm
  ·intro t ht
   rcases List.mem_append.1 ht with ht | ht
   ·have := hdue t ht
    push_cast
    omega
   ·have := i4 t ht
    rw [ea] at this
    push_cast
    omega
  ·rw [ea] at i5
   exact srt_app (a + 1) D i5 _ a (by omega) hdue
  ·intro d hd
   have hl := p.length_eq
   rw [List.length_append] at hl
   obtain ⟨K2, s2⟩ := i6 (d ++ T.2.2.2.2) (by rw [List.length_append]; omega)
   simp only at s2
   refine ⟨K1 + K2, fun k hk => ?_⟩
   show impl_Advance.l k (n + 1) a l m q d = _
   rw [impl_Advance.l, s1 k (by omega), Option.bind_some, if_pos (by omega), s2 k (by omega), List.append_assoc]
theorem adv_ok (a : Int) (l m : List (List S46)) (q : List S46) (ho : OkW a l m q) (t : Int) (h0 : 0 ≤ t) (h1 : t ≤ 200) (h2 : a + t ≤ 2147483647) :
  Ev (fun k => impl_Advance.f k a l m q t) ((itV t.toNat a l m q).1, (itV t.toNat a l m q).2.1, (itV t.toNat a l m q).2.2.1, (itV t.toNat a l m q).2.2.2, duesI t.toNat a l m q) := by
 obtain ⟨_, _, _, _, g⟩ := adv_it t.toNat a l m q ho (by omega)
 obtain ⟨K, e⟩ := g [] (by have := ho.few; simp only [List.length_nil]; omega)
 simp only at e
 refine ⟨K + 1048577, fun k hk => ?_⟩
 show impl_Advance.f k a l m q t = _
 rw [impl_Advance.f, copyWheel_at a l m q ho.sz k (by omega), Option.bind_some, if_pos rfl, impl_within_eq, Option.bind_some, if_pos (by simp [inB]; omega)]
 have := e k (by omega)
 rw [List.nil_append] at this
 exact this

def duesV (T : List S46) (c : Int) : List Int := (T.filter fun t => decide (t.f2 ≤ c)).map fun t => t.f0
theorem duesV_len (T : List S46) (c : Int) : (duesV T c).length ≤ T.length := by
 unfold duesV
 rw [List.length_map]
 exact List.length_filter_le _ _
theorem duesV_take (T : List S46) (c : Int) (i : Nat) (hi : i < T.length) : duesV (T.take (i + 1)) c = duesV (T.take i) c ++ (if T[i].f2 ≤ c then [T[i].f0] else []) := by
 unfold duesV
 rw [List.take_succ_eq_append_getElem hi, List.filter_append, List.map_append]
 by_cases h : T[i].f2 ≤ c
 ·simp [h]
 ·simp [h]
def sortV (l : List Int) : List Int := l.mergeSort fun x y => decide (x ≤ y)
theorem sortV_perm (l : List Int) : (sortV l).Perm l := List.mergeSort_perm _ _
theorem impl_dueBy_l0 (T : List S46) (hT : T.length ≤ 1048576) (c : Int) : ∀ k, T.length < k → impl_DueBy.l0 k c [] T (T.length : Int) 0 = some (sortV (duesV T c)) := by
 obtain ⟨r, hr, h⟩ := loop_ex (σ := List Int) (L := fun k s i => impl_DueBy.l0 k c s T (T.length : Int) i) (n := T.length) (K := 0)
  (I := fun s i => s = duesV (T.take i) c) (Post := fun _ _ r => r = sortV (duesV T c))
  (fun s hI => ⟨sortV (duesV T c), rfl, fun k => by
   rw [List.take_length] at hI
   have := duesV_len T c
   simp only [impl_DueBy.l0]
   rw [if_neg (not_lt_cast _), hI]
   unfold slices_Sort.f
   rw [if_pos (by omega), Option.bind_some]
   rfl⟩)
  (fun s i hi hI => .inr ⟨duesV (T.take (i + 1)) c, rfl, fun k _ => by
   have h1 := duesV_len (T.take i) c
   rw [List.length_take] at h1
   simp only [impl_DueBy.l0]
   rw [if_pos (lt_cast hi), if_pos (nn_cast i), if_pos (lt_cast hi), rdIT _ _ hi, wrap_nat1 hi (by omega), hI, duesV_take T c i hi]
   by_cases hc : T[i].f2 ≤ c
   ·rw [if_pos hc, if_pos hc, if_pos (by omega)]
   ·rw [if_neg hc, if_neg hc, List.append_nil], fun _ h => h⟩) T.length [] 0 (by omega) (by simp [duesV])
 subst hr
 exact fun k hk => h k (by omega)

theorem at_ex (l : List Int) (hl : l.length ≤ 1048576) (hw : ∀ x ∈ l, (Lit.int .u8 x).wf = true) : ∃ t, laws_at.f l 2 = some t ∧ 0 ≤ t ∧ t ≤ 255 := by
 unfold laws_at.f
 by_cases h : (2 : Int) < (l.length : Int)
 ·rw [if_pos h, if_pos (by omega)]
  have h2 : 2 < l.length := by omega
  have e : rd l 2 = l[2] := rd_nat l 2 h2
  have hx : 0 ≤ l[2] ∧ l[2] ≤ 255 := by
   have := hw l[2] (List.getElem_mem h2)
   simp [Lit.wf, IntKind.min, IntKind.max, IntKind.signed, IntKind.bits] at this
   omega
  rw [e, wrap_of (by omega) (by omega)]
  exact ⟨_, rfl, hx.1, hx.2⟩
 ·rw [if_neg h]
  have w1 : wrap64 (2 * 31) = 62 := wrap_of (by omega) (by omega)
  have w2 : wrap64 ((l.length : Int) * 7) = (l.length : Int) * 7 := wrap_of (by omega) (by omega)
  have w3 : wrap64 (62 + (l.length : Int) * 7) = 62 + (l.length : Int) * 7 := wrap_of (by omega) (by omega)
  rw [w1, w2, w3, Int.tmod_eq_emod_of_nonneg (by omega)]
  exact ⟨_, rfl, Int.emod_nonneg _ (by omega), by omega⟩

theorem dues_val (a : Int) (l m : List (List S46)) (q : List S46) (hz : SZ l m q) (c : Int) :
  Ev (fun k => impl_DueBy.f k a l m q c) (sortV (duesV (timersV l m q) c)) ∧ (sortV (duesV (timersV l m q) c)).length = ((timersV l m q).filter fun t => decide (t.f2 ≤ c)).length := by
 have hT : (timersV l m q).length ≤ 1048576 := by rw [timersV_len]; exact hz.2.2
 have s2 := impl_dueBy_l0 (timersV l m q) hT c
 refine ⟨⟨2097155, fun k hk => ?_⟩, ?_⟩
 ·show impl_DueBy.f k a l m q c = _
  rw [impl_DueBy.f, impl_Timers_at a l m q hz.1 hz.2.1 hz.2.2 k (by omega), Option.bind_some]
  exact s2 k (by omega)
 ·rw [(sortV_perm _).length_eq]
  unfold duesV
  rw [List.length_map]
theorem drawWheel_ex (l : List Int) (hl : l.length ≤ 140737488351232) : ∃ W1 W2 W3 W4 n, Ev (fun k => spec_DrawWheel.f k l) (W1, W2, W3, W4, n) ∧ OkW W1 W2 W3 W4 ∧ W1 ≤ 1000 ∧ 0 ≤ n ∧ n < 100 := by
 obtain ⟨h, K0, e0⟩ := l1New_ex l hl
 obtain ⟨a, x, y, q, j, h1, ⟨K1, e1⟩, ho, ha, H1⟩ := l8Draw_ex l 0 h (rdOk_0 l hl)
 obtain ⟨n, j2, h2, e2, n0, n1, _, _⟩ := l1Below_ex l j h1 100 H1
 simp only at e0 e1
 refine ⟨a, x, y, q, n, ⟨K0 + K1, fun k hk => ?_⟩, ho, ha, n0, n1 (by omega)⟩
 show spec_DrawWheel.f k l = _
 rw [spec_DrawWheel.f, e0 k (by omega), Option.bind_some]
 dsimp only
 rw [e1 k (by omega), Option.bind_some]
 dsimp only
 rw [e2, Option.bind_some]
theorem drawAdv_ex (l : List Int) (hl : l.length ≤ 140737488351232) : ∃ W1 W2 W3 W4 t, Ev (fun k => spec_DrawAdvance.f k l) (W1, W2, W3, W4, t) ∧ SZ W2 W3 W4 := by
 obtain ⟨h, K0, e0⟩ := l1New_ex l hl
 obtain ⟨a, x, y, q, j, h1, ⟨K1, e1⟩, hz, H1⟩ := l8Any_ex l 0 h (rdOk_0 l hl)
 obtain ⟨n, j2, h2, e2, _, _⟩ := l1Int_ex l j h1 [0, 1, 7, 8, 9, 30, 64, 70, 200, 201, (-1)] (by decide) H1
 simp only at e0 e1
 refine ⟨a, x, y, q, n, ⟨K0 + K1, fun k hk => ?_⟩, hz⟩
 show spec_DrawAdvance.f k l = _
 rw [spec_DrawAdvance.f, e0 k (by omega), Option.bind_some]
 dsimp only
 rw [e1 k (by omega), Option.bind_some]
 dsimp only
 rw [e2, Option.bind_some]
theorem dueOk_of (u : List Int) (hi : Int) : ∀ (d : List S46) (a : Int), (∀ t ∈ d, u.contains t.f0 = true ∧ t.f2 ≤ hi) → srt a d → dueOk u hi d a = true
 | [], _, _, _ => rfl
 | t :: d, a, h, hs => by
  obtain ⟨h1, h2⟩ := h t List.mem_cons_self
  rw [dueOk, h1, decide_eq_true hs.1, decide_eq_true h2, dueOk_of u hi d t.f2 (fun x hx => h x (List.mem_cons_of_mem _ hx)) hs.2]
  rfl
theorem FnTimes : ∀ (l0 : (List Int)), ((l0.length ≤ maxLen ∧ ∀ y5 ∈ l0, (Lit.int .u8 y5).wf = true)) → ∃ k, laws_FnTimes.f k l0 = some true := by
 intro l hg
 by_cases hb : (l.length : Int) > 1048576
 ·exact ⟨0, by rw [laws_FnTimes.f, laws_big.f, Option.bind_some, decide_eq_true hb, if_pos rfl]⟩
 have hl : l.length ≤ 140737488351232 := by omega
 obtain ⟨w0, w1, w2, w3, n, ⟨K1, e1⟩, ho, hw, n0, n1⟩ := drawWheel_ex l hl
 obtain ⟨v0, v1, v2, v3, t, ⟨K2, e2⟩, zv⟩ := drawAdv_ex l hl
 obtain ⟨c, ec, c0, _⟩ := at_ex l (by omega) hg.2
 have h0 := ho.h0
 have wn : wrap64 (n + 1) = n + 1 := wrap_of (by omega) (by omega)
 obtain ⟨i, hi⟩ : ∃ i, i = Int.tmod c (wrap64 (n + 1)) := ⟨_, rfl⟩
 have i0 : 0 ≤ i ∧ i ≤ n := by
  rw [hi, wn, Int.tmod_eq_emod_of_nonneg c0]
  have a1 := Int.emod_nonneg c (show n + 1 ≠ 0 by omega)
  have a2 := Int.emod_lt_of_pos c (show 0 < n + 1 by omega)
  omega
 have wi : wrap64 (n - i) = n - i := wrap_of (by omega) (by omega)
 have wa : wrap64 (w0 + n) = w0 + n := wrap_of (by omega) (by omega)
 obtain ⟨⟨x1, x2⟩, x3, x4, x5, _⟩ := adv_it n.toNat w0 w1 w2 w3 ho (by omega)
 obtain ⟨⟨a1, a2⟩, a3, _, _, _⟩ := adv_it i.toNat w0 w1 w2 w3 ho (by omega)
 obtain ⟨K3, e3⟩ := adv_ok w0 w1 w2 w3 ho n n0 (by omega) (by omega)
 obtain ⟨K4, e4⟩ := adv_ok w0 w1 w2 w3 ho i i0.1 (by omega) (by omega)
 obtain ⟨K5, e5⟩ := adv_ok _ _ _ _ a1 (n - i) (by omega) (by omega) (by rw [a2]; omega)
 obtain ⟨_, b3, _, _, _⟩ := adv_it (n - i).toNat _ _ _ _ a1 (by rw [a2]; omega)
 have eB := itV_add (n - i).toNat i.toNat w0 w1 w2 w3
 rw [show i.toNat + (n - i).toNat = n.toNat by omega] at eB
 simp only at e1 e2 e3 e4 e5
 rw [← eB] at e5 b3
 obtain ⟨⟨K6, e6⟩, g6⟩ := dues_val w0 w1 w2 w3 ho.sz (w0 + n)
 obtain ⟨R, ⟨K7, e7⟩, ⟨K8, e8⟩, zr, zd⟩ := adv_val v0 v1 v2 v3 t zv
 simp only at e6 e7 e8
 have hxm : ∀ t ∈ timersV w1 w2 w3, t.f2 ≤ w0 + n → t.f0 ∈ sortV (duesV (timersV w1 w2 w3) (w0 + n)) := fun t ht h =>
  (sortV_perm _).mem_iff.2 (List.mem_map.2 ⟨t, List.mem_filter.2 ⟨ht, decide_eq_true h⟩, rfl⟩)
 have hx2 : (itV n.toNat w0 w1 w2 w3).1 = w0 + n := by rw [x2]; omega
 have x4' : ∀ t ∈ duesI n.toNat w0 w1 w2 w3, t.f2 ≤ w0 + n := fun t ht => by have := x4 t ht; omega
 have hlen : (sortV (duesV (timersV w1 w2 w3) (w0 + n))).length = (duesI n.toNat w0 w1 w2 w3).length := by
  rw [g6, ← ((x3.filter fun t => decide (t.f2 ≤ w0 + n)).length_eq), List.filter_append, List.length_append]
  have q1 : (List.filter (fun t => decide (t.f2 ≤ w0 + n)) (timersV (itV n.toNat w0 w1 w2 w3).2.1 (itV n.toNat w0 w1 w2 w3).2.2.1 (itV n.toNat w0 w1 w2 w3).2.2.2)) = [] := by
   rw [List.filter_eq_nil_iff]
   intro t ht
   have := x1.all t ht
   rw [hx2] at this
   simp only [decide_eq_true_eq]
   omega
  have q2 : (List.filter (fun t => decide (t.f2 ≤ w0 + n)) (duesI n.toNat w0 w1 w2 w3)) = duesI n.toNat w0 w1 w2 w3 := by
   rw [List.filter_eq_self]
   intro t ht
   simp only [decide_eq_true_eq]
   exact x4' t ht
  rw [q1, q2]
  simp
 have hdue : dueOk (sortV (duesV (timersV w1 w2 w3) (w0 + n))) (w0 + n) (duesI n.toNat w0 w1 w2 w3) w0 = true := by
  refine dueOk_of _ _ _ _ (fun t ht => ⟨?_, x4' t ht⟩) x5
  rw [List.contains_iff_mem]
  exact hxm t (x3.mem_iff.1 (List.mem_append_right _ ht)) (x4' t ht)
 have l1 := x3.length_eq
 have l2 := a3.length_eq
 have l3 := b3.length_eq
 rw [List.length_append] at l1 l2 l3
 have few := ho.few
 have zx := x1.sz
 obtain ⟨rx1, rx2, rx3⟩ := zx.rows
 obtain ⟨ox, _, ⟨K9, e9⟩, hox⟩ := wheelOk_val (itV n.toNat w0 w1 w2 w3).1 (itV n.toNat w0 w1 w2 w3).2.1 (itV n.toNat w0 w1 w2 w3).2.2.1 (itV n.toNat w0 w1 w2 w3).2.2.2 ⟨zx.1, rx1⟩ ⟨zx.2.1, rx2⟩ rx3 zx.2.2
 have hox2 := hox.2 x1
 subst hox2
 simp only at e9
 obtain ⟨K, hK⟩ : ∃ K, K = K1 + K2 + K3 + K4 + K5 + K6 + K7 + K8 + K9 + 4194305 := ⟨_, rfl⟩
 have s1 := sameWheel_self R.1 R.2.1 R.2.2.1 R.2.2.2.1 zr K (by omega)
 have s2 := sameTimers_self R.2.2.2.2 (by omega) K (by omega)
 have s3 := sameWheel_self (itV n.toNat w0 w1 w2 w3).1 _ _ _ zx K (by omega)
 have t1 := impl_Timers_at (itV n.toNat w0 w1 w2 w3).1 _ _ _ zx.1 zx.2.1 zx.2.2 K (by omega)
 have zw := ho.sz
 have t2 := impl_Timers_at w0 w1 w2 w3 zw.1 zw.2.1 zw.2.2 K (by omega)
 have E3 := e3 K (by omega)
 have E4 := e4 K (by omega)
 have E5 := e5 K (by omega)
 have E9 := e9 K (by omega)
 generalize itV n.toNat w0 w1 w2 w3 = X at *
 generalize itV i.toNat w0 w1 w2 w3 = A at *
 generalize duesI n.toNat w0 w1 w2 w3 = d at *
 generalize duesI i.toNat w0 w1 w2 w3 = f at *
 generalize duesI (n - i).toNat A.1 A.2.1 A.2.2.1 A.2.2.2 = g at *
 refine ⟨K, ?_⟩
 rw [laws_FnTimes.f, laws_big.f, Option.bind_some, decide_eq_false hb, if_neg (by simp), e1 K (by omega), Option.bind_some]
 dsimp only
 rw [E3, Option.bind_some, ec, Option.bind_some, if_neg (by omega), ← hi, E4, Option.bind_some]
 dsimp only
 rw [wi, E5, Option.bind_some, wa, e6 K (by omega), Option.bind_some, e2 K (by omega), Option.bind_some]
 dsimp only
 rw [e8 K (by omega), Option.bind_some, e7 K (by omega), Option.bind_some, s1, Option.bind_some, if_pos rfl, s2, Option.bind_some, if_pos rfl, E9, Option.bind_some, if_pos rfl, s3, Option.bind_some, if_pos rfl]
 rw [if_pos (by rw [wrap_of (by omega) (by omega)]; omega), if_pos (by omega), if_pos hx2, hx2, if_pos hdue, ← hx2, t1, Option.bind_some, t2, Option.bind_some, if_pos (by rw [wrap_of (by omega) (by omega)]; omega)]

end Go.Proofs.Ytggenhomnbnodaa.Pure
