/- What is put in a wheel is in it, once, until it is taken out. Conditions: none beyond the statement's own. -/
import Derived.Test.YtggenhomnbnodaaQFnWheelsx
set_option linter.unusedVariables false
set_option linter.unusedSimpArgs false
namespace Go.Proofs.Ytggenhomnbnodaa.Pure
open Go.RowKit Go.Proofs.Ytggenhomnbnodaa.QFnWheels Go.Proofs.YtggenhomnbnodaaW.PrintWords Go.Proofs.YtggenhomnbnodaaW.PrintLast Go.Proofs.YtggenhomnbnodaaW.PrintMore


theorem loop_ex {σ β : Type} {L : Nat → σ → Int → Option β} {n K : Nat} {I : σ → Nat → Prop} {Post : σ → Nat → β → Prop}
  (hend : ∀ s, I s n → ∃ r, Post s n r ∧ ∀ k, L (k + 1) s (n : Int) = some r)
  (hstep : ∀ s (i : Nat), i < n → I s i → (∃ r, Post s i r ∧ ∀ k, K ≤ k → L (k + 1) s (i : Int) = some r) ∨
   ∃ s', I s' (i + 1) ∧ (∀ k, K ≤ k → L (k + 1) s (i : Int) = L k s' ((i : Int) + 1)) ∧ ∀ r, Post s' (i + 1) r → Post s i r) :
  ∀ (d : Nat) s (i : Nat), i + d = n → I s i → ∃ r, Post s i r ∧ ∀ k, K + d < k → L k s (i : Int) = some r := by
 intro d
 induction d with
 | zero =>
  intro s i hd hI
  obtain rfl : i = n := by omega
  obtain ⟨r, hp, hr⟩ := hend s hI
  refine ⟨r, hp, fun k hk => ?_⟩
  obtain ⟨k, rfl⟩ : ∃ m, k = m + 1 := ⟨k - 1, by omega⟩
  exact hr k
 | succ d ih =>
  intro s i hd hI
  rcases hstep s i (by omega) hI with ⟨r, hp, hr⟩ | ⟨s', hI', he, hp⟩
  ·refine ⟨r, hp, fun k hk => ?_⟩
   obtain ⟨k, rfl⟩ : ∃ m, k = m + 1 := ⟨k - 1, by omega⟩
   exact hr k (by omega)
  ·obtain ⟨r, hq, hr⟩ := ih s' (i + 1) (by omega) hI'
   refine ⟨r, hp r hq, fun k hk => ?_⟩
   obtain ⟨k, rfl⟩ : ∃ m, k = m + 1 := ⟨k - 1, by omega⟩
   rw [he k (by omega)]
   have := hr k (by omega)
   rw [Int.natCast_add] at this
   exact this
theorem ev_at {α : Type} {g : Nat → Option α} {r : α} (K : Nat) (h : ∀ k, K < k → g k = some r) : Ev g r := ⟨K + 1, fun k hk => h k (by omega)⟩
theorem wrap_of {x : Int} (h0 : -9223372036854775808 ≤ x) (h1 : x ≤ 9223372036854775807) : wrap64 x = x := by
 unfold wrap64
 omega
theorem wrap_nat1 {i n : Nat} (h : i < n) (hn : n ≤ 9223372036854775807) : wrap64 ((i : Int) + 1) = (i : Int) + 1 := wrap_of (by omega) (by omega)
theorem lt_cast {i n : Nat} (h : i < n) : (i : Int) < (n : Int) := by omega
theorem nn_cast (i : Nat) : 0 ≤ (i : Int) := by omega
theorem not_lt_cast (n : Nat) : ¬ (n : Int) < (n : Int) := by omega
theorem rdIT (l : List S46) (i : Nat) (h : i < l.length) : rd_T46 l (i : Int) = l[i] := by
 simp [rd_T46, List.getD_eq_getElem?_getD, h]

theorem rdLIT (l : List (List S46)) (i : Nat) (h : i < l.length) : rd_L2 l (i : Int) = l[i] := by
 simp [rd_L2, List.getD_eq_getElem?_getD, h]

def timersV (l m : List (List S46)) (q : List S46) : List S46 := l.flatten ++ m.flatten ++ q
theorem flat_take (l : List (List S46)) (i : Nat) (h : i < l.length) : (l.take (i + 1)).flatten = (l.take i).flatten ++ l[i] := by
 rw [List.take_succ_eq_append_getElem h, List.flatten_append]
 simp
theorem flat_take_le (l : List (List S46)) (i : Nat) : (l.take i).flatten.length ≤ l.flatten.length := by
 have h : l.flatten = (l.take i).flatten ++ (l.drop i).flatten := by rw [← List.flatten_append, List.take_append_drop]
 rw [h, List.length_append]
 omega
theorem spec_Timers_at (a : Int) (l m : List (List S46)) (q : List S46) (hl : l.length ≤ 1048576) (hm : m.length ≤ 1048576) (ht : l.flatten.length + m.flatten.length + q.length ≤ 1048576) :
  ∀ k, 2097154 < k → spec_Timers.f k a l m q = some (timersV l m q) := by
 obtain ⟨r, hr, h⟩ := loop_ex (σ := List S46) (L := fun k s i => spec_Timers.l1 k s i a l m q) (n := m.length) (K := 0)
  (I := fun s i => s = l.flatten ++ (m.take i).flatten) (Post := fun _ _ r => r = timersV l m q)
  (fun s hI => ⟨_, rfl, fun k => by
   simp only [spec_Timers.l1]
   rw [List.take_length] at hI
   rw [if_neg (not_lt_cast _), hI, if_pos (by rw [List.length_append]; omega)]
   rfl⟩)
  (fun s i hi hI => .inr ⟨_, rfl, fun k hk => by
   have h1 := flat_take_le m (i + 1)
   rw [flat_take m i hi, List.length_append] at h1
   simp only [spec_Timers.l1]
   rw [if_pos (lt_cast hi), if_pos (nn_cast i), rdLIT _ _ hi, hI, if_pos (by rw [List.length_append]; omega), wrap_nat1 hi (by omega), flat_take m i hi, List.append_assoc], fun _ h => h⟩) m.length l.flatten 0 (by omega) (by simp)
 subst hr
 obtain ⟨N, hN⟩ : ∃ N : Nat, N = 1048577 := ⟨_, rfl⟩
 obtain ⟨r, hr, h'⟩ := loop_ex (σ := List S46) (L := fun k s i => spec_Timers.l0 (k + N) s i a l m q) (n := l.length) (K := 0)
  (I := fun s i => s = (l.take i).flatten) (Post := fun _ _ r => r = timersV l m q)
  (fun s hI => ⟨_, rfl, fun k => by
   rw [show k + 1 + N = (k + N) + 1 by omega]
   simp only [spec_Timers.l0]
   rw [List.take_length] at hI
   rw [if_neg (not_lt_cast _), hI]
   exact h _ (by omega)⟩)
  (fun s i hi hI => .inr ⟨_, rfl, fun k hk => by
   have h1 := flat_take_le l (i + 1)
   rw [flat_take l i hi, List.length_append] at h1
   rw [show k + 1 + N = (k + N) + 1 by omega]
   simp only [spec_Timers.l0]
   rw [if_pos (lt_cast hi), if_pos (nn_cast i), rdLIT _ _ hi, hI, if_pos (by omega), wrap_nat1 hi (by omega), flat_take l i hi], fun _ h => h⟩) l.length [] 0 (by omega) (by simp)
 subst hr
 intro k hk
 simp only [spec_Timers.f]
 have := h' (k - N) (by omega)
 rw [show k - N + N = k by omega] at this
 exact this
theorem impl_Timers_at (a : Int) (l m : List (List S46)) (q : List S46) (hl : l.length ≤ 1048576) (hm : m.length ≤ 1048576) (ht : l.flatten.length + m.flatten.length + q.length ≤ 1048576) :
  ∀ k, 2097154 < k → impl_Timers.f k a l m q = some (timersV l m q) := by
 obtain ⟨r, hr, h⟩ := loop_ex (σ := List S46) (L := fun k s i => impl_Timers.l1 k s m m.length i a l m q) (n := m.length) (K := 0)
  (I := fun s i => s = l.flatten ++ (m.take i).flatten) (Post := fun _ _ r => r = timersV l m q)
  (fun s hI => ⟨_, rfl, fun k => by
   simp only [impl_Timers.l1]
   rw [List.take_length] at hI
   rw [if_neg (not_lt_cast _), hI, if_pos (by rw [List.length_append]; omega)]
   rfl⟩)
  (fun s i hi hI => .inr ⟨_, rfl, fun k hk => by
   have h1 := flat_take_le m (i + 1)
   rw [flat_take m i hi, List.length_append] at h1
   simp only [impl_Timers.l1]
   rw [if_pos (lt_cast hi), if_pos (nn_cast i), if_pos (lt_cast hi), rdLIT _ _ hi, hI, if_pos (by rw [List.length_append]; omega), wrap_nat1 hi (by omega), flat_take m i hi, List.append_assoc], fun _ h => h⟩) m.length l.flatten 0 (by omega) (by simp)
 subst hr
 obtain ⟨N, hN⟩ : ∃ N : Nat, N = 1048577 := ⟨_, rfl⟩
 obtain ⟨r, hr, h'⟩ := loop_ex (σ := List S46) (L := fun k s i => impl_Timers.l0 (k + N) s l l.length i a l m q) (n := l.length) (K := 0)
  (I := fun s i => s = (l.take i).flatten) (Post := fun _ _ r => r = timersV l m q)
  (fun s hI => ⟨_, rfl, fun k => by
   rw [show k + 1 + N = (k + N) + 1 by omega]
   simp only [impl_Timers.l0]
   rw [List.take_length] at hI
   rw [if_neg (not_lt_cast _), hI]
   exact h _ (by omega)⟩)
  (fun s i hi hI => .inr ⟨_, rfl, fun k hk => by
   have h1 := flat_take_le l (i + 1)
   rw [flat_take l i hi, List.length_append] at h1
   rw [show k + 1 + N = (k + N) + 1 by omega]
   simp only [impl_Timers.l0]
   rw [if_pos (lt_cast hi), if_pos (nn_cast i), if_pos (lt_cast hi), rdLIT _ _ hi, hI, if_pos (by omega), wrap_nat1 hi (by omega), flat_take l i hi], fun _ h => h⟩) l.length [] 0 (by omega) (by simp)
 subst hr
 intro k hk
 simp only [impl_Timers.f]
 have := h' (k - N) (by omega)
 rw [show k - N + N = k by omega] at this
 exact this
theorem timersV_len (l m : List (List S46)) (q : List S46) : (timersV l m q).length = l.flatten.length + m.flatten.length + q.length := by
 unfold timersV
 rw [List.length_append, List.length_append]

def SZ (l m : List (List S46)) (q : List S46) : Prop := l.length ≤ 1048576 ∧ m.length ≤ 1048576 ∧ l.flatten.length + m.flatten.length + q.length ≤ 1048576
theorem row_le (l : List (List S46)) (x : List S46) (h : x ∈ l) : x.length ≤ l.flatten.length := (List.sublist_flatten_of_mem h).length_le
theorem SZ.rows {l m : List (List S46)} {q : List S46} (h : SZ l m q) : (∀ x ∈ l, x.length ≤ 1048576) ∧ (∀ x ∈ m, x.length ≤ 1048576) ∧ q.length ≤ 1048576 := by
 obtain ⟨h1, h2, h3⟩ := h
 exact ⟨fun x hx => by have := row_le l x hx; omega, fun x hx => by have := row_le m x hx; omega, by omega⟩
theorem copySlots_at (l : List (List S46)) (hl : l.length ≤ 1048576) (hf : ∀ x ∈ l, x.length ≤ 1048576) : ∀ k, 1048576 < k → impl_copySlots.f k l = some l := by
 obtain ⟨r, hr, h⟩ := loop_ex (σ := List (List S46)) (L := fun k s i => impl_copySlots.l0 k s l l.length i) (n := l.length) (K := 0)
  (I := fun s i => s = l.take i) (Post := fun _ _ r => r = l)
  (fun s hI => ⟨_, rfl, fun k => by
   simp only [impl_copySlots.l0]
   rw [if_neg (not_lt_cast _), hI, List.take_length]⟩)
  (fun s i hi hI => .inr ⟨_, rfl, fun k _ => by
   have h1 := hf _ (List.getElem_mem hi)
   simp only [impl_copySlots.l0]
   rw [if_pos (lt_cast hi), if_pos (nn_cast i), if_pos (lt_cast hi), rdLIT _ _ hi, if_pos (by simp only [List.length_nil]; omega), if_pos (by rw [hI, List.length_take]; omega), wrap_nat1 hi (by omega), hI, List.nil_append, List.take_succ_eq_append_getElem hi], fun _ h => h⟩) l.length [] 0 (by omega) (by simp)
 subst hr
 exact fun k hk => h k (by omega)
theorem l8Lists_at (l : List (List S46)) (hl : l.length ≤ 1048576) (hf : ∀ x ∈ l, x.length ≤ 1048576) : ∀ k, 1048576 < k → spec_l8Lists.f k l = some l := by
 obtain ⟨r, hr, h⟩ := loop_ex (σ := List (List S46)) (L := fun k s i => spec_l8Lists.l0 k l s i) (n := l.length) (K := 0)
  (I := fun s i => s = l.take i) (Post := fun _ _ r => r = l)
  (fun s hI => ⟨_, rfl, fun k => by
   simp only [spec_l8Lists.l0]
   rw [if_neg (not_lt_cast _), hI, List.take_length]⟩)
  (fun s i hi hI => .inr ⟨_, rfl, fun k _ => by
   have h1 := hf _ (List.getElem_mem hi)
   simp only [spec_l8Lists.l0, Option.bind_some]
   rw [if_pos (lt_cast hi), if_pos (nn_cast i), rdLIT _ _ hi, if_pos (by simp only [List.length_nil]; omega), if_pos (by rw [hI, List.length_take]; omega), wrap_nat1 hi (by omega), hI, List.nil_append, List.take_succ_eq_append_getElem hi], fun _ h => h⟩) l.length [] 0 (by omega) (by simp)
 subst hr
 exact fun k hk => h k (by omega)
theorem copyWheel_at (a : Int) (l m : List (List S46)) (q : List S46) (hz : SZ l m q) : ∀ k, 1048576 < k → impl_copyWheel.f k a l m q = some (a, l, m, q) := by
 intro k hk
 obtain ⟨r1, r2, r3⟩ := hz.rows
 simp only [impl_copyWheel.f, copySlots_at l hz.1 r1 k hk, copySlots_at m hz.2.1 r2 k hk, Option.bind_some]
 rw [if_pos (by simp only [List.length_nil]; omega), List.nil_append]
theorem l8Copy_at (a : Int) (l m : List (List S46)) (q : List S46) (hz : SZ l m q) : ∀ k, 1048576 < k → spec_l8Copy.f k a l m q = some (a, l, m, q) := by
 intro k hk
 obtain ⟨r1, r2, r3⟩ := hz.rows
 simp only [spec_l8Copy.f, l8Lists_at l hz.1 r1 k hk, l8Lists_at m hz.2.1 r2 k hk, Option.bind_some]
 rw [if_pos (by simp only [List.length_nil]; omega), List.nil_append]

theorem sameTimers_self (l : List S46) (hl : l.length ≤ 1048576) : ∀ k, 1048576 < k → laws_sameTimers.f k l l = some true := by
 obtain ⟨r, hr, h⟩ := loop_ex (σ := Unit) (L := fun k _ i => laws_sameTimers.l0 k l l i) (n := l.length) (K := 0) (I := fun _ _ => True) (Post := fun _ _ r => r = true)
  (fun s _ => ⟨_, rfl, fun k => by
   simp only [laws_sameTimers.l0]
   rw [if_neg (not_lt_cast _)]⟩)
  (fun s i hi _ => .inr ⟨(), trivial, fun k _ => by
   simp only [laws_sameTimers.l0]
   rw [if_pos (lt_cast hi), if_pos (nn_cast i), if_pos (lt_cast hi), if_neg (by simp), wrap_nat1 hi (by omega)], fun _ h => h⟩) l.length () 0 (by omega) trivial
 subst hr
 intro k hk
 simp only [laws_sameTimers.f, if_true]
 exact h k (by omega)
theorem sameWheel_self (a : Int) (l m : List (List S46)) (q : List S46) (hz : SZ l m q) : ∀ k, 4194304 < k → laws_sameWheel.f k a l m q a l m q = some true := by
 obtain ⟨r1, r2, r3⟩ := hz.rows
 obtain ⟨N, hN⟩ : ∃ N : Nat, N = 1048577 := ⟨_, rfl⟩
 obtain ⟨r, hr, h1⟩ := loop_ex (σ := Unit) (L := fun k _ i => laws_sameWheel.l1 (k + N) i a l m q a l m q) (n := m.length) (K := 0) (I := fun _ _ => True) (Post := fun _ _ r => r = true)
  (fun s _ => ⟨_, rfl, fun k => by
   rw [show k + 1 + N = (k + N) + 1 by omega, laws_sameWheel.l1, if_neg (not_lt_cast _)]⟩)
  (fun s i hi _ => .inr ⟨(), trivial, fun k _ => by
   have e := sameTimers_self m[i] (r2 _ (List.getElem_mem hi)) (k + N) (by omega)
   rw [show k + 1 + N = (k + N) + 1 by omega, laws_sameWheel.l1, if_pos (lt_cast hi), if_pos (nn_cast i), if_pos (lt_cast hi), rdLIT _ _ hi, e, Option.bind_some, if_pos rfl, wrap_nat1 hi (by have := hz.2.1; omega)], fun _ h => h⟩) m.length () 0 (by omega) trivial
 subst hr
 obtain ⟨M, hM⟩ : ∃ M : Nat, M = 2097155 := ⟨_, rfl⟩
 obtain ⟨r, hr, h0⟩ := loop_ex (σ := Unit) (L := fun k _ i => laws_sameWheel.l0 (k + M) i a l m q a l m q) (n := l.length) (K := 0) (I := fun _ _ => True) (Post := fun _ _ r => r = true)
  (fun s _ => ⟨_, rfl, fun k => by
   have e := h1 (k + M - N) (by have := hz.2.1; omega)
   rw [show k + M - N + N = k + M by omega] at e
   rw [show k + 1 + M = (k + M) + 1 by omega, laws_sameWheel.l0, if_neg (not_lt_cast _)]
   exact e⟩)
  (fun s i hi _ => .inr ⟨(), trivial, fun k _ => by
   have e := sameTimers_self l[i] (r1 _ (List.getElem_mem hi)) (k + M) (by omega)
   rw [show k + 1 + M = (k + M) + 1 by omega, laws_sameWheel.l0, if_pos (lt_cast hi), if_pos (nn_cast i), if_pos (lt_cast hi), rdLIT _ _ hi, e, Option.bind_some, if_pos rfl, wrap_nat1 hi (by have := hz.1; omega)], fun _ h => h⟩) l.length () 0 (by omega) trivial
 subst hr
 intro k hk
 obtain ⟨k, rfl⟩ : ∃ n, k = n + 1 := ⟨k - 1, by omega⟩
 have e := h0 (k - M) (by have := hz.1; omega)
 rw [show k - M + M = k by omega] at e
 simp only [laws_sameWheel.f, if_true, sameTimers_self q r3 (k + 1) (by omega), Option.bind_some, laws_sameWheel.j0, Bool.not_true, Bool.false_eq_true, if_false]
 exact e

theorem ev_step {α : Type} {g g' : Nat → Option α} {r : α} (K c : Nat) (h : ∀ k, K ≤ k → g (k + c) = g' k) (hg : Ev g' r) : Ev g r := by
 obtain ⟨M, hM⟩ := hg
 refine ⟨M + K + c, fun k hk => ?_⟩
 obtain ⟨m, rfl⟩ : ∃ m, k = m + c := ⟨k - c, by omega⟩
 rw [h m (by omega)]
 exact hM m (by omega)
theorem ev_now {α : Type} {g : Nat → Option α} {r : α} (K c : Nat) (h : ∀ k, K ≤ k → g (k + c) = some r) : Ev g r := by
 refine ⟨K + c, fun k hk => ?_⟩
 obtain ⟨m, rfl⟩ : ∃ m, k = m + c := ⟨k - c, by omega⟩
 exact h m (by omega)
theorem loop_ev {α : Type} {L L' : Nat → Nat → Option α} {n : Nat} (hend : ∃ r, Ev (fun k => L k n) r ∧ Ev (fun k => L' k n) r)
  (hstep : ∀ i, i < n → (∃ r, Ev (fun k => L k i) r ∧ Ev (fun k => L' k i) r) ∨ ((∀ r, Ev (fun k => L k (i + 1)) r → Ev (fun k => L k i) r) ∧ ∀ r, Ev (fun k => L' k (i + 1)) r → Ev (fun k => L' k i) r)) :
  ∀ d i, i + d = n → ∃ r, Ev (fun k => L k i) r ∧ Ev (fun k => L' k i) r := by
 intro d
 induction d with
 | zero =>
  intro i hi
  obtain rfl : i = n := by omega
  exact hend
 | succ d ih =>
  intro i hi
  rcases hstep i (by omega) with h | ⟨h1, h2⟩
  ·exact h
  ·obtain ⟨r, e1, e2⟩ := ih (i + 1) (by omega)
   exact ⟨r, h1 r e1, h2 r e2⟩
theorem cast1 (i : Nat) : ((i + 1 : Nat) : Int) = (i : Int) + 1 := by omega

def inB (a b c : Int) : Bool := decide (b ≤ a) && decide (a ≤ c)
theorem impl_within_eq (a b c : Int) : impl_within.f a b c = some (inB a b c) := by
 unfold impl_within.f inB
 by_cases h : a ≥ b
 ·rw [if_pos h]
  simp [show b ≤ a from h]
 ·rw [if_neg h]
  simp [show ¬ b ≤ a from h]

theorem spec_l1In_eq (a b c : Int) : spec_l1In.f a b c = some (inB a b c) := by
 unfold spec_l1In.f inB
 by_cases h : a ≥ b
 ·rw [if_pos h]
  simp [show b ≤ a from h]
 ·rw [if_neg h]
  simp [show ¬ b ≤ a from h]

theorem slot_both (a : Int) (ha : 0 ≤ a) (ha2 : a ≤ 2147483647) (w1 w2 : List (List S46)) (w3 : List S46) (l : List S46) (hl : l.length ≤ 1048576) (q q' s : Int)
  (hq : (q = 1 ∧ q' = 0) ∨ (q = 2 ∧ q' = 1) ∨ (q = 3 ∧ q' = 2 ∧ s = 0)) :
  ∃ r, Ev (fun k => spec_l8Slot.f k a w1 w2 w3 l q s) r ∧ Ev (fun k => impl_belongs.f k a w1 w2 w3 l q' s) r := by
 have h := loop_ev (L := fun k i => spec_l8Slot.l0 k l q s (i : Int) a w1 w2 w3) (L' := fun k i => impl_belongs.l0 k q' s l l.length (i : Int) a w1 w2 w3) (n := l.length)
  ⟨true, ev_now 0 1 (fun k _ => by
   simp only [spec_l8Slot.l0]
   rw [if_neg (not_lt_cast _)]), ev_now 0 1 (fun k _ => by
   simp only [impl_belongs.l0]
   rw [if_neg (not_lt_cast _)])⟩
  (fun i hi => by
   have hw : wrap64 (a + 1) = a + 1 := wrap_of (by omega) (by omega)
   have bad : ∀ (hs : ∀ k, spec_l8Slot.l0 (k + 2) l q s (i : Int) a w1 w2 w3 = some false) (hm : ∀ k, impl_belongs.l0 (k + 2) q' s l l.length (i : Int) a w1 w2 w3 = some false),
     ∃ r, Ev (fun k => spec_l8Slot.l0 k l q s (i : Int) a w1 w2 w3) r ∧ Ev (fun k => impl_belongs.l0 k q' s l l.length (i : Int) a w1 w2 w3) r :=
    fun hs hm => ⟨false, ev_now 0 2 (fun k _ => hs k), ev_now 0 2 (fun k _ => hm k)⟩
   have hS : ∀ k, spec_l8Slot.l0 (k + 2) l q s (i : Int) a w1 w2 w3 = (if l[i].f0 < 1 then some false else if inB l[i].f1 1 999 = true then (if inB l[i].f2 (a + 1) 2147483647 = true then ((spec_l8Place.f a l[i].f2).bind fun b => if b.1 = q then (if b.2 = s then spec_l8Slot.l0 k l q s ((i : Int) + 1) a w1 w2 w3 else some false) else some false) else some false) else some false) := by
    intro k
    simp only [spec_l8Slot.l0, spec_l8Slot.j1, spec_l1In_eq, Option.bind_some]
    rw [if_pos (lt_cast hi), if_pos (nn_cast i), rdIT _ _ hi, hw, wrap_nat1 hi (by omega)]
    cases inB l[i].f1 1 999 <;> cases inB l[i].f2 (a + 1) 2147483647 <;> simp
   have hI : ∀ k, impl_belongs.l0 (k + 2) q' s l l.length (i : Int) a w1 w2 w3 = (if l[i].f0 < 1 then some false else if inB l[i].f1 1 999 = true then (if l[i].f2 ≤ a then some false else impl_belongs.j1 (k + 1) q' s l l.length (i : Int) (decide (l[i].f2 > 2147483647)) a w1 w2 w3 l[i].f0 l[i].f1 l[i].f2) else some false) := by
    intro k
    simp only [impl_belongs.l0, impl_within_eq, Option.bind_some]
    rw [if_pos (lt_cast hi), if_pos (nn_cast i), if_pos (lt_cast hi), rdIT _ _ hi]
    have hj : ∀ k, impl_belongs.j1 (k + 1) q' s l l.length (i : Int) true a w1 w2 w3 l[i].f0 l[i].f1 l[i].f2 = some false := by
     intro k
     simp only [impl_belongs.j1, if_true]
    rw [hj k]
   by_cases h1 : l[i].f0 < 1
   ·exact .inl (bad (fun k => by rw [hS, if_pos h1]) (fun k => by rw [hI, if_pos h1]))
   by_cases h2 : inB l[i].f1 1 999 = true
   case neg => exact .inl (bad (fun k => by rw [hS, if_neg h1, if_neg h2]) (fun k => by rw [hI, if_neg h1, if_neg h2]))
   by_cases h3 : l[i].f2 ≤ a
   ·have e : ¬ inB l[i].f2 (a + 1) 2147483647 = true := by simp [inB]; omega
    exact .inl (bad (fun k => by rw [hS, if_neg h1, if_pos h2, if_neg e]) (fun k => by rw [hI, if_neg h1, if_pos h2, if_pos h3]))
   by_cases h4 : l[i].f2 > 2147483647
   ·have e : ¬ inB l[i].f2 (a + 1) 2147483647 = true := by simp [inB]; omega
    exact .inl (bad (fun k => by rw [hS, if_neg h1, if_pos h2, if_neg e]) (fun k => by
     rw [hI, if_neg h1, if_pos h2, if_neg h3, decide_eq_true h4]
     simp only [impl_belongs.j1, if_true]))
   have e : inB l[i].f2 (a + 1) 2147483647 = true := by simp [inB]; omega
   have hJ : ∀ k, impl_belongs.l0 (k + 2) q' s l l.length (i : Int) a w1 w2 w3 = impl_belongs.j1 (k + 1) q' s l l.length (i : Int) false a w1 w2 w3 l[i].f0 l[i].f1 l[i].f2 := by
    intro k
    rw [hI, if_neg h1, if_pos h2, if_neg h3, decide_eq_false h4]
   have hS' : ∀ k, spec_l8Slot.l0 (k + 2) l q s (i : Int) a w1 w2 w3 = ((spec_l8Place.f a l[i].f2).bind fun b => if b.1 = q then (if b.2 = s then spec_l8Slot.l0 k l q s ((i : Int) + 1) a w1 w2 w3 else some false) else some false) := by
    intro k
    rw [hS, if_neg h1, if_pos h2, if_pos e]
   generalize l[i].f2 = t at *
   have d1 : Int.tdiv t 8 = t / 8 := Int.tdiv_eq_ediv_of_nonneg (by omega)
   have d2 : Int.tdiv a 8 = a / 8 := Int.tdiv_eq_ediv_of_nonneg ha
   have u1 : wrap64 (t / 8) = t / 8 := wrap_of (by omega) (by omega)
   have u2 : wrap64 (a / 8) = a / 8 := wrap_of (by omega) (by omega)
   have u3 : wrap64 (t / 8 - a / 8) = t / 8 - a / 8 := wrap_of (by omega) (by omega)
   have hP : spec_l8Place.f a t = if t / 8 = a / 8 then some (1, Int.tmod t 8) else if t / 8 - a / 8 < 8 then some (2, Int.tmod (t / 8) 8) else some (3, 0) := by
    unfold spec_l8Place.f
    rw [d1, d2, u1, u2, u3]
   have hG : ∀ k, impl_belongs.j1 (k + 1) q' s l l.length (i : Int) false a w1 w2 w3 l[i].f0 l[i].f1 t = if q' = 0 then (if t / 8 - a / 8 = 0 then (if Int.tmod t 8 = s then impl_belongs.l0 k q' s l l.length ((i : Int) + 1) a w1 w2 w3 else some false) else some false) else if q' = 1 then (if inB (t / 8 - a / 8) 1 7 = true then (if Int.tmod (t / 8) 8 = s then impl_belongs.l0 k q' s l l.length ((i : Int) + 1) a w1 w2 w3 else some false) else some false) else (if t / 8 - a / 8 ≥ 8 then impl_belongs.l0 k q' s l l.length ((i : Int) + 1) a w1 w2 w3 else some false) := by
    intro k
    simp only [impl_belongs.j1, impl_within_eq, Option.bind_some]
    rw [if_neg (by simp), d1, d2, u1, u2, u3, wrap_nat1 hi (by omega)]
   have go : ∀ (hs : ∀ k, spec_l8Slot.l0 (k + 2) l q s (i : Int) a w1 w2 w3 = spec_l8Slot.l0 k l q s ((i : Int) + 1) a w1 w2 w3) (hm : ∀ k, impl_belongs.l0 (k + 2) q' s l l.length (i : Int) a w1 w2 w3 = impl_belongs.l0 k q' s l l.length ((i : Int) + 1) a w1 w2 w3),
     (∀ r, Ev (fun k => spec_l8Slot.l0 k l q s ((i + 1 : Nat) : Int) a w1 w2 w3) r → Ev (fun k => spec_l8Slot.l0 k l q s (i : Int) a w1 w2 w3) r) ∧ ∀ r, Ev (fun k => impl_belongs.l0 k q' s l l.length ((i + 1 : Nat) : Int) a w1 w2 w3) r → Ev (fun k => impl_belongs.l0 k q' s l l.length (i : Int) a w1 w2 w3) r := by
    intro hs hm
    rw [cast1]
    exact ⟨fun r => ev_step 0 2 (fun k _ => hs k), fun r => ev_step 0 2 (fun k _ => hm k)⟩
   rcases hq with ⟨rfl, rfl⟩ | ⟨rfl, rfl⟩ | ⟨rfl, rfl, rfl⟩
   ·by_cases c1 : t / 8 = a / 8
    ·by_cases c2 : Int.tmod t 8 = s
     ·exact .inr (go (fun k => by rw [hS', hP, if_pos c1, Option.bind_some, if_pos rfl, if_pos c2]) (fun k => by rw [hJ, hG, if_pos rfl, if_pos (by omega), if_pos c2]))
     ·exact .inl (bad (fun k => by rw [hS', hP, if_pos c1, Option.bind_some, if_pos rfl, if_neg c2]) (fun k => by rw [hJ, hG, if_pos rfl, if_pos (by omega), if_neg c2]))
    ·refine .inl (bad (fun k => ?_) (fun k => by rw [hJ, hG, if_pos rfl, if_neg (by omega)]))
     rw [hS', hP, if_neg c1]
     by_cases c3 : t / 8 - a / 8 < 8
     ·rw [if_pos c3, Option.bind_some, if_neg (by simp)]
     ·rw [if_neg c3, Option.bind_some, if_neg (by simp)]
   ·by_cases c1 : t / 8 = a / 8
    ·exact .inl (bad (fun k => by rw [hS', hP, if_pos c1, Option.bind_some, if_neg (by simp)]) (fun k => by rw [hJ, hG, if_neg (by omega), if_pos rfl, if_neg (by simp [inB]; omega)]))
    ·by_cases c3 : t / 8 - a / 8 < 8
     ·have e2 : inB (t / 8 - a / 8) 1 7 = true := by simp [inB]; omega
      by_cases c2 : Int.tmod (t / 8) 8 = s
      ·exact .inr (go (fun k => by rw [hS', hP, if_neg c1, if_pos c3, Option.bind_some, if_pos rfl, if_pos c2]) (fun k => by rw [hJ, hG, if_neg (by omega), if_pos rfl, if_pos e2, if_pos c2]))
      ·exact .inl (bad (fun k => by rw [hS', hP, if_neg c1, if_pos c3, Option.bind_some, if_pos rfl, if_neg c2]) (fun k => by rw [hJ, hG, if_neg (by omega), if_pos rfl, if_pos e2, if_neg c2]))
     ·exact .inl (bad (fun k => by rw [hS', hP, if_neg c1, if_neg c3, Option.bind_some, if_neg (by simp)]) (fun k => by rw [hJ, hG, if_neg (by omega), if_pos rfl, if_neg (by simp [inB]; omega)]))
   ·by_cases c1 : t / 8 = a / 8
    ·exact .inl (bad (fun k => by rw [hS', hP, if_pos c1, Option.bind_some, if_neg (by simp)]) (fun k => by rw [hJ, hG, if_neg (by omega), if_neg (by omega), if_neg (by omega)]))
    ·by_cases c3 : t / 8 - a / 8 < 8
     ·exact .inl (bad (fun k => by rw [hS', hP, if_neg c1, if_pos c3, Option.bind_some, if_neg (by simp)]) (fun k => by rw [hJ, hG, if_neg (by omega), if_neg (by omega), if_neg (by omega)]))
     ·exact .inr (go (fun k => by rw [hS', hP, if_neg c1, if_neg c3, Option.bind_some, if_pos rfl, if_pos rfl]) (fun k => by rw [hJ, hG, if_neg (by omega), if_neg (by omega), if_pos (by omega)]))) l.length 0 (by omega)
 exact h

theorem spec_ids (l : List S46) (hl : l.length ≤ 1048576) (i : Nat) (hi : i < l.length) : ∀ d j, j + d = i →
  ((∃ m, ∃ hm : m < l.length, j ≤ m ∧ m < i ∧ l[m].f0 = l[i].f0) → Ev (fun k => spec_WheelOk.l2 k l (i : Int) (j : Int)) false) ∧
  ((¬ ∃ m, ∃ hm : m < l.length, j ≤ m ∧ m < i ∧ l[m].f0 = l[i].f0) → ∀ r, Ev (fun k => spec_WheelOk.l1 k l ((i + 1 : Nat) : Int)) r → Ev (fun k => spec_WheelOk.l2 k l (i : Int) (j : Int)) r) := by
 intro d
 induction d with
 | zero =>
  intro j hj
  obtain rfl : j = i := by omega
  refine ⟨fun ⟨m, _, h1, h2, _⟩ => by omega, fun _ r hr => ?_⟩
  rw [cast1] at hr
  exact ev_step 0 1 (fun k _ => by
   simp only [spec_WheelOk.l2]
   rw [if_neg (not_lt_cast _), wrap_nat1 hi (by omega)]) hr
 | succ d ih =>
  intro j hj
  have hjl : j < l.length := by omega
  obtain ⟨i1, i2⟩ := ih (j + 1) (by omega)
  have hs : ∀ k, spec_WheelOk.l2 (k + 1) l (i : Int) (j : Int) = if l[j].f0 = l[i].f0 then some false else spec_WheelOk.l2 k l (i : Int) ((j + 1 : Nat) : Int) := by
   intro k
   simp only [spec_WheelOk.l2]
   rw [if_pos (by omega), if_pos (nn_cast j), if_pos (lt_cast hjl), if_pos (nn_cast i), if_pos (lt_cast hi), rdIT _ _ hjl, rdIT _ _ hi, wrap_nat1 hjl (by omega), cast1]
  by_cases c : l[j].f0 = l[i].f0
  ·have hf : Ev (fun k => spec_WheelOk.l2 k l (i : Int) (j : Int)) false := ev_now 0 1 (fun k _ => by rw [hs, if_pos c])
   exact ⟨fun _ => hf, fun hn => absurd ⟨j, hjl, Nat.le_refl _, by omega, c⟩ hn⟩
  ·have hg : ∀ r, Ev (fun k => spec_WheelOk.l2 k l (i : Int) ((j + 1 : Nat) : Int)) r → Ev (fun k => spec_WheelOk.l2 k l (i : Int) (j : Int)) r := fun r => ev_step 0 1 (fun k _ => by rw [hs, if_neg c])
   refine ⟨fun ⟨m, hm, h1, h2, h3⟩ => ?_, fun hn r hr => hg r (i2 (fun ⟨m, hm, h1, h2, h3⟩ => hn ⟨m, hm, by omega, h2, h3⟩) r hr)⟩
   refine hg false (i1 ⟨m, hm, ?_, h2, h3⟩)
   rcases Nat.lt_or_ge j m with h | h
   ·exact h
   ·obtain rfl : m = j := by omega
    exact absurd h3 c
theorem impl_ids (l : List S46) (hl : l.length ≤ 1048576) (i : Nat) (hi : i < l.length) : ∀ d j, j + d = i →
  ((∃ m, ∃ hm : m < l.length, j ≤ m ∧ m < i ∧ l[m].f0 = l[i].f0) → ∃ p : Nat, p < i ∧ Ev (fun k => impl_Timer_89.l0 (fun x _ _ => some (x == l[i].f0)) k l l.length (j : Int)) (p : Int)) ∧
  ((¬ ∃ m, ∃ hm : m < l.length, j ≤ m ∧ m < i ∧ l[m].f0 = l[i].f0) → Ev (fun k => impl_Timer_89.l0 (fun x _ _ => some (x == l[i].f0)) k l l.length (j : Int)) (i : Int)) := by
 have hs : ∀ k (j : Nat) (hjl : j < l.length), impl_Timer_89.l0 (fun x _ _ => some (x == l[i].f0)) (k + 1) l l.length (j : Int) = if l[j].f0 = l[i].f0 then some (j : Int) else impl_Timer_89.l0 (fun x _ _ => some (x == l[i].f0)) k l l.length ((j + 1 : Nat) : Int) := by
  intro k j hjl
  simp only [impl_Timer_89.l0]
  rw [if_pos (lt_cast hjl), if_pos (nn_cast j), if_pos (lt_cast hjl), rdIT _ _ hjl, wrap_nat1 hjl (by omega), Option.bind_some, cast1]
  by_cases c : l[j].f0 = l[i].f0
  ·rw [if_pos c, if_pos (by simpa using c)]
  ·rw [if_neg c, if_neg (by simpa using c)]
 intro d
 induction d with
 | zero =>
  intro j hj
  obtain rfl : j = i := by omega
  exact ⟨fun ⟨m, _, h1, h2, _⟩ => by omega, fun _ => ev_now 0 1 (fun k _ => by rw [hs k j hi, if_pos rfl])⟩
 | succ d ih =>
  intro j hj
  have hjl : j < l.length := by omega
  obtain ⟨i1, i2⟩ := ih (j + 1) (by omega)
  by_cases c : l[j].f0 = l[i].f0
  ·exact ⟨fun _ => ⟨j, by omega, ev_now 0 1 (fun k _ => by rw [hs k j hjl, if_pos c])⟩, fun hn => absurd ⟨j, hjl, Nat.le_refl _, by omega, c⟩ hn⟩
  ·have hg : ∀ r, Ev (fun k => impl_Timer_89.l0 (fun x _ _ => some (x == l[i].f0)) k l l.length ((j + 1 : Nat) : Int)) r → Ev (fun k => impl_Timer_89.l0 (fun x _ _ => some (x == l[i].f0)) k l l.length (j : Int)) r := fun r => ev_step 0 1 (fun k _ => by rw [hs k j hjl, if_neg c])
   refine ⟨fun ⟨m, hm, h1, h2, h3⟩ => ?_, fun hn => hg _ (i2 (fun ⟨m, hm, h1, h2, h3⟩ => hn ⟨m, hm, by omega, h2, h3⟩))⟩
   obtain ⟨p, hp, he⟩ := i1 ⟨m, hm, by
    rcases Nat.lt_or_ge j m with h | h
    ·exact h
    ·obtain rfl : m = j := by omega
     exact absurd h3 c, h2, h3⟩
   exact ⟨p, hp, hg _ he⟩
theorem ids_both (l : List S46) (hl : l.length ≤ 1048576) : ∃ r, Ev (fun k => spec_WheelOk.l1 k l 0) r ∧ Ev (fun k => impl_WheelOk.l1 k l l l.length 0) r := by
 have h := loop_ev (L := fun k i => spec_WheelOk.l1 k l (i : Int)) (L' := fun k i => impl_WheelOk.l1 k l l l.length (i : Int)) (n := l.length)
  ⟨decide ((l.length : Int) ≤ 16), ev_now 0 1 (fun k _ => by
   simp only [spec_WheelOk.l1]
   rw [if_neg (not_lt_cast _)]), ev_now 0 1 (fun k _ => by
   simp only [impl_WheelOk.l1]
   rw [if_neg (not_lt_cast _)])⟩
  (fun i hi => by
   obtain ⟨s1, s2⟩ := spec_ids l hl i hi i 0 (by omega)
   obtain ⟨t1, t2⟩ := impl_ids l hl i hi i 0 (by omega)
   have hS : ∀ r, Ev (fun k => spec_WheelOk.l2 k l (i : Int) ((0 : Nat) : Int)) r → Ev (fun k => spec_WheelOk.l1 k l (i : Int)) r := fun r => ev_step 0 1 (fun k _ => by
    simp only [spec_WheelOk.l1]
    rw [if_pos (lt_cast hi)]
    rfl)
   have hI : ∀ p : Int, Ev (fun k => impl_Timer_89.l0 (fun x _ _ => some (x == l[i].f0)) k l l.length ((0 : Nat) : Int)) p → ∃ K, ∀ k, K ≤ k → impl_WheelOk.l1 (k + 1) l l l.length (i : Int) = if p = (i : Int) then impl_WheelOk.l1 k l l l.length ((i : Int) + 1) else some false := by
    rintro p ⟨K, hK⟩
    refine ⟨K, fun k hk => ?_⟩
    have e : impl_timerAt.f k l l[i].f0 = some p := hK k hk
    simp only [impl_WheelOk.l1]
    rw [if_pos (lt_cast hi), if_pos (nn_cast i), if_pos (lt_cast hi), rdIT _ _ hi, e, Option.bind_some, wrap_nat1 hi (by omega)]
   by_cases hd : ∃ m, ∃ hm : m < l.length, 0 ≤ m ∧ m < i ∧ l[m].f0 = l[i].f0
   ·obtain ⟨p, hp, he⟩ := t1 hd
    obtain ⟨K, hK⟩ := hI _ he
    exact .inl ⟨false, hS _ (s1 hd), ev_now K 1 (fun k hk => by rw [hK k hk, if_neg (by omega)])⟩
   ·obtain ⟨K, hK⟩ := hI _ (t2 hd)
    refine .inr ⟨fun r hr => hS _ (s2 hd r hr), fun r hr => ?_⟩
    rw [cast1] at hr
    exact ev_step K 1 (fun k hk => by rw [hK k hk, if_pos rfl]) hr) l.length 0 (by omega)
 exact h

theorem wheelOk_both (a : Int) (l m : List (List S46)) (q : List S46) (hl : l.length ≤ 1048576 ∧ ∀ x ∈ l, x.length ≤ 1048576) (hm : m.length ≤ 1048576 ∧ ∀ x ∈ m, x.length ≤ 1048576) (hq : q.length ≤ 1048576) (ht : l.flatten.length + m.flatten.length + q.length ≤ 1048576) :
  ∃ r, Ev (fun k => spec_WheelOk.f k a l m q) r ∧ Ev (fun k => impl_WheelOk.f k a l m q) r := by
 have sj : ∀ k, spec_WheelOk.j0 (k + 1) true a l m q = some false := by
  intro k
  simp only [spec_WheelOk.j0, if_true]
 have ij : ∀ k, impl_WheelOk.j0 (k + 1) true a l m q = some false := by
  intro k
  simp only [impl_WheelOk.j0, if_true]
 by_cases c1 : (l.length : Int) = 8
 case neg =>
  refine ⟨false, ev_now 0 1 (fun k _ => ?_), ev_now 0 1 (fun k _ => ?_)⟩
  ·simp only [spec_WheelOk.f]
   rw [if_neg c1, sj]
  ·simp only [impl_WheelOk.f, impl_within_eq, Option.bind_some]
   rw [if_neg c1, ij]
   exact ite_self _
 by_cases c2 : (m.length : Int) = 8
 case neg =>
  refine ⟨false, ev_now 0 1 (fun k _ => ?_), ev_now 0 1 (fun k _ => ?_)⟩
  ·simp only [spec_WheelOk.f]
   rw [if_pos c1, if_neg c2, sj]
  ·simp only [impl_WheelOk.f, impl_within_eq, Option.bind_some]
   rw [if_pos c1, if_neg c2, ij]
   exact ite_self _
 by_cases c3 : inB a 0 2147483647 = true
 case neg =>
  refine ⟨false, ev_now 0 1 (fun k _ => ?_), ev_now 0 1 (fun k _ => ?_)⟩
  ·simp only [spec_WheelOk.f, spec_l1In_eq, Option.bind_some]
   rw [if_pos c1, if_pos c2, if_neg c3, sj]
  ·simp only [impl_WheelOk.f, impl_within_eq, Option.bind_some]
   rw [if_neg c3, ij]
 have ha : 0 ≤ a ∧ a ≤ 2147483647 := by simpa [inB] using c3
 obtain ⟨r, ⟨K1, h1⟩, ⟨K2, h2⟩⟩ := slot_both a ha.1 ha.2 l m q q hq 3 2 0 (.inr (.inr ⟨rfl, rfl, rfl⟩))
 simp only at h1 h2
 cases r with
 | false =>
  refine ⟨false, ev_now (K1 + K2) 1 (fun k hk => ?_), ev_now (K1 + K2) 1 (fun k hk => ?_)⟩
  ·simp only [spec_WheelOk.f, spec_l1In_eq, Option.bind_some]
   rw [if_pos c1, if_pos c2, if_pos c3, h1 _ (by omega), Option.bind_some]
   exact sj k
  ·simp only [impl_WheelOk.f, impl_within_eq, Option.bind_some]
   rw [if_pos c3, if_pos c1, if_pos c2, h2 _ (by omega), Option.bind_some]
   exact ij k
 | true =>
  have hS : ∀ r, Ev (fun k => spec_WheelOk.l0 k ((0 : Nat) : Int) a l m q) r → Ev (fun k => spec_WheelOk.f k a l m q) r := fun r => ev_step (K1 + K2) 1 (fun k hk => by
   simp only [spec_WheelOk.f, spec_l1In_eq, Option.bind_some]
   rw [if_pos c1, if_pos c2, if_pos c3, h1 _ (by omega), Option.bind_some]
   simp only [spec_WheelOk.j0]
   rw [if_neg (by simp)]
   rfl)
  have hI : ∀ r, Ev (fun k => impl_WheelOk.l0 k ((0 : Nat) : Int) a l m q) r → Ev (fun k => impl_WheelOk.f k a l m q) r := fun r => ev_step (K1 + K2) 1 (fun k hk => by
   simp only [impl_WheelOk.f, impl_within_eq, Option.bind_some]
   rw [if_pos c3, if_pos c1, if_pos c2, h2 _ (by omega), Option.bind_some]
   simp only [impl_WheelOk.j0]
   rw [if_neg (by simp)]
   rfl)
  obtain ⟨r, e1, e2⟩ := ids_both (timersV l m q) (by rw [timersV_len]; omega)
  obtain ⟨r, e1, e2⟩ := loop_ev (L := fun k i => spec_WheelOk.l0 k (i : Int) a l m q) (L' := fun k i => impl_WheelOk.l0 k (i : Int) a l m q) (n := 8)
   ⟨r, ev_step 2097155 1 (fun k hk => by
    simp only [spec_WheelOk.l0]
    rw [if_neg (by omega), spec_Timers_at a l m q hl.1 hm.1 ht k (by omega), Option.bind_some]) e1, ev_step 2097155 1 (fun k hk => by
    simp only [impl_WheelOk.l0]
    rw [if_neg (by omega), impl_Timers_at a l m q hl.1 hm.1 ht k (by omega), Option.bind_some]) e2⟩
   (fun i hi => by
    have hil : i < l.length := by omega
    have him : i < m.length := by omega
    obtain ⟨r1, ⟨A1, a1⟩, ⟨A2, a2⟩⟩ := slot_both a ha.1 ha.2 l m q l[i] (hl.2 _ (List.getElem_mem hil)) 1 0 (i : Int) (.inl ⟨rfl, rfl⟩)
    obtain ⟨r2, ⟨B1, b1⟩, ⟨B2, b2⟩⟩ := slot_both a ha.1 ha.2 l m q m[i] (hm.2 _ (List.getElem_mem him)) 2 1 (i : Int) (.inr (.inl ⟨rfl, rfl⟩))
    simp only at a1 a2 b1 b2
    have sL : ∀ k, A1 + B1 ≤ k → spec_WheelOk.l0 (k + 1) (i : Int) a l m q = if r1 = true then (if r2 = true then spec_WheelOk.l0 k ((i : Int) + 1) a l m q else some false) else some false := by
     intro k hk
     simp only [spec_WheelOk.l0]
     rw [if_pos (by omega), if_pos (nn_cast i), if_pos (lt_cast hil), rdLIT _ _ hil, a1 k (by omega), Option.bind_some, if_pos (lt_cast him), rdLIT _ _ him, b1 k (by omega), Option.bind_some, wrap_nat1 hil (by omega)]
    have iL : ∀ k, A2 + B2 ≤ k → impl_WheelOk.l0 (k + 1) (i : Int) a l m q = if r1 = true then (if r2 = true then impl_WheelOk.l0 k ((i : Int) + 1) a l m q else some false) else some false := by
     intro k hk
     simp only [impl_WheelOk.l0]
     rw [if_pos (by omega), if_pos (nn_cast i), if_pos (lt_cast hil), rdLIT _ _ hil, a2 k (by omega), Option.bind_some, if_pos (lt_cast him), rdLIT _ _ him, b2 k (by omega), Option.bind_some, wrap_nat1 hil (by omega)]
    cases r1 with
    | false => exact .inl ⟨false, ev_now _ 1 (fun k hk => by rw [sL k hk, if_neg (by decide)]), ev_now _ 1 (fun k hk => by rw [iL k hk, if_neg (by decide)])⟩
    | true =>
     cases r2 with
     | false => exact .inl ⟨false, ev_now _ 1 (fun k hk => by rw [sL k hk, if_pos rfl, if_neg (by decide)]), ev_now _ 1 (fun k hk => by rw [iL k hk, if_pos rfl, if_neg (by decide)])⟩
     | true =>
      refine .inr ?_
      rw [cast1]
      exact ⟨fun r => ev_step _ 1 (fun k hk => by rw [sL k hk, if_pos rfl, if_pos rfl]), fun r => ev_step _ 1 (fun k hk => by rw [iL k hk, if_pos rfl, if_pos rfl])⟩) 8 0 (by omega)
  exact ⟨r, hS r e1, hI r e2⟩

def inSlot (a q s : Int) (t : S46) : Prop := 1 ≤ t.f0 ∧ (1 ≤ t.f1 ∧ t.f1 ≤ 999) ∧ (a + 1 ≤ t.f2 ∧ t.f2 ≤ 2147483647) ∧ (if t.f2 / 8 = a / 8 then q = 1 ∧ s = t.f2 % 8 else if t.f2 / 8 - a / 8 < 8 then q = 2 ∧ s = t.f2 / 8 % 8 else q = 3 ∧ s = 0)
theorem slot_val (a : Int) (ha : 0 ≤ a) (ha2 : a ≤ 2147483647) (w1 w2 : List (List S46)) (w3 : List S46) (l : List S46) (hl : l.length ≤ 1048576) (q s : Int) :
  ∃ r, Ev (fun k => spec_l8Slot.f k a w1 w2 w3 l q s) r ∧ (r = true ↔ ∀ t ∈ l, inSlot a q s t) := by
 have h : ∀ d i, i + d = l.length → ∃ r, Ev (fun k => spec_l8Slot.l0 k l q s (i : Int) a w1 w2 w3) r ∧ (r = true ↔ ∀ t ∈ l.drop i, inSlot a q s t) := by
  intro d
  induction d with
  | zero =>
   intro i hd
   obtain rfl : i = l.length := by omega
   refine ⟨true, ev_now 0 1 (fun k _ => ?_), by simp⟩
   simp only [spec_l8Slot.l0]
   rw [if_neg (not_lt_cast _)]
  | succ d ih =>
   intro i hd
   have hi : i < l.length := by omega
   obtain ⟨r, hr, hr2⟩ := ih (i + 1) (by omega)
   have hw : wrap64 (a + 1) = a + 1 := wrap_of (by omega) (by omega)
   have hS : ∀ k, spec_l8Slot.l0 (k + 2) l q s (i : Int) a w1 w2 w3 = (if l[i].f0 < 1 then some false else if inB l[i].f1 1 999 = true then (if inB l[i].f2 (a + 1) 2147483647 = true then ((spec_l8Place.f a l[i].f2).bind fun b => if b.1 = q then (if b.2 = s then spec_l8Slot.l0 k l q s ((i : Int) + 1) a w1 w2 w3 else some false) else some false) else some false) else some false) := by
    intro k
    simp only [spec_l8Slot.l0, spec_l8Slot.j1, spec_l1In_eq, Option.bind_some]
    rw [if_pos (lt_cast hi), if_pos (nn_cast i), rdIT _ _ hi, hw, wrap_nat1 hi (by omega)]
    cases inB l[i].f1 1 999 <;> cases inB l[i].f2 (a + 1) 2147483647 <;> simp
   have bad : ∀ (hs : ∀ k, spec_l8Slot.l0 (k + 2) l q s (i : Int) a w1 w2 w3 = some false) (hn : ¬ inSlot a q s l[i]), ∃ r, Ev (fun k => spec_l8Slot.l0 k l q s (i : Int) a w1 w2 w3) r ∧ (r = true ↔ ∀ t ∈ l.drop i, inSlot a q s t) := by
    intro hs hn
    refine ⟨false, ev_now 0 2 (fun k _ => hs k), ⟨fun h => absurd h (by simp), fun h => absurd (h l[i] ?_) hn⟩⟩
    rw [List.drop_eq_getElem_cons hi]
    exact List.mem_cons_self
   by_cases h1 : l[i].f0 < 1
   ·exact bad (fun k => by rw [hS, if_pos h1]) (fun h => by have := h.1; omega)
   by_cases h2 : inB l[i].f1 1 999 = true
   case neg => exact bad (fun k => by rw [hS, if_neg h1, if_neg h2]) (fun h => h2 (by simp [inB]; have := h.2.1; omega))
   by_cases h3 : inB l[i].f2 (a + 1) 2147483647 = true
   case neg => exact bad (fun k => by rw [hS, if_neg h1, if_pos h2, if_neg h3]) (fun h => h3 (by simp [inB]; have := h.2.2.1; omega))
   have h2' : 1 ≤ l[i].f1 ∧ l[i].f1 ≤ 999 := by simpa [inB] using h2
   have h3' : a + 1 ≤ l[i].f2 ∧ l[i].f2 ≤ 2147483647 := by simpa [inB] using h3
   have d1 : Int.tdiv l[i].f2 8 = l[i].f2 / 8 := Int.tdiv_eq_ediv_of_nonneg (by omega)
   have d2 : Int.tdiv a 8 = a / 8 := Int.tdiv_eq_ediv_of_nonneg ha
   have d3 : Int.tmod l[i].f2 8 = l[i].f2 % 8 := Int.tmod_eq_emod_of_nonneg (by omega)
   have d4 : Int.tmod (l[i].f2 / 8) 8 = l[i].f2 / 8 % 8 := Int.tmod_eq_emod_of_nonneg (by omega)
   have u1 : wrap64 (l[i].f2 / 8) = l[i].f2 / 8 := wrap_of (by omega) (by omega)
   have u2 : wrap64 (a / 8) = a / 8 := wrap_of (by omega) (by omega)
   have u3 : wrap64 (l[i].f2 / 8 - a / 8) = l[i].f2 / 8 - a / 8 := wrap_of (by omega) (by omega)
   have hP : spec_l8Place.f a l[i].f2 = if l[i].f2 / 8 = a / 8 then some (1, l[i].f2 % 8) else if l[i].f2 / 8 - a / 8 < 8 then some (2, l[i].f2 / 8 % 8) else some (3, 0) := by
    unfold spec_l8Place.f
    rw [d1, d2, u1, u2, u3, d3, d4]
   obtain ⟨b, hb⟩ : ∃ b : Int × Int, b = if l[i].f2 / 8 = a / 8 then (1, l[i].f2 % 8) else if l[i].f2 / 8 - a / 8 < 8 then (2, l[i].f2 / 8 % 8) else (3, 0) := ⟨_, rfl⟩
   have hP2 : spec_l8Place.f a l[i].f2 = some b := by
    rw [hP, hb]
    by_cases c1 : l[i].f2 / 8 = a / 8
    ·rw [if_pos c1, if_pos c1]
    ·rw [if_neg c1, if_neg c1]
     by_cases c2 : l[i].f2 / 8 - a / 8 < 8
     ·rw [if_pos c2, if_pos c2]
     ·rw [if_neg c2, if_neg c2]
   have hin : inSlot a q s l[i] ↔ b.1 = q ∧ b.2 = s := by
    unfold inSlot
    rw [hb]
    by_cases c1 : l[i].f2 / 8 = a / 8
    ·rw [if_pos c1, if_pos c1]
     exact ⟨fun h => ⟨h.2.2.2.1.symm, h.2.2.2.2.symm⟩, fun h => ⟨by omega, h2', h3', h.1.symm, h.2.symm⟩⟩
    ·rw [if_neg c1, if_neg c1]
     by_cases c2 : l[i].f2 / 8 - a / 8 < 8
     ·rw [if_pos c2, if_pos c2]
      exact ⟨fun h => ⟨h.2.2.2.1.symm, h.2.2.2.2.symm⟩, fun h => ⟨by omega, h2', h3', h.1.symm, h.2.symm⟩⟩
     ·rw [if_neg c2, if_neg c2]
      exact ⟨fun h => ⟨h.2.2.2.1.symm, h.2.2.2.2.symm⟩, fun h => ⟨by omega, h2', h3', h.1.symm, h.2.symm⟩⟩
   have hS2 : ∀ k, spec_l8Slot.l0 (k + 2) l q s (i : Int) a w1 w2 w3 = if b.1 = q then (if b.2 = s then spec_l8Slot.l0 k l q s ((i : Int) + 1) a w1 w2 w3 else some false) else some false := by
    intro k
    rw [hS, if_neg h1, if_pos h2, if_pos h3, hP2, Option.bind_some]
   by_cases c1 : b.1 = q
   case neg => exact bad (fun k => by rw [hS2, if_neg c1]) (fun h => c1 (hin.1 h).1)
   by_cases c2 : b.2 = s
   case neg => exact bad (fun k => by rw [hS2, if_pos c1, if_neg c2]) (fun h => c2 (hin.1 h).2)
   refine ⟨r, ev_step 0 2 (fun k _ => by rw [hS2, if_pos c1, if_pos c2, cast1]) hr, ?_⟩
   rw [hr2, List.drop_eq_getElem_cons hi]
   refine ⟨fun h t ht => ?_, fun h t ht => h t (List.mem_cons_of_mem _ ht)⟩
   rcases List.mem_cons.1 ht with rfl | ht
   ·exact hin.2 ⟨c1, c2⟩
   ·exact h t ht
 have := h l.length 0 (by omega)
 rw [List.drop_zero] at this
 exact this
def dupT (T : List S46) (i : Nat) (hi : i < T.length) : Prop := ∃ m, ∃ hm : m < T.length, 0 ≤ m ∧ m < i ∧ T[m].f0 = T[i].f0
theorem ids_val (T : List S46) (hT : T.length ≤ 1048576) : ∃ r, Ev (fun k => spec_WheelOk.l1 k T 0) r ∧ (r = true ↔ (∀ j (hj : j < T.length), ¬ dupT T j hj) ∧ T.length ≤ 16) := by
 have h : ∀ d i, i + d = T.length → ∃ r, Ev (fun k => spec_WheelOk.l1 k T (i : Int)) r ∧ (r = true ↔ (∀ j (hj : j < T.length), i ≤ j → ¬ dupT T j hj) ∧ T.length ≤ 16) := by
  intro d
  induction d with
  | zero =>
   intro i hd
   obtain rfl : i = T.length := by omega
   refine ⟨decide ((T.length : Int) ≤ 16), ev_now 0 1 (fun k _ => ?_), ?_⟩
   ·simp only [spec_WheelOk.l1]
    rw [if_neg (not_lt_cast _)]
   ·rw [decide_eq_true_iff]
    exact ⟨fun h => ⟨fun j hj hj2 => absurd hj (by omega), by omega⟩, fun h => by have := h.2; omega⟩
  | succ d ih =>
   intro i hd
   have hi : i < T.length := by omega
   obtain ⟨r, hr, hr2⟩ := ih (i + 1) (by omega)
   obtain ⟨s1, s2⟩ := spec_ids T hT i hi i 0 (by omega)
   have hS : ∀ r, Ev (fun k => spec_WheelOk.l2 k T (i : Int) ((0 : Nat) : Int)) r → Ev (fun k => spec_WheelOk.l1 k T (i : Int)) r := fun r => ev_step 0 1 (fun k _ => by
    simp only [spec_WheelOk.l1]
    rw [if_pos (lt_cast hi)]
    rfl)
   by_cases hd : dupT T i hi
   ·exact ⟨false, hS _ (s1 hd), fun h => absurd h (by simp), fun h => absurd hd (h.1 i hi (Nat.le_refl _))⟩
   ·refine ⟨r, hS _ (s2 hd r hr), ?_⟩
    rw [hr2]
    refine ⟨fun h => ⟨fun j hj hij => ?_, h.2⟩, fun h => ⟨fun j hj hij => h.1 j hj (by omega), h.2⟩⟩
    rcases Nat.lt_or_ge i j with h3 | h3
    ·exact h.1 j hj h3
    ·obtain rfl : j = i := by omega
     exact hd
 obtain ⟨r, hr, hr2⟩ := h T.length 0 (by omega)
 exact ⟨r, hr, by rw [hr2]; exact ⟨fun h => ⟨fun j hj => h.1 j hj (Nat.zero_le _), h.2⟩, fun h => ⟨fun j hj _ => h.1 j hj, h.2⟩⟩⟩
structure OkW (a : Int) (l m : List (List S46)) (q : List S46) : Prop where
 hl : l.length = 8
 hm : m.length = 8
 h0 : 0 ≤ a
 h1 : a ≤ 2147483647
 rest : ∀ t ∈ q, inSlot a 3 0 t
 near : ∀ j, j < 8 → ∀ t ∈ l.getD j [], inSlot a 1 (j : Int) t
 far : ∀ j, j < 8 → ∀ t ∈ m.getD j [], inSlot a 2 (j : Int) t
 ids : ∀ j (hj : j < (timersV l m q).length), ¬ dupT (timersV l m q) j hj
 few : (timersV l m q).length ≤ 16
theorem ev_one {α : Type} {g : Nat → Option α} {r r' : α} (h : Ev g r) (h' : Ev g r') : r = r' := by
 obtain ⟨K, hK⟩ := h
 obtain ⟨K', hK'⟩ := h'
 have e1 := hK (K + K') (by omega)
 have e2 := hK' (K + K') (by omega)
 rw [e1] at e2
 exact Option.some.inj e2
theorem wheelOk_val (a : Int) (l m : List (List S46)) (q : List S46) (hl : l.length ≤ 1048576 ∧ ∀ x ∈ l, x.length ≤ 1048576) (hm : m.length ≤ 1048576 ∧ ∀ x ∈ m, x.length ≤ 1048576) (hq : q.length ≤ 1048576) (ht : l.flatten.length + m.flatten.length + q.length ≤ 1048576) :
  ∃ r, Ev (fun k => spec_WheelOk.f k a l m q) r ∧ Ev (fun k => impl_WheelOk.f k a l m q) r ∧ (r = true ↔ OkW a l m q) := by
 suffices H : ∃ r, Ev (fun k => spec_WheelOk.f k a l m q) r ∧ (r = true ↔ OkW a l m q) by
  obtain ⟨r, h1, h2⟩ := H
  obtain ⟨r', e1, e2⟩ := wheelOk_both a l m q hl hm hq ht
  obtain rfl := ev_one h1 e1
  exact ⟨r, h1, e2, h2⟩
 have sj : ∀ k, spec_WheelOk.j0 (k + 1) true a l m q = some false := by
  intro k
  simp only [spec_WheelOk.j0, if_true]
 by_cases c1 : (l.length : Int) = 8
 case neg =>
  refine ⟨false, ev_now 0 1 (fun k _ => ?_), fun h => absurd h (by simp), fun h => absurd h.hl (by omega)⟩
  simp only [spec_WheelOk.f]
  rw [if_neg c1, sj]
 by_cases c2 : (m.length : Int) = 8
 case neg =>
  refine ⟨false, ev_now 0 1 (fun k _ => ?_), fun h => absurd h (by simp), fun h => absurd h.hm (by omega)⟩
  simp only [spec_WheelOk.f]
  rw [if_pos c1, if_neg c2, sj]
 by_cases c3 : inB a 0 2147483647 = true
 case neg =>
  refine ⟨false, ev_now 0 1 (fun k _ => ?_), fun h => absurd h (by simp), fun h => absurd (show inB a 0 2147483647 = true by have := h.h0; have := h.h1; simp [inB]; omega) c3⟩
  simp only [spec_WheelOk.f, spec_l1In_eq, Option.bind_some]
  rw [if_pos c1, if_pos c2, if_neg c3, sj]
 have ha : 0 ≤ a ∧ a ≤ 2147483647 := by simpa [inB] using c3
 obtain ⟨r, ⟨K1, h1⟩, h2⟩ := slot_val a ha.1 ha.2 l m q q hq 3 0
 simp only at h1
 cases r with
 | false =>
  refine ⟨false, ev_now K1 1 (fun k hk => ?_), fun h => absurd h (by simp), fun h => absurd (h2.2 h.rest) (by simp)⟩
  simp only [spec_WheelOk.f, spec_l1In_eq, Option.bind_some]
  rw [if_pos c1, if_pos c2, if_pos c3, h1 _ (by omega), Option.bind_some]
  exact sj k
 | true =>
  have hR := h2.1 rfl
  have hS : ∀ r, Ev (fun k => spec_WheelOk.l0 k ((0 : Nat) : Int) a l m q) r → Ev (fun k => spec_WheelOk.f k a l m q) r := fun r => ev_step K1 1 (fun k hk => by
   simp only [spec_WheelOk.f, spec_l1In_eq, Option.bind_some]
   rw [if_pos c1, if_pos c2, if_pos c3, h1 _ (by omega), Option.bind_some]
   simp only [spec_WheelOk.j0]
   rw [if_neg (by simp)]
   rfl)
  obtain ⟨r, e1, e2⟩ := ids_val (timersV l m q) (by rw [timersV_len]; omega)
  have h : ∀ d i : Nat, i + d = 8 → ∃ r, Ev (fun k => spec_WheelOk.l0 k (i : Int) a l m q) r ∧ (r = true ↔ (∀ j, i ≤ j → j < 8 → (∀ t ∈ l.getD j [], inSlot a 1 (j : Int) t) ∧ ∀ t ∈ m.getD j [], inSlot a 2 (j : Int) t) ∧ (∀ j (hj : j < (timersV l m q).length), ¬ dupT (timersV l m q) j hj) ∧ (timersV l m q).length ≤ 16) := by
   intro d
   induction d with
   | zero =>
    intro i hi
    obtain rfl : i = 8 := by omega
    refine ⟨r, ev_step 2097155 1 (fun k hk => by
     simp only [spec_WheelOk.l0]
     rw [if_neg (by omega), spec_Timers_at a l m q hl.1 hm.1 ht k (by omega), Option.bind_some]) e1, ?_⟩
    rw [e2]
    exact ⟨fun h => ⟨fun j h1 h2 => absurd h1 (by omega), h⟩, fun h => h.2⟩
   | succ d ih =>
    intro i hi
    have hil : i < l.length := by omega
    have him : i < m.length := by omega
    obtain ⟨r0, i1, i2⟩ := ih (i + 1) (by omega)
    obtain ⟨r1, ⟨A1, a1⟩, a2⟩ := slot_val a ha.1 ha.2 l m q l[i] (hl.2 _ (List.getElem_mem hil)) 1 (i : Int)
    obtain ⟨r2, ⟨B1, b1⟩, b2⟩ := slot_val a ha.1 ha.2 l m q m[i] (hm.2 _ (List.getElem_mem him)) 2 (i : Int)
    simp only at a1 b1
    have g1 : l.getD i [] = l[i] := by simp [List.getD_eq_getElem?_getD, hil]
    have g2 : m.getD i [] = m[i] := by simp [List.getD_eq_getElem?_getD, him]
    have sL : ∀ k, A1 + B1 ≤ k → spec_WheelOk.l0 (k + 1) (i : Int) a l m q = if r1 = true then (if r2 = true then spec_WheelOk.l0 k ((i : Int) + 1) a l m q else some false) else some false := by
     intro k hk
     simp only [spec_WheelOk.l0]
     rw [if_pos (by omega), if_pos (nn_cast i), if_pos (lt_cast hil), rdLIT _ _ hil, a1 k (by omega), Option.bind_some, if_pos (lt_cast him), rdLIT _ _ him, b1 k (by omega), Option.bind_some, wrap_nat1 hil (by omega)]
    cases r1 with
    | false => exact ⟨false, ev_now _ 1 (fun k hk => by rw [sL k hk, if_neg (by decide)]), fun h => absurd h (by simp), fun h => absurd (a2.2 (g1 ▸ (h.1 i (Nat.le_refl _) (by omega)).1)) (by simp)⟩
    | true =>
     cases r2 with
     | false => exact ⟨false, ev_now _ 1 (fun k hk => by rw [sL k hk, if_pos rfl, if_neg (by decide)]), fun h => absurd h (by simp), fun h => absurd (b2.2 (g2 ▸ (h.1 i (Nat.le_refl _) (by omega)).2)) (by simp)⟩
     | true =>
      refine ⟨r0, ev_step _ 1 (fun k hk => by rw [sL k hk, if_pos rfl, if_pos rfl, cast1]) i1, ?_⟩
      rw [i2]
      refine ⟨fun h => ⟨fun j h3 h4 => ?_, h.2⟩, fun h => ⟨fun j h3 h4 => h.1 j (by omega) h4, h.2⟩⟩
      rcases Nat.lt_or_ge i j with h5 | h5
      ·exact h.1 j h5 h4
      ·obtain rfl : j = i := by omega
       rw [g1, g2]
       exact ⟨a2.1 rfl, b2.1 rfl⟩
  obtain ⟨r, q1, q2⟩ := h 8 0 rfl
  refine ⟨r, hS r q1, ?_⟩
  rw [q2]
  exact ⟨fun h => ⟨by omega, by omega, ha.1, ha.2, hR, fun j hj => (h.1 j (Nat.zero_le _) hj).1, fun j hj => (h.1 j (Nat.zero_le _) hj).2, h.2.1, h.2.2⟩, fun h => ⟨fun j _ hj => ⟨h.near j hj, h.far j hj⟩, h.ids, h.few⟩⟩

theorem set_perm (l : List (List S46)) (i : Nat) (hi : i < l.length) (x : List S46) : ((l.set i x).flatten ++ l.getD i []).Perm (l.flatten ++ x) := by
 have g1 : l.getD i [] = l[i] := by simp [List.getD_eq_getElem?_getD, hi]
 have e1 : l.flatten = (l.take i).flatten ++ (l[i] ++ (l.drop (i + 1)).flatten) := by
  have h : l = l.take i ++ (l[i] :: l.drop (i + 1)) := by rw [← List.drop_eq_getElem_cons hi, List.take_append_drop]
  have h2 := congrArg List.flatten h
  rwa [List.flatten_append, List.flatten_cons] at h2
 have e2 : (l.set i x).flatten = (l.take i).flatten ++ (x ++ (l.drop (i + 1)).flatten) := by
  rw [List.set_eq_take_append_cons_drop, if_pos hi, List.flatten_append, List.flatten_cons]
 rw [g1, e2, e1]
 simp only [List.append_assoc]
 refine List.Perm.append_left _ ?_
 generalize l[i] = y
 generalize (l.drop (i + 1)).flatten = z
 refine (List.perm_append_comm).trans ?_
 rw [List.append_assoc, ← List.append_assoc, ← List.append_assoc]
 exact (List.perm_append_comm).append_right _
theorem set_add_perm (l : List (List S46)) (i : Nat) (hi : i < l.length) (t : S46) : (l.set i (l.getD i [] ++ [t])).flatten.Perm (l.flatten ++ [t]) := by
 have h := set_perm l i hi (l.getD i [] ++ [t])
 refine (List.perm_append_right_iff (l.getD i [])).1 (h.trans ?_)
 rw [List.append_assoc]
 exact List.Perm.append_left _ List.perm_append_comm
theorem lay_perm (n : Int) (t : S46) (l1 l2 : List (List S46)) (l3 : List S46) (h1 : l1.length = 8) (h2 : l2.length = 8) :
  (timersV (layV n t l1 l2 l3).1 (layV n t l1 l2 l3).2.1 (layV n t l1 l2 l3).2.2).Perm (timersV l1 l2 l3 ++ [t]) ∧ (layV n t l1 l2 l3).1.length = 8 ∧ (layV n t l1 l2 l3).2.1.length = 8 := by
 unfold layV timersV
 have b1 : (t.f2 % 8).toNat < l1.length := by omega
 have b2 : (t.f2 / 8 % 8).toNat < l2.length := by omega
 by_cases c1 : t.f2 / 8 - n / 8 = 0
 ·rw [if_pos c1]
  refine ⟨?_, by rw [List.length_set]; exact h1, h2⟩
  have h := set_add_perm l1 _ b1 t
  simp only
  refine ((h.append_right _).append_right _).trans ?_
  simp only [List.append_assoc]
  refine List.Perm.append_left _ ?_
  exact (List.perm_append_comm).trans (by simp only [List.append_assoc]; exact List.Perm.refl _)
 ·rw [if_neg c1]
  by_cases c2 : t.f2 / 8 - n / 8 < 8
  ·rw [if_pos c2]
   refine ⟨?_, h1, by rw [List.length_set]; exact h2⟩
   have h := set_add_perm l2 _ b2 t
   simp only
   refine ((h.append_left _).append_right _).trans ?_
   simp only [List.append_assoc]
   refine List.Perm.append_left _ (List.Perm.append_left _ ?_)
   exact List.perm_append_comm
  ·rw [if_neg c2]
   refine ⟨?_, h1, h2⟩
   simp only [List.append_assoc]
   exact List.Perm.refl _
theorem all_le (l : List (List S46)) (h : l.flatten.length ≤ 1000000) : (l.all fun x => decide (x.length ≤ 1000000)) = true := by
 rw [List.all_eq_true]
 intro x hx
 have := row_le l x hx
 exact decide_eq_true (by omega)
theorem layOk_at (n : Int) (t : S46) (l1 l2 : List (List S46)) (l3 : List S46) (n0 : 0 ≤ n) (n1 : n ≤ 2147483647) (t0 : 0 ≤ t.f2) (t1 : t.f2 ≤ 2147483647) (h1 : l1.length = 8) (h2 : l2.length = 8) (h3 : (timersV l1 l2 l3).length ≤ 1000) : layOk n t l1 l2 l3 = true := by
 rw [timersV_len] at h3
 simp only [layOk, Bool.and_eq_true, decide_eq_true_eq]
 exact ⟨⟨⟨⟨⟨⟨⟨⟨n0, n1⟩, t0⟩, t1⟩, h1⟩, h2⟩, all_le l1 (by omega)⟩, all_le l2 (by omega)⟩, by omega⟩

theorem ids_nodup (T : List S46) : (∀ j (hj : j < T.length), ¬ dupT T j hj) ↔ (T.map fun t => t.f0).Nodup := by
 rw [List.nodup_iff_pairwise_ne, List.pairwise_iff_getElem]
 simp only [List.length_map, List.getElem_map]
 constructor
 ·exact fun h i j hi hj hij e => h j hj ⟨i, hi, Nat.zero_le _, hij, e⟩
 ·rintro h j hj ⟨m, hm, _, hmj, e⟩
  exact h m j hm hj hmj e
theorem slot_mem (l : List (List S46)) (t : S46) (h : t ∈ l.flatten) : ∃ j, j < l.length ∧ t ∈ l.getD j [] := by
 obtain ⟨x, hx, ht⟩ := List.mem_flatten.1 h
 obtain ⟨j, hj, rfl⟩ := List.mem_iff_getElem.1 hx
 exact ⟨j, hj, by rw [List.getD_eq_getElem?_getD, List.getElem?_eq_getElem hj]; exact ht⟩
theorem OkW.all {a : Int} {l m : List (List S46)} {q : List S46} (h : OkW a l m q) : ∀ t ∈ timersV l m q, 1 ≤ t.f0 ∧ (1 ≤ t.f1 ∧ t.f1 ≤ 999) ∧ a + 1 ≤ t.f2 ∧ t.f2 ≤ 2147483647 := by
 intro t ht
 unfold timersV at ht
 rcases List.mem_append.1 ht with ht | ht
 ·rcases List.mem_append.1 ht with ht | ht
  ·obtain ⟨j, hj, h1⟩ := slot_mem l t ht
   have g := h.near j (by have := h.hl; omega) t h1
   exact ⟨g.1, g.2.1, g.2.2.1⟩
  ·obtain ⟨j, hj, h1⟩ := slot_mem m t ht
   have g := h.far j (by have := h.hm; omega) t h1
   exact ⟨g.1, g.2.1, g.2.2.1⟩
 ·have g := h.rest t ht
  exact ⟨g.1, g.2.1, g.2.2.1⟩
theorem OkW.sz {a : Int} {l m : List (List S46)} {q : List S46} (h : OkW a l m q) : SZ l m q := by
 have h1 := h.hl
 have h2 := h.hm
 have h3 := h.few
 rw [timersV_len] at h3
 exact ⟨by omega, by omega, by omega⟩

theorem lay_szs (a : Int) (t : S46) (l m : List (List S46)) (q : List S46) (h : OkW a l m q) : SZ (layV a t l m q).1 (layV a t l m q).2.1 (layV a t l m q).2.2 := by
 obtain ⟨p, h1, h2⟩ := lay_perm a t l m q h.hl h.hm
 have e := p.length_eq
 have := h.few
 rw [List.length_append, List.length_singleton, timersV_len] at e
 exact ⟨by omega, by omega, by omega⟩
theorem put_vals (a : Int) (l m : List (List S46)) (q : List S46) (x0 x1 x2 : Int) (hz : SZ l m q) :
    ∃ R : Int × List (List S46) × List (List S46) × List S46 × Bool, Ev (fun k => spec_Put.f k a l m q x0 x1 x2) R ∧
      ((¬ (OkW a l m q ∧ (a < x2 ∧ x2 ≤ 2147483647) ∧ OkW a (layV a ⟨x0, x1, x2⟩ l m q).1 (layV a ⟨x0, x1, x2⟩ l m q).2.1 (layV a ⟨x0, x1, x2⟩ l m q).2.2) ∧ R = (a, l, m, q, false)) ∨
       ((OkW a l m q ∧ (a < x2 ∧ x2 ≤ 2147483647) ∧ OkW a (layV a ⟨x0, x1, x2⟩ l m q).1 (layV a ⟨x0, x1, x2⟩ l m q).2.1 (layV a ⟨x0, x1, x2⟩ l m q).2.2) ∧ R = (a, (layV a ⟨x0, x1, x2⟩ l m q).1, (layV a ⟨x0, x1, x2⟩ l m q).2.1, (layV a ⟨x0, x1, x2⟩ l m q).2.2, true))) := by
  obtain ⟨r1, r2, r3⟩ := hz.rows
  obtain ⟨r, ⟨K1, e1⟩, _, hr⟩ := wheelOk_val a l m q ⟨hz.1, r1⟩ ⟨hz.2.1, r2⟩ r3 hz.2.2
  simp only at e1
  cases r with
  | false =>
    refine ⟨(a, l, m, q, false), ⟨K1 + 1048577, fun k hk => ?_⟩, .inl ⟨fun h => absurd (hr.2 h.1) (by simp), rfl⟩⟩
    show spec_Put.f k a l m q x0 x1 x2 = _
    rw [spec_Put.f, l8Copy_at a l m q hz k (by omega), Option.bind_some, if_pos rfl, e1 k (by omega), Option.bind_some, if_neg (by simp)]
  | true =>
    have ho := hr.1 rfl
    have h0 := ho.h0
    have h1 := ho.h1
    by_cases c : a < x2 ∧ x2 ≤ 2147483647
    case neg =>
      refine ⟨(a, l, m, q, false), ⟨K1 + 1048577, fun k hk => ?_⟩, .inl ⟨fun h => c h.2.1, rfl⟩⟩
      show spec_Put.f k a l m q x0 x1 x2 = _
      rw [spec_Put.f, l8Copy_at a l m q hz k (by omega), Option.bind_some, if_pos rfl, e1 k (by omega), Option.bind_some, if_pos rfl]
      by_cases c1 : x2 ≤ a
      · rw [if_pos c1]
      · rw [if_neg c1, if_pos (by omega)]
    have ok := layOk_at a ⟨x0, x1, x2⟩ l m q h0 h1 (show 0 ≤ x2 by omega) c.2 ho.hl ho.hm (by have := ho.few; omega)
    have hz2 := lay_szs a ⟨x0, x1, x2⟩ l m q ho
    obtain ⟨s1, s2, s3⟩ := hz2.rows
    obtain ⟨r', ⟨K3, e3⟩, _, hr'⟩ := wheelOk_val a _ _ _ ⟨hz2.1, s1⟩ ⟨hz2.2.1, s2⟩ s3 hz2.2.2
    simp only at e3
    have hs : ∀ R, (if r' = true then some (a, (layV a ⟨x0, x1, x2⟩ l m q).1, (layV a ⟨x0, x1, x2⟩ l m q).2.1, (layV a ⟨x0, x1, x2⟩ l m q).2.2, true) else some (a, l, m, q, false)) = some R → Ev (fun k => spec_Put.f k a l m q x0 x1 x2) R := by
      intro R hR
      refine ⟨K1 + K3 + 1048577, fun k hk => ?_⟩
      show spec_Put.f k a l m q x0 x1 x2 = _
      rw [spec_Put.f, l8Copy_at a l m q hz k (by omega), Option.bind_some, if_pos rfl, e1 k (by omega), Option.bind_some, if_pos rfl, if_neg (by omega), if_neg (by omega), if_pos ok, e3 k (by omega), Option.bind_some]
      exact hR
    cases r' with
    | false => exact ⟨_, hs _ (by rw [if_neg (by simp)]), .inl ⟨fun h => absurd (hr'.2 h.2.2) (by simp), rfl⟩⟩
    | true => exact ⟨_, hs _ (by rw [if_pos rfl]), .inr ⟨⟨ho, c, hr'.1 rfl⟩, rfl⟩⟩

theorem band_range (x : Int) (m : Nat) (hm : m < 9223372036854775808) : 0 ≤ Go.bits .and .i64 x (m : Int) ∧ Go.bits .and .i64 x (m : Int) ≤ m := by
 have e1 : (BitVec.ofInt 64 (m : Int)).toNat = m := by
  rw [BitVec.ofInt_natCast, BitVec.toNat_ofNat]
  exact Nat.mod_eq_of_lt (by omega)
 have e2 : Go.bits .and .i64 x (m : Int) = IntKind.i64.wrap ((BitVec.ofInt 64 x &&& BitVec.ofInt 64 (m : Int)).toNat : Int) := rfl
 have h : (BitVec.ofInt 64 x).toNat &&& m ≤ m := Nat.and_le_right
 rw [e2, BitVec.toNat_and, e1, IntKind.wrap_i64]
 omega
def RdOk (s : List Int) (i : Int) : Prop := 0 ≤ i ∧ i ≤ s.length ∧ s.length ≤ 140737488351232
theorem l1Byte_ex (s : List Int) (i h : Int) (H : RdOk s i) : ∃ b j h', spec_l1Byte.f s i h = some (b, j, h') ∧ 0 ≤ b ∧ b ≤ 255 ∧ RdOk s j := by
 obtain ⟨h0, h1, h2⟩ := H
 unfold spec_l1Byte.f
 by_cases hc : i < (s.length : Int)
 ·rw [if_pos hc, if_pos h0]
  refine ⟨_, _, _, rfl, (band_range _ 255 (by omega)).1, (band_range _ 255 (by omega)).2, ?_⟩
  rw [wrap_of (by omega) (by omega)]
  exact ⟨by omega, by omega, h2⟩
 ·rw [if_neg hc]
  exact ⟨_, _, _, rfl, (band_range _ 255 (by omega)).1, (band_range _ 255 (by omega)).2, h0, h1, h2⟩
theorem l1Below_ex (s : List Int) (i h n : Int) (H : RdOk s i) : ∃ v j h', spec_l1Below.f s i h n = some (v, j, h') ∧ 0 ≤ v ∧ (0 < n → v < n) ∧ (n ≤ 0 → v = 0) ∧ RdOk s j := by
 unfold spec_l1Below.f
 by_cases h1 : n ≤ 0
 ·rw [if_pos h1]
  exact ⟨0, i, h, rfl, by omega, fun _ => by omega, fun _ => rfl, H⟩
 ·rw [if_neg h1]
  by_cases h2 : n ≤ 256
  ·rw [if_pos h2]
   obtain ⟨b, j, h', e, b0, b1, H1⟩ := l1Byte_ex s i h H
   rw [e, Option.bind_some, if_neg (by omega), Int.tmod_eq_emod_of_nonneg b0]
   exact ⟨_, _, _, rfl, Int.emod_nonneg _ (by omega), fun _ => Int.emod_lt_of_pos _ (by omega), fun _ => by omega, H1⟩
  ·rw [if_neg h2]
   obtain ⟨b, j, h', e, b0, b1, H1⟩ := l1Byte_ex s i h H
   obtain ⟨b', j', h'', e', b0', b1', H2⟩ := l1Byte_ex s j h' H1
   obtain ⟨b'', j'', h3, e'', b0'', b1'', H3⟩ := l1Byte_ex s j' h'' H2
   simp only [e, e', e'', Option.bind_some]
   have w1 : wrap64 (b * 65536) = b * 65536 := wrap_of (by omega) (by omega)
   have w2 : wrap64 (b' * 256) = b' * 256 := wrap_of (by omega) (by omega)
   have w3 : wrap64 (b * 65536 + b' * 256) = b * 65536 + b' * 256 := wrap_of (by omega) (by omega)
   have w4 : wrap64 (b * 65536 + b' * 256 + b'') = b * 65536 + b' * 256 + b'' := wrap_of (by omega) (by omega)
   rw [if_neg (by omega), w1, w2, w3, w4, Int.tmod_eq_emod_of_nonneg (by omega)]
   exact ⟨_, _, _, rfl, Int.emod_nonneg _ (by omega), fun _ => Int.emod_lt_of_pos _ (by omega), fun _ => by omega, H3⟩
theorem l1New_ex (l : List Int) (hl : l.length ≤ 140737488351232) : ∃ h, Ev (fun k => spec_l1New.f k l) (l, 0, h) := by
 obtain ⟨r, ⟨h, rfl⟩, hr⟩ := loop_ex (σ := Int) (L := fun k s i => spec_l1New.l0 k l s i) (n := l.length) (K := 0)
  (I := fun _ _ => True) (Post := fun _ _ r => ∃ h, r = (l, 0, h))
  (fun s _ => ⟨_, ⟨s, rfl⟩, fun k => by
   simp only [spec_l1New.l0]
   rw [if_neg (not_lt_cast _)]⟩)
  (fun s i hi _ => by
   by_cases h4 : (i : Int) < 4000
   ·refine .inr ⟨Go.bits .and .i64 (wrap64 ((wrap64 ((wrap64 (s * 137)) + (wrap64 (rd l (i : Int))))) + 11)) 1073741823, trivial, fun k _ => ?_, fun _ h => h⟩
    simp only [spec_l1New.l0]
    rw [if_pos (lt_cast hi), if_pos h4, if_pos (nn_cast i), wrap_nat1 hi (by omega)]
   ·refine .inl ⟨_, ⟨s, rfl⟩, fun k _ => ?_⟩
    simp only [spec_l1New.l0]
    rw [if_pos (lt_cast hi), if_neg h4]) l.length (wrap64 (140371 + (l.length : Int))) 0 (by omega) trivial
 exact ⟨h, ev_at (0 + l.length) fun k hk => hr k hk⟩
theorem rdOk_0 (l : List Int) (hl : l.length ≤ 140737488351232) : RdOk l 0 := ⟨by omega, by omega, hl⟩

theorem rd_nat (l : List Int) (i : Nat) (h : i < l.length) : rd l (i : Int) = l[i] := by
 simp [rd, List.getD_eq_getElem?_getD, h]

theorem l1Int_ex (s : List Int) (i h : Int) (l : List Int) (hl : 0 < l.length) (H : RdOk s i) : ∃ v j h', spec_l1Int.f s i h l = some (v, j, h') ∧ v ∈ l ∧ RdOk s j := by
 obtain ⟨v, j, h', e, v0, v1, _, H1⟩ := l1Below_ex s i h (l.length : Int) H
 have hv : v < (l.length : Int) := v1 (by omega)
 obtain ⟨m, rfl⟩ : ∃ m : Nat, v = m := ⟨v.toNat, by omega⟩
 have hm : m < l.length := by omega
 refine ⟨l[m], j, h', ?_, List.getElem_mem hm, H1⟩
 simp only [spec_l1Int.f, e, Option.bind_some]
 rw [if_pos v0, if_pos hv, rd_nat _ _ hm]

theorem wheelNew_at : ∀ k, 8 < k → spec_WheelNew.f k = some (0, List.replicate 8 [], List.replicate 8 [], []) := by
 obtain ⟨r, hr, h⟩ := loop_ex (σ := Unit) (L := fun k _ i => spec_WheelNew.l0 k i 0 (List.replicate i.toNat []) (List.replicate i.toNat [])) (n := 8) (K := 0) (I := fun _ _ => True) (Post := fun _ _ r => r = (0, List.replicate 8 [], List.replicate 8 [], []))
  (fun s _ => ⟨_, rfl, fun k => by
   rw [spec_WheelNew.l0, if_neg (by omega)]
   rfl⟩)
  (fun s i hi _ => .inr ⟨(), trivial, fun k _ => by
   rw [spec_WheelNew.l0, if_pos (by omega), if_pos (by rw [List.length_replicate]; omega), if_pos (by rw [List.length_replicate]; omega), wrap_of (by omega) (by omega), show ((i : Int) + 1).toNat = i + 1 by omega, Int.toNat_natCast, List.replicate_succ', ], fun _ h => h⟩) 8 () 0 (by omega) trivial
 subst hr
 exact fun k hk => h k (by omega)
theorem new_ok (a : Int) (h0 : 0 ≤ a) (h1 : a ≤ 2147483647) : OkW a (List.replicate 8 []) (List.replicate 8 []) [] := by
 have e : ∀ j t, t ∈ (List.replicate 8 ([] : List S46)).getD j [] → False := by
  intro j t ht
  rw [List.getD_eq_getElem?_getD, List.getElem?_replicate] at ht
  by_cases c : j < 8
  ·rw [if_pos c] at ht
   simp at ht
  ·rw [if_neg c] at ht
   simp at ht
 have eT : timersV (List.replicate 8 ([] : List S46)) (List.replicate 8 []) [] = [] := rfl
 exact ⟨rfl, rfl, h0, h1, fun t ht => by simp at ht, fun j _ t ht => (e j t ht).elim, fun j _ t ht => (e j t ht).elim, fun j hj => by rw [eT] at hj; exact absurd hj (by simp), by rw [eT]; simp⟩
theorem timer_ex (s : List Int) (i h a id : Int) (H : RdOk s i) : ∃ t1 t2 j h', spec_l8Timer.f s i h a id = some (id, t1, t2, j, h') ∧ RdOk s j := by
 obtain ⟨v, j, h1, e1, _, _, _, H1⟩ := l1Below_ex s i h 5 H
 obtain ⟨v2, j2, h2, e2, _, H2⟩ := l1Int_ex s j h1 [0, 1, 3, 6, 7, 8, 20, 55, 63, 64, 70, 200] (by decide) H1
 exact ⟨_, _, j2, h2, by simp only [spec_l8Timer.f, e1, e2, Option.bind_some]; rfl, H2⟩
theorem put_keeps (a : Int) (l m : List (List S46)) (q : List S46) (x0 x1 x2 : Int) (h : OkW a l m q) : ∃ l' m' q' b, Ev (fun k => spec_Put.f k a l m q x0 x1 x2) (a, l', m', q', b) ∧ OkW a l' m' q' := by
 obtain ⟨R, s1, hR⟩ := put_vals a l m q x0 x1 x2 h.sz
 rcases hR with ⟨_, rfl⟩ | ⟨hR, rfl⟩
 ·exact ⟨_, _, _, _, s1, h⟩
 ·exact ⟨_, _, _, _, s1, hR.2.2⟩
theorem draw_loop (s : List Int) (a : Int) : ∀ (n : Nat) (i h : Int) (l m : List (List S46)) (q : List S46), n ≤ 1048576 → RdOk s i → OkW a l m q →
  ∃ l' m' q' j h', Ev (fun k => spec_l8Draw.l0 k (n : Int) s i h a l m q) (a, l', m', q', j, h') ∧ OkW a l' m' q' ∧ RdOk s j := by
 intro n
 induction n with
 | zero => exact fun i h l m q _ H ho => ⟨l, m, q, i, h, ⟨1, fun k hk => by
   obtain ⟨k, rfl⟩ : ∃ n, k = n + 1 := ⟨k - 1, by omega⟩
   show spec_l8Draw.l0 (k + 1) ((0 : Nat) : Int) s i h a l m q = _
   rw [spec_l8Draw.l0, if_neg (by omega)]⟩, ho, H⟩
 | succ n ih =>
  intro i h l m q hn H ho
  obtain ⟨t1, t2, j, h1, e1, H1⟩ := timer_ex s i h a ((n + 1 : Nat) : Int) H
  obtain ⟨l', m', q', b, ⟨K1, e2⟩, ho2⟩ := put_keeps a l m q ((n + 1 : Nat) : Int) t1 t2 ho
  obtain ⟨l2, m2, q2, j2, h2, ⟨K2, e3⟩, ho3, H3⟩ := ih j h1 l' m' q' (by omega) H1 ho2
  simp only at e2 e3
  refine ⟨l2, m2, q2, j2, h2, ⟨K1 + K2 + 1, fun k hk => ?_⟩, ho3, H3⟩
  obtain ⟨k, rfl⟩ : ∃ n, k = n + 1 := ⟨k - 1, by omega⟩
  show spec_l8Draw.l0 (k + 1) ((n + 1 : Nat) : Int) s i h a l m q = _
  rw [spec_l8Draw.l0, if_pos (by omega), e1, Option.bind_some]
  dsimp only
  rw [e2 k (by omega), Option.bind_some]
  dsimp only
  rw [wrap_of (by omega) (by omega), show ((n + 1 : Nat) : Int) - 1 = (n : Int) by omega]
  exact e3 k (by omega)
theorem l8Draw_ex (s : List Int) (i h : Int) (H : RdOk s i) : ∃ a l m q j h', Ev (fun k => spec_l8Draw.f k s i h) (a, l, m, q, j, h') ∧ OkW a l m q ∧ a ≤ 1000 ∧ RdOk s j := by
 obtain ⟨a, j, h1, e1, ha, H1⟩ := l1Int_ex s i h [0, 0, 5, 7, 8, 63, 64, 1000] (by decide) H
 have ha2 : 0 ≤ a ∧ a ≤ 1000 := by
  simp only [List.mem_cons, List.not_mem_nil, or_false] at ha
  omega
 obtain ⟨n, j2, h2, e2, n0, n1, _, H2⟩ := l1Below_ex s j h1 7 H1
 have n2 := n1 (by omega)
 obtain ⟨n, rfl⟩ : ∃ m : Nat, n = (m : Int) := ⟨n.toNat, by omega⟩
 obtain ⟨l, m, q, j3, h3, ⟨K, e3⟩, ho, H3⟩ := draw_loop s a n j2 h2 _ _ _ (by omega) H2 (new_ok a ha2.1 (by omega))
 simp only at e3
 refine ⟨a, l, m, q, j3, h3, ⟨K + 9, fun k hk => ?_⟩, ho, ha2.2, H3⟩
 show spec_l8Draw.f k s i h = _
 rw [spec_l8Draw.f, wheelNew_at k (by omega), Option.bind_some, e1, Option.bind_some]
 dsimp only
 rw [e2, Option.bind_some]
 exact e3 k (by omega)
theorem l8Any_ex (s : List Int) (i h : Int) (H : RdOk s i) : ∃ a l m q j h', Ev (fun k => spec_l8Any.f k s i h) (a, l, m, q, j, h') ∧ SZ l m q ∧ RdOk s j := by
 obtain ⟨a, l, m, q, j, h1, ⟨K, e1⟩, ho, _, H1⟩ := l8Draw_ex s i h H
 simp only at e1
 obtain ⟨c, j2, h2, e2, _, _, _, H2⟩ := l1Below_ex s j h1 12 H1
 have hz := ho.sz
 have hl := ho.hl
 have hm := ho.hm
 have few := ho.few
 rw [timersV_len] at few
 have go : ∀ R : Int × List (List S46) × List (List S46) × List S46 × Int × Int, (∀ k, K ≤ k → spec_l8Any.f k s i h = some R) → SZ R.2.1 R.2.2.1 R.2.2.2.1 → RdOk s R.2.2.2.2.1 → ∃ a l m q j h', Ev (fun k => spec_l8Any.f k s i h) (a, l, m, q, j, h') ∧ SZ l m q ∧ RdOk s j :=
  fun R hR h1 h2 => ⟨R.1, R.2.1, R.2.2.1, R.2.2.2.1, R.2.2.2.2.1, R.2.2.2.2.2, ⟨K, hR⟩, h1, h2⟩
 have hs : ∀ k, K ≤ k → ∀ R, _ = some R → spec_l8Any.f k s i h = some R := fun k hk R hR => by
  rw [spec_l8Any.f, e1 k hk, Option.bind_some]
  dsimp only
  rw [e2, Option.bind_some]
  dsimp only
  exact hR
 have one : ∀ (x : List (List S46)) (p : Nat) (t : S46), p < x.length → (x.set p [t]).flatten.length ≤ x.flatten.length + 1 := by
  intro x p t hp
  have := (set_perm x p hp [t]).length_eq
  rw [List.length_append, List.length_append, List.length_singleton] at this
  omega
 by_cases c0 : c = 0
 ·obtain ⟨x, j3, h3, e3, _, H3⟩ := l1Int_ex s j2 h2 [(-1), 1, 8] (by decide) H2
  exact go _ (fun k hk => hs k hk _ (by rw [if_pos c0, e3, Option.bind_some])) hz H3
 by_cases c1 : c = 1
 ·obtain ⟨p, j3, h3, e3, p0, p1, _, H3⟩ := l1Below_ex s j2 h2 8 H2
  have p2 := p1 (by omega)
  obtain ⟨t1, t2, j4, h4, e4, H4⟩ := timer_ex s j3 h3 a 9 H3
  refine go _ (fun k hk => hs k hk _ (by
   rw [if_neg c0, if_pos c1, e3, Option.bind_some]
   dsimp only
   rw [e4, Option.bind_some]
   dsimp only
   rw [if_pos p0, if_pos (by omega)])) ?_ H4
  have := one l p.toNat ⟨9, t1, t2⟩ (by omega)
  exact ⟨by simp only; rw [List.length_set]; omega, by simp only; omega, by simp only; omega⟩
 by_cases c2 : c = 2
 ·obtain ⟨p, j3, h3, e3, p0, p1, _, H3⟩ := l1Below_ex s j2 h2 8 H2
  have p2 := p1 (by omega)
  obtain ⟨t1, t2, j4, h4, e4, H4⟩ := timer_ex s j3 h3 a 9 H3
  refine go _ (fun k hk => hs k hk _ (by
   rw [if_neg c0, if_neg c1, if_pos c2, e3, Option.bind_some]
   dsimp only
   rw [e4, Option.bind_some]
   dsimp only
   rw [if_pos p0, if_pos (by omega)])) ?_ H4
  have := one m p.toNat ⟨9, t1, t2⟩ (by omega)
  exact ⟨by simp only; omega, by simp only; rw [List.length_set]; omega, by simp only; omega⟩
 by_cases c3 : c = 3
 ·obtain ⟨p, j3, h3, e3, _, H3⟩ := l1Int_ex s j2 h2 [0, 1, 9] (by decide) H2
  obtain ⟨t1, t2, j4, h4, e4, H4⟩ := timer_ex s j3 h3 a p H3
  refine go _ (fun k hk => hs k hk _ (by
   rw [if_neg c0, if_neg c1, if_neg c2, if_pos c3, e3, Option.bind_some]
   dsimp only
   rw [e4, Option.bind_some]
   dsimp only
   rw [if_pos (by omega)])) ?_ H4
  exact ⟨by simp only; omega, by simp only; omega, by simp only; rw [List.length_append, List.length_singleton]; omega⟩
 by_cases c4 : c = 4
 ·refine go _ (fun k hk => hs k hk _ (by rw [if_neg c0, if_neg c1, if_neg c2, if_neg c3, if_pos c4, if_pos (by omega)])) ?_ H2
  have := flat_take_le l ((7 : Int)).toNat
  exact ⟨by simp only; rw [List.length_take]; omega, by simp only; omega, by simp only; omega⟩
 ·exact go _ (fun k hk => hs k hk _ (by rw [if_neg c0, if_neg c1, if_neg c2, if_neg c3, if_neg c4])) hz H2

theorem lay_sz (a : Int) (t : S46) (l m : List (List S46)) (q : List S46) (h : OkW a l m q) : SZ (layV a t l m q).1 (layV a t l m q).2.1 (layV a t l m q).2.2 := by
 obtain ⟨p, h1, h2⟩ := lay_perm a t l m q h.hl h.hm
 have e := p.length_eq
 have := h.few
 rw [List.length_append, List.length_singleton, timersV_len] at e
 exact ⟨by omega, by omega, by omega⟩
theorem put_val (a : Int) (l m : List (List S46)) (q : List S46) (x0 x1 x2 : Int) (hz : SZ l m q) :
    ∃ R : Int × List (List S46) × List (List S46) × List S46 × Bool, Ev (fun k => spec_Put.f k a l m q x0 x1 x2) R ∧ Ev (fun k => impl_Put.f k a l m q x0 x1 x2) R ∧ SZ R.2.1 R.2.2.1 R.2.2.2.1 ∧
      ((¬ (OkW a l m q ∧ (a < x2 ∧ x2 ≤ 2147483647) ∧ OkW a (layV a ⟨x0, x1, x2⟩ l m q).1 (layV a ⟨x0, x1, x2⟩ l m q).2.1 (layV a ⟨x0, x1, x2⟩ l m q).2.2) ∧ R = (a, l, m, q, false)) ∨
       ((OkW a l m q ∧ (a < x2 ∧ x2 ≤ 2147483647) ∧ OkW a (layV a ⟨x0, x1, x2⟩ l m q).1 (layV a ⟨x0, x1, x2⟩ l m q).2.1 (layV a ⟨x0, x1, x2⟩ l m q).2.2) ∧ R = (a, (layV a ⟨x0, x1, x2⟩ l m q).1, (layV a ⟨x0, x1, x2⟩ l m q).2.1, (layV a ⟨x0, x1, x2⟩ l m q).2.2, true))) := by
  obtain ⟨r1, r2, r3⟩ := hz.rows
  obtain ⟨r, ⟨K1, e1⟩, ⟨K2, e2⟩, hr⟩ := wheelOk_val a l m q ⟨hz.1, r1⟩ ⟨hz.2.1, r2⟩ r3 hz.2.2
  simp only at e1 e2
  cases r with
  | false =>
    refine ⟨(a, l, m, q, false), ⟨K1 + 1048577, fun k hk => ?_⟩, ⟨K2 + 1048577, fun k hk => ?_⟩, hz, .inl ⟨fun h => absurd (hr.2 h.1) (by simp), rfl⟩⟩
    · show spec_Put.f k a l m q x0 x1 x2 = _
      rw [spec_Put.f, l8Copy_at a l m q hz k (by omega), Option.bind_some, if_pos rfl, e1 k (by omega), Option.bind_some, if_neg (by simp)]
    · show impl_Put.f k a l m q x0 x1 x2 = _
      rw [impl_Put.f, copyWheel_at a l m q hz k (by omega), Option.bind_some, if_pos rfl, e2 k (by omega), Option.bind_some, if_neg (by simp)]
  | true =>
    have ho := hr.1 rfl
    have h0 := ho.h0
    have h1 := ho.h1
    have hw : wrap64 (a + 1) = a + 1 := wrap_of (by omega) (by omega)
    by_cases c : a < x2 ∧ x2 ≤ 2147483647
    case neg =>
      refine ⟨(a, l, m, q, false), ⟨K1 + 1048577, fun k hk => ?_⟩, ⟨K2 + 1048577, fun k hk => ?_⟩, hz, .inl ⟨fun h => c h.2.1, rfl⟩⟩
      · show spec_Put.f k a l m q x0 x1 x2 = _
        rw [spec_Put.f, l8Copy_at a l m q hz k (by omega), Option.bind_some, if_pos rfl, e1 k (by omega), Option.bind_some, if_pos rfl]
        by_cases c1 : x2 ≤ a
        · rw [if_pos c1]
        · rw [if_neg c1, if_pos (by omega)]
      · show impl_Put.f k a l m q x0 x1 x2 = _
        rw [impl_Put.f, copyWheel_at a l m q hz k (by omega), Option.bind_some, if_pos rfl, e2 k (by omega), Option.bind_some, if_pos rfl, impl_within_eq, hw, Option.bind_some, if_neg (by simp [inB]; omega)]
    have ok := layOk_at a ⟨x0, x1, x2⟩ l m q h0 h1 (show 0 ≤ x2 by omega) c.2 ho.hl ho.hm (by have := ho.few; omega)
    have hz2 := lay_sz a ⟨x0, x1, x2⟩ l m q ho
    obtain ⟨s1, s2, s3⟩ := hz2.rows
    obtain ⟨r', ⟨K3, e3⟩, ⟨K4, e4⟩, hr'⟩ := wheelOk_val a _ _ _ ⟨hz2.1, s1⟩ ⟨hz2.2.1, s2⟩ s3 hz2.2.2
    simp only at e3 e4
    have hs : ∀ R, (if r' = true then some (a, (layV a ⟨x0, x1, x2⟩ l m q).1, (layV a ⟨x0, x1, x2⟩ l m q).2.1, (layV a ⟨x0, x1, x2⟩ l m q).2.2, true) else some (a, l, m, q, false)) = some R → Ev (fun k => spec_Put.f k a l m q x0 x1 x2) R ∧ Ev (fun k => impl_Put.f k a l m q x0 x1 x2) R := by
      intro R hR
      refine ⟨⟨K1 + K3 + 1048577, fun k hk => ?_⟩, ⟨K2 + K4 + 1048577, fun k hk => ?_⟩⟩
      · show spec_Put.f k a l m q x0 x1 x2 = _
        rw [spec_Put.f, l8Copy_at a l m q hz k (by omega), Option.bind_some, if_pos rfl, e1 k (by omega), Option.bind_some, if_pos rfl, if_neg (by omega), if_neg (by omega), if_pos ok, e3 k (by omega), Option.bind_some]
        exact hR
      · show impl_Put.f k a l m q x0 x1 x2 = _
        rw [impl_Put.f, copyWheel_at a l m q hz k (by omega), Option.bind_some, if_pos rfl, e2 k (by omega), Option.bind_some, if_pos rfl, impl_within_eq, hw, Option.bind_some, if_pos (by simp [inB]; omega), if_pos ok, e4 k (by omega), Option.bind_some]
        exact hR
    cases r' with
    | false =>
      obtain ⟨t1, t2⟩ := hs _ (by rw [if_neg (by simp)])
      exact ⟨_, t1, t2, hz, .inl ⟨fun h => absurd (hr'.2 h.2.2) (by simp), rfl⟩⟩
    | true =>
      obtain ⟨t1, t2⟩ := hs _ (by rw [if_pos rfl])
      exact ⟨_, t1, t2, hz2, .inr ⟨⟨ho, c, hr'.1 rfl⟩, rfl⟩⟩

def flT (id : Int) (x : List S46) : List S46 := x.filter (fun t => decide (t.f0 ≠ id))
theorem flT_take (id : Int) (l : List S46) (i : Nat) (h : i < l.length) : flT id (l.take (i + 1)) = flT id (l.take i) ++ (if l[i].f0 = id then [] else [l[i]]) := by
 unfold flT
 rw [List.take_succ_eq_append_getElem h, List.filter_append]
 congr 1
 by_cases c : l[i].f0 = id
 ·rw [if_pos c, List.filter_cons_of_neg (by simpa using c), List.filter_nil]
 ·rw [if_neg c, List.filter_cons_of_pos (by simpa using c), List.filter_nil]
theorem flT_le (id : Int) (l : List S46) : (flT id l).length ≤ l.length := List.length_filter_le _ _
theorem flT_self (id : Int) (l : List S46) (h : ∀ t ∈ l, t.f0 ≠ id) : flT id l = l := by
 unfold flT
 rw [List.filter_eq_self]
 exact fun t ht => by simpa using h t ht
theorem l8Without_at (id : Int) (l : List S46) (hl : l.length ≤ 1048576) : ∀ k, 1048576 < k → spec_l8Without.f k l id = some (flT id l) := by
 obtain ⟨r, hr, h⟩ := loop_ex (σ := List S46) (L := fun k s i => spec_l8Without.l0 k l id s i) (n := l.length) (K := 0)
  (I := fun s i => s = flT id (l.take i)) (Post := fun _ _ r => r = flT id l)
  (fun s hI => ⟨_, rfl, fun k => by
   simp only [spec_l8Without.l0]
   rw [if_neg (not_lt_cast _), hI, List.take_length]⟩)
  (fun s i hi hI => .inr ⟨_, rfl, fun k _ => by
   have h1 := flT_le id (l.take i)
   rw [List.length_take] at h1
   simp only [spec_l8Without.l0]
   rw [if_pos (lt_cast hi), if_pos (nn_cast i), rdIT _ _ hi, wrap_nat1 hi (by omega), flT_take id l i hi, hI]
   by_cases c : l[i].f0 = id
   ·rw [if_pos c, if_pos c, List.append_nil]
   ·rw [if_neg c, if_neg c, if_pos (by omega)], fun _ h => h⟩) l.length [] 0 (by omega) (by simp [flT])
 subst hr
 exact fun k hk => h k (by omega)
theorem idx_at (id : Int) (l : List S46) (hl : l.length ≤ 1048576) : ∃ r : Int, ((r = -1 ∧ ∀ j (hj : j < l.length), l[j].f0 ≠ id) ∨ ∃ p : Nat, ∃ hp : p < l.length, r = (p : Int) ∧ l[p].f0 = id ∧ ∀ j (hj : j < l.length), j < p → l[j].f0 ≠ id) ∧
  ∀ k, 1048576 < k → impl_Timer_89.f (fun x _ _ => some (x == id)) k l = some r := by
 obtain ⟨r, hr, h⟩ := loop_ex (σ := Unit) (L := fun k _ i => impl_Timer_89.l0 (fun x _ _ => some (x == id)) k l l.length i) (n := l.length) (K := 0)
  (I := fun _ _ => True) (Post := fun _ i r => (r = -1 ∧ ∀ j (hj : j < l.length), i ≤ j → l[j].f0 ≠ id) ∨ ∃ p : Nat, ∃ hp : p < l.length, r = (p : Int) ∧ l[p].f0 = id ∧ ∀ j (hj : j < l.length), i ≤ j → j < p → l[j].f0 ≠ id)
  (fun s hI => ⟨-1, .inl ⟨rfl, fun j hj hj2 => absurd hj (by omega)⟩, fun k => by
   simp only [impl_Timer_89.l0]
   rw [if_neg (not_lt_cast _)]⟩)
  (fun s i hi hI => by
   have hs : ∀ k, impl_Timer_89.l0 (fun x _ _ => some (x == id)) (k + 1) l l.length (i : Int) = if l[i].f0 = id then some (i : Int) else impl_Timer_89.l0 (fun x _ _ => some (x == id)) k l l.length ((i : Int) + 1) := by
    intro k
    simp only [impl_Timer_89.l0]
    rw [if_pos (lt_cast hi), if_pos (nn_cast i), if_pos (lt_cast hi), rdIT _ _ hi, wrap_nat1 hi (by omega), Option.bind_some]
    by_cases c : l[i].f0 = id
    ·rw [if_pos c, if_pos (by simpa using c)]
    ·rw [if_neg c, if_neg (by simpa using c)]
   by_cases c : l[i].f0 = id
   ·exact .inl ⟨i, .inr ⟨i, hi, rfl, c, fun j hj h1 h2 => by omega⟩, fun k _ => by rw [hs, if_pos c]⟩
   ·refine .inr ⟨(), trivial, fun k _ => by rw [hs, if_neg c], fun r hr => ?_⟩
    have more : ∀ j (hj : j < l.length), i ≤ j → (i + 1 ≤ j → l[j].f0 ≠ id) → l[j].f0 ≠ id := by
     intro j hj h1 h2
     rcases Nat.lt_or_ge i j with h3 | h3
     ·exact h2 h3
     ·obtain rfl : j = i := by omega
      exact c
    rcases hr with ⟨h1, h2⟩ | ⟨p, hp, h1, h2, h3⟩
    ·exact .inl ⟨h1, fun j hj hij => more j hj hij (h2 j hj)⟩
    ·exact .inr ⟨p, hp, h1, h2, fun j hj hij hjp => more j hj hij (fun h4 => h3 j hj h4 hjp)⟩) l.length () 0 (by omega) trivial
 refine ⟨r, ?_, fun k hk => ?_⟩
 ·rcases hr with ⟨h1, h2⟩ | ⟨p, hp, h1, h2, h3⟩
  ·exact .inl ⟨h1, fun j hj => h2 j hj (Nat.zero_le _)⟩
  ·exact .inr ⟨p, hp, h1, h2, fun j hj hjp => h3 j hj (Nat.zero_le _) hjp⟩
 ·simp only [impl_Timer_89.f]
  exact h k (by omega)
theorem delete_at (id : Int) (l : List S46) (hl : l.length ≤ 1048576) : ∀ k, 1048577 < k → slices_DeleteFunc.f k l id = some (flT id l) := by
 obtain ⟨r, hr, hx⟩ := idx_at id l hl
 rcases hr with ⟨rfl, h2⟩ | ⟨p, hp, rfl, h2, h3⟩
 ·intro k hk
  rw [slices_DeleteFunc.f, hx k (by omega), Option.bind_some, if_pos rfl, flT_self id l ?_]
  intro t ht
  obtain ⟨j, hj, rfl⟩ := List.mem_iff_getElem.1 ht
  exact h2 j hj
 ·have e0 : flT id (l.take p) = l.take p := flT_self id _ (by
   intro t ht
   obtain ⟨j, hj, rfl⟩ := List.mem_iff_getElem.1 ht
   rw [List.length_take] at hj
   rw [List.getElem_take]
   exact h3 j (by omega) (by omega))
  obtain ⟨r, hr, h⟩ := loop_ex (σ := List S46 × Int) (L := fun k s j => del.l id k s.1 s.2 j) (n := l.length) (K := 0)
   (I := fun s j => s.1.length = l.length ∧ s.1.drop j = l.drop j ∧ ∃ i : Nat, s.2 = (i : Int) ∧ i + 1 ≤ j ∧ s.1.take i = flT id (l.take j)) (Post := fun _ _ r => r.1.length = l.length ∧ ∃ i : Nat, r.2 = (i : Int) ∧ i ≤ l.length ∧ r.1.take i = flT id l)
   (fun s hI => by
    obtain ⟨i1, i2, i, i3, i4, i5⟩ := hI
    refine ⟨(s.1, s.2), ⟨i1, i, i3, by omega, by rw [i5, List.take_length]⟩, fun k => ?_⟩
    simp only [del.l]
    rw [i1, if_neg (not_lt_cast _)])
   (fun s j hj hI => by
    obtain ⟨x, x2⟩ := s
    obtain ⟨i1, i2, i, i3, i4, i5⟩ := hI
    simp only at i1 i2 i3 i5
    subst i3
    have hjx : j < x.length := by omega
    have e : x[j] = l[j] := by
     have h4 : (x.drop j)[0]? = (l.drop j)[0]? := by rw [i2]
     rw [List.getElem?_drop, List.getElem?_drop, Nat.add_zero, List.getElem?_eq_getElem hjx, List.getElem?_eq_getElem hj] at h4
     exact Option.some.inj h4
    have i6 : x.drop (j + 1) = l.drop (j + 1) := by
     have h5 := congrArg (List.drop 1) i2
     rwa [List.drop_drop, List.drop_drop] at h5
    have hs : ∀ k, del.l id (k + 1) x (i : Int) (j : Int) = if l[j].f0 = id then del.l id k x (i : Int) ((j : Int) + 1) else del.l id k (x.set i l[j]) ((i : Int) + 1) ((j : Int) + 1) := by
     intro k
     simp only [del.l]
     rw [if_pos (lt_cast hjx), if_pos (nn_cast j), rdIT _ _ hjx, e, wrap_nat1 hj (by omega), if_pos (nn_cast i), if_pos (lt_cast (show i < x.length by omega)), wrap_nat1 (show i < l.length by omega) (by omega)]
     rfl
    refine .inr ?_
    by_cases c : l[j].f0 = id
    ·exact ⟨(x, (i : Int)), ⟨i1, i6, i, rfl, by omega, by rw [flT_take id l j hj, if_pos c, List.append_nil]; exact i5⟩, fun k _ => by simp only; rw [hs, if_pos c], fun _ h => h⟩
    ·refine ⟨(x.set i l[j], ((i + 1 : Nat) : Int)), ⟨by rw [List.length_set]; exact i1, ?_, i + 1, rfl, by omega, ?_⟩, fun k _ => by simp only; rw [hs, if_neg c]; rfl, fun _ h => h⟩
     ·simp only
      rw [List.drop_set_of_lt (by omega)]
      exact i6
     ·simp only
      rw [flT_take id l j hj, if_neg c, List.take_succ_eq_append_getElem (by rw [List.length_set]; omega), List.getElem_set_self, List.take_set_of_le (Nat.le_refl _), i5]) (l.length - (p + 1)) (l, (p : Int)) (p + 1) (by omega) ⟨rfl, rfl, p, rfl, Nat.le_refl _, by rw [flT_take id l p hp, if_pos h2, List.append_nil, e0]⟩
  obtain ⟨r1, r2⟩ := r
  obtain ⟨q1, i, q2, q3, q4⟩ := hr
  simp only at q1 q2 q4 h
  subst q2
  intro k hk
  have hd := h k (by omega)
  rw [slices_DeleteFunc.f, hx k (by omega), Option.bind_some, if_neg (by omega), if_pos (by omega), wrap_nat1 hp (by omega)]
  rw [show ((p : Int) + 1) = (((p + 1 : Nat)) : Int) by omega, hd, Option.bind_some]
  dsimp only
  rw [if_pos (nn_cast i), if_pos (by omega), Int.toNat_natCast, q4]
def flR (id : Int) (l : List (List S46)) (i : Nat) : List (List S46) := (l.take i).map (flT id) ++ l.drop i
theorem flR_len (id : Int) (l : List (List S46)) (i : Nat) : (flR id l i).length = l.length := by
 unfold flR
 rw [List.length_append, List.length_map, List.length_take, List.length_drop]
 omega
theorem flR_0 (id : Int) (l : List (List S46)) : flR id l 0 = l := by simp [flR]
theorem flR_end (id : Int) (l : List (List S46)) : flR id l l.length = l.map (flT id) := by simp [flR]
theorem flR_get (id : Int) (l : List (List S46)) (i : Nat) (h : i < l.length) : (flR id l i).getD i [] = l[i] := by
 unfold flR
 rw [List.getD_eq_getElem?_getD, List.getElem?_append_right (by rw [List.length_map, List.length_take]; omega), List.length_map, List.length_take, Nat.min_eq_left (by omega), Nat.sub_self, List.getElem?_drop, Nat.add_zero, List.getElem?_eq_getElem h]
 rfl
theorem flR_set (id : Int) (l : List (List S46)) (i : Nat) (h : i < l.length) : (flR id l i).set i (flT id l[i]) = flR id l (i + 1) := by
 have e : ((l.take i).map (flT id)).length = i := by rw [List.length_map, List.length_take]; omega
 unfold flR
 rw [List.set_append_right _ _ (by omega), e, Nat.sub_self, List.drop_eq_getElem_cons h, List.set_cons_zero, List.take_succ_eq_append_getElem h, List.map_append, List.append_assoc]
 rfl
theorem cancel_at (id : Int) (l m : List (List S46)) (hl : l.length = 8) (hm : m.length = 8) (h1 : ∀ x ∈ l, x.length ≤ 1048576) (h2 : ∀ x ∈ m, x.length ≤ 1048576) (K : Nat) (hK : 1048577 < K) : ∀ k, 8 < k → cancel.l K id k 0 l m = some (l.map (flT id), m.map (flT id)) := by
 obtain ⟨r, hr, h⟩ := loop_ex (σ := Unit) (L := fun k _ i => cancel.l K id k i (flR id l i.toNat) (flR id m i.toNat)) (n := 8) (K := 0)
  (I := fun _ _ => True) (Post := fun _ _ r => r = (l.map (flT id), m.map (flT id)))
  (fun s _ => ⟨_, rfl, fun k => by
   rw [← flR_end id l, ← flR_end id m, hl, hm]
   rfl⟩)
  (fun s i hi _ => .inr ⟨(), trivial, fun k _ => by
   have a1 : i < l.length := by omega
   have a2 : i < m.length := by omega
   have d1 := delete_at id l[i] (h1 _ (List.getElem_mem a1)) K hK
   have d2 := delete_at id m[i] (h2 _ (List.getElem_mem a2)) K hK
   have e1 : ((i : Int)).toNat = i := by omega
   have e2 : ((i : Int) + 1).toNat = i + 1 := by omega
   rw [cancel.l, if_pos (by omega), if_pos (nn_cast i), e1, e2, flR_get id l i a1, flR_get id m i a2, d1, Option.bind_some, d2, Option.bind_some, flR_set id l i a1, flR_set id m i a2, wrap_nat1 a1 (by omega)], fun _ h => h⟩) 8 () 0 (by omega) trivial
 subst hr
 intro k hk
 have := h k (by omega)
 have e : ((0 : Nat) : Int).toNat = 0 := rfl
 rw [e, flR_0, flR_0] at this
 exact this
theorem flT_flat (id : Int) (l : List (List S46)) : (l.map (flT id)).flatten = flT id l.flatten := by
 induction l with
 | nil => rfl
 | cons x l ih =>
  rw [List.map_cons, List.flatten_cons, ih, List.flatten_cons]
  unfold flT
  rw [List.filter_append]
theorem flT_timers (id : Int) (l m : List (List S46)) (q : List S46) : timersV (l.map (flT id)) (m.map (flT id)) (flT id q) = flT id (timersV l m q) := by
 unfold timersV
 rw [flT_flat, flT_flat]
 unfold flT
 rw [List.filter_append, List.filter_append]
theorem flT_sz (id : Int) (l m : List (List S46)) (q : List S46) (h : SZ l m q) : SZ (l.map (flT id)) (m.map (flT id)) (flT id q) := by
 obtain ⟨h1, h2, h3⟩ := h
 refine ⟨by rw [List.length_map]; exact h1, by rw [List.length_map]; exact h2, ?_⟩
 rw [← timersV_len, flT_timers]
 have := flT_le id (timersV l m q)
 rw [timersV_len] at this
 omega
def canV (id a : Int) (l m : List (List S46)) (q : List S46) : Int × List (List S46) × List (List S46) × List S46 × Bool :=
 (a, l.map (flT id), m.map (flT id), flT id q, decide (((flT id (timersV l m q)).length : Int) < ((timersV l m q).length : Int)))
theorem spec_cancel_at (id a : Int) (l m : List (List S46)) (q : List S46) (hl : l.length = 8) (hm : m.length = 8) (hz : SZ l m q) : Ev (fun k => spec_Cancel.l0 k id 0 a l m q a l m q) (canV id a l m q) := by
 obtain ⟨r1, r2, r3⟩ := hz.rows
 have hz2 := flT_sz id l m q hz
 obtain ⟨N, hN⟩ : ∃ N : Nat, N = 2097155 := ⟨_, rfl⟩
 obtain ⟨r, hr, h⟩ := loop_ex (σ := Unit) (L := fun k _ i => spec_Cancel.l0 (k + N) id i a l m q a (flR id l i.toNat) (flR id m i.toNat) q) (n := 8) (K := 0)
  (I := fun _ _ => True) (Post := fun _ _ r => r = canV id a l m q)
  (fun s _ => ⟨_, rfl, fun k => by
   have e := flT_timers id l m q
   have e1 : ((8 : Nat) : Int).toNat = 8 := rfl
   have t1 := spec_Timers_at a _ _ _ hz2.1 hz2.2.1 hz2.2.2 (k + N) (by omega)
   have t2 := spec_Timers_at a _ _ _ hz.1 hz.2.1 hz.2.2 (k + N) (by omega)
   have t3 := l8Without_at id q r3 (k + N) (by omega)
   rw [e] at t1
   have f1 : flR id l 8 = l.map (flT id) := by rw [← hl]; exact flR_end id l
   have f2 : flR id m 8 = m.map (flT id) := by rw [← hm]; exact flR_end id m
   rw [show k + 1 + N = (k + N) + 1 by omega, spec_Cancel.l0, if_neg (by omega), e1, f1, f2, t3, Option.bind_some, t1, Option.bind_some, t2, Option.bind_some]
   rfl⟩)
  (fun s i hi _ => .inr ⟨(), trivial, fun k _ => by
   have a1 : i < l.length := by omega
   have a2 : i < m.length := by omega
   have d1 := l8Without_at id l[i] (r1 _ (List.getElem_mem a1)) (k + N) (by omega)
   have d2 := l8Without_at id m[i] (r2 _ (List.getElem_mem a2)) (k + N) (by omega)
   have e1 : ((i : Int)).toNat = i := by omega
   have e2 : ((i : Int) + 1).toNat = i + 1 := by omega
   rw [show k + 1 + N = (k + N) + 1 by omega, spec_Cancel.l0, if_pos (by omega), if_pos (nn_cast i), if_pos (lt_cast a1), rdLIT _ _ a1, d1, Option.bind_some, if_pos (by rw [flR_len]; exact lt_cast (by omega)), if_pos (lt_cast a2), rdLIT _ _ a2, d2, Option.bind_some, if_pos (by rw [flR_len]; exact lt_cast (by omega)), e1, e2, flR_set id l i a1, flR_set id m i a2, wrap_nat1 a1 (by omega)], fun _ h => h⟩) 8 () 0 (by omega) trivial
 subst hr
 refine ⟨N + 9, fun k hk => ?_⟩
 have := h (k - N) (by omega)
 have e : ((0 : Nat) : Int).toNat = 0 := rfl
 rw [e, flR_0, flR_0, show k - N + N = k by omega] at this
 exact this
theorem can_val (id a : Int) (l m : List (List S46)) (q : List S46) (hz : SZ l m q) :
  ∃ R : Int × List (List S46) × List (List S46) × List S46 × Bool, Ev (fun k => spec_Cancel.f k a l m q id) R ∧ Ev (fun k => impl_Cancel.f k a l m q id) R ∧ SZ R.2.1 R.2.2.1 R.2.2.2.1 ∧
   ((¬ OkW a l m q ∧ R = (a, l, m, q, false)) ∨ (OkW a l m q ∧ R = canV id a l m q)) := by
 obtain ⟨r1, r2, r3⟩ := hz.rows
 obtain ⟨r, ⟨K1, e1⟩, ⟨K2, e2⟩, hr⟩ := wheelOk_val a l m q ⟨hz.1, r1⟩ ⟨hz.2.1, r2⟩ r3 hz.2.2
 simp only at e1 e2
 cases r with
 | false =>
  refine ⟨(a, l, m, q, false), ⟨K1 + 1048577, fun k hk => ?_⟩, ⟨K2 + 1048577, fun k hk => ?_⟩, hz, .inl ⟨fun h => absurd (hr.2 h) (by simp), rfl⟩⟩
  ·show spec_Cancel.f k a l m q id = _
   rw [spec_Cancel.f, l8Copy_at a l m q hz k (by omega), Option.bind_some, e1 k (by omega), Option.bind_some, if_neg (by simp)]
  ·show impl_Cancel.f k a l m q id = _
   rw [impl_Cancel.f, copyWheel_at a l m q hz k (by omega), Option.bind_some, if_pos rfl, e2 k (by omega), Option.bind_some, if_neg (by simp)]
 | true =>
  have ho := hr.1 rfl
  obtain ⟨K3, e3⟩ := spec_cancel_at id a l m q ho.hl ho.hm hz
  simp only at e3
  refine ⟨canV id a l m q, ⟨K1 + K3 + 1048577, fun k hk => ?_⟩, ?_, flT_sz id l m q hz, .inr ⟨ho, rfl⟩⟩
  ·show spec_Cancel.f k a l m q id = _
   rw [spec_Cancel.f, l8Copy_at a l m q hz k (by omega), Option.bind_some, e1 k (by omega), Option.bind_some, if_pos rfl]
   exact e3 k (by omega)
  ·have hT : (timersV l m q).length ≤ 1048576 := by rw [timersV_len]; exact hz.2.2
   obtain ⟨x, hx, hX⟩ := idx_at id (timersV l m q) hT
   rcases hx with ⟨rfl, h2⟩ | ⟨p, hp, rfl, h2, h3⟩
   ·have nid : ∀ t ∈ timersV l m q, t.f0 ≠ id := by
     intro t ht
     obtain ⟨j, hj, rfl⟩ := List.mem_iff_getElem.1 ht
     exact h2 j hj
    have same : ∀ y : List (List S46), (∀ t ∈ y.flatten, t.f0 ≠ id) → y.map (flT id) = y := by
     intro y hy
     refine (List.map_congr_left (g := fun x => x) (fun x hx => flT_self id x (fun t ht => hy t (List.mem_flatten.2 ⟨x, hx, ht⟩)))).trans (List.map_id'' (fun _ => rfl) y)
    have ev : canV id a l m q = (a, l, m, q, false) := by
     unfold canV
     rw [flT_self id _ nid, same l (fun t ht => nid t (by unfold timersV; simp [ht])), same m (fun t ht => nid t (by unfold timersV; simp [ht])), flT_self id q (fun t ht => nid t (by unfold timersV; simp [ht])), decide_eq_false (by omega)]
    rw [ev]
    refine ⟨K2 + 2097155, fun k hk => ?_⟩
    show impl_Cancel.f k a l m q id = _
    rw [impl_Cancel.f, copyWheel_at a l m q hz k (by omega), Option.bind_some, if_pos rfl, e2 k (by omega), Option.bind_some, if_pos rfl, impl_Timers_at a l m q hz.1 hz.2.1 hz.2.2 k (by omega), Option.bind_some, impl_timerAt.f, hX k (by omega), Option.bind_some, if_pos (by omega)]
   ·have lt : (flT id (timersV l m q)).length < (timersV l m q).length := by
     unfold flT
     refine Nat.lt_of_le_of_ne (List.length_filter_le _ _) (fun e => ?_)
     have h4 := (List.length_filter_eq_length_iff.1 e) _ (List.getElem_mem hp)
     simp only [ne_eq, decide_eq_true_eq] at h4
     exact h4 h2
    have ev : canV id a l m q = (a, l.map (flT id), m.map (flT id), flT id q, true) := by
     unfold canV
     rw [decide_eq_true (by omega)]
    rw [ev]
    refine ⟨K2 + 2097155, fun k hk => ?_⟩
    show impl_Cancel.f k a l m q id = _
    rw [impl_Cancel.f, copyWheel_at a l m q hz k (by omega), Option.bind_some, if_pos rfl, e2 k (by omega), Option.bind_some, if_pos rfl, impl_Timers_at a l m q hz.1 hz.2.1 hz.2.2 k (by omega), Option.bind_some, impl_timerAt.f, hX k (by omega), Option.bind_some, if_neg (by omega)]
    dsimp only
    rw [if_pos ho.hl, if_pos ho.hm, cancel_at id l m ho.hl ho.hm r1 r2 k (by omega) k (by omega), Option.bind_some, delete_at id q r3 k (by omega), Option.bind_some]

theorem l1Once_ex (s : List Int) (i h n : Int) (H : RdOk s i) : ∃ b j h', spec_l1Once.f s i h n = some (b, j, h') ∧ RdOk s j := by
 obtain ⟨v, j, h', e, _, _, _, H1⟩ := l1Below_ex s i h n H
 exact ⟨v == 0, j, h', by simp only [spec_l1Once.f, e, Option.bind_some], H1⟩

theorem l1Odd_ex (s : List Int) (i h : Int) (H : RdOk s i) : ∃ v j h', spec_l1Odd.f s i h = some (v, j, h') ∧ RdOk s j ∧ -9223372036854775808 ≤ v ∧ v ≤ 9223372036854775807 := by
 obtain ⟨v, j, h', e, hv, H1⟩ := l1Int_ex s i h [(-1), 0, 1, 2, 255, 256, 65535, 2147483647, 2147483648, 4294967295, 4294967296, (-2147483648), 9223372036854775807, (-9223372036854775808)] (by decide) H
 refine ⟨v, j, h', by simp only [spec_l1Odd.f, e, Option.bind_some], H1, ?_⟩
 simp only [List.mem_cons, List.not_mem_nil, or_false] at hv
 omega
theorem l1Raw_ex (s : List Int) (i h : Int) (H : RdOk s i) : ∃ v j h', spec_l1Raw.f s i h = some (v, j, h') ∧ RdOk s j ∧ -9223372036854775808 ≤ v ∧ v ≤ 9223372036854775807 := by
 obtain ⟨b, j, h', e, H1⟩ := l1Once_ex s i h 2 H
 cases b with
 | true =>
  obtain ⟨v, j2, h2, e2, H2, hv⟩ := l1Odd_ex s j h' H1
  exact ⟨v, j2, h2, by simp only [spec_l1Raw.f, e, e2, Option.bind_some, if_true], H2, hv⟩
 | false =>
  obtain ⟨v, j2, h2, e2, hv, H2⟩ := l1Int_ex s j h' [(-2147483648), (-3), (-1), 0, 1, 3, 7, 65536, 2147483647, 2147483648] (by decide) H1
  refine ⟨v, j2, h2, by simp only [spec_l1Raw.f, e, e2, Option.bind_some, Bool.false_eq_true, if_false], H2, ?_⟩
  simp only [List.mem_cons, List.not_mem_nil, or_false] at hv
  omega

theorem drawAnyF_ex (l : List Int) (hl : l.length ≤ 140737488351232) : ∃ a x y q j h, (∃ h0, Ev (fun k => (spec_l1New.f k l)) (l, 0, h0) ∧ Ev (fun k => spec_l8Any.f k l 0 h0) (a, x, y, q, j, h)) ∧ SZ x y q ∧ RdOk l j := by
 obtain ⟨h, e0⟩ := l1New_ex l hl
 obtain ⟨a, x, y, q, j, h1, e1, hz, H1⟩ := l8Any_ex l 0 h (rdOk_0 l hl)
 exact ⟨a, x, y, q, j, h1, ⟨h, e0, e1⟩, hz, H1⟩
theorem drawPut_ex (l : List Int) (hl : l.length ≤ 140737488351232) : ∃ a x y q t0 t1 t2, Ev (fun k => spec_DrawPut.f k l) (a, x, y, q, t0, t1, t2) ∧ SZ x y q := by
 obtain ⟨a, x, y, q, j, h1, ⟨h0, ⟨K0, e0⟩, ⟨K1, e1⟩⟩, hz, H1⟩ := drawAnyF_ex l hl
 obtain ⟨n, j2, h2, e2, _, _, _, H2⟩ := l1Below_ex l j h1 9 H1
 obtain ⟨t1, t2, j3, h3, e3, H3⟩ := timer_ex l j2 h2 a (wrap64 (1 + n)) H2
 obtain ⟨c, j4, h4, e4, _, _, _, H4⟩ := l1Below_ex l j3 h3 8 H3
 simp only at e0 e1
 have hs : ∀ k, K0 + K1 ≤ k → ∀ R, _ = some R → spec_DrawPut.f k l = some R := fun k hk R hR => by
  rw [spec_DrawPut.f, e0 k (by omega), Option.bind_some]
  dsimp only
  rw [e1 k (by omega), Option.bind_some]
  dsimp only
  rw [e2, Option.bind_some]
  dsimp only
  rw [e3, Option.bind_some]
  dsimp only
  rw [e4, Option.bind_some]
  dsimp only
  exact hR
 by_cases c0 : c = 0
 ·obtain ⟨v, j5, h5, e5, _⟩ := l1Raw_ex l j4 h4 H4
  exact ⟨a, x, y, q, _, _, _, ⟨K0 + K1, fun k hk => hs k hk _ (by rw [if_pos c0, e5, Option.bind_some])⟩, hz⟩
 by_cases c1 : c = 1
 ·obtain ⟨v, j5, h5, e5, _⟩ := l1Int_ex l j4 h4 [0, 1000] (by decide) H4
  exact ⟨a, x, y, q, _, _, _, ⟨K0 + K1, fun k hk => hs k hk _ (by rw [if_neg c0, if_pos c1, e5, Option.bind_some])⟩, hz⟩
 by_cases c2 : c = 2
 ·obtain ⟨v, j5, h5, e5, _⟩ := l1Int_ex l j4 h4 [0, (-1)] (by decide) H4
  exact ⟨a, x, y, q, _, _, _, ⟨K0 + K1, fun k hk => hs k hk _ (by rw [if_neg c0, if_neg c1, if_pos c2, e5, Option.bind_some])⟩, hz⟩
 ·exact ⟨a, x, y, q, _, _, _, ⟨K0 + K1, fun k hk => hs k hk _ (by rw [if_neg c0, if_neg c1, if_neg c2])⟩, hz⟩
theorem drawCan_ex (l : List Int) (hl : l.length ≤ 140737488351232) : ∃ a x y q id, Ev (fun k => spec_DrawCancel.f k l) (a, x, y, q, id) ∧ SZ x y q := by
 obtain ⟨a, x, y, q, j, h1, ⟨h0, ⟨K0, e0⟩, ⟨K1, e1⟩⟩, hz, H1⟩ := drawAnyF_ex l hl
 obtain ⟨n, j2, h2, e2, _⟩ := l1Below_ex l j h1 9 H1
 simp only at e0 e1
 refine ⟨a, x, y, q, n, ⟨K0 + K1, fun k hk => ?_⟩, hz⟩
 show spec_DrawCancel.f k l = _
 rw [spec_DrawCancel.f, e0 k (by omega), Option.bind_some]
 dsimp only
 rw [e1 k (by omega), Option.bind_some]
 dsimp only
 rw [e2, Option.bind_some]
theorem drawOk_ex (l : List Int) (hl : l.length ≤ 140737488351232) : ∃ a x y q, Ev (fun k => spec_DrawWheelOk.f k l) (a, x, y, q) ∧ Ev (fun k => spec_DrawTimers.f k l) (a, x, y, q) ∧ SZ x y q := by
 obtain ⟨a, x, y, q, j, h1, ⟨h0, ⟨K0, e0⟩, ⟨K1, e1⟩⟩, hz, H1⟩ := drawAnyF_ex l hl
 simp only at e0 e1
 refine ⟨a, x, y, q, ⟨K0 + K1, fun k hk => ?_⟩, ⟨K0 + K1, fun k hk => ?_⟩, hz⟩
 ·show spec_DrawWheelOk.f k l = _
  rw [spec_DrawWheelOk.f, e0 k (by omega), Option.bind_some]
  dsimp only
  rw [e1 k (by omega), Option.bind_some]
 ·show spec_DrawTimers.f k l = _
  rw [spec_DrawTimers.f, e0 k (by omega), Option.bind_some]
  dsimp only
  rw [e1 k (by omega), Option.bind_some]
theorem rows_same (id : Int) (y : List (List S46)) (hy : ∀ t ∈ y.flatten, t.f0 ≠ id) : y.map (flT id) = y :=
 (List.map_congr_left (g := fun x => x) (fun x hx => flT_self id x (fun t ht => hy t (List.mem_flatten.2 ⟨x, hx, ht⟩)))).trans (List.map_id'' (fun _ => rfl) y)
theorem can_none (id a : Int) (l m : List (List S46)) (q : List S46) (nid : ∀ t ∈ timersV l m q, t.f0 ≠ id) : canV id a l m q = (a, l, m, q, false) := by
 unfold canV
 rw [flT_self id _ nid, rows_same id l (fun t ht => nid t (by unfold timersV; simp [ht])), rows_same id m (fun t ht => nid t (by unfold timersV; simp [ht])), flT_self id q (fun t ht => nid t (by unfold timersV; simp [ht])), decide_eq_false (by omega)]
theorem can_flag (id a : Int) (l m : List (List S46)) (q : List S46) (h : (canV id a l m q).2.2.2.2 = false) : canV id a l m q = (a, l, m, q, false) := by
 refine can_none id a l m q (fun t ht e => ?_)
 unfold canV at h
 simp only [decide_eq_false_iff_not] at h
 have h1 := flT_le id (timersV l m q)
 have h2 : (flT id (timersV l m q)).length = (timersV l m q).length := by omega
 unfold flT at h2
 have h4 := (List.length_filter_eq_length_iff.1 h2) t ht
 simp only [ne_eq, decide_eq_true_eq] at h4
 exact h4 e
theorem can_back (a : Int) (l m : List (List S46)) (q : List S46) (t : S46) (ho : OkW a l m q) (hx : OkW a (layV a t l m q).1 (layV a t l m q).2.1 (layV a t l m q).2.2) :
  canV t.f0 a (layV a t l m q).1 (layV a t l m q).2.1 (layV a t l m q).2.2 = (a, l, m, q, true) := by
 obtain ⟨p, _, _⟩ := lay_perm a t l m q ho.hl ho.hm
 have nd := (ids_nodup _).1 hx.ids
 have nd2 := ((p.map fun t => t.f0).nodup_iff).1 nd
 rw [List.map_append] at nd2
 have nid : ∀ x ∈ timersV l m q, x.f0 ≠ t.f0 := fun x hx e => (List.nodup_append.1 nd2).2.2 x.f0 (List.mem_map.2 ⟨x, hx, rfl⟩) t.f0 (by simp) e
 have fl : decide (((flT t.f0 (timersV (layV a t l m q).1 (layV a t l m q).2.1 (layV a t l m q).2.2)).length : Int) < ((timersV (layV a t l m q).1 (layV a t l m q).2.1 (layV a t l m q).2.2).length : Int)) = true := by
  refine decide_eq_true ?_
  have ht : t ∈ timersV (layV a t l m q).1 (layV a t l m q).2.1 (layV a t l m q).2.2 := p.mem_iff.2 (by simp)
  have h1 := flT_le t.f0 (timersV (layV a t l m q).1 (layV a t l m q).2.1 (layV a t l m q).2.2)
  have h2 : (flT t.f0 (timersV (layV a t l m q).1 (layV a t l m q).2.1 (layV a t l m q).2.2)).length ≠ (timersV (layV a t l m q).1 (layV a t l m q).2.1 (layV a t l m q).2.2).length := fun e => by
   unfold flT at e
   have h4 := (List.length_filter_eq_length_iff.1 e) t ht
   simp at h4
  omega
 unfold canV
 rw [fl]
 have n1 : ∀ x ∈ l.flatten, x.f0 ≠ t.f0 := fun x h => nid x (by unfold timersV; simp [h])
 have n2 : ∀ x ∈ m.flatten, x.f0 ≠ t.f0 := fun x h => nid x (by unfold timersV; simp [h])
 have n3 : ∀ x ∈ q, x.f0 ≠ t.f0 := fun x h => nid x (by unfold timersV; simp [h])
 have add : ∀ x : List S46, (∀ y ∈ x, y.f0 ≠ t.f0) → flT t.f0 (x ++ [t]) = x := by
  intro x hx
  unfold flT
  rw [List.filter_append, List.filter_eq_self.2 (fun y hy => by simpa using hx y hy), List.filter_cons_of_neg (by simp), List.filter_nil, List.append_nil]
 have slot : ∀ (y : List (List S46)) (i : Nat), (∀ x ∈ y.flatten, x.f0 ≠ t.f0) → (y.set i (y.getD i [] ++ [t])).map (flT t.f0) = y := by
  intro y i hy
  rw [List.map_set, rows_same t.f0 y hy]
  by_cases c : i < y.length
  ·have g : y.getD i [] = y[i] := by simp [List.getD_eq_getElem?_getD, c]
   rw [g, add _ (fun x hx => hy x (List.mem_flatten.2 ⟨_, List.getElem_mem c, hx⟩)), List.set_getElem_self]
  ·rw [List.set_eq_of_length_le (by omega)]
 unfold layV
 by_cases c1 : t.f2 / 8 - a / 8 = 0
 ·rw [if_pos c1]
  simp only
  rw [slot l _ n1, rows_same t.f0 m n2, flT_self t.f0 q n3]
 ·rw [if_neg c1]
  by_cases c2 : t.f2 / 8 - a / 8 < 8
  ·rw [if_pos c2]
   simp only
   rw [slot m _ n2, rows_same t.f0 l n1, flT_self t.f0 q n3]
  ·rw [if_neg c2]
   simp only
   rw [add q n3, rows_same t.f0 l n1, rows_same t.f0 m n2]
theorem FnWheels : ∀ (l0 : (List Int)), ((l0.length ≤ maxLen ∧ ∀ y5 ∈ l0, (Lit.int .u8 y5).wf = true)) → ∃ k, laws_FnWheels.f k l0 = some true := by
 intro l hg
 by_cases hb : (l.length : Int) > 1048576
 ·exact ⟨0, by rw [laws_FnWheels.f, laws_big.f, Option.bind_some, decide_eq_true hb, if_pos rfl]⟩
 have hl : l.length ≤ 140737488351232 := by omega
 obtain ⟨w0, w1, w2, w3, t0, t1, t2, ⟨K1, e1⟩, zw⟩ := drawPut_ex l hl
 obtain ⟨v0, v1, v2, v3, id, ⟨K2, e2⟩, zv⟩ := drawCan_ex l hl
 obtain ⟨o0, o1, o2, o3, ⟨K3, e3⟩, ⟨K4, e4⟩, zo⟩ := drawOk_ex l hl
 obtain ⟨X, ⟨K5, e5⟩, ⟨K6, e6⟩, zx, hX⟩ := put_val w0 w1 w2 w3 t0 t1 t2 zw
 obtain ⟨Z, ⟨K7, e7⟩, ⟨K8, e8⟩, zz, hZ⟩ := can_val id v0 v1 v2 v3 zv
 obtain ⟨ro1, ro2, ro3⟩ := zo.rows
 obtain ⟨bo, ⟨K9, e9⟩, ⟨K10, e10⟩, _⟩ := wheelOk_val o0 o1 o2 o3 ⟨zo.1, ro1⟩ ⟨zo.2.1, ro2⟩ ro3 zo.2.2
 have hn := new_ok 0 (by omega) (by omega)
 have zn := hn.sz
 obtain ⟨rn1, rn2, rn3⟩ := zn.rows
 obtain ⟨bn, _, ⟨K11, e11⟩, hbn⟩ := wheelOk_val 0 (List.replicate 8 []) (List.replicate 8 []) [] ⟨zn.1, rn1⟩ ⟨zn.2.1, rn2⟩ rn3 zn.2.2
 have hbn2 := hbn.2 hn
 subst hbn2
 simp only at e1 e2 e3 e4 e5 e6 e7 e8 e9 e10 e11
 obtain ⟨K, hK⟩ : ∃ K, K = K1 + K2 + K3 + K4 + K5 + K6 + K7 + K8 + K9 + K10 + K11 + 4194305 := ⟨_, rfl⟩
 have tail : ∃ N, ∀ k, N ≤ k → laws_FnWheels.t k (w0, w1, w2, w3) t0 t1 t2 X (v0, v1, v2, v3) Z = some true := by
  rcases hX with ⟨_, rfl⟩ | ⟨⟨ho, hi, hok⟩, rfl⟩
  ·have sz : ∃ b, Z.2.2.2.2 = b ∧ (b = false → Z = (v0, v1, v2, v3, false)) := by
    refine ⟨_, rfl, fun h => ?_⟩
    rcases hZ with ⟨_, rfl⟩ | ⟨_, rfl⟩
    ·rfl
    ·exact can_flag _ _ _ _ _ h
   obtain ⟨b, hb1, hb2⟩ := sz
   refine ⟨4194305, fun k hk => ?_⟩
   rw [laws_FnWheels.t, if_neg (by simp)]
   dsimp only
   rw [sameWheel_self w0 w1 w2 w3 zw k (by omega), Option.bind_some, if_pos rfl]
   cases b with
   | true => rw [if_pos hb1]
   | false =>
    rw [if_neg (by rw [hb1]; simp), hb2 rfl]
    dsimp only
    rw [sameWheel_self v0 v1 v2 v3 zv k (by omega), Option.bind_some, if_pos rfl]
  ·have back := can_back w0 w1 w2 w3 ⟨t0, t1, t2⟩ ho hok
   obtain ⟨p, _, _⟩ := lay_perm w0 ⟨t0, t1, t2⟩ w1 w2 w3 ho.hl ho.hm
   have hlen := p.length_eq
   rw [List.length_append, List.length_singleton] at hlen
   have few := hok.few
   have zok := hok.sz
   obtain ⟨B, _, ⟨N1, f1⟩, _, hB⟩ := can_val t0 w0 _ _ _ zok
   have hB2 : B = (w0, w1, w2, w3, true) := by
    rcases hB with ⟨h, _⟩ | ⟨_, h⟩
    ·exact absurd hok h
    ·rw [h]
     exact back
   subst hB2
   obtain ⟨P, _, ⟨N2, f2⟩, _, hP⟩ := put_val w0 _ _ _ t0 t1 t2 zok
   have hP2 : P.2.2.2.2 = false := by
    rcases hP with ⟨_, rfl⟩ | ⟨⟨_, _, h⟩, _⟩
    ·rfl
    ·exfalso
     obtain ⟨p2, _, _⟩ := lay_perm w0 ⟨t0, t1, t2⟩ _ _ (layV w0 ⟨t0, t1, t2⟩ w1 w2 w3).2.2 hok.hl hok.hm
     have nd := ((p2.map fun t => t.f0).nodup_iff).1 ((ids_nodup _).1 h.ids)
     rw [List.map_append] at nd
     refine (List.nodup_append.1 nd).2.2 t0 (List.mem_map.2 ⟨⟨t0, t1, t2⟩, ?_, rfl⟩) t0 (by simp) rfl
     exact p.mem_iff.2 (by simp)
   obtain ⟨rk1, rk2, rk3⟩ := zok.rows
   obtain ⟨b, _, ⟨N3, f3⟩, hb3⟩ := wheelOk_val w0 _ _ _ ⟨zok.1, rk1⟩ ⟨zok.2.1, rk2⟩ rk3 zok.2.2
   have hb4 := hb3.2 hok
   subst hb4
   simp only at f1 f2 f3
   refine ⟨N1 + N2 + N3 + 4194305, fun k hk => ?_⟩
   rw [laws_FnWheels.t, if_pos rfl]
   dsimp only
   rw [f1 k (by omega), Option.bind_some, f2 k (by omega), Option.bind_some, f3 k (by omega), Option.bind_some, if_pos rfl, impl_Timers_at w0 _ _ _ zok.1 zok.2.1 zok.2.2 k (by omega), Option.bind_some, impl_Timers_at w0 w1 w2 w3 zw.1 zw.2.1 zw.2.2 k (by omega), Option.bind_some, if_pos (by rw [wrap_of (by omega) (by omega)]; omega)]
   dsimp only
   rw [if_pos rfl, sameWheel_self w0 w1 w2 w3 zw k (by omega), Option.bind_some, if_pos rfl, if_neg (by rw [hP2]; simp)]
 obtain ⟨N, hN⟩ := tail
 have hT : (timersV o1 o2 o3).length ≤ 1048576 := by rw [timersV_len]; exact zo.2.2
 refine ⟨K + N, ?_⟩
 rw [laws_FnWheels.f, laws_big.f, Option.bind_some, decide_eq_false hb, if_neg (by simp), e1 (K + N) (by omega), Option.bind_some]
 dsimp only
 rw [e6 (K + N) (by omega), Option.bind_some, e5 (K + N) (by omega), Option.bind_some, e2 (K + N) (by omega), Option.bind_some]
 dsimp only
 rw [e8 (K + N) (by omega), Option.bind_some, e7 (K + N) (by omega), Option.bind_some, e3 (K + N) (by omega), Option.bind_some, e4 (K + N) (by omega), Option.bind_some]
 dsimp only
 rw [if_pos rfl, sameWheel_self X.1 X.2.1 X.2.2.1 X.2.2.2.1 zx (K + N) (by omega), Option.bind_some, if_pos rfl, if_pos rfl, sameWheel_self Z.1 Z.2.1 Z.2.2.1 Z.2.2.2.1 zz (K + N) (by omega), Option.bind_some, if_pos rfl,
  e10 (K + N) (by omega), Option.bind_some, e9 (K + N) (by omega), Option.bind_some, if_pos rfl, impl_Timers_at o0 o1 o2 o3 zo.1 zo.2.1 zo.2.2 (K + N) (by omega), Option.bind_some, spec_Timers_at o0 o1 o2 o3 zo.1 zo.2.1 zo.2.2 (K + N) (by omega), Option.bind_some,
  sameTimers_self _ hT (K + N) (by omega), Option.bind_some, if_pos rfl, impl_WheelNew.f, if_pos (by omega), Option.bind_some]
 dsimp only
 rw [e11 (K + N) (by omega), Option.bind_some, if_pos rfl]
 exact hN (K + N) (by omega)

end Go.Proofs.Ytggenhomnbnodaa.Pure
