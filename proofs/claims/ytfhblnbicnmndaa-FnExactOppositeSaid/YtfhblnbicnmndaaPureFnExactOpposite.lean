/- The program's Opposite returns what the reference's returns, for all arguments. Conditions: none beyond the statement's own. -/
import Derived.Test.YtfhblnbicnmndaaQFnExactOppositex
set_option linter.unusedVariables false
set_option linter.unusedSimpArgs false
namespace Go.Proofs.Ytfhblnbicnmndaa.Pure
open Go.RowKit Go.Proofs.Ytfhblnbicnmndaa.QFnExactOpposite Go.Proofs.YtfhblnbicnmndaaW.PrintWords Go.Proofs.YtfhblnbicnmndaaW.PrintLast Go.Proofs.YtfhblnbicnmndaaW.PrintMore
def good24n : Nat → S24 → Prop
  | 0, _ => False
  | n + 1, x => (Lit.int .i64 x.f0).wf = true ∧ (Lit.int .i64 x.f1).wf = true ∧ x.f2.size ≤ maxLen ∧ x.f3.size ≤ maxLen ∧ (x.f4.length ≤ maxLen ∧ ∀ y24 ∈ x.f4, good24n n y24)
def good24 (x : S24) : Prop := ∃ n, good24n n x

/-- A loop over an index: from a state that is good, with enough rounds, it comes to an end that meets what is told of it. -/
theorem loop_ex {σ β : Type} {L : Nat → σ → Int → Option β} {n K : Nat} {I : σ → Nat → Prop} {Post : σ → Nat → β → Prop}
    (hend : ∀ s, I s n → ∃ r, Post s n r ∧ ∀ k, L (k + 1) s (n : Int) = some r)
    (hstep : ∀ s (i : Nat), i < n → I s i → (∃ r, Post s i r ∧ ∀ k, K ≤ k → L (k + 1) s (i : Int) = some r) ∨
      ∃ s', I s' (i + 1) ∧ (∀ k, K ≤ k → L (k + 1) s (i : Int) = L k s' ((i : Int) + 1)) ∧ ∀ r, Post s' (i + 1) r → Post s i r) :
    ∀ (d : Nat) s (i : Nat), i + d = n → I s i → ∃ r, Post s i r ∧ ∀ k, K + d < k → L k s (i : Int) = some r := by
  intro d
  induction d with
  | zero =>
    intro s i hd hI
    obtain rfl : i = n := by omega
    obtain ⟨r, hp, hr⟩ := hend s hI
    refine ⟨r, hp, fun k hk => ?_⟩
    obtain ⟨k, rfl⟩ : ∃ m, k = m + 1 := ⟨k - 1, by omega⟩
    exact hr k
  | succ d ih =>
    intro s i hd hI
    rcases hstep s i (by omega) hI with ⟨r, hp, hr⟩ | ⟨s', hI', he, hp⟩
    · refine ⟨r, hp, fun k hk => ?_⟩
      obtain ⟨k, rfl⟩ : ∃ m, k = m + 1 := ⟨k - 1, by omega⟩
      exact hr k (by omega)
    · obtain ⟨r, hq, hr⟩ := ih s' (i + 1) (by omega) hI'
      refine ⟨r, hp r hq, fun k hk => ?_⟩
      obtain ⟨k, rfl⟩ : ∃ m, k = m + 1 := ⟨k - 1, by omega⟩
      rw [he k (by omega)]
      have := hr k (by omega)
      rw [Int.natCast_add] at this
      exact this
theorem ev_at {α : Type} {g : Nat → Option α} {r : α} (K : Nat) (h : ∀ k, K < k → g k = some r) : Ev g r := ⟨K + 1, fun k hk => h k (by omega)⟩
theorem wrap_of {x : Int} (h0 : -9223372036854775808 ≤ x) (h1 : x ≤ 9223372036854775807) : wrap64 x = x := by
  unfold wrap64
  omega
theorem wrap_nat1 {i n : Nat} (h : i < n) (hn : n ≤ 9223372036854775807) : wrap64 ((i : Int) + 1) = (i : Int) + 1 := wrap_of (by omega) (by omega)
theorem lt_cast {i n : Nat} (h : i < n) : (i : Int) < (n : Int) := by omega
theorem nn_cast (i : Nat) : 0 ≤ (i : Int) := by omega
theorem not_lt_cast (n : Nat) : ¬ (n : Int) < (n : Int) := by omega
/-- What is written cell by cell. -/
theorem fill_set {α : Type} (l : List α) (z : α) (i : Nat) (h : i < l.length) : (l.take i ++ List.replicate (l.length - i) z).set i l[i] = l.take (i + 1) ++ List.replicate (l.length - (i + 1)) z := by
  have e1 : l.length - i = (l.length - (i + 1)) + 1 := by omega
  have e2 : (l.take i).length = i := by rw [List.length_take]; omega
  rw [e1, List.replicate_succ, List.set_append_right _ _ (by omega), e2, Nat.sub_self, List.set_cons_zero, List.take_succ_eq_append_getElem h, List.append_assoc]
  rfl
theorem fill_len {α : Type} (l : List α) (z : α) (i : Nat) (h : i ≤ l.length) : (l.take i ++ List.replicate (l.length - i) z).length = l.length := by
  rw [List.length_append, List.length_take, List.length_replicate]
  omega

/-- The same for a loop over a function that is told by a number: the end is the same for each that is large enough. -/
theorem loop_exm {σ β ι : Type} {ok : ι → Prop} {L : ι → Nat → σ → Int → Option β} {n : Nat} {I : σ → Nat → Prop} {Post : σ → Nat → β → Prop}
    (hend : ∀ s, I s n → ∃ r, Post s n r ∧ ∀ m, ok m → ∀ k, L m (k + 1) s (n : Int) = some r)
    (hstep : ∀ s (i : Nat), i < n → I s i → (∃ r, Post s i r ∧ ∀ m, ok m → ∀ k, L m (k + 1) s (i : Int) = some r) ∨
      ∃ s', I s' (i + 1) ∧ (∀ m, ok m → ∀ k, L m (k + 1) s (i : Int) = L m k s' ((i : Int) + 1)) ∧ ∀ r, Post s' (i + 1) r → Post s i r) :
    ∀ (d : Nat) s (i : Nat), i + d = n → I s i → ∃ r, Post s i r ∧ ∀ m, ok m → ∀ k, d < k → L m k s (i : Int) = some r := by
  intro d
  induction d with
  | zero =>
    intro s i hd hI
    obtain rfl : i = n := by omega
    obtain ⟨r, hp, hr⟩ := hend s hI
    refine ⟨r, hp, fun m hm k hk => ?_⟩
    obtain ⟨k, rfl⟩ : ∃ m, k = m + 1 := ⟨k - 1, by omega⟩
    exact hr m hm k
  | succ d ih =>
    intro s i hd hI
    rcases hstep s i (by omega) hI with ⟨r, hp, hr⟩ | ⟨s', hI', he, hp⟩
    · refine ⟨r, hp, fun m hm k hk => ?_⟩
      obtain ⟨k, rfl⟩ : ∃ m, k = m + 1 := ⟨k - 1, by omega⟩
      exact hr m hm k
    · obtain ⟨r, hq, hr⟩ := ih s' (i + 1) (by omega) hI'
      refine ⟨r, hp r hq, fun m hm k hk => ?_⟩
      obtain ⟨k, rfl⟩ : ∃ m, k = m + 1 := ⟨k - 1, by omega⟩
      rw [he m hm k]
      have := hr m hm k (by omega)
      rw [Int.natCast_add] at this
      exact this

mutual
def pT24 : S24 → Nat
  | ⟨_, _, _, _, l⟩ => 2 + l.length + pTs24 l
def pTs24 : List S24 → Nat
  | [] => 0
  | x :: l => pT24 x + pTs24 l
end
mutual
def pN24 : S24 → Nat
  | ⟨_, _, _, _, l⟩ => 1 + pNs24 l
def pNs24 : List S24 → Nat
  | [] => 0
  | x :: l => pN24 x + pNs24 l
end
theorem pT24_mem {l : List S24} {x : S24} (h : x ∈ l) : pT24 x ≤ pTs24 l := by
  induction l with
  | nil => exact absurd h (by simp)
  | cons y l ih =>
    rw [pTs24]
    rcases List.mem_cons.1 h with rfl | h
    · omega
    · have := ih h
      omega
theorem pN24_mem {l : List S24} {x : S24} (h : x ∈ l) : pN24 x ≤ pNs24 l := by
  induction l with
  | nil => exact absurd h (by simp)
  | cons y l ih =>
    rw [pNs24]
    rcases List.mem_cons.1 h with rfl | h
    · omega
    · have := ih h
      omega
theorem pN24_pos (x : S24) : 1 ≤ pN24 x := by
  obtain ⟨a, b, c, d, l⟩ := x
  rw [pN24]
  omega
theorem pNs24_len (l : List S24) : l.length ≤ pNs24 l := by
  induction l with
  | nil => simp
  | cons y l ih =>
    have := pN24_pos y
    rw [pNs24, List.length_cons]
    omega
theorem pNs24_app (l m : List S24) : pNs24 (l ++ m) = pNs24 l + pNs24 m := by
  induction l with
  | nil => simp [pNs24]
  | cons y l ih =>
    rw [List.cons_append, pNs24, pNs24, ih]
    omega
theorem pNs24_take (l : List S24) (i : Nat) (h : i < l.length) : pNs24 (l.take (i + 1)) = pNs24 (l.take i) + pN24 l[i] := by
  rw [List.take_succ_eq_append_getElem h, pNs24_app, pNs24, pNs24]
  omega
theorem pNs24_drop (l : List S24) (i : Nat) (h : i < l.length) : pNs24 (l.drop i) = pN24 l[i] + pNs24 (l.drop (i + 1)) := by
  rw [List.drop_eq_getElem_cons h, pNs24]
theorem pNs24_le (l : List S24) (i : Nat) : pNs24 (l.take i) ≤ pNs24 l := by
  have := pNs24_app (l.take i) (l.drop i)
  rw [List.take_append_drop] at this
  omega
theorem ind24 {P : S24 → Prop} (h : ∀ a b c d l, (∀ x ∈ l, P x) → P ⟨a, b, c, d, l⟩) : ∀ x, P x
  | ⟨a, b, c, d, l⟩ => h a b c d l (fun x hx => ind24 h x)
termination_by x => SizeOf.sizeOf x
decreasing_by
  have := List.sizeOf_lt_of_mem hx
  simp
  omega
theorem rdP24 (l : List S24) (i : Nat) (h : i < l.length) : rd_T24 l (i : Int) = l[i] := by
  simp [rd_T24, List.getD_eq_getElem?_getD, h]

theorem goodn_mono : ∀ (n m : Nat) (a : S24), n ≤ m → good24n n a → good24n m a := by
  intro n
  induction n with
  | zero => intro m a _ h; exact absurd h id
  | succ n ih =>
    intro m a hm h
    obtain ⟨m, rfl⟩ : ∃ q, m = q + 1 := ⟨m - 1, by omega⟩
    unfold good24n at h ⊢
    obtain ⟨h0, h1, h2, h3, h4⟩ := h
    exact ⟨h0, h1, h2, h3, ⟨h4.1, fun y hy => ih _ _ (by omega) (h4.2 y hy)⟩⟩
theorem good_all (l : List S24) (h : ∀ x ∈ l, good24 x) : ∃ n, ∀ x ∈ l, good24n n x := by
  induction l with
  | nil => exact ⟨0, fun x hx => absurd hx (by simp)⟩
  | cons y l ih =>
    obtain ⟨n, hn⟩ := ih (fun x hx => h x (List.mem_cons_of_mem _ hx))
    obtain ⟨m, hm⟩ := h y List.mem_cons_self
    refine ⟨n + m, fun x hx => ?_⟩
    rcases List.mem_cons.1 hx with rfl | hx
    · exact goodn_mono _ _ _ (by omega) hm
    · exact goodn_mono _ _ _ (by omega) (hn x hx)
theorem good_up (x : S24) (h0 : (Lit.int .i64 x.f0).wf = true) (h1 : (Lit.int .i64 x.f1).wf = true) (h2 : x.f2.size ≤ maxLen) (h3 : x.f3.size ≤ maxLen) (h4 : x.f4.length ≤ maxLen) (h5 : ∀ y ∈ x.f4, good24 y) : good24 x := by
  obtain ⟨n, hn⟩ := good_all x.f4 h5
  exact ⟨n + 1, h0, h1, h2, h3, h4, hn⟩

mutual
def fitP : S24 → Prop
  | ⟨_, _, c, d, l⟩ => c.size ≤ 1048576 ∧ d.size ≤ 1048576 ∧ fitPs l
def fitPs : List S24 → Prop
  | [] => True
  | x :: l => fitP x ∧ fitPs l
end
theorem fitPs_iff (l : List S24) : fitPs l ↔ ∀ x ∈ l, fitP x := by
  induction l with
  | nil => simp [fitPs]
  | cons x l ih => simp [fitPs, ih]
theorem good_kids {a b : Int} {c d : ByteArray} {l : List S24} (h : good24 ⟨a, b, c, d, l⟩) : c.size ≤ maxLen ∧ d.size ≤ maxLen ∧ l.length ≤ maxLen ∧ ∀ x ∈ l, good24 x := by
  obtain ⟨n, h⟩ := h
  cases n with
  | zero => exact h.elim
  | succ n =>
    obtain ⟨_, _, h1, h2, h3, h4⟩ := h
    exact ⟨h1, h2, h3, fun x hx => ⟨n, h4 x hx⟩⟩
theorem szPol_at : ∀ (x : S24) (left : Int), good24 x → 0 ≤ left → left ≤ 1048576 →
    ∃ v, (∀ k, pT24 x < k → laws_szPol.f k x.f0 x.f1 x.f2 x.f3 x.f4 left = some v) ∧ v ≤ left ∧ (0 ≤ v → (pN24 x : Int) ≤ left - v + 1 ∧ fitP x) := by
  intro x
  induction x using ind24 with
  | _ a b c d l ih =>
  intro left hg h0 h1
  obtain ⟨g1, g2, g3, g4⟩ := good_kids hg
  unfold maxLen at g1 g2 g3
  simp only
  rw [pT24]
  have w1 : wrap64 (left - (c.size : Int)) = left - (c.size : Int) := wrap_of (by omega) (by omega)
  by_cases c1 : left - (c.size : Int) < 0
  · refine ⟨-1, fun k hk => ?_, by omega, by omega⟩
    obtain ⟨k, rfl⟩ : ∃ m, k = m + 1 := ⟨k - 1, by omega⟩
    rw [laws_szPol.f, w1, if_pos c1]
  have w2 : wrap64 (left - (c.size : Int) - (d.size : Int)) = left - (c.size : Int) - (d.size : Int) := wrap_of (by omega) (by omega)
  by_cases c2 : left - (c.size : Int) - (d.size : Int) < 0
  · refine ⟨-1, fun k hk => ?_, by omega, by omega⟩
    obtain ⟨k, rfl⟩ : ∃ m, k = m + 1 := ⟨k - 1, by omega⟩
    rw [laws_szPol.f, w1, if_neg c1, w2, if_pos c2]
  obtain ⟨s, hs⟩ : ∃ s, s = left - (c.size : Int) - (d.size : Int) := ⟨_, rfl⟩
  replace w2 : wrap64 (left - (c.size : Int) - (d.size : Int)) = s := w2.trans hs.symm
  replace c2 : ¬ s < 0 := by omega
  have w3 : wrap64 (s - (l.length : Int)) = s - (l.length : Int) := wrap_of (by omega) (by omega)
  by_cases c3 : s - (l.length : Int) < 0
  · refine ⟨-1, fun k hk => ?_, by omega, by omega⟩
    obtain ⟨k, rfl⟩ : ∃ m, k = m + 1 := ⟨k - 1, by omega⟩
    rw [laws_szPol.f, w1, if_neg c1, w2, if_neg c2, laws_szPolS.f, w3, if_pos c3]
    rfl
  obtain ⟨r, ⟨hr1, hr2⟩, hr⟩ := loop_exm (σ := Int) (ok := fun m => pTs24 l < m) (L := fun m k s i => laws_szPolS.l0 (fun b0 b1 b2 b3 b4 b5 => laws_szPol.f m b0 b1 b2 b3 b4 b5) k l s i) (n := l.length)
    (I := fun s _ => 0 ≤ s ∧ s ≤ 1048576) (Post := fun s i r => r ≤ s ∧ (0 ≤ r → (pNs24 (l.drop i) : Int) ≤ s - r + ((l.length - i : Nat) : Int) ∧ ∀ j (h : j < l.length), i ≤ j → fitP l[j]))
    (fun s hI => ⟨s, ⟨by omega, fun _ => ⟨by rw [List.drop_length]; simp [pNs24], fun j hj hij => by omega⟩⟩, fun m _ k => by
      simp only [laws_szPolS.l0]
      rw [if_neg (not_lt_cast _)]⟩)
    (fun s i hi hI => by
      have hx := List.getElem_mem hi
      obtain ⟨v, hv, hv1, hv2⟩ := ih l[i] hx s (g4 _ hx) hI.1 hI.2
      have hT := pT24_mem hx
      by_cases hneg : v < 0
      · refine .inl ⟨-1, ⟨by omega, by omega⟩, fun m hm k => ?_⟩
        simp only [laws_szPolS.l0]
        rw [if_pos (lt_cast hi), if_pos (nn_cast i), rdP24 _ _ hi, hv m (by omega), Option.bind_some, if_pos hneg]
      · refine .inr ⟨v, ⟨by omega, by omega⟩, fun m hm k => ?_, fun r hr => ⟨by omega, fun hr0 => ?_⟩⟩
        · simp only [laws_szPolS.l0]
          rw [if_pos (lt_cast hi), if_pos (nn_cast i), rdP24 _ _ hi, hv m (by omega), Option.bind_some, if_neg hneg, wrap_nat1 hi (by omega)]
        · obtain ⟨q1, q2⟩ := hr.2 hr0
          obtain ⟨q3, q4⟩ := hv2 (by omega)
          refine ⟨?_, fun j hj hij => ?_⟩
          · rw [pNs24_drop l i hi]
            push_cast
            omega
          · rcases Nat.lt_or_ge i j with hlt | hge
            · exact q2 j hj hlt
            · obtain rfl : i = j := by omega
              exact q4) l.length (s - (l.length : Int)) 0 (by omega) ⟨by omega, by omega⟩
  have hf : ∀ k, 2 + l.length + pTs24 l < k + 1 → laws_szPol.f (k + 1) a b c d l left = (some r).bind fun t => if t < 0 then some (-1) else some t := by
    intro k hk
    have := hr k (by omega) k (by omega)
    rw [laws_szPol.f, w1, if_neg c1, w2, if_neg c2, laws_szPolS.f, w3, if_neg c3]
    exact congrArg (fun (z : Option Int) => z.bind fun t => if t < 0 then some (-1) else some t) this
  rw [List.drop_zero] at hr2
  by_cases c4 : r < 0
  · refine ⟨-1, fun k hk => ?_, by omega, by omega⟩
    obtain ⟨k, rfl⟩ : ∃ m, k = m + 1 := ⟨k - 1, by omega⟩
    rw [hf k hk, Option.bind_some, if_pos c4]
  · refine ⟨r, fun k hk => ?_, by omega, fun _ => ⟨?_, ?_⟩⟩
    · obtain ⟨k, rfl⟩ : ∃ m, k = m + 1 := ⟨k - 1, by omega⟩
      rw [hf k hk, Option.bind_some, if_neg c4]
    · have := (hr2 (by omega)).1
      rw [pN24]
      push_cast
      omega
    · rw [fitP]
      refine ⟨by omega, by omega, (fitPs_iff l).2 fun x hx => ?_⟩
      obtain ⟨j, hj, rfl⟩ := List.getElem_of_mem hx
      exact (hr2 (by omega)).2 j hj (by omega)

mutual
def pT29 : S29 → Nat
  | ⟨_, _, _, _, l⟩ => 2 + l.length + pTs29 l
def pTs29 : List S29 → Nat
  | [] => 0
  | x :: l => pT29 x + pTs29 l
end
mutual
def pN29 : S29 → Nat
  | ⟨_, _, _, _, l⟩ => 1 + pNs29 l
def pNs29 : List S29 → Nat
  | [] => 0
  | x :: l => pN29 x + pNs29 l
end
theorem pT29_mem {l : List S29} {x : S29} (h : x ∈ l) : pT29 x ≤ pTs29 l := by
  induction l with
  | nil => exact absurd h (by simp)
  | cons y l ih =>
    rw [pTs29]
    rcases List.mem_cons.1 h with rfl | h
    · omega
    · have := ih h
      omega
theorem pN29_mem {l : List S29} {x : S29} (h : x ∈ l) : pN29 x ≤ pNs29 l := by
  induction l with
  | nil => exact absurd h (by simp)
  | cons y l ih =>
    rw [pNs29]
    rcases List.mem_cons.1 h with rfl | h
    · omega
    · have := ih h
      omega
theorem pN29_pos (x : S29) : 1 ≤ pN29 x := by
  obtain ⟨a, b, c, d, l⟩ := x
  rw [pN29]
  omega
theorem pNs29_len (l : List S29) : l.length ≤ pNs29 l := by
  induction l with
  | nil => simp
  | cons y l ih =>
    have := pN29_pos y
    rw [pNs29, List.length_cons]
    omega
theorem pNs29_app (l m : List S29) : pNs29 (l ++ m) = pNs29 l + pNs29 m := by
  induction l with
  | nil => simp [pNs29]
  | cons y l ih =>
    rw [List.cons_append, pNs29, pNs29, ih]
    omega
theorem pNs29_take (l : List S29) (i : Nat) (h : i < l.length) : pNs29 (l.take (i + 1)) = pNs29 (l.take i) + pN29 l[i] := by
  rw [List.take_succ_eq_append_getElem h, pNs29_app, pNs29, pNs29]
  omega
theorem pNs29_drop (l : List S29) (i : Nat) (h : i < l.length) : pNs29 (l.drop i) = pN29 l[i] + pNs29 (l.drop (i + 1)) := by
  rw [List.drop_eq_getElem_cons h, pNs29]
theorem pNs29_le (l : List S29) (i : Nat) : pNs29 (l.take i) ≤ pNs29 l := by
  have := pNs29_app (l.take i) (l.drop i)
  rw [List.take_append_drop] at this
  omega
theorem ind29 {P : S29 → Prop} (h : ∀ a b c d l, (∀ x ∈ l, P x) → P ⟨a, b, c, d, l⟩) : ∀ x, P x
  | ⟨a, b, c, d, l⟩ => h a b c d l (fun x hx => ind29 h x)
termination_by x => SizeOf.sizeOf x
decreasing_by
  have := List.sizeOf_lt_of_mem hx
  simp
  omega
theorem rdP29 (l : List S29) (i : Nat) (h : i < l.length) : rd_T29 l (i : Int) = l[i] := by
  simp [rd_T29, List.getD_eq_getElem?_getD, h]

mutual
def cvP : S24 → S29
  | ⟨a, b, c, d, l⟩ => ⟨a, b, c, d, cvPs l⟩
def cvPs : List S24 → List S29
  | [] => []
  | x :: l => cvP x :: cvPs l
end
theorem cvPs_map (l : List S24) : cvPs l = l.map cvP := by
  induction l with
  | nil => rfl
  | cons x l ih => rw [cvPs, ih]; rfl
theorem cvPs_len (l : List S24) : (cvPs l).length = l.length := by rw [cvPs_map]; simp
theorem toPol_at : ∀ (x : S24), pN24 x ≤ 1048577 → ∀ k, pT24 x < k → laws_toPol.f k x.f0 x.f1 x.f2 x.f3 x.f4 = some ((cvP x).f0, (cvP x).f1, (cvP x).f2, (cvP x).f3, (cvP x).f4) := by
  intro x
  induction x using ind24 with
  | _ a b c d l ih =>
  intro hn k hk
  rw [pT24] at hk
  rw [pN24] at hn
  obtain ⟨k, rfl⟩ : ∃ m, k = m + 1 := ⟨k - 1, by omega⟩
  have hl := pNs24_len l
  have hm : (l.map cvP).length = l.length := by simp
  obtain ⟨r, hr, h⟩ := loop_ex (σ := List S29) (L := fun j s i => laws_toPolS.l0 (fun b0 b1 b2 b3 b4 => laws_toPol.f k b0 b1 b2 b3 b4) j l s i) (n := l.length) (K := 0)
    (I := fun s i => s = (l.map cvP).take i ++ List.replicate ((l.map cvP).length - i) z29) (Post := fun _ _ r => r = l.map cvP)
    (fun s hI => ⟨_, rfl, fun k => by
      simp only [laws_toPolS.l0]
      rw [if_neg (not_lt_cast _), hI, ← hm, List.take_length, Nat.sub_self]
      simp⟩)
    (fun s i hi hI => .inr ⟨_, rfl, fun j _ => by
      have hi' : i < (l.map cvP).length := by omega
      have hx := List.getElem_mem hi
      have hT := pT24_mem hx
      have hN := pN24_mem hx
      have e : (⟨(cvP l[i]).f0, (cvP l[i]).f1, (cvP l[i]).f2, (cvP l[i]).f3, (cvP l[i]).f4⟩ : S29) = (l.map cvP)[i] := by rw [List.getElem_map]; generalize cvP l[i] = z; cases z; rfl
      simp only [laws_toPolS.l0]
      rw [if_pos (lt_cast hi), if_pos (nn_cast i), rdP24 _ _ hi, ih l[i] hx (by omega) k (by omega), Option.bind_some, hI, fill_len _ _ _ (by omega), if_pos (lt_cast hi'), wrap_nat1 hi (by omega), e]
      simp only [Int.toNat_natCast]
      rw [fill_set _ _ _ hi'], fun _ h => h⟩) l.length (List.replicate l.length z29) 0 (by omega) (by simp)
  subst hr
  have h2 := h k (by omega)
  simp only [laws_toPol.f, laws_toPolS.f]
  rw [if_pos (by omega), if_pos (by simp; omega)]
  simp only [Int.toNat_natCast]
  refine (congrArg (fun (z : Option (List S29)) => z.bind fun t => some (a, b, c, d, t)) h2).trans ?_
  rw [Option.bind_some, cvP, cvPs_map]
theorem cvP_tree : ∀ x : S24, pT29 (cvP x) = pT24 x ∧ pN29 (cvP x) = pN24 x := by
  intro x
  induction x using ind24 with
  | _ a b c d l ih =>
  have h : pTs29 (cvPs l) = pTs24 l ∧ pNs29 (cvPs l) = pNs24 l := by
    induction l with
    | nil => exact ⟨rfl, rfl⟩
    | cons y l ih2 =>
      obtain ⟨h1, h2⟩ := ih2 (fun x hx => ih x (List.mem_cons_of_mem _ hx))
      obtain ⟨h3, h4⟩ := ih y List.mem_cons_self
      constructor
      · rw [cvPs, pTs29, pTs24, h1, h3]
      · rw [cvPs, pNs29, pNs24, h2, h4]
  constructor
  · rw [cvP, pT29, pT24, h.1, cvPs_len]
  · rw [cvP, pN29, pN24, h.2]

theorem eqPol_at : ∀ (x : S29), pN29 x ≤ 1048600 → ∀ k, pT29 x < k → laws_eqPol.f k x.f0 x.f1 x.f2 x.f3 x.f4 x.f0 x.f1 x.f2 x.f3 x.f4 = some true := by
  intro x
  induction x using ind29 with
  | _ a b c d l ih =>
  intro hn k hk
  rw [pT29] at hk
  rw [pN29] at hn
  obtain ⟨k, rfl⟩ : ∃ m, k = m + 1 := ⟨k - 1, by omega⟩
  have hl := pNs29_len l
  obtain ⟨r, hr, h⟩ := loop_ex (σ := Unit) (L := fun j _ i => laws_eqPolS.l0 (fun b0 b1 b2 b3 b4 b5 b6 b7 b8 b9 => laws_eqPol.f k b0 b1 b2 b3 b4 b5 b6 b7 b8 b9) j l l i) (n := l.length) (K := 0)
    (I := fun _ _ => True) (Post := fun _ _ r => r = true)
    (fun s hI => ⟨true, rfl, fun k => by
      simp only [laws_eqPolS.l0]
      rw [if_neg (not_lt_cast _)]⟩)
    (fun s i hi hI => .inr ⟨(), trivial, fun j _ => by
      have hx := List.getElem_mem hi
      have hT := pT29_mem hx
      have hN := pN29_mem hx
      simp only [laws_eqPolS.l0]
      rw [if_pos (lt_cast hi), if_pos (nn_cast i), if_pos (lt_cast hi), rdP29 _ _ hi, ih l[i] hx (by omega) k (by omega), Option.bind_some, if_pos rfl, wrap_nat1 hi (by omega)], fun _ h => h⟩) l.length () 0 (by omega) trivial
  subst hr
  have h2 := h k (by omega)
  simp only [laws_eqPol.f, laws_eqPolS.f, if_true]
  exact congrArg (fun (z : Option Bool) => z.bind fun t => if t = true then some true else some false) h2

theorem copyPol_at : ∀ (x : S29), pN29 x ≤ 1048577 → ∀ k, 2 * pT29 x < k → impl_copyPol.f k x.f0 x.f1 x.f2 x.f3 x.f4 = some (x.f0, x.f1, x.f2, x.f3, x.f4) := by
  intro x
  induction x using ind29 with
  | _ a b c d l ih =>
  intro hn k hk
  rw [pT29] at hk
  rw [pN29] at hn
  obtain ⟨k, rfl⟩ : ∃ m, k = m + 1 := ⟨k - 1, by omega⟩
  have hl := pNs29_len l
  obtain ⟨r, hr, h⟩ := loop_ex (σ := List S29) (L := fun j s i => impl_copyPol.l0 j l l.length i a b c d s) (n := l.length) (K := 2 * pTs29 l + 1)
    (I := fun s i => s = l.take i) (Post := fun _ _ r => r = (a, b, c, d, l))
    (fun s hI => ⟨_, rfl, fun k => by
      simp only [impl_copyPol.l0]
      rw [if_neg (not_lt_cast _), hI, List.take_length]⟩)
    (fun s i hi hI => .inr ⟨l.take (i + 1), rfl, fun j hj => by
      have hx := List.getElem_mem hi
      have hT := pT29_mem hx
      have hN := pN29_mem hx
      have hs : s.length ≤ l.length := by rw [hI]; exact List.length_take_le' _ _
      simp only [impl_copyPol.l0]
      rw [if_pos (lt_cast hi), if_pos (nn_cast i), if_pos (lt_cast hi), rdP29 _ _ hi, ih l[i] hx (by omega) j (by omega), Option.bind_some, if_pos (by omega), wrap_nat1 hi (by omega), hI, List.take_succ_eq_append_getElem hi]
      show impl_copyPol.l0 j l l.length ((i : Int) + 1) a b c d (l.take i ++ [(⟨l[i].f0, l[i].f1, l[i].f2, l[i].f3, l[i].f4⟩ : S29)]) = _
      rw [show (⟨l[i].f0, l[i].f1, l[i].f2, l[i].f3, l[i].f4⟩ : S29) = l[i] from by generalize l[i] = z; cases z; rfl], fun _ h => h⟩) l.length [] 0 (by omega) (by simp)
  subst hr
  simp only [impl_copyPol.f]
  exact h k (by omega)

theorem l5Copy_at : ∀ (x : S29), pN29 x ≤ 1048577 → ∀ k, 2 * pT29 x < k → spec_l5Copy.f k x.f0 x.f1 x.f2 x.f3 x.f4 = some (x.f0, x.f1, x.f2, x.f3, x.f4) := by
  intro x
  induction x using ind29 with
  | _ a b c d l ih =>
  intro hn k hk
  rw [pT29] at hk
  rw [pN29] at hn
  obtain ⟨k, rfl⟩ : ∃ m, k = m + 1 := ⟨k - 1, by omega⟩
  have hl := pNs29_len l
  obtain ⟨r, hr, h⟩ := loop_ex (σ := List S29) (L := fun j s i => spec_l5Copy.l0 j i a b c d l a b c d s) (n := l.length) (K := 2 * pTs29 l + 1)
    (I := fun s i => s = l.take i) (Post := fun _ _ r => r = (a, b, c, d, l))
    (fun s hI => ⟨_, rfl, fun k => by
      simp only [spec_l5Copy.l0]
      rw [if_neg (not_lt_cast _), hI, List.take_length]⟩)
    (fun s i hi hI => .inr ⟨l.take (i + 1), rfl, fun j hj => by
      have hx := List.getElem_mem hi
      have hT := pT29_mem hx
      have hN := pN29_mem hx
      have hs : s.length ≤ l.length := by rw [hI]; exact List.length_take_le' _ _
      simp only [spec_l5Copy.l0]
      rw [if_pos (lt_cast hi), if_pos (nn_cast i), rdP29 _ _ hi, ih l[i] hx (by omega) j (by omega), Option.bind_some, if_pos (by omega), wrap_nat1 hi (by omega), hI, List.take_succ_eq_append_getElem hi]
      show spec_l5Copy.l0 j ((i : Int) + 1) a b c d l a b c d (l.take i ++ [(⟨l[i].f0, l[i].f1, l[i].f2, l[i].f3, l[i].f4⟩ : S29)]) = _
      rw [show (⟨l[i].f0, l[i].f1, l[i].f2, l[i].f3, l[i].f4⟩ : S29) = l[i] from by generalize l[i] = z; cases z; rfl], fun _ h => h⟩) l.length [] 0 (by omega) (by simp)
  subst hr
  simp only [spec_l5Copy.f]
  exact h k (by omega)

def oppV (x : S29) : S29 := if x.f0 = 9 ∧ (x.f4.length : Int) = 1 then rd_T29 x.f4 0 else ⟨9, 0, ⟨#[]⟩, ⟨#[]⟩, [x]⟩
theorem oppV_sz (x : S29) : pN29 (oppV x) ≤ pN29 x + 1 ∧ pT29 (oppV x) ≤ pT29 x + 3 := by
  obtain ⟨a, b, c, d, l⟩ := x
  unfold oppV
  by_cases h : a = 9 ∧ (l.length : Int) = 1
  · rw [if_pos h]
    match l, h.2 with
    | [y], _ =>
      have e : rd_T29 [y] 0 = y := rfl
      show pN29 (rd_T29 [y] 0) ≤ _ ∧ pT29 (rd_T29 [y] 0) ≤ _
      rw [e, pN29, pNs29, pNs29, pT29, pTs29, pTs29]
      omega
  · rw [if_neg h]
    rw [pN29, pNs29, pNs29, pT29, pTs29, pTs29]
    simp only [List.length_cons, List.length_nil]
    omega
theorem opposite_at (x : S29) (hn : pN29 x ≤ 1048577) (k : Nat) (hk : 2 * pT29 x + 4 < k) :
    spec_Opposite.f k x.f0 x.f1 x.f2 x.f3 x.f4 = some ((oppV x).f0, (oppV x).f1, (oppV x).f2, (oppV x).f3, (oppV x).f4) ∧ impl_Opposite.f k x.f0 x.f1 x.f2 x.f3 x.f4 = some ((oppV x).f0, (oppV x).f1, (oppV x).f2, (oppV x).f3, (oppV x).f4) := by
  obtain ⟨k, rfl⟩ : ∃ m, k = m + 1 := ⟨k - 1, by omega⟩
  have c1 := l5Copy_at x (by omega) k (by omega)
  have c2 := copyPol_at x (by omega) k (by omega)
  obtain ⟨a, b, c, d, l⟩ := x
  rw [pT29] at hk
  rw [pN29] at hn
  simp only at c1 c2 ⊢
  unfold spec_Opposite.f impl_Opposite.f oppV
  by_cases h9 : a = 9
  · rw [if_pos h9, if_pos h9]
    by_cases h1 : (l.length : Int) = 1
    · have b1 : ((l.length : Int) == 1) = true := by simpa using h1
      rw [if_pos (show a = 9 ∧ (l.length : Int) = 1 from ⟨h9, h1⟩), b1, spec_Opposite.j0, impl_Opposite.j0, if_pos rfl, if_pos rfl, if_pos (by omega), if_pos (by omega)]
      have hm : rd_T29 l 0 ∈ l := by
        have h0 : 0 < l.length := by omega
        have := rdP29 l 0 h0
        rw [show ((0 : Nat) : Int) = 0 from rfl] at this
        rw [this]
        exact List.getElem_mem h0
      have hT := pT29_mem hm
      have hN := pN29_mem hm
      rw [l5Copy_at (rd_T29 l 0) (by omega) k (by omega), copyPol_at (rd_T29 l 0) (by omega) k (by omega)]
      exact ⟨rfl, rfl⟩
    · have b1 : ((l.length : Int) == 1) = false := by simpa using h1
      rw [if_neg (show ¬ (a = 9 ∧ (l.length : Int) = 1) from fun h => h1 h.2), b1, spec_Opposite.j0, impl_Opposite.j0, if_neg (by decide), if_neg (by decide), c1, c2]
      exact ⟨rfl, rfl⟩
  · rw [if_neg h9, if_neg h9, if_neg (show ¬ (a = 9 ∧ (l.length : Int) = 1) from fun h => h9 h.1), spec_Opposite.j0, impl_Opposite.j0, if_neg (by decide), if_neg (by decide), c1, c2]
    exact ⟨rfl, rfl⟩

theorem markText_l : ∀ (n : Nat) (a : Int) (s : ByteArray), 0 ≤ a → a < 10 ^ n → a ≤ 1000000000000000000 → s.size + n + 1 ≤ 1000000 → ∃ r, ∀ k, n < k → laws_markText.l0 k a s = some r := by
  intro n
  induction n with
  | zero =>
    intro a s h0 h1 _ hs
    refine ⟨(⟨#[109]⟩ : ByteArray) ++ s, fun k hk => ?_⟩
    obtain ⟨k, rfl⟩ : ∃ m, k = m + 1 := ⟨k - 1, by omega⟩
    have hz : ¬ a > 0 := by
      have : (10 : Int) ^ 0 = 1 := rfl
      omega
    rw [laws_markText.l0, if_neg hz, if_pos (by omega)]
  | succ n ih =>
    intro a s h0 h1 h2 hs
    by_cases c : a > 0
    · have hsz : (strOfNums ([(wrap64 (48 + (Int.tmod a 10))) % 256] : List Int)).size = 1 := by rw [strOfNums_size]; rfl
      have hd : Int.tdiv a 10 = a / 10 := Int.tdiv_eq_ediv_of_nonneg h0
      have hw : wrap64 (Int.tdiv a 10) = a / 10 := by rw [hd]; exact wrap_of (by omega) (by omega)
      have hp : (10 : Int) ^ (n + 1) = 10 ^ n * 10 := rfl
      obtain ⟨r, hr⟩ := ih (a / 10) (strOfNums ([(wrap64 (48 + (Int.tmod a 10))) % 256] : List Int) ++ s) (by omega) (by omega) (by omega) (by rw [ByteArray.size_append, hsz]; omega)
      refine ⟨r, fun k hk => ?_⟩
      obtain ⟨k, rfl⟩ : ∃ m, k = m + 1 := ⟨k - 1, by omega⟩
      rw [laws_markText.l0, if_pos c, Option.bind_some, if_pos (by rw [hsz]; omega), hw]
      exact hr k (by omega)
    · refine ⟨(⟨#[109]⟩ : ByteArray) ++ s, fun k hk => ?_⟩
      obtain ⟨k, rfl⟩ : ∃ m, k = m + 1 := ⟨k - 1, by omega⟩
      rw [laws_markText.l0, if_neg c, if_pos (by omega)]
def mt (a : Int) : ByteArray := (laws_markText.f 100 a).getD ⟨#[]⟩
theorem markText_at (a : Int) (h0 : 0 ≤ a) (h2 : a ≤ 100000000000000000) (k : Nat) (hk : 64 < k) : laws_markText.f k a = some (mt a) := by
  have e : ∃ r, ∀ k, 64 < k → laws_markText.f k a = some r := by
    by_cases c : a ≤ 0
    · exact ⟨_, fun k _ => by rw [laws_markText.f, if_pos c]⟩
    · obtain ⟨r, hr⟩ := markText_l 18 a ⟨#[]⟩ h0 (by rw [show (10 : Int) ^ 18 = 1000000000000000000 from by decide]; omega) (by omega) (by decide)
      exact ⟨r, fun k hk => by rw [laws_markText.f, if_neg c]; exact hr k (by omega)⟩
  obtain ⟨r, hr⟩ := e
  rw [hr k hk, mt, hr 100 (by omega)]
  rfl

mutual
def mkv : S29 → Int → S29
  | ⟨_, _, _, _, l⟩, a => ⟨a, a + 1, mt (a + 2), mt (a + 3), mkvs l (a + 4)⟩
def mkvs : List S29 → Int → List S29
  | [], _ => []
  | x :: l, a => mkv x a :: mkvs l (a + 4 * (pN29 x : Int))
end
theorem mkv_eq (x : S29) (a : Int) : mkv x a = ⟨a, a + 1, mt (a + 2), mt (a + 3), mkvs x.f4 (a + 4)⟩ := by
  obtain ⟨b, c, d, e, l⟩ := x
  rw [mkv]
theorem mkvs_len (l : List S29) : ∀ a, (mkvs l a).length = l.length := by
  induction l with
  | nil => intro a; rw [mkvs]
  | cons x l ih => intro a; rw [mkvs, List.length_cons, List.length_cons, ih]
theorem mkvs_get (l : List S29) : ∀ (a : Int) (i : Nat) (h : i < l.length) (h2 : i < (mkvs l a).length), (mkvs l a)[i] = mkv l[i] (a + 4 * (pNs29 (l.take i) : Int)) := by
  induction l with
  | nil => intro a i h; exact absurd h (by simp)
  | cons x l ih =>
    intro a i h h2
    cases i with
    | zero =>
      simp only [mkvs, List.getElem_cons_zero, List.take_zero, pNs29]
      simp
    | succ i =>
      have h3 : i < l.length := by simpa using h
      have e := ih (a + 4 * (pN29 x : Int)) i h3 (by rw [mkvs_len]; exact h3)
      simp only [mkvs, List.getElem_cons_succ, List.take_succ_cons, pNs29]
      rw [e]
      congr 1
      omega
theorem swap_set {α : Type} (A l : List α) (i : Nat) (hi : i < l.length) (hl : A.length = l.length) : (A.take i ++ l.drop i).set i (A[i]'(by omega)) = A.take (i + 1) ++ l.drop (i + 1) := by
  have e2 : (A.take i).length = i := by rw [List.length_take]; omega
  rw [List.drop_eq_getElem_cons hi, List.set_append_right _ _ (by omega), e2, Nat.sub_self, List.set_cons_zero, List.take_succ_eq_append_getElem (by omega), List.append_assoc]
  rfl
theorem swap_len {α : Type} (A l : List α) (i : Nat) (hi : i ≤ l.length) (hl : A.length = l.length) : (A.take i ++ l.drop i).length = l.length := by
  rw [List.length_append, List.length_take, List.length_drop]
  omega
theorem swap_get (A l : List S29) (i : Nat) (hi : i < l.length) (hl : A.length = l.length) : rd_T29 (A.take i ++ l.drop i) (i : Int) = l[i] := by
  have h : i < (A.take i ++ l.drop i).length := by rw [swap_len A l i (by omega) hl]; exact hi
  rw [rdP29 _ _ h, List.getElem_append_right (by rw [List.length_take]; omega)]
  simp only [List.length_take, List.getElem_drop]
  congr 1
  omega
theorem markPolS_at : ∀ (x : S29) (a : Int), 0 ≤ a → a + 4 * (pNs29 x.f4 : Int) ≤ 10000000000 → ∀ K, 64 < K → ∀ k, pT29 x < k → laws_markPolS.g K k x.f4 a = some (a + 4 * (pNs29 x.f4 : Int), mkvs x.f4 a) := by
  intro x
  induction x using ind29 with
  | _ b c d e l ih =>
  intro a h0 h1 K hK k hk
  rw [pT29] at hk
  simp only at h1 ⊢
  obtain ⟨k, rfl⟩ : ∃ m, k = m + 1 := ⟨k - 1, by omega⟩
  have hl := pNs29_len l
  have hm := mkvs_len l a
  obtain ⟨r, hr, h⟩ := loop_ex (σ := List S29 × Int) (L := fun j s i => laws_markPolS.l0 (laws_markPolS.g K k) K j s.1 s.2 i) (n := l.length) (K := 0)
    (I := fun s i => s = ((mkvs l a).take i ++ l.drop i, a + 4 * (pNs29 (l.take i) : Int))) (Post := fun _ _ r => r = (a + 4 * (pNs29 l : Int), mkvs l a))
    (fun s hI => ⟨_, rfl, fun k => by
      rw [hI]
      simp only [laws_markPolS.l0]
      rw [swap_len _ _ _ (Nat.le_refl _) hm, if_neg (not_lt_cast _), List.take_length, List.drop_length, List.append_nil, ← hm, List.take_length]⟩)
    (fun s i hi hI => .inr ⟨((mkvs l a).take (i + 1) ++ l.drop (i + 1), a + 4 * (pNs29 (l.take (i + 1)) : Int)), rfl, fun j _ => by
      have hx := List.getElem_mem hi
      have hT := pT29_mem hx
      have t1 := pNs29_take l i hi
      have t2 := pNs29_le l (i + 1)
      have t3 : pN29 l[i] = 1 + pNs29 l[i].f4 := by generalize l[i] = z; cases z; rw [pN29]
      have hi' : i < (mkvs l a).length := by omega
      have g := mkvs_get l a i hi hi'
      rw [mkv_eq] at g
      have s1 := swap_set (mkvs l a) l i hi hm
      rw [g] at s1
      rw [hI]
      generalize hc : a + 4 * (pNs29 (l.take i) : Int) = c0 at *
      have hc' : a + 4 * (pNs29 (l.take (i + 1)) : Int) = c0 + 4 * (pN29 l[i] : Int) := by omega
      have hb : c0 + 4 * (pN29 l[i] : Int) ≤ 10000000000 := by omega
      have hc0 : 0 ≤ c0 := by omega
      have w1 : wrap64 (c0 + 1) = c0 + 1 := wrap_of (by omega) (by omega)
      have w2 : wrap64 (c0 + 1 + 1) = c0 + 2 := (wrap_of (by omega) (by omega)).trans (by omega)
      have w3 : wrap64 (c0 + 2 + 1) = c0 + 3 := (wrap_of (by omega) (by omega)).trans (by omega)
      have w4 : wrap64 (c0 + 3 + 1) = c0 + 4 := (wrap_of (by omega) (by omega)).trans (by omega)
      have ihx := ih l[i] hx (c0 + 4) (by omega) (by omega) K hK k (by omega)
      simp only [laws_markPolS.l0]
      rw [swap_len _ _ _ (Nat.le_of_lt hi) hm, if_pos (lt_cast hi), if_pos (nn_cast i), w1, w2, w3, w4, markText_at _ (by omega) (by omega) K hK, Option.bind_some, markText_at _ (by omega) (by omega) K hK, Option.bind_some, swap_get _ _ _ hi hm, ihx, Option.bind_some, wrap_nat1 hi (by omega)]
      simp only [Int.toNat_natCast]
      rw [s1, hc', show c0 + 4 + 4 * (pNs29 l[i].f4 : Int) = c0 + 4 * (pN29 l[i] : Int) from by omega], fun _ h => h⟩) l.length (l, a) 0 (by omega) (by simp [pNs29])
  subst hr
  rw [laws_markPolS.g]
  exact h (l.length + 1) (by omega)
theorem heldPolS_at : ∀ (x : S29) (a : Int), 0 ≤ a → a + 4 * (pNs29 x.f4 : Int) ≤ 10000000000 → ∀ k, 2 * pT29 x + 66 < k → laws_heldPolS.f k (mkvs x.f4 a) a = some (a + 4 * (pNs29 x.f4 : Int)) := by
  intro x
  induction x using ind29 with
  | _ b c d e l ih =>
  intro a h0 h1 k hk
  rw [pT29] at hk
  simp only at h1 ⊢
  obtain ⟨k, rfl⟩ : ∃ m, k = m + 1 := ⟨k - 1, by omega⟩
  have hl := pNs29_len l
  have hm := mkvs_len l a
  obtain ⟨r, hr, h⟩ := loop_ex (σ := Int) (L := fun j s i => laws_heldPolS.l0 j (mkvs l a) s i) (n := (mkvs l a).length) (K := 2 * pTs29 l + 67)
    (I := fun s i => s = a + 4 * (pNs29 (l.take i) : Int)) (Post := fun _ _ r => r = a + 4 * (pNs29 l : Int))
    (fun s hI => ⟨_, rfl, fun k => by
      rw [hI]
      simp only [laws_heldPolS.l0]
      rw [if_neg (not_lt_cast _), hm, List.take_length]⟩)
    (fun s i hi' hI => .inr ⟨a + 4 * (pNs29 (l.take (i + 1)) : Int), rfl, fun j hj => by
      have hi : i < l.length := by omega
      have hx := List.getElem_mem hi
      have hT := pT29_mem hx
      have t1 := pNs29_take l i hi
      have t2 := pNs29_le l (i + 1)
      have t3 : pN29 l[i] = 1 + pNs29 l[i].f4 := by generalize l[i] = z; cases z; rw [pN29]
      have g := mkvs_get l a i hi hi'
      rw [mkv_eq] at g
      rw [hI]
      generalize hc : a + 4 * (pNs29 (l.take i) : Int) = c0 at *
      have hc' : a + 4 * (pNs29 (l.take (i + 1)) : Int) = c0 + 4 * (pN29 l[i] : Int) := by omega
      have hb : c0 + 4 * (pN29 l[i] : Int) ≤ 10000000000 := by omega
      have hc0 : 0 ≤ c0 := by omega
      have w1 : wrap64 (c0 + 1) = c0 + 1 := wrap_of (by omega) (by omega)
      have w2 : wrap64 (c0 + 1 + 1) = c0 + 2 := (wrap_of (by omega) (by omega)).trans (by omega)
      have w3 : wrap64 (c0 + 2 + 1) = c0 + 3 := (wrap_of (by omega) (by omega)).trans (by omega)
      have w4 : wrap64 (c0 + 3 + 1) = c0 + 4 := (wrap_of (by omega) (by omega)).trans (by omega)
      have ihx := ih l[i] hx (c0 + 4) (by omega) (by omega) j (by omega)
      simp only [laws_heldPolS.l0]
      rw [if_pos (lt_cast hi'), if_pos (nn_cast i), rdP29 _ _ hi', g]
      simp only
      rw [if_pos trivial, w1, if_pos rfl, w2, w3, w4, markText_at _ (by omega) (by omega) j (by omega), Option.bind_some, if_pos rfl, markText_at _ (by omega) (by omega) j (by omega), Option.bind_some, if_pos rfl, ihx, Option.bind_some, if_neg (by omega), wrap_nat1 hi' (by omega), hc', show c0 + 4 + 4 * (pNs29 l[i].f4 : Int) = c0 + 4 * (pN29 l[i] : Int) from by omega], fun _ h => h⟩) (mkvs l a).length a 0 (by omega) (by simp [pNs29])
  subst hr
  rw [laws_heldPolS.f]
  exact h k (by omega)

theorem FnExactOpposite : ∀ (a0_0 : Int) (a0_1 : Int) (a0_2 : ByteArray) (a0_3 : ByteArray) (l0_4 : (List S24)), ((Lit.int .i64 a0_0).wf = true ∧ (Lit.int .i64 a0_1).wf = true ∧ a0_2.size ≤ maxLen ∧ a0_3.size ≤ maxLen ∧ (l0_4.length ≤ maxLen ∧ ∀ y24 ∈ l0_4, good24 y24)) → ∃ k, laws_FnExactOpposite.f k a0_0 a0_1 a0_2 a0_3 l0_4 = some true := by
  intro a b c d l hg
  have hG : good24 ⟨a, b, c, d, l⟩ := by
    refine good_up ⟨a, b, c, d, l⟩ hg.1 hg.2.1 hg.2.2.1 hg.2.2.2.1 hg.2.2.2.2.1 hg.2.2.2.2.2
  obtain ⟨v, hv, hv1, hv2⟩ := szPol_at ⟨a, b, c, d, l⟩ 1048576 hG (by omega) (by omega)
  simp only at hv
  generalize hX : (⟨a, b, c, d, l⟩ : S24) = X at *
  generalize hm : 4 * pT24 X + 1048801 = m
  refine ⟨m, ?_⟩
  by_cases hn : v < 0
  · simp only [laws_FnExactOpposite.f, hv m (by omega), Option.bind_some]
    rw [if_pos hn]
  obtain ⟨f1, f2⟩ := hv2 (by omega)
  obtain ⟨t1, t2⟩ := cvP_tree X
  have h1 := toPol_at X (by omega) m (by omega)
  generalize hY : cvP X = Y at *
  obtain ⟨o1, o2⟩ := oppV_sz Y
  obtain ⟨h2, h3⟩ := opposite_at Y (by omega) m (by omega)
  generalize hZ : oppV Y = Z at *
  have h4 := eqPol_at Z (by omega) m (by omega)
  have h5 := eqPol_at Y (by omega) m (by omega)
  have p1 : pN29 Y = 1 + pNs29 Y.f4 := by cases Y; rw [pN29]
  have p2 : pN29 Z = 1 + pNs29 Z.f4 := by cases Z; rw [pN29]
  have h6 : laws_markPolS.f m Y.f4 1 = _ := markPolS_at Y 1 (by omega) (by omega) m (by omega) m (by omega)
  have h7 : laws_markPolS.f m Z.f4 1 = _ := markPolS_at Z 1 (by omega) (by omega) m (by omega) m (by omega)
  have h8 := heldPolS_at Z 1 (by omega) (by omega) m (by omega)
  rw [← hX] at h1
  simp only at h1
  simp only [laws_FnExactOpposite.f, hv m (by omega), h1, h2, h3, h4, h5, h6, h7, Option.bind_some, if_true, laws_heldPol.f, h8]
  rw [if_neg hn, if_neg (by omega), if_neg (by omega)]
  simp only [Option.bind_some]
  rw [if_neg (by omega), if_pos trivial]

end Go.Proofs.Ytfhblnbicnmndaa.Pure
