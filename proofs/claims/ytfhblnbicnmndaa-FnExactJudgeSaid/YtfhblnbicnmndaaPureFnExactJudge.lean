/- The program's Judge returns what the reference's returns, for all arguments. Conditions: none beyond the statement's own. -/
import Derived.Test.YtfhblnbicnmndaaQFnExactJudgex
set_option linter.unusedVariables false
set_option linter.unusedSimpArgs false
namespace Go.Proofs.Ytfhblnbicnmndaa.Pure
open Go.RowKit Go.Proofs.Ytfhblnbicnmndaa.QFnExactJudge Go.Proofs.YtfhblnbicnmndaaW.PrintWords Go.Proofs.YtfhblnbicnmndaaW.PrintLast Go.Proofs.YtfhblnbicnmndaaW.PrintMore
def good24n : Nat → S24 → Prop
  | 0, _ => False
  | n + 1, x => (Lit.int .i64 x.f0).wf = true ∧ (Lit.int .i64 x.f1).wf = true ∧ x.f2.size ≤ maxLen ∧ x.f3.size ≤ maxLen ∧ (x.f4.length ≤ maxLen ∧ ∀ y24 ∈ x.f4, good24n n y24)
def good24 (x : S24) : Prop := ∃ n, good24n n x
def good110 (x : S110) : Prop := x.f0.size ≤ maxLen ∧ True ∧ (Lit.int .i64 x.f2).wf = true ∧ x.f3.size ≤ maxLen
def good70 (x : S70) : Prop := (Lit.int .i64 x.f0).wf = true ∧ (Lit.int .i64 x.f1).wf = true ∧ (Lit.int .i64 x.f2).wf = true ∧ (Lit.int .i64 x.f3).wf = true ∧ True ∧ (x.f5.length ≤ maxLen ∧ ∀ y110 ∈ x.f5, good110 y110)

/-- A loop over an index: from a state that is good, with enough rounds, it comes to an end that meets what is told of it. -/
theorem loop_ex {σ β : Type} {L : Nat → σ → Int → Option β} {n K : Nat} {I : σ → Nat → Prop} {Post : σ → Nat → β → Prop}
    (hend : ∀ s, I s n → ∃ r, Post s n r ∧ ∀ k, L (k + 1) s (n : Int) = some r)
    (hstep : ∀ s (i : Nat), i < n → I s i → (∃ r, Post s i r ∧ ∀ k, K ≤ k → L (k + 1) s (i : Int) = some r) ∨
      ∃ s', I s' (i + 1) ∧ (∀ k, K ≤ k → L (k + 1) s (i : Int) = L k s' ((i : Int) + 1)) ∧ ∀ r, Post s' (i + 1) r → Post s i r) :
    ∀ (d : Nat) s (i : Nat), i + d = n → I s i → ∃ r, Post s i r ∧ ∀ k, K + d < k → L k s (i : Int) = some r := by
  intro d
  induction d with
  | zero =>
    intro s i hd hI
    obtain rfl : i = n := by omega
    obtain ⟨r, hp, hr⟩ := hend s hI
    refine ⟨r, hp, fun k hk => ?_⟩
    obtain ⟨k, rfl⟩ : ∃ m, k = m + 1 := ⟨k - 1, by omega⟩
    exact hr k
  | succ d ih =>
    intro s i hd hI
    rcases hstep s i (by omega) hI with ⟨r, hp, hr⟩ | ⟨s', hI', he, hp⟩
    · refine ⟨r, hp, fun k hk => ?_⟩
      obtain ⟨k, rfl⟩ : ∃ m, k = m + 1 := ⟨k - 1, by omega⟩
      exact hr k (by omega)
    · obtain ⟨r, hq, hr⟩ := ih s' (i + 1) (by omega) hI'
      refine ⟨r, hp r hq, fun k hk => ?_⟩
      obtain ⟨k, rfl⟩ : ∃ m, k = m + 1 := ⟨k - 1, by omega⟩
      rw [he k (by omega)]
      have := hr k (by omega)
      rw [Int.natCast_add] at this
      exact this
theorem ev_at {α : Type} {g : Nat → Option α} {r : α} (K : Nat) (h : ∀ k, K < k → g k = some r) : Ev g r := ⟨K + 1, fun k hk => h k (by omega)⟩
theorem wrap_of {x : Int} (h0 : -9223372036854775808 ≤ x) (h1 : x ≤ 9223372036854775807) : wrap64 x = x := by
  unfold wrap64
  omega
theorem wrap_nat1 {i n : Nat} (h : i < n) (hn : n ≤ 9223372036854775807) : wrap64 ((i : Int) + 1) = (i : Int) + 1 := wrap_of (by omega) (by omega)
theorem lt_cast {i n : Nat} (h : i < n) : (i : Int) < (n : Int) := by omega
theorem nn_cast (i : Nat) : 0 ≤ (i : Int) := by omega
theorem not_lt_cast (n : Nat) : ¬ (n : Int) < (n : Int) := by omega
/-- What is written cell by cell. -/
theorem fill_set {α : Type} (l : List α) (z : α) (i : Nat) (h : i < l.length) : (l.take i ++ List.replicate (l.length - i) z).set i l[i] = l.take (i + 1) ++ List.replicate (l.length - (i + 1)) z := by
  have e1 : l.length - i = (l.length - (i + 1)) + 1 := by omega
  have e2 : (l.take i).length = i := by rw [List.length_take]; omega
  rw [e1, List.replicate_succ, List.set_append_right _ _ (by omega), e2, Nat.sub_self, List.set_cons_zero, List.take_succ_eq_append_getElem h, List.append_assoc]
  rfl
theorem fill_len {α : Type} (l : List α) (z : α) (i : Nat) (h : i ≤ l.length) : (l.take i ++ List.replicate (l.length - i) z).length = l.length := by
  rw [List.length_append, List.length_take, List.length_replicate]
  omega

/-- The same for a loop over a function that is told by a number: the end is the same for each that is large enough. -/
theorem loop_exm {σ β ι : Type} {ok : ι → Prop} {L : ι → Nat → σ → Int → Option β} {n : Nat} {I : σ → Nat → Prop} {Post : σ → Nat → β → Prop}
    (hend : ∀ s, I s n → ∃ r, Post s n r ∧ ∀ m, ok m → ∀ k, L m (k + 1) s (n : Int) = some r)
    (hstep : ∀ s (i : Nat), i < n → I s i → (∃ r, Post s i r ∧ ∀ m, ok m → ∀ k, L m (k + 1) s (i : Int) = some r) ∨
      ∃ s', I s' (i + 1) ∧ (∀ m, ok m → ∀ k, L m (k + 1) s (i : Int) = L m k s' ((i : Int) + 1)) ∧ ∀ r, Post s' (i + 1) r → Post s i r) :
    ∀ (d : Nat) s (i : Nat), i + d = n → I s i → ∃ r, Post s i r ∧ ∀ m, ok m → ∀ k, d < k → L m k s (i : Int) = some r := by
  intro d
  induction d with
  | zero =>
    intro s i hd hI
    obtain rfl : i = n := by omega
    obtain ⟨r, hp, hr⟩ := hend s hI
    refine ⟨r, hp, fun m hm k hk => ?_⟩
    obtain ⟨k, rfl⟩ : ∃ m, k = m + 1 := ⟨k - 1, by omega⟩
    exact hr m hm k
  | succ d ih =>
    intro s i hd hI
    rcases hstep s i (by omega) hI with ⟨r, hp, hr⟩ | ⟨s', hI', he, hp⟩
    · refine ⟨r, hp, fun m hm k hk => ?_⟩
      obtain ⟨k, rfl⟩ : ∃ m, k = m + 1 := ⟨k - 1, by omega⟩
      exact hr m hm k
    · obtain ⟨r, hq, hr⟩ := ih s' (i + 1) (by omega) hI'
      refine ⟨r, hp r hq, fun m hm k hk => ?_⟩
      obtain ⟨k, rfl⟩ : ∃ m, k = m + 1 := ⟨k - 1, by omega⟩
      rw [he m hm k]
      have := hr m hm k (by omega)
      rw [Int.natCast_add] at this
      exact this

mutual
def pT24 : S24 → Nat
  | ⟨_, _, _, _, l⟩ => 2 + l.length + pTs24 l
def pTs24 : List S24 → Nat
  | [] => 0
  | x :: l => pT24 x + pTs24 l
end
mutual
def pN24 : S24 → Nat
  | ⟨_, _, _, _, l⟩ => 1 + pNs24 l
def pNs24 : List S24 → Nat
  | [] => 0
  | x :: l => pN24 x + pNs24 l
end
theorem pT24_mem {l : List S24} {x : S24} (h : x ∈ l) : pT24 x ≤ pTs24 l := by
  induction l with
  | nil => exact absurd h (by simp)
  | cons y l ih =>
    rw [pTs24]
    rcases List.mem_cons.1 h with rfl | h
    · omega
    · have := ih h
      omega
theorem pN24_mem {l : List S24} {x : S24} (h : x ∈ l) : pN24 x ≤ pNs24 l := by
  induction l with
  | nil => exact absurd h (by simp)
  | cons y l ih =>
    rw [pNs24]
    rcases List.mem_cons.1 h with rfl | h
    · omega
    · have := ih h
      omega
theorem pN24_pos (x : S24) : 1 ≤ pN24 x := by
  obtain ⟨a, b, c, d, l⟩ := x
  rw [pN24]
  omega
theorem pNs24_len (l : List S24) : l.length ≤ pNs24 l := by
  induction l with
  | nil => simp
  | cons y l ih =>
    have := pN24_pos y
    rw [pNs24, List.length_cons]
    omega
theorem pNs24_app (l m : List S24) : pNs24 (l ++ m) = pNs24 l + pNs24 m := by
  induction l with
  | nil => simp [pNs24]
  | cons y l ih =>
    rw [List.cons_append, pNs24, pNs24, ih]
    omega
theorem pNs24_take (l : List S24) (i : Nat) (h : i < l.length) : pNs24 (l.take (i + 1)) = pNs24 (l.take i) + pN24 l[i] := by
  rw [List.take_succ_eq_append_getElem h, pNs24_app, pNs24, pNs24]
  omega
theorem pNs24_drop (l : List S24) (i : Nat) (h : i < l.length) : pNs24 (l.drop i) = pN24 l[i] + pNs24 (l.drop (i + 1)) := by
  rw [List.drop_eq_getElem_cons h, pNs24]
theorem pNs24_le (l : List S24) (i : Nat) : pNs24 (l.take i) ≤ pNs24 l := by
  have := pNs24_app (l.take i) (l.drop i)
  rw [List.take_append_drop] at this
  omega
theorem ind24 {P : S24 → Prop} (h : ∀ a b c d l, (∀ x ∈ l, P x) → P ⟨a, b, c, d, l⟩) : ∀ x, P x
  | ⟨a, b, c, d, l⟩ => h a b c d l (fun x hx => ind24 h x)
termination_by x => SizeOf.sizeOf x
decreasing_by
  have := List.sizeOf_lt_of_mem hx
  simp
  omega
theorem rdP24 (l : List S24) (i : Nat) (h : i < l.length) : rd_T24 l (i : Int) = l[i] := by
  simp [rd_T24, List.getD_eq_getElem?_getD, h]

theorem goodn_mono : ∀ (n m : Nat) (a : S24), n ≤ m → good24n n a → good24n m a := by
  intro n
  induction n with
  | zero => intro m a _ h; exact absurd h id
  | succ n ih =>
    intro m a hm h
    obtain ⟨m, rfl⟩ : ∃ q, m = q + 1 := ⟨m - 1, by omega⟩
    unfold good24n at h ⊢
    obtain ⟨h0, h1, h2, h3, h4⟩ := h
    exact ⟨h0, h1, h2, h3, ⟨h4.1, fun y hy => ih _ _ (by omega) (h4.2 y hy)⟩⟩
theorem good_all (l : List S24) (h : ∀ x ∈ l, good24 x) : ∃ n, ∀ x ∈ l, good24n n x := by
  induction l with
  | nil => exact ⟨0, fun x hx => absurd hx (by simp)⟩
  | cons y l ih =>
    obtain ⟨n, hn⟩ := ih (fun x hx => h x (List.mem_cons_of_mem _ hx))
    obtain ⟨m, hm⟩ := h y List.mem_cons_self
    refine ⟨n + m, fun x hx => ?_⟩
    rcases List.mem_cons.1 hx with rfl | hx
    · exact goodn_mono _ _ _ (by omega) hm
    · exact goodn_mono _ _ _ (by omega) (hn x hx)
theorem good_up (x : S24) (h0 : (Lit.int .i64 x.f0).wf = true) (h1 : (Lit.int .i64 x.f1).wf = true) (h2 : x.f2.size ≤ maxLen) (h3 : x.f3.size ≤ maxLen) (h4 : x.f4.length ≤ maxLen) (h5 : ∀ y ∈ x.f4, good24 y) : good24 x := by
  obtain ⟨n, hn⟩ := good_all x.f4 h5
  exact ⟨n + 1, h0, h1, h2, h3, h4, hn⟩

mutual
def fitP : S24 → Prop
  | ⟨_, _, c, d, l⟩ => c.size ≤ 1048576 ∧ d.size ≤ 1048576 ∧ fitPs l
def fitPs : List S24 → Prop
  | [] => True
  | x :: l => fitP x ∧ fitPs l
end
theorem fitPs_iff (l : List S24) : fitPs l ↔ ∀ x ∈ l, fitP x := by
  induction l with
  | nil => simp [fitPs]
  | cons x l ih => simp [fitPs, ih]
theorem good_kids {a b : Int} {c d : ByteArray} {l : List S24} (h : good24 ⟨a, b, c, d, l⟩) : c.size ≤ maxLen ∧ d.size ≤ maxLen ∧ l.length ≤ maxLen ∧ ∀ x ∈ l, good24 x := by
  obtain ⟨n, h⟩ := h
  cases n with
  | zero => exact h.elim
  | succ n =>
    obtain ⟨_, _, h1, h2, h3, h4⟩ := h
    exact ⟨h1, h2, h3, fun x hx => ⟨n, h4 x hx⟩⟩
theorem szPol_at : ∀ (x : S24) (left : Int), good24 x → 0 ≤ left → left ≤ 1048576 →
    ∃ v, (∀ k, pT24 x < k → laws_szPol.f k x.f0 x.f1 x.f2 x.f3 x.f4 left = some v) ∧ v ≤ left ∧ (0 ≤ v → (pN24 x : Int) ≤ left - v + 1 ∧ fitP x) := by
  intro x
  induction x using ind24 with
  | _ a b c d l ih =>
  intro left hg h0 h1
  obtain ⟨g1, g2, g3, g4⟩ := good_kids hg
  unfold maxLen at g1 g2 g3
  simp only
  rw [pT24]
  have w1 : wrap64 (left - (c.size : Int)) = left - (c.size : Int) := wrap_of (by omega) (by omega)
  by_cases c1 : left - (c.size : Int) < 0
  · refine ⟨-1, fun k hk => ?_, by omega, by omega⟩
    obtain ⟨k, rfl⟩ : ∃ m, k = m + 1 := ⟨k - 1, by omega⟩
    rw [laws_szPol.f, w1, if_pos c1]
  have w2 : wrap64 (left - (c.size : Int) - (d.size : Int)) = left - (c.size : Int) - (d.size : Int) := wrap_of (by omega) (by omega)
  by_cases c2 : left - (c.size : Int) - (d.size : Int) < 0
  · refine ⟨-1, fun k hk => ?_, by omega, by omega⟩
    obtain ⟨k, rfl⟩ : ∃ m, k = m + 1 := ⟨k - 1, by omega⟩
    rw [laws_szPol.f, w1, if_neg c1, w2, if_pos c2]
  obtain ⟨s, hs⟩ : ∃ s, s = left - (c.size : Int) - (d.size : Int) := ⟨_, rfl⟩
  replace w2 : wrap64 (left - (c.size : Int) - (d.size : Int)) = s := w2.trans hs.symm
  replace c2 : ¬ s < 0 := by omega
  have w3 : wrap64 (s - (l.length : Int)) = s - (l.length : Int) := wrap_of (by omega) (by omega)
  by_cases c3 : s - (l.length : Int) < 0
  · refine ⟨-1, fun k hk => ?_, by omega, by omega⟩
    obtain ⟨k, rfl⟩ : ∃ m, k = m + 1 := ⟨k - 1, by omega⟩
    rw [laws_szPol.f, w1, if_neg c1, w2, if_neg c2, laws_szPolS.f, w3, if_pos c3]
    rfl
  obtain ⟨r, ⟨hr1, hr2⟩, hr⟩ := loop_exm (σ := Int) (ok := fun m => pTs24 l < m) (L := fun m k s i => laws_szPolS.l0 (fun b0 b1 b2 b3 b4 b5 => laws_szPol.f m b0 b1 b2 b3 b4 b5) k l s i) (n := l.length)
    (I := fun s _ => 0 ≤ s ∧ s ≤ 1048576) (Post := fun s i r => r ≤ s ∧ (0 ≤ r → (pNs24 (l.drop i) : Int) ≤ s - r + ((l.length - i : Nat) : Int) ∧ ∀ j (h : j < l.length), i ≤ j → fitP l[j]))
    (fun s hI => ⟨s, ⟨by omega, fun _ => ⟨by rw [List.drop_length]; simp [pNs24], fun j hj hij => by omega⟩⟩, fun m _ k => by
      simp only [laws_szPolS.l0]
      rw [if_neg (not_lt_cast _)]⟩)
    (fun s i hi hI => by
      have hx := List.getElem_mem hi
      obtain ⟨v, hv, hv1, hv2⟩ := ih l[i] hx s (g4 _ hx) hI.1 hI.2
      have hT := pT24_mem hx
      by_cases hneg : v < 0
      · refine .inl ⟨-1, ⟨by omega, by omega⟩, fun m hm k => ?_⟩
        simp only [laws_szPolS.l0]
        rw [if_pos (lt_cast hi), if_pos (nn_cast i), rdP24 _ _ hi, hv m (by omega), Option.bind_some, if_pos hneg]
      · refine .inr ⟨v, ⟨by omega, by omega⟩, fun m hm k => ?_, fun r hr => ⟨by omega, fun hr0 => ?_⟩⟩
        · simp only [laws_szPolS.l0]
          rw [if_pos (lt_cast hi), if_pos (nn_cast i), rdP24 _ _ hi, hv m (by omega), Option.bind_some, if_neg hneg, wrap_nat1 hi (by omega)]
        · obtain ⟨q1, q2⟩ := hr.2 hr0
          obtain ⟨q3, q4⟩ := hv2 (by omega)
          refine ⟨?_, fun j hj hij => ?_⟩
          · rw [pNs24_drop l i hi]
            push_cast
            omega
          · rcases Nat.lt_or_ge i j with hlt | hge
            · exact q2 j hj hlt
            · obtain rfl : i = j := by omega
              exact q4) l.length (s - (l.length : Int)) 0 (by omega) ⟨by omega, by omega⟩
  have hf : ∀ k, 2 + l.length + pTs24 l < k + 1 → laws_szPol.f (k + 1) a b c d l left = (some r).bind fun t => if t < 0 then some (-1) else some t := by
    intro k hk
    have := hr k (by omega) k (by omega)
    rw [laws_szPol.f, w1, if_neg c1, w2, if_neg c2, laws_szPolS.f, w3, if_neg c3]
    exact congrArg (fun (z : Option Int) => z.bind fun t => if t < 0 then some (-1) else some t) this
  rw [List.drop_zero] at hr2
  by_cases c4 : r < 0
  · refine ⟨-1, fun k hk => ?_, by omega, by omega⟩
    obtain ⟨k, rfl⟩ : ∃ m, k = m + 1 := ⟨k - 1, by omega⟩
    rw [hf k hk, Option.bind_some, if_pos c4]
  · refine ⟨r, fun k hk => ?_, by omega, fun _ => ⟨?_, ?_⟩⟩
    · obtain ⟨k, rfl⟩ : ∃ m, k = m + 1 := ⟨k - 1, by omega⟩
      rw [hf k hk, Option.bind_some, if_neg c4]
    · have := (hr2 (by omega)).1
      rw [pN24]
      push_cast
      omega
    · rw [fitP]
      refine ⟨by omega, by omega, (fitPs_iff l).2 fun x hx => ?_⟩
      obtain ⟨j, hj, rfl⟩ := List.getElem_of_mem hx
      exact (hr2 (by omega)).2 j hj (by omega)

mutual
def pT29 : S29 → Nat
  | ⟨_, _, _, _, l⟩ => 2 + l.length + pTs29 l
def pTs29 : List S29 → Nat
  | [] => 0
  | x :: l => pT29 x + pTs29 l
end
mutual
def pN29 : S29 → Nat
  | ⟨_, _, _, _, l⟩ => 1 + pNs29 l
def pNs29 : List S29 → Nat
  | [] => 0
  | x :: l => pN29 x + pNs29 l
end
theorem pT29_mem {l : List S29} {x : S29} (h : x ∈ l) : pT29 x ≤ pTs29 l := by
  induction l with
  | nil => exact absurd h (by simp)
  | cons y l ih =>
    rw [pTs29]
    rcases List.mem_cons.1 h with rfl | h
    · omega
    · have := ih h
      omega
theorem pN29_mem {l : List S29} {x : S29} (h : x ∈ l) : pN29 x ≤ pNs29 l := by
  induction l with
  | nil => exact absurd h (by simp)
  | cons y l ih =>
    rw [pNs29]
    rcases List.mem_cons.1 h with rfl | h
    · omega
    · have := ih h
      omega
theorem pN29_pos (x : S29) : 1 ≤ pN29 x := by
  obtain ⟨a, b, c, d, l⟩ := x
  rw [pN29]
  omega
theorem pNs29_len (l : List S29) : l.length ≤ pNs29 l := by
  induction l with
  | nil => simp
  | cons y l ih =>
    have := pN29_pos y
    rw [pNs29, List.length_cons]
    omega
theorem pNs29_app (l m : List S29) : pNs29 (l ++ m) = pNs29 l + pNs29 m := by
  induction l with
  | nil => simp [pNs29]
  | cons y l ih =>
    rw [List.cons_append, pNs29, pNs29, ih]
    omega
theorem pNs29_take (l : List S29) (i : Nat) (h : i < l.length) : pNs29 (l.take (i + 1)) = pNs29 (l.take i) + pN29 l[i] := by
  rw [List.take_succ_eq_append_getElem h, pNs29_app, pNs29, pNs29]
  omega
theorem pNs29_drop (l : List S29) (i : Nat) (h : i < l.length) : pNs29 (l.drop i) = pN29 l[i] + pNs29 (l.drop (i + 1)) := by
  rw [List.drop_eq_getElem_cons h, pNs29]
theorem pNs29_le (l : List S29) (i : Nat) : pNs29 (l.take i) ≤ pNs29 l := by
  have := pNs29_app (l.take i) (l.drop i)
  rw [List.take_append_drop] at this
  omega
theorem ind29 {P : S29 → Prop} (h : ∀ a b c d l, (∀ x ∈ l, P x) → P ⟨a, b, c, d, l⟩) : ∀ x, P x
  | ⟨a, b, c, d, l⟩ => h a b c d l (fun x hx => ind29 h x)
termination_by x => SizeOf.sizeOf x
decreasing_by
  have := List.sizeOf_lt_of_mem hx
  simp
  omega
theorem rdP29 (l : List S29) (i : Nat) (h : i < l.length) : rd_T29 l (i : Int) = l[i] := by
  simp [rd_T29, List.getD_eq_getElem?_getD, h]

mutual
def cvP : S24 → S29
  | ⟨a, b, c, d, l⟩ => ⟨a, b, c, d, cvPs l⟩
def cvPs : List S24 → List S29
  | [] => []
  | x :: l => cvP x :: cvPs l
end
theorem cvPs_map (l : List S24) : cvPs l = l.map cvP := by
  induction l with
  | nil => rfl
  | cons x l ih => rw [cvPs, ih]; rfl
theorem cvPs_len (l : List S24) : (cvPs l).length = l.length := by rw [cvPs_map]; simp
theorem toPol_at : ∀ (x : S24), pN24 x ≤ 1048577 → ∀ k, pT24 x < k → laws_toPol.f k x.f0 x.f1 x.f2 x.f3 x.f4 = some ((cvP x).f0, (cvP x).f1, (cvP x).f2, (cvP x).f3, (cvP x).f4) := by
  intro x
  induction x using ind24 with
  | _ a b c d l ih =>
  intro hn k hk
  rw [pT24] at hk
  rw [pN24] at hn
  obtain ⟨k, rfl⟩ : ∃ m, k = m + 1 := ⟨k - 1, by omega⟩
  have hl := pNs24_len l
  have hm : (l.map cvP).length = l.length := by simp
  obtain ⟨r, hr, h⟩ := loop_ex (σ := List S29) (L := fun j s i => laws_toPolS.l0 (fun b0 b1 b2 b3 b4 => laws_toPol.f k b0 b1 b2 b3 b4) j l s i) (n := l.length) (K := 0)
    (I := fun s i => s = (l.map cvP).take i ++ List.replicate ((l.map cvP).length - i) z29) (Post := fun _ _ r => r = l.map cvP)
    (fun s hI => ⟨_, rfl, fun k => by
      simp only [laws_toPolS.l0]
      rw [if_neg (not_lt_cast _), hI, ← hm, List.take_length, Nat.sub_self]
      simp⟩)
    (fun s i hi hI => .inr ⟨_, rfl, fun j _ => by
      have hi' : i < (l.map cvP).length := by omega
      have hx := List.getElem_mem hi
      have hT := pT24_mem hx
      have hN := pN24_mem hx
      have e : (⟨(cvP l[i]).f0, (cvP l[i]).f1, (cvP l[i]).f2, (cvP l[i]).f3, (cvP l[i]).f4⟩ : S29) = (l.map cvP)[i] := by rw [List.getElem_map]; generalize cvP l[i] = z; cases z; rfl
      simp only [laws_toPolS.l0]
      rw [if_pos (lt_cast hi), if_pos (nn_cast i), rdP24 _ _ hi, ih l[i] hx (by omega) k (by omega), Option.bind_some, hI, fill_len _ _ _ (by omega), if_pos (lt_cast hi'), wrap_nat1 hi (by omega), e]
      simp only [Int.toNat_natCast]
      rw [fill_set _ _ _ hi'], fun _ h => h⟩) l.length (List.replicate l.length z29) 0 (by omega) (by simp)
  subst hr
  have h2 := h k (by omega)
  simp only [laws_toPol.f, laws_toPolS.f]
  rw [if_pos (by omega), if_pos (by simp; omega)]
  simp only [Int.toNat_natCast]
  refine (congrArg (fun (z : Option (List S29)) => z.bind fun t => some (a, b, c, d, t)) h2).trans ?_
  rw [Option.bind_some, cvP, cvPs_map]
theorem cvP_tree : ∀ x : S24, pT29 (cvP x) = pT24 x ∧ pN29 (cvP x) = pN24 x := by
  intro x
  induction x using ind24 with
  | _ a b c d l ih =>
  have h : pTs29 (cvPs l) = pTs24 l ∧ pNs29 (cvPs l) = pNs24 l := by
    induction l with
    | nil => exact ⟨rfl, rfl⟩
    | cons y l ih2 =>
      obtain ⟨h1, h2⟩ := ih2 (fun x hx => ih x (List.mem_cons_of_mem _ hx))
      obtain ⟨h3, h4⟩ := ih y List.mem_cons_self
      constructor
      · rw [cvPs, pTs29, pTs24, h1, h3]
      · rw [cvPs, pNs29, pNs24, h2, h4]
  constructor
  · rw [cvP, pT29, pT24, h.1, cvPs_len]
  · rw [cvP, pN29, pN24, h.2]

theorem eqPol_at : ∀ (x : S29), pN29 x ≤ 1048577 → ∀ k, pT29 x < k → laws_eqPol.f k x.f0 x.f1 x.f2 x.f3 x.f4 x.f0 x.f1 x.f2 x.f3 x.f4 = some true := by
  intro x
  induction x using ind29 with
  | _ a b c d l ih =>
  intro hn k hk
  rw [pT29] at hk
  rw [pN29] at hn
  obtain ⟨k, rfl⟩ : ∃ m, k = m + 1 := ⟨k - 1, by omega⟩
  have hl := pNs29_len l
  obtain ⟨r, hr, h⟩ := loop_ex (σ := Unit) (L := fun j _ i => laws_eqPolS.l0 (fun b0 b1 b2 b3 b4 b5 b6 b7 b8 b9 => laws_eqPol.f k b0 b1 b2 b3 b4 b5 b6 b7 b8 b9) j l l i) (n := l.length) (K := 0)
    (I := fun _ _ => True) (Post := fun _ _ r => r = true)
    (fun s hI => ⟨true, rfl, fun k => by
      simp only [laws_eqPolS.l0]
      rw [if_neg (not_lt_cast _)]⟩)
    (fun s i hi hI => .inr ⟨(), trivial, fun j _ => by
      have hx := List.getElem_mem hi
      have hT := pT29_mem hx
      have hN := pN29_mem hx
      simp only [laws_eqPolS.l0]
      rw [if_pos (lt_cast hi), if_pos (nn_cast i), if_pos (lt_cast hi), rdP29 _ _ hi, ih l[i] hx (by omega) k (by omega), Option.bind_some, if_pos rfl, wrap_nat1 hi (by omega)], fun _ h => h⟩) l.length () 0 (by omega) trivial
  subst hr
  have h2 := h k (by omega)
  simp only [laws_eqPol.f, laws_eqPolS.f, if_true]
  exact congrArg (fun (z : Option Bool) => z.bind fun t => if t = true then some true else some false) h2

theorem szAttr_ex (a : ByteArray) (b : Bool) (c : Int) (e : ByteArray) (left : Int) (ha : a.size ≤ maxLen) (he : e.size ≤ maxLen) (h0 : 0 ≤ left) (h1 : left ≤ 1048576) :
    ∃ v, laws_szAttr.f a b c e left = some v ∧ v ≤ left ∧ (0 ≤ v → (a.size : Int) ≤ left ∧ (e.size : Int) ≤ left) := by
  unfold maxLen at ha he
  unfold laws_szAttr.f
  have w1 : wrap64 (left - (a.size : Int)) = left - (a.size : Int) := wrap_of (by omega) (by omega)
  rw [w1]
  by_cases c1 : left - (a.size : Int) < 0
  · rw [if_pos c1]
    exact ⟨-1, rfl, by omega, by omega⟩
  · rw [if_neg c1]
    have w2 : wrap64 (left - (a.size : Int) - (e.size : Int)) = left - (a.size : Int) - (e.size : Int) := wrap_of (by omega) (by omega)
    rw [w2]
    by_cases c2 : left - (a.size : Int) - (e.size : Int) < 0
    · rw [if_pos c2]
      exact ⟨-1, rfl, by omega, by omega⟩
    · rw [if_neg c2]
      exact ⟨_, rfl, by omega, by omega⟩

theorem rdLA (l : List S110) (i : Nat) (h : i < l.length) : rd_T110 l (i : Int) = l[i] := by
  simp [rd_T110, List.getD_eq_getElem?_getD, h]

def fitA (x : S110) : Prop := x.f0.size ≤ 1048576 ∧ x.f3.size ≤ 1048576
theorem szAttrS_at (l : List S110) (left : Int) (hl : l.length ≤ maxLen) (hg : ∀ x ∈ l, good110 x) (h0 : 0 ≤ left) (h1 : left ≤ 1048576) :
    ∃ v, (∀ k, 1048576 < k → laws_szAttrS.f k l left = some v) ∧ v ≤ left ∧ (0 ≤ v → (l.length : Int) ≤ left ∧ ∀ x ∈ l, fitA x) := by
  unfold maxLen at hl
  have w1 : wrap64 (left - (l.length : Int)) = left - (l.length : Int) := wrap_of (by omega) (by omega)
  by_cases c1 : left - (l.length : Int) < 0
  · refine ⟨-1, fun k _ => ?_, by omega, by omega⟩
    simp only [laws_szAttrS.f]
    rw [w1, if_pos c1]
  · obtain ⟨r, ⟨hr1, hr2⟩, h⟩ := loop_ex (σ := Int) (L := fun k s i => laws_szAttrS.l0 k l s i) (n := l.length) (K := 0)
      (I := fun s _ => 0 ≤ s ∧ s ≤ left) (Post := fun s i r => r ≤ s ∧ (0 ≤ r → ∀ j (h : j < l.length), i ≤ j → fitA l[j]))
      (fun s hI => ⟨s, ⟨by omega, fun _ j hj hij => by omega⟩, fun k => by
        simp only [laws_szAttrS.l0]
        rw [if_neg (not_lt_cast _)]⟩)
      (fun s i hi hI => by
        obtain ⟨g1, _, _, g2⟩ := hg l[i] (List.getElem_mem hi)
        obtain ⟨v, hv, hv1, hv2⟩ := szAttr_ex l[i].f0 l[i].f1 l[i].f2 l[i].f3 s g1 g2 hI.1 (by omega)
        by_cases hneg : v < 0
        · refine .inl ⟨-1, ⟨by omega, by omega⟩, fun k _ => ?_⟩
          simp only [laws_szAttrS.l0]
          rw [if_pos (lt_cast hi), if_pos (nn_cast i), rdLA _ _ hi, hv, Option.bind_some, if_pos hneg]
        · refine .inr ⟨v, ⟨by omega, by omega⟩, fun k _ => ?_, fun r hr => ⟨by omega, fun hr0 j hj hij => ?_⟩⟩
          · simp only [laws_szAttrS.l0]
            rw [if_pos (lt_cast hi), if_pos (nn_cast i), rdLA _ _ hi, hv, Option.bind_some, if_neg hneg, wrap_nat1 hi (by omega)]
          · rcases Nat.lt_or_ge i j with hlt | hge
            · exact hr.2 hr0 j hj hlt
            · obtain rfl : i = j := by omega
              have := hv2 (by omega)
              exact ⟨by omega, by omega⟩) l.length (left - (l.length : Int)) 0 (by omega) ⟨by omega, by omega⟩
    refine ⟨r, fun k hk => ?_, by omega, fun hr0 => ⟨by omega, fun x hx => ?_⟩⟩
    · simp only [laws_szAttrS.f]
      rw [w1, if_neg c1]
      exact h k (by omega)
    · obtain ⟨j, hj, rfl⟩ := List.getElem_of_mem hx
      exact hr2 hr0 j hj (by omega)

theorem szSpan_at (a b c d : Int) (e : Bool) (l : List S110) (left : Int) (hl : l.length ≤ maxLen) (hg : ∀ x ∈ l, good110 x) (h0 : 0 ≤ left) (h1 : left ≤ 1048576) :
    ∃ v, (∀ k, 1048576 < k → laws_szSpan.f k a b c d e l left = some v) ∧ v ≤ left ∧ (0 ≤ v → (l.length : Int) ≤ left ∧ ∀ x ∈ l, fitA x) := by
  obtain ⟨v, hv, hv1, hv2⟩ := szAttrS_at l left hl hg h0 h1
  by_cases hn : v < 0
  · refine ⟨-1, fun k hk => ?_, by omega, by omega⟩
    simp only [laws_szSpan.f, hv k hk, Option.bind_some]
    rw [if_pos hn]
  · refine ⟨v, fun k hk => ?_, hv1, hv2⟩
    simp only [laws_szSpan.f, hv k hk, Option.bind_some]
    rw [if_neg hn]
theorem szSpan_ex (a b c d : Int) (e : Bool) (l : List S110) (left : Int) (hl : l.length ≤ maxLen) (hg : ∀ x ∈ l, good110 x) (h0 : 0 ≤ left) (h1 : left ≤ 1048576) :
    ∃ v, Ev (fun k => laws_szSpan.f k a b c d e l left) v ∧ v ≤ left ∧ (0 ≤ v → (l.length : Int) ≤ left ∧ ∀ x ∈ l, fitA x) := by
  obtain ⟨v, h, h2⟩ := szSpan_at a b c d e l left hl hg h0 h1
  exact ⟨v, ev_at 1048576 h, h2⟩

theorem rdLS (l : List S70) (i : Nat) (h : i < l.length) : rd_T70 l (i : Int) = l[i] := by
  simp [rd_T70, List.getD_eq_getElem?_getD, h]

def fitS (x : S70) : Prop := x.f5.length ≤ 1048576 ∧ ∀ y ∈ x.f5, fitA y
theorem szSpanS_at (l : List S70) (left : Int) (hl : l.length ≤ maxLen) (hg : ∀ x ∈ l, good70 x) (h0 : 0 ≤ left) (h1 : left ≤ 1048576) :
    ∃ v, (∀ k, 2097153 < k → laws_szSpanS.f k l left = some v) ∧ v ≤ left ∧ (0 ≤ v → (l.length : Int) ≤ left ∧ ∀ x ∈ l, fitS x) := by
  unfold maxLen at hl
  have w1 : wrap64 (left - (l.length : Int)) = left - (l.length : Int) := wrap_of (by omega) (by omega)
  by_cases c1 : left - (l.length : Int) < 0
  · refine ⟨-1, fun k _ => ?_, by omega, by omega⟩
    simp only [laws_szSpanS.f]
    rw [w1, if_pos c1]
  · obtain ⟨r, ⟨hr1, hr2⟩, h⟩ := loop_ex (σ := Int) (L := fun k s i => laws_szSpanS.l0 k l s i) (n := l.length) (K := 1048577)
      (I := fun s _ => 0 ≤ s ∧ s ≤ left) (Post := fun s i r => r ≤ s ∧ (0 ≤ r → ∀ j (h : j < l.length), i ≤ j → fitS l[j]))
      (fun s hI => ⟨s, ⟨by omega, fun _ j hj hij => by omega⟩, fun k => by
        simp only [laws_szSpanS.l0]
        rw [if_neg (not_lt_cast _)]⟩)
      (fun s i hi hI => by
        obtain ⟨_, _, _, _, _, g1, g2⟩ := hg l[i] (List.getElem_mem hi)
        obtain ⟨v, hv, hv1, hv2⟩ := szSpan_at l[i].f0 l[i].f1 l[i].f2 l[i].f3 l[i].f4 l[i].f5 s g1 g2 hI.1 (by omega)
        by_cases hneg : v < 0
        · refine .inl ⟨-1, ⟨by omega, by omega⟩, fun k hk => ?_⟩
          simp only [laws_szSpanS.l0]
          rw [if_pos (lt_cast hi), if_pos (nn_cast i), rdLS _ _ hi, hv k (by omega), Option.bind_some, if_pos hneg]
        · refine .inr ⟨v, ⟨by omega, by omega⟩, fun k hk => ?_, fun r hr => ⟨by omega, fun hr0 j hj hij => ?_⟩⟩
          · simp only [laws_szSpanS.l0]
            rw [if_pos (lt_cast hi), if_pos (nn_cast i), rdLS _ _ hi, hv k (by omega), Option.bind_some, if_neg hneg, wrap_nat1 hi (by omega)]
          · rcases Nat.lt_or_ge i j with hlt | hge
            · exact hr.2 hr0 j hj hlt
            · obtain rfl : i = j := by omega
              have := hv2 (by omega)
              exact ⟨by omega, this.2⟩) l.length (left - (l.length : Int)) 0 (by omega) ⟨by omega, by omega⟩
    refine ⟨r, fun k hk => ?_, by omega, fun hr0 => ⟨by omega, fun x hx => ?_⟩⟩
    · simp only [laws_szSpanS.f]
      rw [w1, if_neg c1]
      exact h k (by omega)
    · obtain ⟨j, hj, rfl⟩ := List.getElem_of_mem hx
      exact hr2 hr0 j hj (by omega)

def cvA (x : S110) : S83 := ⟨x.f0, x.f1, x.f2, x.f3⟩
theorem toAttrS_at (l : List S110) (hl : l.length ≤ 1048576) : ∀ k, 1048576 < k → laws_toAttrS.f k l = some (l.map cvA) := by
  have hm : (l.map cvA).length = l.length := by simp
  obtain ⟨r, hr, h⟩ := loop_ex (σ := List S83) (L := fun k s i => laws_toAttrS.l0 k l s i) (n := l.length) (K := 0)
    (I := fun s i => s = (l.map cvA).take i ++ List.replicate ((l.map cvA).length - i) z83) (Post := fun _ _ r => r = l.map cvA)
    (fun s hI => ⟨_, rfl, fun k => by
      simp only [laws_toAttrS.l0]
      rw [if_neg (not_lt_cast _), hI, ← hm, List.take_length, Nat.sub_self]
      simp⟩)
    (fun s i hi hI => .inr ⟨_, rfl, fun k _ => by
      have hi' : i < (l.map cvA).length := by omega
      have e : (⟨l[i].f0, l[i].f1, l[i].f2, l[i].f3⟩ : S83) = (l.map cvA)[i] := by rw [List.getElem_map]; rfl
      simp only [laws_toAttrS.l0, laws_toAttr.f, Option.bind_some]
      rw [if_pos (lt_cast hi), if_pos (nn_cast i), hI, fill_len _ _ _ (by omega), if_pos (lt_cast hi'), rdLA _ _ hi, wrap_nat1 hi (by omega), e]
      simp only [Int.toNat_natCast]
      rw [fill_set _ _ _ hi'], fun _ h => h⟩) l.length (List.replicate l.length z83) 0 (by omega) (by simp)
  subst hr
  intro k hk
  simp only [laws_toAttrS.f]
  rw [if_pos (by omega), if_pos (by simp; omega)]
  exact h k (by omega)
theorem toAttrS_ev (l : List S110) (hl : l.length ≤ 1048576) : Ev (fun k => laws_toAttrS.f k l) (l.map cvA) := ev_at 1048576 (toAttrS_at l hl)

theorem toSpan_at (a b c d : Int) (e : Bool) (l : List S110) (hl : l.length ≤ 1048576) : ∀ k, 1048576 < k → laws_toSpan.f k a b c d e l = some (a, b, c, d, e, l.map cvA) := by
  intro k hk
  simp only [laws_toSpan.f, toAttrS_at l hl k hk, Option.bind_some]
theorem toSpan_ev (a b c d : Int) (e : Bool) (l : List S110) (hl : l.length ≤ 1048576) : Ev (fun k => laws_toSpan.f k a b c d e l) (a, b, c, d, e, l.map cvA) := ev_at 1048576 (toSpan_at a b c d e l hl)

def cvS (x : S70) : S73 := ⟨x.f0, x.f1, x.f2, x.f3, x.f4, x.f5.map cvA⟩
theorem toSpanS_at (l : List S70) (hl : l.length ≤ 1048576) (hf : ∀ x ∈ l, x.f5.length ≤ 1048576) : ∀ k, 2097153 < k → laws_toSpanS.f k l = some (l.map cvS) := by
  have hm : (l.map cvS).length = l.length := by simp
  obtain ⟨r, hr, h⟩ := loop_ex (σ := List S73) (L := fun k s i => laws_toSpanS.l0 k l s i) (n := l.length) (K := 1048577)
    (I := fun s i => s = (l.map cvS).take i ++ List.replicate ((l.map cvS).length - i) z73) (Post := fun _ _ r => r = l.map cvS)
    (fun s hI => ⟨_, rfl, fun k => by
      simp only [laws_toSpanS.l0]
      rw [if_neg (not_lt_cast _), hI, ← hm, List.take_length, Nat.sub_self]
      simp⟩)
    (fun s i hi hI => .inr ⟨_, rfl, fun k hk => by
      have hi' : i < (l.map cvS).length := by omega
      have e : (⟨l[i].f0, l[i].f1, l[i].f2, l[i].f3, l[i].f4, l[i].f5.map cvA⟩ : S73) = (l.map cvS)[i] := by rw [List.getElem_map]; rfl
      simp only [laws_toSpanS.l0]
      rw [if_pos (lt_cast hi), if_pos (nn_cast i), rdLS _ _ hi, toSpan_at _ _ _ _ _ _ (hf _ (List.getElem_mem hi)) k (by omega), Option.bind_some, hI, fill_len _ _ _ (by omega), if_pos (lt_cast hi'), wrap_nat1 hi (by omega), e]
      simp only [Int.toNat_natCast]
      rw [fill_set _ _ _ hi'], fun _ h => h⟩) l.length (List.replicate l.length z73) 0 (by omega) (by simp)
  subst hr
  intro k hk
  simp only [laws_toSpanS.f]
  rw [if_pos (by omega), if_pos (by simp; omega)]
  exact h k (by omega)
theorem fitS_map (l : List S70) (h : ∀ x ∈ l, fitS x) : ∀ x ∈ l.map cvS, x.f5.length ≤ 1048576 ∧ ∀ y ∈ x.f5, y.f0.size ≤ 1048576 ∧ y.f3.size ≤ 1048576 := by
  intro x hx
  obtain ⟨y, hy, rfl⟩ := List.mem_map.1 hx
  have := h y hy
  refine ⟨by simpa [cvS] using this.1, fun z hz => ?_⟩
  obtain ⟨u, hu, rfl⟩ := List.mem_map.1 hz
  exact this.2 u hu

theorem rdIA (l : List S83) (i : Nat) (h : i < l.length) : rd_T83 l (i : Int) = l[i] := by
  simp [rd_T83, List.getD_eq_getElem?_getD, h]

theorem eqAttr_self (a : ByteArray) (b : Bool) (c : Int) (e : ByteArray) : laws_eqAttr.f a b c e a b c e = some true := by
  simp [laws_eqAttr.f]

theorem eqAttrS_at (l : List S83) (hl : l.length ≤ 1048576) : ∀ k, 1048576 < k → laws_eqAttrS.f k l l = some true := by
  obtain ⟨r, hr, h⟩ := loop_ex (σ := Unit) (L := fun k _ i => laws_eqAttrS.l0 k l l i) (n := l.length) (K := 0)
    (I := fun _ _ => True) (Post := fun _ _ r => r = true)
    (fun s hI => ⟨true, rfl, fun k => by
      simp only [laws_eqAttrS.l0]
      rw [if_neg (not_lt_cast _)]⟩)
    (fun s i hi hI => .inr ⟨(), trivial, fun k _ => by
      simp only [laws_eqAttrS.l0, eqAttr_self, Option.bind_some, if_true]
      rw [if_pos (lt_cast hi), if_pos (nn_cast i), if_pos (lt_cast hi), wrap_nat1 hi (by omega)], fun _ h => h⟩) l.length () 0 (by omega) trivial
  subst hr
  intro k hk
  simp only [laws_eqAttrS.f, if_true]
  exact h k (by omega)
theorem eqAttrS_self (l : List S83) (hl : l.length ≤ 1048576) : Ev (fun k => laws_eqAttrS.f k l l) true := ev_at 1048576 (eqAttrS_at l hl)

theorem eqSpan_at (a b c d : Int) (e : Bool) (l : List S83) (hl : l.length ≤ 1048576) : ∀ k, 1048576 < k → laws_eqSpan.f k a b c d e l a b c d e l = some true := by
  intro k hk
  simp [laws_eqSpan.f, eqAttrS_at l hl k hk]
theorem eqSpan_self (a b c d : Int) (e : Bool) (l : List S83) (hl : l.length ≤ 1048576) : Ev (fun k => laws_eqSpan.f k a b c d e l a b c d e l) true := ev_at 1048576 (eqSpan_at a b c d e l hl)

theorem rdIS (l : List S73) (i : Nat) (h : i < l.length) : rd_T73 l (i : Int) = l[i] := by
  simp [rd_T73, List.getD_eq_getElem?_getD, h]

theorem eqSpanS_at (l : List S73) (hl : l.length ≤ 1048576) (hf : ∀ x ∈ l, x.f5.length ≤ 1048576) : ∀ k, 2097153 < k → laws_eqSpanS.f k l l = some true := by
  obtain ⟨r, hr, h⟩ := loop_ex (σ := Unit) (L := fun k _ i => laws_eqSpanS.l0 k l l i) (n := l.length) (K := 1048577)
    (I := fun _ _ => True) (Post := fun _ _ r => r = true)
    (fun s hI => ⟨true, rfl, fun k => by
      simp only [laws_eqSpanS.l0]
      rw [if_neg (not_lt_cast _)]⟩)
    (fun s i hi hI => .inr ⟨(), trivial, fun k hk => by
      simp only [laws_eqSpanS.l0]
      rw [if_pos (lt_cast hi), if_pos (nn_cast i), if_pos (lt_cast hi), rdIS _ _ hi, eqSpan_at _ _ _ _ _ _ (hf _ (List.getElem_mem hi)) k (by omega), wrap_nat1 hi (by omega)]
      rfl, fun _ h => h⟩) l.length () 0 (by omega) trivial
  subst hr
  intro k hk
  simp only [laws_eqSpanS.f, if_true]
  exact h k (by omega)

def faV (key : ByteArray) (l : List S83) : ByteArray × Bool × Int × ByteArray × Bool := match l with
  | [] => ((⟨#[]⟩ : ByteArray), false, 0, (⟨#[]⟩ : ByteArray), false)
  | x :: l => if x.f0.toList = key.toList then (x.f0, x.f1, x.f2, x.f3, true) else faV key l
theorem faV_drop (key : ByteArray) (l : List S83) (i : Nat) (h : i < l.length) : faV key (l.drop i) = if l[i].f0.toList = key.toList then (l[i].f0, l[i].f1, l[i].f2, l[i].f3, true) else faV key (l.drop (i + 1)) := by
  rw [List.drop_eq_getElem_cons h, faV]
theorem spec_FindAttr_at (key : ByteArray) (l : List S83) (hl : l.length ≤ 1048576) : ∀ k, l.length < k → spec_FindAttr.f k l key = some (faV key l) := by
  obtain ⟨r, hr, h⟩ := loop_ex (σ := Unit) (L := fun k _ i => spec_FindAttr.l0 k l key i) (n := l.length) (K := 0)
    (I := fun _ _ => True) (Post := fun _ i r => r = faV key (l.drop i))
    (fun s _ => ⟨_, by rw [List.drop_length, faV], fun k => by
      simp only [spec_FindAttr.l0]
      rw [if_neg (not_lt_cast _)]⟩)
    (fun s i hi _ => by
      by_cases hc : l[i].f0.toList = key.toList
      · refine .inl ⟨_, by rw [faV_drop key l i hi, if_pos hc], fun k hk => ?_⟩
        simp only [spec_FindAttr.l0]
        rw [if_pos (lt_cast hi), if_pos (nn_cast i), rdIA _ _ hi, if_pos hc]
      · refine .inr ⟨(), trivial, fun k hk => ?_, fun r hr => by rw [faV_drop key l i hi, if_neg hc]; exact hr⟩
        simp only [spec_FindAttr.l0]
        rw [if_pos (lt_cast hi), if_pos (nn_cast i), rdIA _ _ hi, if_neg hc, wrap_nat1 hi (by omega)]) l.length () 0 (by omega) trivial
  rw [List.drop_zero] at hr
  subst hr
  exact fun k hk => h k (by omega)
theorem impl_FindAttr_at (key : ByteArray) (l : List S83) (hl : l.length ≤ 1048576) : ∀ k, l.length < k → impl_FindAttr.f k l key = some (faV key l) := by
  obtain ⟨r, hr, h⟩ := loop_ex (σ := Unit) (L := fun k _ i => impl_FindAttr.l0 k key l l.length i) (n := l.length) (K := 0)
    (I := fun _ _ => True) (Post := fun _ i r => r = faV key (l.drop i))
    (fun s _ => ⟨_, by rw [List.drop_length, faV], fun k => by
      simp only [impl_FindAttr.l0]
      rw [if_neg (not_lt_cast _)]⟩)
    (fun s i hi _ => by
      by_cases hc : l[i].f0.toList = key.toList
      · refine .inl ⟨_, by rw [faV_drop key l i hi, if_pos hc], fun k hk => ?_⟩
        simp only [impl_FindAttr.l0]
        rw [if_pos (lt_cast hi), if_pos (nn_cast i), if_pos (lt_cast hi), rdIA _ _ hi, if_pos hc]
      · refine .inr ⟨(), trivial, fun k hk => ?_, fun r hr => by rw [faV_drop key l i hi, if_neg hc]; exact hr⟩
        simp only [impl_FindAttr.l0]
        rw [if_pos (lt_cast hi), if_pos (nn_cast i), if_pos (lt_cast hi), rdIA _ _ hi, if_neg hc, wrap_nat1 hi (by omega)]) l.length () 0 (by omega) trivial
  rw [List.drop_zero] at hr
  subst hr
  exact fun k hk => h k (by omega)

theorem any_drop {α : Type} (p : α → Bool) (l : List α) (i : Nat) (h : i < l.length) : (l.drop i).any p = (p l[i] || (l.drop (i + 1)).any p) := by
  rw [List.drop_eq_getElem_cons h, List.any_cons]
theorem anySpan_at (F_ : Int → Int → Int → Int → Bool → List S83 → Option Bool) (p : S73 → Bool) (l : List S73) (hl : l.length ≤ 1048576) (hF : ∀ x ∈ l, F_ x.f0 x.f1 x.f2 x.f3 x.f4 x.f5 = some (p x)) :
    ∀ k, l.length < k → impl_Span_87.f F_ k l = some (l.any p) := by
  obtain ⟨r, hr, h⟩ := loop_ex (σ := Unit) (L := fun j _ i => impl_Span_107.l0 F_ j l l.length i) (n := l.length) (K := 0)
    (I := fun _ _ => True) (Post := fun _ i r => decide (0 ≤ r) = (l.drop i).any p)
    (fun s hI => ⟨-1, by rw [List.drop_length]; rfl, fun k => by
      simp only [impl_Span_107.l0]
      rw [if_neg (not_lt_cast _)]⟩)
    (fun s i hi hI => by
      have hx := List.getElem_mem hi
      by_cases hv : p l[i] = true
      · refine .inl ⟨(i : Int), by rw [any_drop p l i hi, hv, Bool.true_or]; exact decide_eq_true (by omega), fun j hj => ?_⟩
        simp only [impl_Span_107.l0]
        rw [if_pos (lt_cast hi), if_pos (nn_cast i), if_pos (lt_cast hi), rdIS _ _ hi, hF l[i] hx, Option.bind_some, if_pos hv]
      · refine .inr ⟨(), trivial, fun j hj => ?_, fun r hr => by rw [any_drop p l i hi, Bool.eq_false_iff.mpr hv, Bool.false_or]; exact hr⟩
        simp only [impl_Span_107.l0]
        rw [if_pos (lt_cast hi), if_pos (nn_cast i), if_pos (lt_cast hi), rdIS _ _ hi, hF l[i] hx, Option.bind_some, if_neg hv, wrap_nat1 hi (by omega)]) l.length () 0 (by omega) trivial
  rw [List.drop_zero] at hr
  intro k hk
  have h2 := h k (by omega)
  simp only [impl_Span_87.f, impl_Span_107.f]
  rw [← hr]
  exact congrArg (fun (z : Option Int) => z.bind fun t => some (decide (0 ≤ t))) h2

def textV (key text : ByteArray) (x : S73) : Bool := (faV key x.f5).2.2.2.2 && (!(faV key x.f5).2.1 && (faV key x.f5).2.2.2.1.toList == text.toList)
def numV (key : ByteArray) (n : Int) (x : S73) : Bool := (faV key x.f5).2.2.2.2 && ((faV key x.f5).2.1 && decide ((faV key x.f5).2.2.1 ≥ n))
theorem l6Some_at (a b : Int) (c d : ByteArray) (q : List S29) (ha : a = 4 ∨ a = 5) (l : List S73) (hl : l.length ≤ 1048576) (hf : ∀ x ∈ l, x.f5.length ≤ 1048576) :
    ∀ k, 2097153 < k → spec_l6Some.f k a b c d q l = some (l.any fun x => if a = 4 then textV c d x else numV c b x) := by
  obtain ⟨r, hr, h⟩ := loop_ex (σ := Unit) (L := fun k _ i => spec_l6Some.l0 k l i a b c d q) (n := l.length) (K := 1048577)
    (I := fun _ _ => True) (Post := fun _ i r => r = (l.drop i).any fun x => if a = 4 then textV c d x else numV c b x)
    (fun s _ => ⟨false, by rw [List.drop_length]; rfl, fun k => by
      simp only [spec_l6Some.l0]
      rw [if_neg (not_lt_cast _)]⟩)
    (fun s i hi _ => by
      have hx := hf l[i] (List.getElem_mem hi)
      have hs : ∀ k, 1048577 ≤ k → spec_l6Some.l0 (k + 1) l i a b c d q = if (if a = 4 then textV c d l[i] else numV c b l[i]) = true then some true else spec_l6Some.l0 k l ((i : Int) + 1) a b c d q := by
        intro k hk
        rw [spec_l6Some.l0, if_pos (lt_cast hi), if_pos (nn_cast i), rdIS _ _ hi, spec_FindAttr_at c l[i].f5 hx k (by omega), Option.bind_some, wrap_nat1 hi (by omega)]
        unfold textV numV
        generalize faV c l[i].f5 = u
        obtain ⟨u1, u2, u3, u4, u5⟩ := u
        rcases ha with rfl | rfl
        · cases u5 <;> cases u2 <;> by_cases hd : u4.toList = d.toList <;> simp [hd]
        · cases u5 <;> cases u2 <;> by_cases hd : u3 ≥ b <;> simp [hd]
      by_cases hv : (if a = 4 then textV c d l[i] else numV c b l[i]) = true
      · refine .inl ⟨true, by rw [any_drop _ l i hi, hv]; rfl, fun k hk => ?_⟩
        rw [hs k hk, if_pos hv]
      · refine .inr ⟨(), trivial, fun k hk => ?_, fun r hr => by rw [any_drop _ l i hi, Bool.eq_false_iff.mpr hv, Bool.false_or]; exact hr⟩
        rw [hs k hk, if_neg hv]) l.length () 0 (by omega) trivial
  rw [List.drop_zero] at hr
  subst hr
  exact fun k hk => h k (by omega)

theorem anyPol_at (F_ : Int → Int → ByteArray → ByteArray → List S29 → Option Bool) (p : S29 → Bool) (l : List S29) (hl : l.length ≤ 1048577) (hF : ∀ x ∈ l, F_ x.f0 x.f1 x.f2 x.f3 x.f4 = some (p x)) :
    ∀ k, l.length < k → impl_Pol_49.f F_ k l = some (l.any p) := by
  obtain ⟨r, hr, h⟩ := loop_ex (σ := Unit) (L := fun j _ i => impl_Pol_78.l0 F_ j l l.length i) (n := l.length) (K := 0)
    (I := fun _ _ => True) (Post := fun _ i r => decide (0 ≤ r) = (l.drop i).any p)
    (fun s hI => ⟨-1, by rw [List.drop_length]; rfl, fun k => by
      simp only [impl_Pol_78.l0]
      rw [if_neg (not_lt_cast _)]⟩)
    (fun s i hi hI => by
      have hx := List.getElem_mem hi
      by_cases hv : p l[i] = true
      · refine .inl ⟨(i : Int), by rw [any_drop p l i hi, hv, Bool.true_or]; exact decide_eq_true (by omega), fun j hj => ?_⟩
        simp only [impl_Pol_78.l0]
        rw [if_pos (lt_cast hi), if_pos (nn_cast i), if_pos (lt_cast hi), rdP29 _ _ hi, hF l[i] hx, Option.bind_some, if_pos hv]
      · refine .inr ⟨(), trivial, fun j hj => ?_, fun r hr => by rw [any_drop p l i hi, Bool.eq_false_iff.mpr hv, Bool.false_or]; exact hr⟩
        simp only [impl_Pol_78.l0]
        rw [if_pos (lt_cast hi), if_pos (nn_cast i), if_pos (lt_cast hi), rdP29 _ _ hi, hF l[i] hx, Option.bind_some, if_neg hv, wrap_nat1 hi (by omega)]) l.length () 0 (by omega) trivial
  rw [List.drop_zero] at hr
  intro k hk
  have h2 := h k (by omega)
  simp only [impl_Pol_49.f, impl_Pol_78.f]
  rw [← hr]
  exact congrArg (fun (z : Option Int) => z.bind fun t => some (decide (0 ≤ t))) h2

def capv (n : Int) : Int := if n < 0 then 0 else if n > 2147483647 then 2147483647 else n
theorem capv_range (n : Int) : 0 ≤ capv n ∧ capv n ≤ 2147483647 := by unfold capv; (repeat' split) <;> omega
theorem capv_id {n : Int} (h0 : 0 ≤ n) (h1 : n ≤ 2147483647) : capv n = n := by unfold capv; (repeat' split) <;> omega
theorem spec_Cap_eq (a : Int) : spec_Cap.f a = some (capv a) := by unfold spec_Cap.f capv; (repeat' split) <;> rfl
theorem impl_Cap_eq (a : Int) : impl_Cap.f a = some (capv a) := by
  unfold impl_Cap.f capv mn mx
  congr 1
  (repeat' split) <;> omega

def subv (a b : Int) : Int := capv (capv a - capv b)
theorem wrap_sub (a b : Int) : wrap64 (capv a - capv b) = capv a - capv b := by
  have := capv_range a
  have := capv_range b
  unfold wrap64
  omega

theorem spec_Sub_eq (a b : Int) : spec_Sub.f a b = some (subv a b) := by
  simp only [spec_Sub.f, spec_Cap_eq, Option.bind_some, wrap_sub, subv]
theorem impl_Sub_eq (a b : Int) : impl_Sub.f a b = some (subv a b) := by
  simp only [impl_Sub.f, impl_Cap_eq, Option.bind_some, wrap_sub, subv]

theorem spec_LengthOf_eq (a b c d : Int) (e : Bool) (l : List S83) : spec_LengthOf.f a b c d e l = some (subv d c) := by
  simp only [spec_LengthOf.f, spec_Sub_eq, Option.bind_some]
theorem impl_LengthOf_eq (a b c d : Int) (e : Bool) (l : List S83) : impl_LengthOf.f a b c d e l = some (subv d c) := by
  simp only [impl_LengthOf.f, impl_Sub_eq, Option.bind_some]

def lenV (x : S73) : Int := subv x.f3 x.f2
def longV (l : List S73) : Int := l.foldl (fun n x => mx n (lenV x)) 0
theorem longV_take (l : List S73) (i : Nat) (h : i < l.length) : longV (l.take (i + 1)) = mx (longV (l.take i)) (lenV l[i]) := by
  unfold longV
  rw [List.take_succ_eq_append_getElem h, List.foldl_append]
  rfl
theorem spec_Longest_at (l : List S73) (hl : l.length ≤ 1048576) : ∀ k, l.length < k → spec_Longest.f k l = some (longV l) := by
  obtain ⟨r, hr, h⟩ := loop_ex (σ := Int) (L := fun k s i => spec_Longest.l0 k l s i) (n := l.length) (K := 0)
    (I := fun s i => s = longV (l.take i)) (Post := fun _ _ r => r = longV l)
    (fun s hI => ⟨_, rfl, fun k => by
      simp only [spec_Longest.l0]
      rw [if_neg (not_lt_cast _), hI, List.take_length]⟩)
    (fun s i hi hI => .inr ⟨longV (l.take (i + 1)), rfl, fun k hk => by
      simp only [spec_Longest.l0]
      rw [if_pos (lt_cast hi), if_pos (nn_cast i), rdIS _ _ hi, spec_LengthOf_eq, Option.bind_some, Option.bind_some, wrap_nat1 hi (by omega), longV_take _ _ hi, hI]
      show (if lenV l[i] > _ then _ else _) = _
      unfold mx
      by_cases hc : longV (l.take i) < lenV l[i]
      · rw [if_pos hc, if_pos hc]
        rfl
      · rw [if_neg hc, if_neg hc], fun _ h => h⟩) l.length 0 0 (by omega) (by simp [longV])
  subst hr
  exact fun k hk => h k (by omega)

def errV (l : List S73) : Int := ((l.filter fun x => x.f4).length : Int)
theorem errV_take (l : List S73) (i : Nat) (h : i < l.length) : errV (l.take (i + 1)) = errV (l.take i) + if l[i].f4 then 1 else 0 := by
  unfold errV
  rw [List.take_succ_eq_append_getElem h, List.filter_append]
  by_cases c : l[i].f4 = true <;> simp [c]
theorem errV_range (l : List S73) : 0 ≤ errV l ∧ errV l ≤ l.length := by
  unfold errV
  have := List.length_filter_le (fun x : S73 => x.f4) l
  omega
theorem spec_Errors_at (l : List S73) (hl : l.length ≤ 1048576) : ∀ k, l.length < k → spec_Errors.f k l = some (errV l) := by
  obtain ⟨r, hr, h⟩ := loop_ex (σ := Int) (L := fun k s i => spec_Errors.l0 k l s i) (n := l.length) (K := 0)
    (I := fun s i => s = errV (l.take i)) (Post := fun _ _ r => r = errV l)
    (fun s hI => ⟨_, rfl, fun k => by
      simp only [spec_Errors.l0]
      rw [if_neg (not_lt_cast _), hI, List.take_length]⟩)
    (fun s i hi hI => .inr ⟨errV (l.take (i + 1)), rfl, fun k hk => by
      have hb := errV_range (l.take i)
      have hb2 : (l.take i).length ≤ l.length := List.length_take_le' _ _
      simp only [spec_Errors.l0]
      rw [if_pos (lt_cast hi), if_pos (nn_cast i), rdIS _ _ hi, wrap_nat1 hi (by omega), errV_take _ _ hi, hI, wrap_of (by omega) (by omega)]
      by_cases c : l[i].f4 = true <;> simp [c], fun _ h => h⟩) l.length 0 0 (by omega) (by simp [errV])
  subst hr
  exact fun k hk => h k (by omega)
theorem impl_Errors_at (l : List S73) (hl : l.length ≤ 1048576) : ∀ k, l.length < k → impl_Errors.f k l = some (errV l) := by
  obtain ⟨r, hr, h⟩ := loop_ex (σ := Int) (L := fun k s i => impl_Errors.l0 k s l l.length i) (n := l.length) (K := 0)
    (I := fun s i => s = errV (l.take i)) (Post := fun _ _ r => r = errV l)
    (fun s hI => ⟨_, rfl, fun k => by
      simp only [impl_Errors.l0]
      rw [if_neg (not_lt_cast _), hI, List.take_length]⟩)
    (fun s i hi hI => .inr ⟨errV (l.take (i + 1)), rfl, fun k hk => by
      have hb := errV_range (l.take i)
      have hb2 : (l.take i).length ≤ l.length := List.length_take_le' _ _
      simp only [impl_Errors.l0]
      rw [if_pos (lt_cast hi), if_pos (nn_cast i), if_pos (lt_cast hi), rdIS _ _ hi, wrap_nat1 hi (by omega), errV_take _ _ hi, hI, wrap_of (by omega) (by omega)]
      by_cases c : l[i].f4 = true <;> simp [c], fun _ h => h⟩) l.length 0 0 (by omega) (by simp [errV])
  subst hr
  exact fun k hk => h k (by omega)

theorem long_any (n : Int) (l : List S73) : ∀ s : Int, decide (l.foldl (fun n x => mx n (lenV x)) s ≥ n) = (decide (s ≥ n) || l.any fun x => decide (lenV x ≥ n)) := by
  induction l with
  | nil => intro s; simp
  | cons x l ih =>
    intro s
    rw [List.foldl_cons, ih, List.any_cons, ← Bool.or_assoc]
    congr 1
    unfold mx
    rw [Bool.eq_iff_iff]
    by_cases h : s < lenV x
    · rw [if_pos h]; simp; omega
    · rw [if_neg h]; simp; omega
theorem longest_any (n : Int) (l : List S73) (h : (l.length : Int) > 0) : decide (longV l ≥ n) = l.any fun x => decide (lenV x ≥ n) := by
  unfold longV
  rw [long_any]
  by_cases hn : (0 : Int) ≥ n
  · cases l with
    | nil => simp at h
    | cons x l =>
      have hx : decide (lenV x ≥ n) = true := decide_eq_true (by have := (capv_range (capv x.f3 - capv x.f2)).1; unfold lenV subv; omega)
      rw [List.any_cons, hx]
      simp
  · rw [decide_eq_false hn, Bool.false_or]
section
variable (l : List S73) (t : Int)
mutual
def wv : S29 → Bool
  | ⟨a, b, c, d, q⟩ => if a = 1 then true else if a = 2 then decide (errV l > 0) else if a = 3 then l.any (fun x => decide (lenV x ≥ b)) else if a = 4 then l.any (fun x => textV c d x) else if a = 5 then l.any (fun x => numV c b x) else
    if a = 6 then decide (t ≥ (l.length : Int)) else if a = 7 then !wnot q else if a = 8 then wany q else if a = 9 then whead q else false
def wnot : List S29 → Bool
  | [] => false
  | x :: q => !wv x || wnot q
def wany : List S29 → Bool
  | [] => false
  | x :: q => wv x || wany q
def whead : List S29 → Bool
  | [] => true
  | x :: _ => !wv x
end
theorem wnot_any (q : List S29) : wnot l t q = q.any fun x => !wv l t x := by
  induction q with
  | nil => simp [wnot]
  | cons x q ih => rw [wnot, ih, List.any_cons]
theorem wany_any (q : List S29) : wany l t q = q.any fun x => wv l t x := by
  induction q with
  | nil => simp [wany]
  | cons x q ih => rw [wany, ih, List.any_cons]
theorem wants_at (hl : l.length ≤ 1048576) (hf : ∀ x ∈ l, x.f5.length ≤ 1048576) : ∀ (x : S29), pN29 x ≤ 1048577 → ∀ k, 2 * pT29 x + 2097160 < k →
    spec_Wants.f k x.f0 x.f1 x.f2 x.f3 x.f4 l t = some (wv l t x) ∧ impl_Wants.f k x.f0 x.f1 x.f2 x.f3 x.f4 l t = some (wv l t x) := by
  intro x
  induction x using ind29 with
  | _ a b c d q ih =>
  intro hn k hk
  rw [pT29] at hk
  rw [pN29] at hn
  have hq := pNs29_len q
  obtain ⟨k, rfl⟩ : ∃ m, k = m + 1 + 1 := ⟨k - 2, by omega⟩
  have kids : ∀ y ∈ q, ∀ j, 2 * pTs29 q + 2097160 < j → spec_Wants.f j y.f0 y.f1 y.f2 y.f3 y.f4 l t = some (wv l t y) ∧ impl_Wants.f j y.f0 y.f1 y.f2 y.f3 y.f4 l t = some (wv l t y) := fun y hy j hj => by
    have hT := pT29_mem hy
    have hN := pN29_mem hy
    exact ih y hy (by omega) j (by omega)
  simp only [wv]
  rw [spec_Wants.f, impl_Wants.f]
  by_cases h1 : a = 1
  · rw [if_pos h1, if_pos h1, if_pos h1]; exact ⟨rfl, rfl⟩
  rw [if_neg h1, if_neg h1, if_neg h1]
  by_cases h2 : a = 2
  · rw [if_pos h2, if_pos h2, if_pos h2, spec_Errors_at l hl _ (by omega), impl_Errors_at l hl _ (by omega)]; exact ⟨rfl, rfl⟩
  rw [if_neg h2, if_neg h2, if_neg h2]
  by_cases h3 : a = 3
  · rw [if_pos h3, if_pos h3, if_pos h3]
    constructor
    · by_cases h0 : (l.length : Int) > 0
      · rw [if_pos h0, spec_Longest_at l hl _ (by omega), Option.bind_some, longest_any _ _ h0]
      · rw [if_neg h0]
        have : l = [] := List.eq_nil_of_length_eq_zero (by omega)
        rw [this]
        rfl
    · exact anySpan_at _ (fun x => decide (lenV x ≥ b)) l hl (fun x _ => by rw [clo2.f, impl_LengthOf_eq]; rfl) _ (by omega)
  rw [if_neg h3, if_neg h3, if_neg h3]
  have hj : ∀ z : Bool, spec_Wants.j0 (k + 1) l t a z a b c d q = (if z = true then spec_l6Some.f k a b c d q l else spec_Wants.j0 (k + 1) l t a false a b c d q) := by
    intro z
    cases z with
    | false => rfl
    | true =>
      rw [spec_Wants.j0, if_pos rfl, if_pos rfl]
      cases spec_l6Some.f k a b c d q l <;> rfl
  by_cases h4 : a = 4
  · rw [if_pos h4, if_pos h4, if_pos h4, hj, if_pos (by simp [h4]), l6Some_at a b c d q (.inl h4) l hl hf _ (by omega)]
    refine ⟨by simp only [if_pos h4], ?_⟩
    exact anySpan_at _ (fun x => textV c d x) l hl (fun x hx => by rw [clo3.f, impl_FindAttr_at c x.f5 (hf x hx) _ (by have := hf x hx; omega)]; rfl) _ (by omega)
  rw [if_neg h4, if_neg h4, if_neg h4]
  by_cases h5 : a = 5
  · rw [if_pos h5, if_pos h5, hj, if_pos (by simp [h5]), l6Some_at a b c d q (.inr h5) l hl hf _ (by omega)]
    refine ⟨by simp only [if_neg h4], ?_⟩
    exact anySpan_at _ (fun x => numV c b x) l hl (fun x hx => by rw [clo4.f, impl_FindAttr_at c x.f5 (hf x hx) _ (by have := hf x hx; omega)]; rfl) _ (by omega)
  rw [if_neg h5, if_neg h5, hj, if_neg (by simp [h5]), spec_Wants.j0, if_neg (by decide)]
  by_cases h6 : a = 6
  · rw [if_pos h6, if_pos h6, if_pos h6]; exact ⟨rfl, rfl⟩
  rw [if_neg h6, if_neg h6, if_neg h6]
  by_cases h7 : a = 7
  · rw [if_pos h7, if_pos h7, if_pos h7]
    constructor
    · obtain ⟨r, hr, h⟩ := loop_ex (σ := Unit) (L := fun j _ i => spec_Wants.l0 j l t i a b c d q) (n := q.length) (K := 2 * pTs29 q + 2097161)
        (I := fun _ _ => True) (Post := fun _ i r => r = !((q.drop i).any fun x => !wv l t x))
        (fun s hI => ⟨true, by rw [List.drop_length]; rfl, fun k => by
          simp only [spec_Wants.l0]
          rw [if_neg (not_lt_cast _)]⟩)
        (fun s i hi hI => by
          have hx := List.getElem_mem hi
          by_cases hv : wv l t q[i] = true
          · refine .inr ⟨(), trivial, fun j hj => ?_, fun r hr => by rw [any_drop _ q i hi, hv]; exact hr⟩
            simp only [spec_Wants.l0]
            rw [if_pos (lt_cast hi), if_pos (nn_cast i), rdP29 _ _ hi, (kids q[i] hx j (by omega)).1, Option.bind_some, if_pos hv, wrap_nat1 hi (by omega)]
          · refine .inl ⟨false, by rw [any_drop _ q i hi, Bool.eq_false_iff.mpr hv]; rfl, fun j hj => ?_⟩
            simp only [spec_Wants.l0]
            rw [if_pos (lt_cast hi), if_pos (nn_cast i), rdP29 _ _ hi, (kids q[i] hx j (by omega)).1, Option.bind_some, if_neg hv]) q.length () 0 (by omega) trivial
      rw [List.drop_zero, ← wnot_any] at hr
      subst hr
      exact h k (by omega)
    · rw [anyPol_at _ (fun x => !wv l t x) q (by omega) (fun x hx => by rw [(kids x hx (k + 1) (by omega)).2]; rfl) _ (by omega), wnot_any]
      rfl
  rw [if_neg h7, if_neg h7, if_neg h7]
  by_cases h8 : a = 8
  · rw [if_pos h8, if_pos h8, if_pos h8]
    constructor
    · obtain ⟨r, hr, h⟩ := loop_ex (σ := Unit) (L := fun j _ i => spec_Wants.l1 j l t i a b c d q) (n := q.length) (K := 2 * pTs29 q + 2097161)
        (I := fun _ _ => True) (Post := fun _ i r => r = ((q.drop i).any fun x => wv l t x))
        (fun s hI => ⟨false, by rw [List.drop_length]; rfl, fun k => by
          simp only [spec_Wants.l1]
          rw [if_neg (not_lt_cast _)]⟩)
        (fun s i hi hI => by
          have hx := List.getElem_mem hi
          by_cases hv : wv l t q[i] = true
          · refine .inl ⟨true, by rw [any_drop _ q i hi, hv]; rfl, fun j hj => ?_⟩
            simp only [spec_Wants.l1]
            rw [if_pos (lt_cast hi), if_pos (nn_cast i), rdP29 _ _ hi, (kids q[i] hx j (by omega)).1, Option.bind_some, if_pos hv]
          · refine .inr ⟨(), trivial, fun j hj => ?_, fun r hr => by rw [any_drop _ q i hi, Bool.eq_false_iff.mpr hv]; exact hr⟩
            simp only [spec_Wants.l1]
            rw [if_pos (lt_cast hi), if_pos (nn_cast i), rdP29 _ _ hi, (kids q[i] hx j (by omega)).1, Option.bind_some, if_neg hv, wrap_nat1 hi (by omega)]) q.length () 0 (by omega) trivial
      rw [List.drop_zero, ← wany_any] at hr
      subst hr
      exact h k (by omega)
    · rw [anyPol_at _ (fun x => wv l t x) q (by omega) (fun x hx => (kids x hx (k + 1) (by omega)).2) _ (by omega), wany_any]
  rw [if_neg h8, if_neg h8, if_neg h8]
  by_cases h9 : a = 9
  · rw [if_pos h9, if_pos h9, if_pos h9]
    cases q with
    | nil => exact ⟨rfl, rfl⟩
    | cons y q =>
      have hy := kids y List.mem_cons_self
      have e : rd_T29 (y :: q) 0 = y := rfl
      have e0 : ¬ (((y :: q).length : Nat) : Int) = 0 := by simp only [List.length_cons]; omega
      have e1 : (0 : Int) < (((y :: q).length : Nat) : Int) := by simp only [List.length_cons]; omega
      rw [if_neg e0, if_pos e1, if_neg e0, e, (hy k (by omega)).1, (hy (k + 1) (by omega)).2, whead]
      exact ⟨rfl, rfl⟩
  rw [if_neg h9, if_neg h9, if_neg h9]
  exact ⟨rfl, rfl⟩
end

mutual
def hrv : S29 → Bool
  | ⟨a, _, _, _, l⟩ => decide (a = 6) || hrs l
def hrs : List S29 → Bool
  | [] => false
  | x :: l => hrv x || hrs l
end
theorem hrs_any (q : List S29) : hrs q = q.any fun x => hrv x := by
  induction q with
  | nil => simp [hrs]
  | cons x q ih => rw [hrs, ih, List.any_cons]
theorem hasRate2_at : ∀ (x : S29), pN29 x ≤ 1048577 → ∀ k, pT29 x < k →
    spec_HasRate.f k x.f0 x.f1 x.f2 x.f3 x.f4 = some (hrv x) ∧ impl_HasRate.f k x.f0 x.f1 x.f2 x.f3 x.f4 = some (hrv x) := by
  intro x
  induction x using ind29 with
  | _ a b c d l ih =>
  intro hn k hk
  rw [pT29] at hk
  rw [pN29] at hn
  obtain ⟨k, rfl⟩ : ∃ m, k = m + 1 := ⟨k - 1, by omega⟩
  simp only [spec_HasRate.f, impl_HasRate.f, hrv]
  by_cases ha : a = 6
  · rw [if_pos ha, if_pos ha]
    simp [ha]
  rw [if_neg ha, if_neg ha]
  have e : decide (a = 6) = false := decide_eq_false ha
  rw [e, Bool.false_or, hrs_any]
  have hl := pNs29_len l
  have kids : ∀ y ∈ l, ∀ j, pTs29 l < j → spec_HasRate.f j y.f0 y.f1 y.f2 y.f3 y.f4 = some (hrv y) ∧ impl_HasRate.f j y.f0 y.f1 y.f2 y.f3 y.f4 = some (hrv y) := fun y hy j hj => by
    have hT := pT29_mem hy
    have hN := pN29_mem hy
    exact ih y hy (by omega) j (by omega)
  constructor
  · obtain ⟨r, hr, h⟩ := loop_ex (σ := Unit) (L := fun j _ i => spec_HasRate.l0 j i a b c d l) (n := l.length) (K := pTs29 l + 1)
      (I := fun _ _ => True) (Post := fun _ i r => r = (l.drop i).any fun x => hrv x)
      (fun s hI => ⟨false, by rw [List.drop_length]; rfl, fun k => by
        simp only [spec_HasRate.l0]
        rw [if_neg (not_lt_cast _)]⟩)
      (fun s i hi hI => by
        have hx := List.getElem_mem hi
        by_cases hv : hrv l[i] = true
        · refine .inl ⟨true, by rw [any_drop _ l i hi, hv]; rfl, fun j hj => ?_⟩
          simp only [spec_HasRate.l0]
          rw [if_pos (lt_cast hi), if_pos (nn_cast i), rdP29 _ _ hi, (kids l[i] hx j (by omega)).1, Option.bind_some, if_pos hv]
        · refine .inr ⟨(), trivial, fun j hj => ?_, fun r hr => by rw [any_drop _ l i hi, Bool.eq_false_iff.mpr hv, Bool.false_or]; exact hr⟩
          simp only [spec_HasRate.l0]
          rw [if_pos (lt_cast hi), if_pos (nn_cast i), rdP29 _ _ hi, (kids l[i] hx j (by omega)).1, Option.bind_some, if_neg hv, wrap_nat1 hi (by omega)]) l.length () 0 (by omega) trivial
    rw [List.drop_zero] at hr
    subst hr
    exact h k (by omega)
  · exact anyPol_at _ (fun x => hrv x) l (by omega) (fun x hx => (kids x hx k (by omega)).2) _ (by omega)

def judgeV (w h : Bool) (n t : Int) : Bool × Int := if w then (if h then (true, mn n (capv t)) else (true, 0)) else (false, 0)
theorem judge_at (l : List S73) (t : Int) (hl : l.length ≤ 1048576) (hf : ∀ x ∈ l, x.f5.length ≤ 1048576) (x : S29) (hn : pN29 x ≤ 1048577) (k : Nat) (hk : 2 * pT29 x + 2097160 < k) :
    spec_Judge.f k x.f0 x.f1 x.f2 x.f3 x.f4 l t = some (judgeV (wv l t x) (hrv x) l.length t) ∧ impl_Judge.f k x.f0 x.f1 x.f2 x.f3 x.f4 l t = some (judgeV (wv l t x) (hrv x) l.length t) := by
  obtain ⟨w1, w2⟩ := wants_at l t hl hf x hn k hk
  obtain ⟨h1, h2⟩ := hasRate2_at x hn k (by omega)
  generalize wv l t x = w at w1 w2
  generalize hrv x = h at h1 h2
  unfold spec_Judge.f impl_Judge.f
  rw [w1, w2, Option.bind_some, Option.bind_some, h1, h2]
  cases w with
  | false => exact ⟨rfl, rfl⟩
  | true =>
    cases h with
    | false => exact ⟨rfl, rfl⟩
    | true =>
      rw [if_pos rfl, if_pos rfl, Option.bind_some, Option.bind_some, if_pos rfl, if_pos rfl, spec_Cap_eq, impl_Cap_eq, Option.bind_some, Option.bind_some, Option.bind_some]
      refine ⟨?_, rfl⟩
      unfold judgeV mn
      rw [if_pos rfl, if_pos rfl]
      by_cases c : (l.length : Int) > capv t
      · rw [if_pos c, if_pos c]
      · rw [if_neg c, if_neg c]

theorem FnExactJudge : ∀ (a0_0 : Int) (a0_1 : Int) (a0_2 : ByteArray) (a0_3 : ByteArray) (l0_4 : (List S24)) (l1 : (List S70)) (a2 : Int), ((Lit.int .i64 a0_0).wf = true ∧ (Lit.int .i64 a0_1).wf = true ∧ a0_2.size ≤ maxLen ∧ a0_3.size ≤ maxLen ∧ (l0_4.length ≤ maxLen ∧ ∀ y24 ∈ l0_4, good24 y24)) → ((l1.length ≤ maxLen ∧ ∀ y70 ∈ l1, good70 y70)) → ((Lit.int .i64 a2).wf = true) → ∃ k, laws_FnExactJudge.f k a0_0 a0_1 a0_2 a0_3 l0_4 l1 a2 = some true := by
  intro a b c d l l1 t hg hg1 hg2
  have hG : good24 ⟨a, b, c, d, l⟩ := by
    refine good_up ⟨a, b, c, d, l⟩ hg.1 hg.2.1 hg.2.2.1 hg.2.2.2.1 hg.2.2.2.2.1 hg.2.2.2.2.2
  obtain ⟨v, hv, hv1, hv2⟩ := szPol_at ⟨a, b, c, d, l⟩ 1048576 hG (by omega) (by omega)
  simp only at hv
  generalize hX : (⟨a, b, c, d, l⟩ : S24) = X at *
  generalize hm : 2 * pT24 X + 2097170 = m
  by_cases hn : v < 0
  · refine ⟨m + 1, ?_⟩
    simp only [laws_FnExactJudge.f, hv (m + 1) (by omega), Option.bind_some]
    rw [if_pos hn]
  obtain ⟨u, hu, hu1, hu2⟩ := szSpanS_at l1 v hg1.1 hg1.2 (by omega) (by omega)
  by_cases hn1 : u < 0
  · refine ⟨m + 1, ?_⟩
    simp only [laws_FnExactJudge.f, hv (m + 1) (by omega), hu (m + 1) (by omega), Option.bind_some]
    rw [if_neg hn, if_pos hn1]
  obtain ⟨f1, f2⟩ := hv2 (by omega)
  obtain ⟨f3, f4⟩ := hu2 (by omega)
  obtain ⟨t1, t2⟩ := cvP_tree X
  have hl1 : (l1.map cvS).length ≤ 1048576 := by simp; omega
  have hf1 := fun x hx => (fitS_map l1 f4 x hx).1
  have h1 := fun k hk => toPol_at X (by omega) k hk
  have h2 := toSpanS_at l1 (by omega) (fun x hx => (f4 x hx).1)
  obtain ⟨r, h3, h5⟩ : ∃ r, spec_Judge.f (m + 1) (cvP X).f0 (cvP X).f1 (cvP X).f2 (cvP X).f3 (cvP X).f4 (l1.map cvS) t = some r ∧ impl_Judge.f (m + 1) (cvP X).f0 (cvP X).f1 (cvP X).f2 (cvP X).f3 (cvP X).f4 (l1.map cvS) t = some r := ⟨_, judge_at (l1.map cvS) t hl1 hf1 (cvP X) (by omega) (m + 1) (by omega)⟩
  have h4 := eqPol_at (cvP X) (by omega) m (by omega)
  have h6 := eqSpanS_at (l1.map cvS) hl1 hf1 m (by omega)
  rw [← hX] at h1
  simp only at h1
  rw [hX] at h1
  refine ⟨m + 1, ?_⟩
  simp only [laws_FnExactJudge.f, hv (m + 1) (by omega), hu (m + 1) (by omega), Option.bind_some]
  rw [if_neg hn, if_neg hn1]
  rw [h1 (m + 1) (by omega), Option.bind_some, h2 (m + 1) (by omega), Option.bind_some, h3, Option.bind_some, Option.bind_some, Option.bind_some, h5, Option.bind_some, if_neg (by simp), laws_FnExactJudge.j0, if_neg (by simp)]
  rw [h1 m (by omega), Option.bind_some, h4, Option.bind_some, if_pos rfl, h2 m (by omega), Option.bind_some, h6, Option.bind_some]
  exact if_pos rfl

end Go.Proofs.Ytfhblnbicnmndaa.Pure
