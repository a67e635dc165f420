/- The program's PolOk returns what the reference's returns, for all arguments. Conditions: none beyond the statement's own. -/
import Derived.Test.YtfhblnbicnmndaaQFnExactPolOkx
set_option linter.unusedVariables false
set_option linter.unusedSimpArgs false
namespace Go.Proofs.Ytfhblnbicnmndaa.Pure
open Go.RowKit Go.Proofs.Ytfhblnbicnmndaa.QFnExactPolOk Go.Proofs.YtfhblnbicnmndaaW.PrintWords Go.Proofs.YtfhblnbicnmndaaW.PrintLast Go.Proofs.YtfhblnbicnmndaaW.PrintMore
def good24n : Nat → S24 → Prop
  | 0, _ => False
  | n + 1, x => (Lit.int .i64 x.f0).wf = true ∧ (Lit.int .i64 x.f1).wf = true ∧ x.f2.size ≤ maxLen ∧ x.f3.size ≤ maxLen ∧ (x.f4.length ≤ maxLen ∧ ∀ y24 ∈ x.f4, good24n n y24)
def good24 (x : S24) : Prop := ∃ n, good24n n x

/-- A loop over an index: from a state that is good, with enough rounds, it comes to an end that meets what is told of it. -/
theorem loop_ex {σ β : Type} {L : Nat → σ → Int → Option β} {n K : Nat} {I : σ → Nat → Prop} {Post : σ → Nat → β → Prop}
    (hend : ∀ s, I s n → ∃ r, Post s n r ∧ ∀ k, L (k + 1) s (n : Int) = some r)
    (hstep : ∀ s (i : Nat), i < n → I s i → (∃ r, Post s i r ∧ ∀ k, K ≤ k → L (k + 1) s (i : Int) = some r) ∨
      ∃ s', I s' (i + 1) ∧ (∀ k, K ≤ k → L (k + 1) s (i : Int) = L k s' ((i : Int) + 1)) ∧ ∀ r, Post s' (i + 1) r → Post s i r) :
    ∀ (d : Nat) s (i : Nat), i + d = n → I s i → ∃ r, Post s i r ∧ ∀ k, K + d < k → L k s (i : Int) = some r := by
  intro d
  induction d with
  | zero =>
    intro s i hd hI
    obtain rfl : i = n := by omega
    obtain ⟨r, hp, hr⟩ := hend s hI
    refine ⟨r, hp, fun k hk => ?_⟩
    obtain ⟨k, rfl⟩ : ∃ m, k = m + 1 := ⟨k - 1, by omega⟩
    exact hr k
  | succ d ih =>
    intro s i hd hI
    rcases hstep s i (by omega) hI with ⟨r, hp, hr⟩ | ⟨s', hI', he, hp⟩
    · refine ⟨r, hp, fun k hk => ?_⟩
      obtain ⟨k, rfl⟩ : ∃ m, k = m + 1 := ⟨k - 1, by omega⟩
      exact hr k (by omega)
    · obtain ⟨r, hq, hr⟩ := ih s' (i + 1) (by omega) hI'
      refine ⟨r, hp r hq, fun k hk => ?_⟩
      obtain ⟨k, rfl⟩ : ∃ m, k = m + 1 := ⟨k - 1, by omega⟩
      rw [he k (by omega)]
      have := hr k (by omega)
      rw [Int.natCast_add] at this
      exact this
theorem ev_at {α : Type} {g : Nat → Option α} {r : α} (K : Nat) (h : ∀ k, K < k → g k = some r) : Ev g r := ⟨K + 1, fun k hk => h k (by omega)⟩
theorem wrap_of {x : Int} (h0 : -9223372036854775808 ≤ x) (h1 : x ≤ 9223372036854775807) : wrap64 x = x := by
  unfold wrap64
  omega
theorem wrap_nat1 {i n : Nat} (h : i < n) (hn : n ≤ 9223372036854775807) : wrap64 ((i : Int) + 1) = (i : Int) + 1 := wrap_of (by omega) (by omega)
theorem lt_cast {i n : Nat} (h : i < n) : (i : Int) < (n : Int) := by omega
theorem nn_cast (i : Nat) : 0 ≤ (i : Int) := by omega
theorem not_lt_cast (n : Nat) : ¬ (n : Int) < (n : Int) := by omega
/-- What is written cell by cell. -/
theorem fill_set {α : Type} (l : List α) (z : α) (i : Nat) (h : i < l.length) : (l.take i ++ List.replicate (l.length - i) z).set i l[i] = l.take (i + 1) ++ List.replicate (l.length - (i + 1)) z := by
  have e1 : l.length - i = (l.length - (i + 1)) + 1 := by omega
  have e2 : (l.take i).length = i := by rw [List.length_take]; omega
  rw [e1, List.replicate_succ, List.set_append_right _ _ (by omega), e2, Nat.sub_self, List.set_cons_zero, List.take_succ_eq_append_getElem h, List.append_assoc]
  rfl
theorem fill_len {α : Type} (l : List α) (z : α) (i : Nat) (h : i ≤ l.length) : (l.take i ++ List.replicate (l.length - i) z).length = l.length := by
  rw [List.length_append, List.length_take, List.length_replicate]
  omega

/-- The same for a loop over a function that is told by a number: the end is the same for each that is large enough. -/
theorem loop_exm {σ β ι : Type} {ok : ι → Prop} {L : ι → Nat → σ → Int → Option β} {n : Nat} {I : σ → Nat → Prop} {Post : σ → Nat → β → Prop}
    (hend : ∀ s, I s n → ∃ r, Post s n r ∧ ∀ m, ok m → ∀ k, L m (k + 1) s (n : Int) = some r)
    (hstep : ∀ s (i : Nat), i < n → I s i → (∃ r, Post s i r ∧ ∀ m, ok m → ∀ k, L m (k + 1) s (i : Int) = some r) ∨
      ∃ s', I s' (i + 1) ∧ (∀ m, ok m → ∀ k, L m (k + 1) s (i : Int) = L m k s' ((i : Int) + 1)) ∧ ∀ r, Post s' (i + 1) r → Post s i r) :
    ∀ (d : Nat) s (i : Nat), i + d = n → I s i → ∃ r, Post s i r ∧ ∀ m, ok m → ∀ k, d < k → L m k s (i : Int) = some r := by
  intro d
  induction d with
  | zero =>
    intro s i hd hI
    obtain rfl : i = n := by omega
    obtain ⟨r, hp, hr⟩ := hend s hI
    refine ⟨r, hp, fun m hm k hk => ?_⟩
    obtain ⟨k, rfl⟩ : ∃ m, k = m + 1 := ⟨k - 1, by omega⟩
    exact hr m hm k
  | succ d ih =>
    intro s i hd hI
    rcases hstep s i (by omega) hI with ⟨r, hp, hr⟩ | ⟨s', hI', he, hp⟩
    · refine ⟨r, hp, fun m hm k hk => ?_⟩
      obtain ⟨k, rfl⟩ : ∃ m, k = m + 1 := ⟨k - 1, by omega⟩
      exact hr m hm k
    · obtain ⟨r, hq, hr⟩ := ih s' (i + 1) (by omega) hI'
      refine ⟨r, hp r hq, fun m hm k hk => ?_⟩
      obtain ⟨k, rfl⟩ : ∃ m, k = m + 1 := ⟨k - 1, by omega⟩
      rw [he m hm k]
      have := hr m hm k (by omega)
      rw [Int.natCast_add] at this
      exact this

mutual
def pT24 : S24 → Nat
  | ⟨_, _, _, _, l⟩ => 2 + l.length + pTs24 l
def pTs24 : List S24 → Nat
  | [] => 0
  | x :: l => pT24 x + pTs24 l
end
mutual
def pN24 : S24 → Nat
  | ⟨_, _, _, _, l⟩ => 1 + pNs24 l
def pNs24 : List S24 → Nat
  | [] => 0
  | x :: l => pN24 x + pNs24 l
end
theorem pT24_mem {l : List S24} {x : S24} (h : x ∈ l) : pT24 x ≤ pTs24 l := by
  induction l with
  | nil => exact absurd h (by simp)
  | cons y l ih =>
    rw [pTs24]
    rcases List.mem_cons.1 h with rfl | h
    · omega
    · have := ih h
      omega
theorem pN24_mem {l : List S24} {x : S24} (h : x ∈ l) : pN24 x ≤ pNs24 l := by
  induction l with
  | nil => exact absurd h (by simp)
  | cons y l ih =>
    rw [pNs24]
    rcases List.mem_cons.1 h with rfl | h
    · omega
    · have := ih h
      omega
theorem pN24_pos (x : S24) : 1 ≤ pN24 x := by
  obtain ⟨a, b, c, d, l⟩ := x
  rw [pN24]
  omega
theorem pNs24_len (l : List S24) : l.length ≤ pNs24 l := by
  induction l with
  | nil => simp
  | cons y l ih =>
    have := pN24_pos y
    rw [pNs24, List.length_cons]
    omega
theorem pNs24_app (l m : List S24) : pNs24 (l ++ m) = pNs24 l + pNs24 m := by
  induction l with
  | nil => simp [pNs24]
  | cons y l ih =>
    rw [List.cons_append, pNs24, pNs24, ih]
    omega
theorem pNs24_take (l : List S24) (i : Nat) (h : i < l.length) : pNs24 (l.take (i + 1)) = pNs24 (l.take i) + pN24 l[i] := by
  rw [List.take_succ_eq_append_getElem h, pNs24_app, pNs24, pNs24]
  omega
theorem pNs24_drop (l : List S24) (i : Nat) (h : i < l.length) : pNs24 (l.drop i) = pN24 l[i] + pNs24 (l.drop (i + 1)) := by
  rw [List.drop_eq_getElem_cons h, pNs24]
theorem pNs24_le (l : List S24) (i : Nat) : pNs24 (l.take i) ≤ pNs24 l := by
  have := pNs24_app (l.take i) (l.drop i)
  rw [List.take_append_drop] at this
  omega
theorem ind24 {P : S24 → Prop} (h : ∀ a b c d l, (∀ x ∈ l, P x) → P ⟨a, b, c, d, l⟩) : ∀ x, P x
  | ⟨a, b, c, d, l⟩ => h a b c d l (fun x hx => ind24 h x)
termination_by x => SizeOf.sizeOf x
decreasing_by
  have := List.sizeOf_lt_of_mem hx
  simp
  omega
theorem rdP24 (l : List S24) (i : Nat) (h : i < l.length) : rd_T24 l (i : Int) = l[i] := by
  simp [rd_T24, List.getD_eq_getElem?_getD, h]

theorem goodn_mono : ∀ (n m : Nat) (a : S24), n ≤ m → good24n n a → good24n m a := by
  intro n
  induction n with
  | zero => intro m a _ h; exact absurd h id
  | succ n ih =>
    intro m a hm h
    obtain ⟨m, rfl⟩ : ∃ q, m = q + 1 := ⟨m - 1, by omega⟩
    unfold good24n at h ⊢
    obtain ⟨h0, h1, h2, h3, h4⟩ := h
    exact ⟨h0, h1, h2, h3, ⟨h4.1, fun y hy => ih _ _ (by omega) (h4.2 y hy)⟩⟩
theorem good_all (l : List S24) (h : ∀ x ∈ l, good24 x) : ∃ n, ∀ x ∈ l, good24n n x := by
  induction l with
  | nil => exact ⟨0, fun x hx => absurd hx (by simp)⟩
  | cons y l ih =>
    obtain ⟨n, hn⟩ := ih (fun x hx => h x (List.mem_cons_of_mem _ hx))
    obtain ⟨m, hm⟩ := h y List.mem_cons_self
    refine ⟨n + m, fun x hx => ?_⟩
    rcases List.mem_cons.1 hx with rfl | hx
    · exact goodn_mono _ _ _ (by omega) hm
    · exact goodn_mono _ _ _ (by omega) (hn x hx)
theorem good_up (x : S24) (h0 : (Lit.int .i64 x.f0).wf = true) (h1 : (Lit.int .i64 x.f1).wf = true) (h2 : x.f2.size ≤ maxLen) (h3 : x.f3.size ≤ maxLen) (h4 : x.f4.length ≤ maxLen) (h5 : ∀ y ∈ x.f4, good24 y) : good24 x := by
  obtain ⟨n, hn⟩ := good_all x.f4 h5
  exact ⟨n + 1, h0, h1, h2, h3, h4, hn⟩

mutual
def fitP : S24 → Prop
  | ⟨_, _, c, d, l⟩ => c.size ≤ 1048576 ∧ d.size ≤ 1048576 ∧ fitPs l
def fitPs : List S24 → Prop
  | [] => True
  | x :: l => fitP x ∧ fitPs l
end
theorem fitPs_iff (l : List S24) : fitPs l ↔ ∀ x ∈ l, fitP x := by
  induction l with
  | nil => simp [fitPs]
  | cons x l ih => simp [fitPs, ih]
theorem good_kids {a b : Int} {c d : ByteArray} {l : List S24} (h : good24 ⟨a, b, c, d, l⟩) : c.size ≤ maxLen ∧ d.size ≤ maxLen ∧ l.length ≤ maxLen ∧ ∀ x ∈ l, good24 x := by
  obtain ⟨n, h⟩ := h
  cases n with
  | zero => exact h.elim
  | succ n =>
    obtain ⟨_, _, h1, h2, h3, h4⟩ := h
    exact ⟨h1, h2, h3, fun x hx => ⟨n, h4 x hx⟩⟩
theorem szPol_at : ∀ (x : S24) (left : Int), good24 x → 0 ≤ left → left ≤ 1048576 →
    ∃ v, (∀ k, pT24 x < k → laws_szPol.f k x.f0 x.f1 x.f2 x.f3 x.f4 left = some v) ∧ v ≤ left ∧ (0 ≤ v → (pN24 x : Int) ≤ left - v + 1 ∧ fitP x) := by
  intro x
  induction x using ind24 with
  | _ a b c d l ih =>
  intro left hg h0 h1
  obtain ⟨g1, g2, g3, g4⟩ := good_kids hg
  unfold maxLen at g1 g2 g3
  simp only
  rw [pT24]
  have w1 : wrap64 (left - (c.size : Int)) = left - (c.size : Int) := wrap_of (by omega) (by omega)
  by_cases c1 : left - (c.size : Int) < 0
  · refine ⟨-1, fun k hk => ?_, by omega, by omega⟩
    obtain ⟨k, rfl⟩ : ∃ m, k = m + 1 := ⟨k - 1, by omega⟩
    rw [laws_szPol.f, w1, if_pos c1]
  have w2 : wrap64 (left - (c.size : Int) - (d.size : Int)) = left - (c.size : Int) - (d.size : Int) := wrap_of (by omega) (by omega)
  by_cases c2 : left - (c.size : Int) - (d.size : Int) < 0
  · refine ⟨-1, fun k hk => ?_, by omega, by omega⟩
    obtain ⟨k, rfl⟩ : ∃ m, k = m + 1 := ⟨k - 1, by omega⟩
    rw [laws_szPol.f, w1, if_neg c1, w2, if_pos c2]
  obtain ⟨s, hs⟩ : ∃ s, s = left - (c.size : Int) - (d.size : Int) := ⟨_, rfl⟩
  replace w2 : wrap64 (left - (c.size : Int) - (d.size : Int)) = s := w2.trans hs.symm
  replace c2 : ¬ s < 0 := by omega
  have w3 : wrap64 (s - (l.length : Int)) = s - (l.length : Int) := wrap_of (by omega) (by omega)
  by_cases c3 : s - (l.length : Int) < 0
  · refine ⟨-1, fun k hk => ?_, by omega, by omega⟩
    obtain ⟨k, rfl⟩ : ∃ m, k = m + 1 := ⟨k - 1, by omega⟩
    rw [laws_szPol.f, w1, if_neg c1, w2, if_neg c2, laws_szPolS.f, w3, if_pos c3]
    rfl
  obtain ⟨r, ⟨hr1, hr2⟩, hr⟩ := loop_exm (σ := Int) (ok := fun m => pTs24 l < m) (L := fun m k s i => laws_szPolS.l0 (fun b0 b1 b2 b3 b4 b5 => laws_szPol.f m b0 b1 b2 b3 b4 b5) k l s i) (n := l.length)
    (I := fun s _ => 0 ≤ s ∧ s ≤ 1048576) (Post := fun s i r => r ≤ s ∧ (0 ≤ r → (pNs24 (l.drop i) : Int) ≤ s - r + ((l.length - i : Nat) : Int) ∧ ∀ j (h : j < l.length), i ≤ j → fitP l[j]))
    (fun s hI => ⟨s, ⟨by omega, fun _ => ⟨by rw [List.drop_length]; simp [pNs24], fun j hj hij => by omega⟩⟩, fun m _ k => by
      simp only [laws_szPolS.l0]
      rw [if_neg (not_lt_cast _)]⟩)
    (fun s i hi hI => by
      have hx := List.getElem_mem hi
      obtain ⟨v, hv, hv1, hv2⟩ := ih l[i] hx s (g4 _ hx) hI.1 hI.2
      have hT := pT24_mem hx
      by_cases hneg : v < 0
      · refine .inl ⟨-1, ⟨by omega, by omega⟩, fun m hm k => ?_⟩
        simp only [laws_szPolS.l0]
        rw [if_pos (lt_cast hi), if_pos (nn_cast i), rdP24 _ _ hi, hv m (by omega), Option.bind_some, if_pos hneg]
      · refine .inr ⟨v, ⟨by omega, by omega⟩, fun m hm k => ?_, fun r hr => ⟨by omega, fun hr0 => ?_⟩⟩
        · simp only [laws_szPolS.l0]
          rw [if_pos (lt_cast hi), if_pos (nn_cast i), rdP24 _ _ hi, hv m (by omega), Option.bind_some, if_neg hneg, wrap_nat1 hi (by omega)]
        · obtain ⟨q1, q2⟩ := hr.2 hr0
          obtain ⟨q3, q4⟩ := hv2 (by omega)
          refine ⟨?_, fun j hj hij => ?_⟩
          · rw [pNs24_drop l i hi]
            push_cast
            omega
          · rcases Nat.lt_or_ge i j with hlt | hge
            · exact q2 j hj hlt
            · obtain rfl : i = j := by omega
              exact q4) l.length (s - (l.length : Int)) 0 (by omega) ⟨by omega, by omega⟩
  have hf : ∀ k, 2 + l.length + pTs24 l < k + 1 → laws_szPol.f (k + 1) a b c d l left = (some r).bind fun t => if t < 0 then some (-1) else some t := by
    intro k hk
    have := hr k (by omega) k (by omega)
    rw [laws_szPol.f, w1, if_neg c1, w2, if_neg c2, laws_szPolS.f, w3, if_neg c3]
    exact congrArg (fun (z : Option Int) => z.bind fun t => if t < 0 then some (-1) else some t) this
  rw [List.drop_zero] at hr2
  by_cases c4 : r < 0
  · refine ⟨-1, fun k hk => ?_, by omega, by omega⟩
    obtain ⟨k, rfl⟩ : ∃ m, k = m + 1 := ⟨k - 1, by omega⟩
    rw [hf k hk, Option.bind_some, if_pos c4]
  · refine ⟨r, fun k hk => ?_, by omega, fun _ => ⟨?_, ?_⟩⟩
    · obtain ⟨k, rfl⟩ : ∃ m, k = m + 1 := ⟨k - 1, by omega⟩
      rw [hf k hk, Option.bind_some, if_neg c4]
    · have := (hr2 (by omega)).1
      rw [pN24]
      push_cast
      omega
    · rw [fitP]
      refine ⟨by omega, by omega, (fitPs_iff l).2 fun x hx => ?_⟩
      obtain ⟨j, hj, rfl⟩ := List.getElem_of_mem hx
      exact (hr2 (by omega)).2 j hj (by omega)

mutual
def pT29 : S29 → Nat
  | ⟨_, _, _, _, l⟩ => 2 + l.length + pTs29 l
def pTs29 : List S29 → Nat
  | [] => 0
  | x :: l => pT29 x + pTs29 l
end
mutual
def pN29 : S29 → Nat
  | ⟨_, _, _, _, l⟩ => 1 + pNs29 l
def pNs29 : List S29 → Nat
  | [] => 0
  | x :: l => pN29 x + pNs29 l
end
theorem pT29_mem {l : List S29} {x : S29} (h : x ∈ l) : pT29 x ≤ pTs29 l := by
  induction l with
  | nil => exact absurd h (by simp)
  | cons y l ih =>
    rw [pTs29]
    rcases List.mem_cons.1 h with rfl | h
    · omega
    · have := ih h
      omega
theorem pN29_mem {l : List S29} {x : S29} (h : x ∈ l) : pN29 x ≤ pNs29 l := by
  induction l with
  | nil => exact absurd h (by simp)
  | cons y l ih =>
    rw [pNs29]
    rcases List.mem_cons.1 h with rfl | h
    · omega
    · have := ih h
      omega
theorem pN29_pos (x : S29) : 1 ≤ pN29 x := by
  obtain ⟨a, b, c, d, l⟩ := x
  rw [pN29]
  omega
theorem pNs29_len (l : List S29) : l.length ≤ pNs29 l := by
  induction l with
  | nil => simp
  | cons y l ih =>
    have := pN29_pos y
    rw [pNs29, List.length_cons]
    omega
theorem pNs29_app (l m : List S29) : pNs29 (l ++ m) = pNs29 l + pNs29 m := by
  induction l with
  | nil => simp [pNs29]
  | cons y l ih =>
    rw [List.cons_append, pNs29, pNs29, ih]
    omega
theorem pNs29_take (l : List S29) (i : Nat) (h : i < l.length) : pNs29 (l.take (i + 1)) = pNs29 (l.take i) + pN29 l[i] := by
  rw [List.take_succ_eq_append_getElem h, pNs29_app, pNs29, pNs29]
  omega
theorem pNs29_drop (l : List S29) (i : Nat) (h : i < l.length) : pNs29 (l.drop i) = pN29 l[i] + pNs29 (l.drop (i + 1)) := by
  rw [List.drop_eq_getElem_cons h, pNs29]
theorem pNs29_le (l : List S29) (i : Nat) : pNs29 (l.take i) ≤ pNs29 l := by
  have := pNs29_app (l.take i) (l.drop i)
  rw [List.take_append_drop] at this
  omega
theorem ind29 {P : S29 → Prop} (h : ∀ a b c d l, (∀ x ∈ l, P x) → P ⟨a, b, c, d, l⟩) : ∀ x, P x
  | ⟨a, b, c, d, l⟩ => h a b c d l (fun x hx => ind29 h x)
termination_by x => SizeOf.sizeOf x
decreasing_by
  have := List.sizeOf_lt_of_mem hx
  simp
  omega
theorem rdP29 (l : List S29) (i : Nat) (h : i < l.length) : rd_T29 l (i : Int) = l[i] := by
  simp [rd_T29, List.getD_eq_getElem?_getD, h]

mutual
def cvP : S24 → S29
  | ⟨a, b, c, d, l⟩ => ⟨a, b, c, d, cvPs l⟩
def cvPs : List S24 → List S29
  | [] => []
  | x :: l => cvP x :: cvPs l
end
theorem cvPs_map (l : List S24) : cvPs l = l.map cvP := by
  induction l with
  | nil => rfl
  | cons x l ih => rw [cvPs, ih]; rfl
theorem cvPs_len (l : List S24) : (cvPs l).length = l.length := by rw [cvPs_map]; simp
theorem toPol_at : ∀ (x : S24), pN24 x ≤ 1048577 → ∀ k, pT24 x < k → laws_toPol.f k x.f0 x.f1 x.f2 x.f3 x.f4 = some ((cvP x).f0, (cvP x).f1, (cvP x).f2, (cvP x).f3, (cvP x).f4) := by
  intro x
  induction x using ind24 with
  | _ a b c d l ih =>
  intro hn k hk
  rw [pT24] at hk
  rw [pN24] at hn
  obtain ⟨k, rfl⟩ : ∃ m, k = m + 1 := ⟨k - 1, by omega⟩
  have hl := pNs24_len l
  have hm : (l.map cvP).length = l.length := by simp
  obtain ⟨r, hr, h⟩ := loop_ex (σ := List S29) (L := fun j s i => laws_toPolS.l0 (fun b0 b1 b2 b3 b4 => laws_toPol.f k b0 b1 b2 b3 b4) j l s i) (n := l.length) (K := 0)
    (I := fun s i => s = (l.map cvP).take i ++ List.replicate ((l.map cvP).length - i) z29) (Post := fun _ _ r => r = l.map cvP)
    (fun s hI => ⟨_, rfl, fun k => by
      simp only [laws_toPolS.l0]
      rw [if_neg (not_lt_cast _), hI, ← hm, List.take_length, Nat.sub_self]
      simp⟩)
    (fun s i hi hI => .inr ⟨_, rfl, fun j _ => by
      have hi' : i < (l.map cvP).length := by omega
      have hx := List.getElem_mem hi
      have hT := pT24_mem hx
      have hN := pN24_mem hx
      have e : (⟨(cvP l[i]).f0, (cvP l[i]).f1, (cvP l[i]).f2, (cvP l[i]).f3, (cvP l[i]).f4⟩ : S29) = (l.map cvP)[i] := by rw [List.getElem_map]; generalize cvP l[i] = z; cases z; rfl
      simp only [laws_toPolS.l0]
      rw [if_pos (lt_cast hi), if_pos (nn_cast i), rdP24 _ _ hi, ih l[i] hx (by omega) k (by omega), Option.bind_some, hI, fill_len _ _ _ (by omega), if_pos (lt_cast hi'), wrap_nat1 hi (by omega), e]
      simp only [Int.toNat_natCast]
      rw [fill_set _ _ _ hi'], fun _ h => h⟩) l.length (List.replicate l.length z29) 0 (by omega) (by simp)
  subst hr
  have h2 := h k (by omega)
  simp only [laws_toPol.f, laws_toPolS.f]
  rw [if_pos (by omega), if_pos (by simp; omega)]
  simp only [Int.toNat_natCast]
  refine (congrArg (fun (z : Option (List S29)) => z.bind fun t => some (a, b, c, d, t)) h2).trans ?_
  rw [Option.bind_some, cvP, cvPs_map]
theorem cvP_tree : ∀ x : S24, pT29 (cvP x) = pT24 x ∧ pN29 (cvP x) = pN24 x := by
  intro x
  induction x using ind24 with
  | _ a b c d l ih =>
  have h : pTs29 (cvPs l) = pTs24 l ∧ pNs29 (cvPs l) = pNs24 l := by
    induction l with
    | nil => exact ⟨rfl, rfl⟩
    | cons y l ih2 =>
      obtain ⟨h1, h2⟩ := ih2 (fun x hx => ih x (List.mem_cons_of_mem _ hx))
      obtain ⟨h3, h4⟩ := ih y List.mem_cons_self
      constructor
      · rw [cvPs, pTs29, pTs24, h1, h3]
      · rw [cvPs, pNs29, pNs24, h2, h4]
  constructor
  · rw [cvP, pT29, pT24, h.1, cvPs_len]
  · rw [cvP, pN29, pN24, h.2]

theorem eqPol_at : ∀ (x : S29), pN29 x ≤ 1048577 → ∀ k, pT29 x < k → laws_eqPol.f k x.f0 x.f1 x.f2 x.f3 x.f4 x.f0 x.f1 x.f2 x.f3 x.f4 = some true := by
  intro x
  induction x using ind29 with
  | _ a b c d l ih =>
  intro hn k hk
  rw [pT29] at hk
  rw [pN29] at hn
  obtain ⟨k, rfl⟩ : ∃ m, k = m + 1 := ⟨k - 1, by omega⟩
  have hl := pNs29_len l
  obtain ⟨r, hr, h⟩ := loop_ex (σ := Unit) (L := fun j _ i => laws_eqPolS.l0 (fun b0 b1 b2 b3 b4 b5 b6 b7 b8 b9 => laws_eqPol.f k b0 b1 b2 b3 b4 b5 b6 b7 b8 b9) j l l i) (n := l.length) (K := 0)
    (I := fun _ _ => True) (Post := fun _ _ r => r = true)
    (fun s hI => ⟨true, rfl, fun k => by
      simp only [laws_eqPolS.l0]
      rw [if_neg (not_lt_cast _)]⟩)
    (fun s i hi hI => .inr ⟨(), trivial, fun j _ => by
      have hx := List.getElem_mem hi
      have hT := pT29_mem hx
      have hN := pN29_mem hx
      simp only [laws_eqPolS.l0]
      rw [if_pos (lt_cast hi), if_pos (nn_cast i), if_pos (lt_cast hi), rdP29 _ _ hi, ih l[i] hx (by omega) k (by omega), Option.bind_some, if_pos rfl, wrap_nat1 hi (by omega)], fun _ h => h⟩) l.length () 0 (by omega) trivial
  subst hr
  have h2 := h k (by omega)
  simp only [laws_eqPol.f, laws_eqPolS.f, if_true]
  exact congrArg (fun (z : Option Bool) => z.bind fun t => if t = true then some true else some false) h2

def inB (a b c : Int) : Bool := decide (b ≤ a) && decide (a ≤ c)
theorem impl_within_eq (a b c : Int) : impl_within.f a b c = some (inB a b c) := by
  unfold impl_within.f inB
  by_cases h : a ≥ b
  · rw [if_pos h]
    simp [show b ≤ a from h]
  · rw [if_neg h]
    simp [show ¬ b ≤ a from h]

theorem spec_l1In_eq (a b c : Int) : spec_l1In.f a b c = some (inB a b c) := by
  unfold spec_l1In.f inB
  by_cases h : a ≥ b
  · rw [if_pos h]
    simp [show b ≤ a from h]
  · rw [if_neg h]
    simp [show ¬ b ≤ a from h]

theorem wrap_idx {i n : Int} (h0 : 0 ≤ i) (h : i < n) (hn : n ≤ 140737488351232) : wrap64 (i + 1) = i + 1 := by
  unfold wrap64
  omega
theorem wrap_bt (s : ByteArray) (i : Int) : wrap64 (bt s i) = bt s i := by
  have := bt_range s i
  unfold wrap64
  omega

theorem name_loops (s : ByteArray) (hn : (s.size : Int) ≤ 140737488351232) (d : Nat) : ∀ (i : Int), 0 ≤ i → (s.size : Int) - i ≤ d →
    ∃ r, (∀ k, d < k → spec_NameOk.l0 k s i = some r) ∧ ∀ k, d < k → impl_NameOk.l0 k s i = some r := by
  induction d with
  | zero =>
    intro i h0 hd
    refine ⟨inB s.size 1 8, fun k hk => ?_, fun k hk => ?_⟩ <;>
    · obtain ⟨k, rfl⟩ : ∃ m, k = m + 1 := ⟨k - 1, by omega⟩
      simp only [spec_NameOk.l0, impl_NameOk.l0, spec_l1In_eq, impl_within_eq, Option.bind_some]
      rw [if_neg (by omega)]
  | succ d ih =>
    intro i h0 hd
    by_cases hlt : i < (s.size : Int)
    · obtain ⟨r, hs, hi⟩ := ih (i + 1) (by omega) (by omega)
      refine ⟨if bt s i < 97 then false else if bt s i > 122 then false else r, fun k hk => ?_, fun k hk => ?_⟩
      · obtain ⟨k, rfl⟩ : ∃ m, k = m + 1 := ⟨k - 1, by omega⟩
        simp only [spec_NameOk.l0]
        rw [if_pos hlt, if_pos h0, wrap_idx h0 hlt hn, hs k (by omega)]
        (repeat' split) <;> rfl
      · obtain ⟨k, rfl⟩ : ∃ m, k = m + 1 := ⟨k - 1, by omega⟩
        simp only [impl_NameOk.l0]
        rw [if_pos hlt, if_pos h0, wrap_idx h0 hlt hn, hi k (by omega)]
        (repeat' split) <;> rfl
    · refine ⟨inB s.size 1 8, fun k hk => ?_, fun k hk => ?_⟩ <;>
      · obtain ⟨k, rfl⟩ : ∃ m, k = m + 1 := ⟨k - 1, by omega⟩
        simp only [spec_NameOk.l0, impl_NameOk.l0, spec_l1In_eq, impl_within_eq, Option.bind_some]
        rw [if_neg hlt]
theorem name_both (s : ByteArray) (hn : s.size ≤ 140737488351232) : ∃ r, Ev (fun k => spec_NameOk.f k s) r ∧ Ev (fun k => impl_NameOk.f k s) r := by
  obtain ⟨r, hs, hi⟩ := name_loops s (by omega) s.size 0 (by omega) (by omega)
  exact ⟨r, ⟨s.size + 1, fun k hk => hs k (by omega)⟩, ⟨s.size + 1, fun k hk => hi k (by omega)⟩⟩

def plainC (c : Int) : Bool := inB c 32 126 && !decide (c = 34)
theorem plainC_iff (c : Int) : plainC c = true ↔ (32 ≤ c ∧ c ≤ 126) ∧ c ≠ 34 := by simp [plainC, inB]
theorem plain_spec (c : Int) (r : Bool) : (if c < 32 then some false else (if c > 126 then some false else (if c = 34 then some false else some r))) = some (if plainC c then r else false) := by
  by_cases h : plainC c = true
  · have h' := (plainC_iff c).1 h
    rw [if_pos h, if_neg (by omega), if_neg (by omega), if_neg (by omega)]
  · have h' : ¬ ((32 ≤ c ∧ c ≤ 126) ∧ c ≠ 34) := fun k => h ((plainC_iff c).2 k)
    rw [if_neg h]
    (repeat' split) <;> first | rfl | (exfalso; omega)
theorem plain_impl (c : Int) (r : Bool) : (if inB c 32 126 = true then (if c = 34 then some false else some r) else some false) = some (if plainC c then r else false) := by
  unfold plainC
  by_cases h1 : inB c 32 126 = true <;> by_cases h2 : c = 34 <;> simp [h1, h2]
theorem plain_loops (s : ByteArray) (hn : (s.size : Int) ≤ 140737488351232) (d : Nat) : ∀ (i : Int), 0 ≤ i → (s.size : Int) - i ≤ d →
    ∃ r, (∀ k, d < k → spec_PlainOk.l0 k s i = some r) ∧ ∀ k, d < k → impl_PlainOk.l0 k s i = some r := by
  induction d with
  | zero =>
    intro i h0 hd
    refine ⟨decide ((s.size : Int) ≤ 20), fun k hk => ?_, fun k hk => ?_⟩ <;>
    · obtain ⟨k, rfl⟩ : ∃ m, k = m + 1 := ⟨k - 1, by omega⟩
      simp only [spec_PlainOk.l0, impl_PlainOk.l0]
      rw [if_neg (by omega)]
  | succ d ih =>
    intro i h0 hd
    by_cases hlt : i < (s.size : Int)
    · obtain ⟨r, hs, hi⟩ := ih (i + 1) (by omega) (by omega)
      refine ⟨if plainC (bt s i) then r else false, fun k hk => ?_, fun k hk => ?_⟩
      · obtain ⟨k, rfl⟩ : ∃ m, k = m + 1 := ⟨k - 1, by omega⟩
        simp only [spec_PlainOk.l0]
        rw [if_pos hlt, if_pos h0, wrap_idx h0 hlt hn, hs k (by omega)]
        exact plain_spec _ _
      · obtain ⟨k, rfl⟩ : ∃ m, k = m + 1 := ⟨k - 1, by omega⟩
        simp only [impl_PlainOk.l0]
        rw [if_pos hlt, if_pos h0, wrap_idx h0 hlt hn, hi k (by omega), wrap_bt, impl_within_eq, Option.bind_some]
        exact plain_impl _ _
    · refine ⟨decide ((s.size : Int) ≤ 20), fun k hk => ?_, fun k hk => ?_⟩ <;>
      · obtain ⟨k, rfl⟩ : ∃ m, k = m + 1 := ⟨k - 1, by omega⟩
        simp only [spec_PlainOk.l0, impl_PlainOk.l0]
        rw [if_neg hlt]
theorem plain_both (s : ByteArray) (hn : s.size ≤ 140737488351232) : ∃ r, Ev (fun k => spec_PlainOk.f k s) r ∧ Ev (fun k => impl_PlainOk.f k s) r := by
  obtain ⟨r, hs, hi⟩ := plain_loops s (by omega) s.size 0 (by omega) (by omega)
  exact ⟨r, ⟨s.size + 1, fun k hk => hs k (by omega)⟩, ⟨s.size + 1, fun k hk => hi k (by omega)⟩⟩

def headv (a b : Int) (c d : ByteArray) (n : Int) (x y : Bool) : Bool :=
  if a = 1 then decide (b = 0) && ((c.toList == []) && ((d.toList == []) && (n == 0))) else
  if a = 2 then decide (b = 0) && ((c.toList == []) && ((d.toList == []) && (n == 0))) else
  if a = 6 then decide (b = 0) && ((c.toList == []) && ((d.toList == []) && (n == 0))) else
  if a = 3 then inB b 0 2147483647 && ((c.toList == []) && ((d.toList == []) && (n == 0))) else
  if a = 4 then decide (b = 0) && (x && (y && (n == 0))) else
  if a = 5 then inB b 0 2147483647 && (x && ((d.toList == []) && (n == 0))) else
  if a = 7 then decide (b = 0) && ((c.toList == []) && ((d.toList == []) && inB n 1 4)) else
  if a = 8 then decide (b = 0) && ((c.toList == []) && ((d.toList == []) && inB n 1 4)) else
  if a = 9 then decide (b = 0) && ((c.toList == []) && ((d.toList == []) && (n == 1))) else false
theorem head_both (a b : Int) (c d : ByteArray) (l : List S29) (hc : c.size ≤ 1048576) (hd : d.size ≤ 1048576) :
    ∃ r, ∀ k, 1048580 < k → spec_l5One.f k a b c d l = some r ∧ impl_polHeadOk.f k a b c d l = some r := by
  obtain ⟨x, hx1, hx2⟩ := name_loops c (by omega) c.size 0 (by omega) (by omega)
  obtain ⟨y, hy1, hy2⟩ := plain_loops d (by omega) d.size 0 (by omega) (by omega)
  refine ⟨headv a b c d l.length x y, fun k hk => ?_⟩
  obtain ⟨k, rfl⟩ : ∃ m, k = m + 1 + 1 + 1 := ⟨k - 3, by omega⟩
  have e1 : spec_NameOk.f (k + 1 + 1) c = some x := hx1 _ (by omega)
  have e2 : impl_NameOk.f (k + 1) c = some x := hx2 _ (by omega)
  have e3 : spec_PlainOk.f (k + 1 + 1) d = some y := hy1 _ (by omega)
  have e4 : impl_PlainOk.f (k + 1) d = some y := hy2 _ (by omega)
  have key : (a = 1 ∨ a = 2 ∨ a = 6 ∨ a = 9) ∨ a = 3 ∨ a = 4 ∨ a = 5 ∨ (a = 7 ∨ a = 8) ∨ (a ≠ 1 ∧ a ≠ 2 ∧ a ≠ 6 ∧ a ≠ 9 ∧ a ≠ 3 ∧ a ≠ 4 ∧ a ≠ 5 ∧ a ≠ 7 ∧ a ≠ 8) := by omega
  rcases key with (rfl | rfl | rfl | rfl) | rfl | rfl | rfl | (rfl | rfl) | ⟨n1, n2, n6, n9, n3, n4, n5, n7, n8⟩
  case inl.inl | inl.inr.inl | inl.inr.inr.inl | inl.inr.inr.inr | inr.inr.inr.inr.inl.inl | inr.inr.inr.inr.inl.inr =>
    by_cases hb : b = 0 <;> by_cases hc : c.toList = [] <;> by_cases hd : d.toList = [] <;>
      simp [spec_l5One.f, spec_l5One.j0, impl_polHeadOk.f, impl_polHeadOk.j0, impl_polHeadOk.j1, impl_polHeadOk.j2, headv, spec_l1In_eq, impl_within_eq, hb, hc, hd]
  case inr.inl =>
    cases hb : inB b 0 2147483647 <;> by_cases hb0 : b = 0 <;> by_cases hc : c.toList = [] <;> by_cases hd : d.toList = [] <;>
      simp_all [spec_l5One.f, spec_l5One.j0, impl_polHeadOk.f, impl_polHeadOk.j0, impl_polHeadOk.j1, impl_polHeadOk.j2, headv, spec_l1In_eq, impl_within_eq]
  case inr.inr.inl =>
    cases x <;> cases y <;> by_cases hb : b = 0 <;> by_cases hc : c.toList = [] <;>
      simp [spec_l5One.f, spec_l5One.j0, impl_polHeadOk.f, impl_polHeadOk.j0, impl_polHeadOk.j1, impl_polHeadOk.j2, headv, spec_l1In_eq, impl_within_eq, hb, hc, e1, e2, e3, e4]
  case inr.inr.inr.inl =>
    cases hb : inB b 0 2147483647 <;> cases x <;> by_cases hb0 : b = 0 <;> by_cases hc : c.toList = [] <;> by_cases hd : d.toList = [] <;>
      simp_all [spec_l5One.f, spec_l5One.j0, impl_polHeadOk.f, impl_polHeadOk.j0, impl_polHeadOk.j1, impl_polHeadOk.j2, headv, spec_l1In_eq, impl_within_eq]
  case inr.inr.inr.inr.inr =>
    have i1 : (a == 1) = false := by simpa using n1
    have i2 : (a == 2) = false := by simpa using n2
    have i6 : (a == 6) = false := by simpa using n6
    have i7 : (a == 7) = false := by simpa using n7
    have i8 : (a == 8) = false := by simpa using n8
    by_cases hb : b = 0 <;> by_cases hc : c.toList = [] <;>
      simp [spec_l5One.f, spec_l5One.j0, impl_polHeadOk.f, impl_polHeadOk.j0, impl_polHeadOk.j1, impl_polHeadOk.j2, headv, n1, n2, n3, n4, n5, n6, n7, n8, n9, i1, i2, i6, i7, i8, hb, hc]

theorem spec_PolCount_at : ∀ (x : S29), pN29 x ≤ 1048577 → ∀ k, pT29 x < k → spec_PolCount.f k x.f0 x.f1 x.f2 x.f3 x.f4 = some (pN29 x : Int) := by
  intro x
  induction x using ind29 with
  | _ a b c d l ih =>
  intro hn k hk
  rw [pT29] at hk
  rw [pN29] at hn ⊢
  obtain ⟨k, rfl⟩ : ∃ m, k = m + 1 := ⟨k - 1, by omega⟩
  have hl := pNs29_len l
  obtain ⟨r, hr, h⟩ := loop_ex (σ := Int) (L := fun j s i => spec_PolCount.l0 j s i a b c d l) (n := l.length) (K := pTs29 l + 1)
    (I := fun s i => s = 1 + (pNs29 (l.take i) : Int)) (Post := fun _ _ r => r = 1 + (pNs29 l : Int))
    (fun s hI => ⟨_, rfl, fun k => by
      simp only [spec_PolCount.l0]
      rw [if_neg (not_lt_cast _), hI, List.take_length]⟩)
    (fun s i hi hI => .inr ⟨_, rfl, fun j hj => by
      have hx := List.getElem_mem hi
      have hT := pT29_mem hx
      have hN := pN29_mem hx
      have hk1 := pNs29_take l i hi
      have hk2 := pNs29_le l (i + 1)
      simp only [spec_PolCount.l0]
      rw [if_pos (lt_cast hi), if_pos (nn_cast i), rdP29 _ _ hi, ih l[i] hx (by omega) j (by omega), Option.bind_some, wrap_nat1 hi (by omega), hI, wrap_of (by omega) (by omega), hk1]
      congr 1
      push_cast
      omega, fun _ h => h⟩) l.length 1 0 (by omega) (by simp [pNs29])
  subst hr
  have h2 := h k (by omega)
  simp only [spec_PolCount.f]
  refine h2.trans ?_
  push_cast
  rfl

mutual
def fitI : S29 → Prop
  | ⟨_, _, c, d, l⟩ => c.size ≤ 1048576 ∧ d.size ≤ 1048576 ∧ fitIs l
def fitIs : List S29 → Prop
  | [] => True
  | x :: l => fitI x ∧ fitIs l
end
theorem fitIs_iff (l : List S29) : fitIs l ↔ ∀ x ∈ l, fitI x := by
  induction l with
  | nil => simp [fitIs]
  | cons x l ih => simp [fitIs, ih]
theorem polOk_tree : ∀ (x : S29), pN29 x ≤ 1048577 → fitI x → ∀ n : Int, 0 ≤ n → n ≤ 5 → ∃ (q : Bool) (p : Int),
    (∀ k, 2 * pT29 x + 1048600 < k → spec_l5Deep.f k x.f0 x.f1 x.f2 x.f3 x.f4 n = some q) ∧
    (∀ k, 2 * pT29 x + 1048600 < k → impl_polParts.f k x.f0 x.f1 x.f2 x.f3 x.f4 n = some p) ∧
    1 ≤ p ∧ p ≤ 13 ∧ (p ≤ 12 → q = true ∧ p = pN29 x) ∧ (q = true → (pN29 x : Int) ≤ 12 → p = pN29 x) := by
  intro x
  induction x using ind29 with
  | _ a b c d l ih =>
  intro hn hf n hn0 hn5
  rw [fitI] at hf
  obtain ⟨hfc, hfd, hfl⟩ := hf
  rw [pN29] at hn
  simp only [pN29, pT29]
  have hl := pNs29_len l
  by_cases c1 : n > 4
  · refine ⟨false, 13, fun k hk => ?_, fun k hk => ?_, by omega, by omega, by omega, by simp⟩
    · obtain ⟨k, rfl⟩ : ∃ m, k = m + 1 + 1 := ⟨k - 2, by omega⟩
      simp only [spec_l5Deep.f, spec_l5Deep.j0]
      rw [if_pos c1, if_pos (by simp)]
    · obtain ⟨k, rfl⟩ : ∃ m, k = m + 1 + 1 := ⟨k - 2, by omega⟩
      simp only [impl_polParts.f, impl_polParts.j0]
      rw [if_pos c1, if_pos (by simp)]
  obtain ⟨h, hh⟩ := head_both a b c d l hfc hfd
  have w1 : wrap64 (n + 1) = n + 1 := wrap_of (by omega) (by omega)
  cases h with
  | false =>
    refine ⟨false, 13, fun k hk => ?_, fun k hk => ?_, by omega, by omega, by omega, by simp⟩
    · obtain ⟨k, rfl⟩ : ∃ m, k = m + 1 + 1 := ⟨k - 2, by omega⟩
      simp only [spec_l5Deep.f, spec_l5Deep.j0]
      rw [if_neg c1, (hh (k + 1) (by omega)).1, Option.bind_some, if_pos (by simp)]
    · obtain ⟨k, rfl⟩ : ∃ m, k = m + 1 + 1 := ⟨k - 2, by omega⟩
      simp only [impl_polParts.f, impl_polParts.j0]
      rw [if_neg c1, (hh (k + 1) (by omega)).2, Option.bind_some, if_pos (by simp)]
  | true =>
    -- all below are right
    obtain ⟨q, hq, hsp⟩ := loop_ex (σ := Unit) (L := fun j _ i => spec_l5Deep.l0 j n i a b c d l) (n := l.length) (K := 2 * pTs29 l + 1048601)
      (I := fun _ _ => True) (Post := fun _ i (r : Bool) => r = true ↔ ∀ j (hj : j < l.length), i ≤ j → ∀ k, 2 * pT29 l[j] + 1048600 < k → spec_l5Deep.f k l[j].f0 l[j].f1 l[j].f2 l[j].f3 l[j].f4 (n + 1) = some true)
      (fun s hI => ⟨true, ⟨fun _ j hj hij => by omega, fun _ => rfl⟩, fun k => by
        simp only [spec_l5Deep.l0]
        rw [if_neg (not_lt_cast _)]⟩)
      (fun s i hi hI => by
        have hx := List.getElem_mem hi
        have hT := pT29_mem hx
        have hN := pN29_mem hx
        obtain ⟨q, p, hq, hp, _⟩ := ih l[i] hx (by omega) ((fitIs_iff l).1 hfl _ hx) (n + 1) (by omega) (by omega)
        cases q with
        | false =>
          refine .inl ⟨false, ⟨fun hz => absurd hz (by simp), fun hz => ?_⟩, fun k hk => ?_⟩
          · have := hz i hi (Nat.le_refl _) (2 * pT29 l[i] + 1048601) (by omega)
            rw [hq _ (by omega)] at this
            exact absurd this (by simp)
          · simp only [spec_l5Deep.l0]
            rw [if_pos (lt_cast hi), if_pos (nn_cast i), rdP29 _ _ hi, w1, hq k (by omega), Option.bind_some, if_neg (by decide)]
        | true =>
          refine .inr ⟨(), trivial, fun k hk => ?_, fun r hr => ⟨fun hz j hj hij => ?_, fun hz => hr.2 fun j hj hij => hz j hj (by omega)⟩⟩
          · simp only [spec_l5Deep.l0]
            rw [if_pos (lt_cast hi), if_pos (nn_cast i), rdP29 _ _ hi, w1, hq k (by omega), Option.bind_some, if_pos rfl, wrap_nat1 hi (by omega)]
          · rcases Nat.lt_or_ge i j with hlt | hge
            · exact hr.1 hz j hj hlt
            · obtain rfl : i = j := by omega
              exact hq) l.length () 0 (by omega) trivial
    obtain ⟨p, hp, him⟩ := loop_ex (σ := Int) (L := fun j s i => impl_polParts.l0 j n s l l.length i) (n := l.length) (K := 2 * pTs29 l + 1048601)
      (I := fun s _ => 1 ≤ s ∧ s ≤ 12) (Post := fun s i r => s ≤ r ∧ r ≤ 13 ∧ (r ≤ 12 → r = s + pNs29 (l.drop i) ∧ ∀ j (hj : j < l.length), i ≤ j → ∀ k, 2 * pT29 l[j] + 1048600 < k → spec_l5Deep.f k l[j].f0 l[j].f1 l[j].f2 l[j].f3 l[j].f4 (n + 1) = some true) ∧
        ((∀ j (hj : j < l.length), i ≤ j → ∀ k, 2 * pT29 l[j] + 1048600 < k → spec_l5Deep.f k l[j].f0 l[j].f1 l[j].f2 l[j].f3 l[j].f4 (n + 1) = some true) → s + (pNs29 (l.drop i) : Int) ≤ 12 → r = s + pNs29 (l.drop i)))
      (fun s hI => ⟨s, ⟨by omega, by omega, fun _ => ⟨by rw [List.drop_length]; simp [pNs29], fun j hj hij => by omega⟩, fun _ _ => by rw [List.drop_length]; simp [pNs29]⟩, fun k => by
        simp only [impl_polParts.l0]
        rw [if_neg (not_lt_cast _)]⟩)
      (fun s i hi hI => by
        have hx := List.getElem_mem hi
        have hT := pT29_mem hx
        have hN := pN29_mem hx
        have hdr := pNs29_drop l i hi
        obtain ⟨q, p, hq, hp, p1, p13, hp1, hp2⟩ := ih l[i] hx (by omega) ((fitIs_iff l).1 hfl _ hx) (n + 1) (by omega) (by omega)
        have w2 : wrap64 (s + p) = s + p := wrap_of (by omega) (by omega)
        by_cases c2 : s + p ≥ 13
        · refine .inl ⟨13, ⟨by omega, by omega, by omega, fun hz hz2 => ?_⟩, fun k hk => ?_⟩
          · have hq1 := hz i hi (Nat.le_refl _) (2 * pT29 l[i] + 1048601) (by omega)
            rw [hq _ (by omega)] at hq1
            have := hp2 (Option.some.inj hq1) (by omega)
            omega
          · simp only [impl_polParts.l0]
            rw [if_pos (lt_cast hi), if_pos (nn_cast i), if_pos (lt_cast hi), rdP29 _ _ hi, w1, hp k (by omega), Option.bind_some, w2, if_pos c2]
        · obtain ⟨q1, q2⟩ := hp1 (by omega)
          refine .inr ⟨s + p, ⟨by omega, by omega⟩, fun k hk => ?_, fun r hr => ⟨by omega, by omega, fun hz => ⟨?_, fun j hj hij => ?_⟩, fun hz hz2 => ?_⟩⟩
          · simp only [impl_polParts.l0]
            rw [if_pos (lt_cast hi), if_pos (nn_cast i), if_pos (lt_cast hi), rdP29 _ _ hi, w1, hp k (by omega), Option.bind_some, w2, if_neg c2, wrap_nat1 hi (by omega)]
          · have := (hr.2.2.1 hz).1
            omega
          · rcases Nat.lt_or_ge i j with hlt | hge
            · exact (hr.2.2.1 hz).2 j hj hlt
            · obtain rfl : i = j := by omega
              rw [q1] at hq
              exact hq
          · have := hr.2.2.2 (fun j hj hij => hz j hj (by omega)) (by omega)
            omega) l.length 1 0 (by omega) ⟨by omega, by omega⟩
    rw [List.drop_zero] at hp
    obtain ⟨p1, p2, p3, p4⟩ := hp
    refine ⟨q, p, fun k hk => ?_, fun k hk => ?_, p1, p2, fun hz => ⟨hq.2 (p3 hz).2, ?_⟩, fun hz hz2 => ?_⟩
    · obtain ⟨k, rfl⟩ : ∃ m, k = m + 1 + 1 := ⟨k - 2, by omega⟩
      simp only [spec_l5Deep.f, spec_l5Deep.j0]
      rw [if_neg c1, (hh (k + 1) (by omega)).1, Option.bind_some, if_neg (by decide)]
      exact hsp k (by omega)
    · obtain ⟨k, rfl⟩ : ∃ m, k = m + 1 + 1 := ⟨k - 2, by omega⟩
      simp only [impl_polParts.f, impl_polParts.j0]
      rw [if_neg c1, (hh (k + 1) (by omega)).2, Option.bind_some, if_neg (by decide)]
      exact him k (by omega)
    · have := (p3 hz).1
      push_cast
      omega
    · have := p4 (hq.1 hz) (by push_cast at hz2; omega)
      push_cast
      omega
theorem polOk_both (x : S29) (hn : pN29 x ≤ 1048577) (hf : fitI x) : ∃ r, ∀ k, 2 * pT29 x + 1048600 < k → spec_PolOk.f k x.f0 x.f1 x.f2 x.f3 x.f4 = some r ∧ impl_PolOk.f k x.f0 x.f1 x.f2 x.f3 x.f4 = some r := by
  obtain ⟨q, p, hq, hp, p1, p2, p3, p4⟩ := polOk_tree x hn hf 1 (by omega) (by omega)
  refine ⟨decide (p ≤ 12), fun k hk => ⟨?_, ?_⟩⟩
  · simp only [spec_PolOk.f, spec_PolCount_at x hn k (by omega), hq k hk, Option.bind_some]
    by_cases c : (pN29 x : Int) ≤ 12
    · rw [if_pos c]
      cases q with
      | true =>
        have := p4 rfl c
        rw [decide_eq_true (by omega)]
      | false =>
        rw [decide_eq_false]
        intro hz
        exact absurd (p3 hz).1 (by simp)
    · rw [if_neg c, decide_eq_false]
      intro hz
      have := (p3 hz).2
      omega
  · simp only [impl_PolOk.f, hp k hk, Option.bind_some]

theorem fit_conv : ∀ x : S24, fitP x → fitI (cvP x) := by
  intro x
  induction x using ind24 with
  | _ a b c d l ih =>
  intro h
  rw [fitP] at h
  rw [cvP, fitI, cvPs_map]
  refine ⟨h.1, h.2.1, (fitIs_iff _).2 fun y hy => ?_⟩
  obtain ⟨z, hz, rfl⟩ := List.mem_map.1 hy
  exact ih z hz ((fitPs_iff l).1 h.2.2 z hz)

theorem FnExactPolOk : ∀ (a0_0 : Int) (a0_1 : Int) (a0_2 : ByteArray) (a0_3 : ByteArray) (l0_4 : (List S24)), ((Lit.int .i64 a0_0).wf = true ∧ (Lit.int .i64 a0_1).wf = true ∧ a0_2.size ≤ maxLen ∧ a0_3.size ≤ maxLen ∧ (l0_4.length ≤ maxLen ∧ ∀ y24 ∈ l0_4, good24 y24)) → ∃ k, laws_FnExactPolOk.f k a0_0 a0_1 a0_2 a0_3 l0_4 = some true := by
  intro a b c d l hg
  have hG : good24 ⟨a, b, c, d, l⟩ := by
    refine good_up ⟨a, b, c, d, l⟩ hg.1 hg.2.1 hg.2.2.1 hg.2.2.2.1 hg.2.2.2.2.1 hg.2.2.2.2.2
  obtain ⟨v, hv, hv1, hv2⟩ := szPol_at ⟨a, b, c, d, l⟩ 1048576 hG (by omega) (by omega)
  simp only at hv
  generalize hX : (⟨a, b, c, d, l⟩ : S24) = X at *
  generalize hm : 2 * pT24 X + 1048601 = m
  refine ⟨m, ?_⟩
  by_cases hn : v < 0
  · simp only [laws_FnExactPolOk.f, hv m (by omega), Option.bind_some]
    rw [if_pos hn]
  obtain ⟨f1, f2⟩ := hv2 (by omega)
  obtain ⟨t1, t2⟩ := cvP_tree X
  have h1 := toPol_at X (by omega) m (by omega)
  obtain ⟨r, hr⟩ := polOk_both (cvP X) (by omega) (fit_conv X f2)
  obtain ⟨h2, h3⟩ := hr m (by omega)
  have h4 := eqPol_at (cvP X) (by omega) m (by omega)
  rw [← hX] at h1
  simp only at h1
  rw [hX] at h1
  simp only [laws_FnExactPolOk.f, hv m (by omega), h1, h2, h3, h4, Option.bind_some, if_true]
  rw [if_neg hn]
  simp

end Go.Proofs.Ytfhblnbicnmndaa.Pure
