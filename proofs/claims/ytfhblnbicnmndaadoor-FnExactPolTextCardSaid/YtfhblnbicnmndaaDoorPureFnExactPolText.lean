/- The program's PolText returns what the reference's returns, for all arguments. Conditions: none beyond the statement's own. -/
import Derived.Test.YtfhblnbicnmndaaDoorQFnExactPolTextx
set_option linter.unusedVariables false
set_option linter.unusedSimpArgs false
namespace Go.Proofs.YtfhblnbicnmndaaDoor.Pure
open Go.RowKit Go.Proofs.YtfhblnbicnmndaaDoor.QFnExactPolText Go.Proofs.YtfhblnbicnmndaaDoorW.PrintWords Go.Proofs.YtfhblnbicnmndaaDoorW.PrintLast Go.Proofs.YtfhblnbicnmndaaDoorW.PrintMore
def good36n : Nat → S36 → Prop
  | 0, _ => False
  | n + 1, x => (Lit.int .i64 x.f0).wf = true ∧ (Lit.int .i64 x.f1).wf = true ∧ x.f2.size ≤ maxLen ∧ x.f3.size ≤ maxLen ∧ (x.f4.length ≤ maxLen ∧ ∀ y36 ∈ x.f4, good36n n y36)
def good36 (x : S36) : Prop := ∃ n, good36n n x

/-- A loop over an index: from a state that is good, with enough rounds, it comes to an end that meets what is told of it. -/
theorem loop_ex {σ β : Type} {L : Nat → σ → Int → Option β} {n K : Nat} {I : σ → Nat → Prop} {Post : σ → Nat → β → Prop}
    (hend : ∀ s, I s n → ∃ r, Post s n r ∧ ∀ k, L (k + 1) s (n : Int) = some r)
    (hstep : ∀ s (i : Nat), i < n → I s i → (∃ r, Post s i r ∧ ∀ k, K ≤ k → L (k + 1) s (i : Int) = some r) ∨
      ∃ s', I s' (i + 1) ∧ (∀ k, K ≤ k → L (k + 1) s (i : Int) = L k s' ((i : Int) + 1)) ∧ ∀ r, Post s' (i + 1) r → Post s i r) :
    ∀ (d : Nat) s (i : Nat), i + d = n → I s i → ∃ r, Post s i r ∧ ∀ k, K + d < k → L k s (i : Int) = some r := by
  intro d
  induction d with
  | zero =>
    intro s i hd hI
    obtain rfl : i = n := by omega
    obtain ⟨r, hp, hr⟩ := hend s hI
    refine ⟨r, hp, fun k hk => ?_⟩
    obtain ⟨k, rfl⟩ : ∃ m, k = m + 1 := ⟨k - 1, by omega⟩
    exact hr k
  | succ d ih =>
    intro s i hd hI
    rcases hstep s i (by omega) hI with ⟨r, hp, hr⟩ | ⟨s', hI', he, hp⟩
    · refine ⟨r, hp, fun k hk => ?_⟩
      obtain ⟨k, rfl⟩ : ∃ m, k = m + 1 := ⟨k - 1, by omega⟩
      exact hr k (by omega)
    · obtain ⟨r, hq, hr⟩ := ih s' (i + 1) (by omega) hI'
      refine ⟨r, hp r hq, fun k hk => ?_⟩
      obtain ⟨k, rfl⟩ : ∃ m, k = m + 1 := ⟨k - 1, by omega⟩
      rw [he k (by omega)]
      have := hr k (by omega)
      rw [Int.natCast_add] at this
      exact this
theorem ev_at {α : Type} {g : Nat → Option α} {r : α} (K : Nat) (h : ∀ k, K < k → g k = some r) : Ev g r := ⟨K + 1, fun k hk => h k (by omega)⟩
theorem wrap_of {x : Int} (h0 : -9223372036854775808 ≤ x) (h1 : x ≤ 9223372036854775807) : wrap64 x = x := by
  unfold wrap64
  omega
theorem wrap_nat1 {i n : Nat} (h : i < n) (hn : n ≤ 9223372036854775807) : wrap64 ((i : Int) + 1) = (i : Int) + 1 := wrap_of (by omega) (by omega)
theorem lt_cast {i n : Nat} (h : i < n) : (i : Int) < (n : Int) := by omega
theorem nn_cast (i : Nat) : 0 ≤ (i : Int) := by omega
theorem not_lt_cast (n : Nat) : ¬ (n : Int) < (n : Int) := by omega
/-- What is written cell by cell. -/
theorem fill_set {α : Type} (l : List α) (z : α) (i : Nat) (h : i < l.length) : (l.take i ++ List.replicate (l.length - i) z).set i l[i] = l.take (i + 1) ++ List.replicate (l.length - (i + 1)) z := by
  have e1 : l.length - i = (l.length - (i + 1)) + 1 := by omega
  have e2 : (l.take i).length = i := by rw [List.length_take]; omega
  rw [e1, List.replicate_succ, List.set_append_right _ _ (by omega), e2, Nat.sub_self, List.set_cons_zero, List.take_succ_eq_append_getElem h, List.append_assoc]
  rfl
theorem fill_len {α : Type} (l : List α) (z : α) (i : Nat) (h : i ≤ l.length) : (l.take i ++ List.replicate (l.length - i) z).length = l.length := by
  rw [List.length_append, List.length_take, List.length_replicate]
  omega

/-- The same for a loop over a function that is told by a number: the end is the same for each that is large enough. -/
theorem loop_exm {σ β ι : Type} {ok : ι → Prop} {L : ι → Nat → σ → Int → Option β} {n : Nat} {I : σ → Nat → Prop} {Post : σ → Nat → β → Prop}
    (hend : ∀ s, I s n → ∃ r, Post s n r ∧ ∀ m, ok m → ∀ k, L m (k + 1) s (n : Int) = some r)
    (hstep : ∀ s (i : Nat), i < n → I s i → (∃ r, Post s i r ∧ ∀ m, ok m → ∀ k, L m (k + 1) s (i : Int) = some r) ∨
      ∃ s', I s' (i + 1) ∧ (∀ m, ok m → ∀ k, L m (k + 1) s (i : Int) = L m k s' ((i : Int) + 1)) ∧ ∀ r, Post s' (i + 1) r → Post s i r) :
    ∀ (d : Nat) s (i : Nat), i + d = n → I s i → ∃ r, Post s i r ∧ ∀ m, ok m → ∀ k, d < k → L m k s (i : Int) = some r := by
  intro d
  induction d with
  | zero =>
    intro s i hd hI
    obtain rfl : i = n := by omega
    obtain ⟨r, hp, hr⟩ := hend s hI
    refine ⟨r, hp, fun m hm k hk => ?_⟩
    obtain ⟨k, rfl⟩ : ∃ m, k = m + 1 := ⟨k - 1, by omega⟩
    exact hr m hm k
  | succ d ih =>
    intro s i hd hI
    rcases hstep s i (by omega) hI with ⟨r, hp, hr⟩ | ⟨s', hI', he, hp⟩
    · refine ⟨r, hp, fun m hm k hk => ?_⟩
      obtain ⟨k, rfl⟩ : ∃ m, k = m + 1 := ⟨k - 1, by omega⟩
      exact hr m hm k
    · obtain ⟨r, hq, hr⟩ := ih s' (i + 1) (by omega) hI'
      refine ⟨r, hp r hq, fun m hm k hk => ?_⟩
      obtain ⟨k, rfl⟩ : ∃ m, k = m + 1 := ⟨k - 1, by omega⟩
      rw [he m hm k]
      have := hr m hm k (by omega)
      rw [Int.natCast_add] at this
      exact this

mutual
def pT36 : S36 → Nat
  | ⟨_, _, _, _, l⟩ => 2 + l.length + pTs36 l
def pTs36 : List S36 → Nat
  | [] => 0
  | x :: l => pT36 x + pTs36 l
end
mutual
def pN36 : S36 → Nat
  | ⟨_, _, _, _, l⟩ => 1 + pNs36 l
def pNs36 : List S36 → Nat
  | [] => 0
  | x :: l => pN36 x + pNs36 l
end
theorem pT36_mem {l : List S36} {x : S36} (h : x ∈ l) : pT36 x ≤ pTs36 l := by
  induction l with
  | nil => exact absurd h (by simp)
  | cons y l ih =>
    rw [pTs36]
    rcases List.mem_cons.1 h with rfl | h
    · omega
    · have := ih h
      omega
theorem pN36_mem {l : List S36} {x : S36} (h : x ∈ l) : pN36 x ≤ pNs36 l := by
  induction l with
  | nil => exact absurd h (by simp)
  | cons y l ih =>
    rw [pNs36]
    rcases List.mem_cons.1 h with rfl | h
    · omega
    · have := ih h
      omega
theorem pN36_pos (x : S36) : 1 ≤ pN36 x := by
  obtain ⟨a, b, c, d, l⟩ := x
  rw [pN36]
  omega
theorem pNs36_len (l : List S36) : l.length ≤ pNs36 l := by
  induction l with
  | nil => simp
  | cons y l ih =>
    have := pN36_pos y
    rw [pNs36, List.length_cons]
    omega
theorem pNs36_app (l m : List S36) : pNs36 (l ++ m) = pNs36 l + pNs36 m := by
  induction l with
  | nil => simp [pNs36]
  | cons y l ih =>
    rw [List.cons_append, pNs36, pNs36, ih]
    omega
theorem pNs36_take (l : List S36) (i : Nat) (h : i < l.length) : pNs36 (l.take (i + 1)) = pNs36 (l.take i) + pN36 l[i] := by
  rw [List.take_succ_eq_append_getElem h, pNs36_app, pNs36, pNs36]
  omega
theorem pNs36_drop (l : List S36) (i : Nat) (h : i < l.length) : pNs36 (l.drop i) = pN36 l[i] + pNs36 (l.drop (i + 1)) := by
  rw [List.drop_eq_getElem_cons h, pNs36]
theorem pNs36_le (l : List S36) (i : Nat) : pNs36 (l.take i) ≤ pNs36 l := by
  have := pNs36_app (l.take i) (l.drop i)
  rw [List.take_append_drop] at this
  omega
theorem ind36 {P : S36 → Prop} (h : ∀ a b c d l, (∀ x ∈ l, P x) → P ⟨a, b, c, d, l⟩) : ∀ x, P x
  | ⟨a, b, c, d, l⟩ => h a b c d l (fun x hx => ind36 h x)
termination_by x => SizeOf.sizeOf x
decreasing_by
  have := List.sizeOf_lt_of_mem hx
  simp
  omega
theorem rdP36 (l : List S36) (i : Nat) (h : i < l.length) : rd_T36 l (i : Int) = l[i] := by
  simp [rd_T36, List.getD_eq_getElem?_getD, h]

theorem goodn_mono : ∀ (n m : Nat) (a : S36), n ≤ m → good36n n a → good36n m a := by
  intro n
  induction n with
  | zero => intro m a _ h; exact absurd h id
  | succ n ih =>
    intro m a hm h
    obtain ⟨m, rfl⟩ : ∃ q, m = q + 1 := ⟨m - 1, by omega⟩
    unfold good36n at h ⊢
    obtain ⟨h0, h1, h2, h3, h4⟩ := h
    exact ⟨h0, h1, h2, h3, ⟨h4.1, fun y hy => ih _ _ (by omega) (h4.2 y hy)⟩⟩
theorem good_all (l : List S36) (h : ∀ x ∈ l, good36 x) : ∃ n, ∀ x ∈ l, good36n n x := by
  induction l with
  | nil => exact ⟨0, fun x hx => absurd hx (by simp)⟩
  | cons y l ih =>
    obtain ⟨n, hn⟩ := ih (fun x hx => h x (List.mem_cons_of_mem _ hx))
    obtain ⟨m, hm⟩ := h y List.mem_cons_self
    refine ⟨n + m, fun x hx => ?_⟩
    rcases List.mem_cons.1 hx with rfl | hx
    · exact goodn_mono _ _ _ (by omega) hm
    · exact goodn_mono _ _ _ (by omega) (hn x hx)
theorem good_up (x : S36) (h0 : (Lit.int .i64 x.f0).wf = true) (h1 : (Lit.int .i64 x.f1).wf = true) (h2 : x.f2.size ≤ maxLen) (h3 : x.f3.size ≤ maxLen) (h4 : x.f4.length ≤ maxLen) (h5 : ∀ y ∈ x.f4, good36 y) : good36 x := by
  obtain ⟨n, hn⟩ := good_all x.f4 h5
  exact ⟨n + 1, h0, h1, h2, h3, h4, hn⟩

mutual
def fitP : S36 → Prop
  | ⟨_, _, c, d, l⟩ => c.size ≤ 1048576 ∧ d.size ≤ 1048576 ∧ fitPs l
def fitPs : List S36 → Prop
  | [] => True
  | x :: l => fitP x ∧ fitPs l
end
theorem fitPs_iff (l : List S36) : fitPs l ↔ ∀ x ∈ l, fitP x := by
  induction l with
  | nil => simp [fitPs]
  | cons x l ih => simp [fitPs, ih]
theorem good_kids {a b : Int} {c d : ByteArray} {l : List S36} (h : good36 ⟨a, b, c, d, l⟩) : c.size ≤ maxLen ∧ d.size ≤ maxLen ∧ l.length ≤ maxLen ∧ ∀ x ∈ l, good36 x := by
  obtain ⟨n, h⟩ := h
  cases n with
  | zero => exact h.elim
  | succ n =>
    obtain ⟨_, _, h1, h2, h3, h4⟩ := h
    exact ⟨h1, h2, h3, fun x hx => ⟨n, h4 x hx⟩⟩
theorem szPol_at : ∀ (x : S36) (left : Int), good36 x → 0 ≤ left → left ≤ 1048576 →
    ∃ v, (∀ k, pT36 x < k → laws_szPol.f k x.f0 x.f1 x.f2 x.f3 x.f4 left = some v) ∧ v ≤ left ∧ (0 ≤ v → (pN36 x : Int) ≤ left - v + 1 ∧ fitP x) := by
  intro x
  induction x using ind36 with
  | _ a b c d l ih =>
  intro left hg h0 h1
  obtain ⟨g1, g2, g3, g4⟩ := good_kids hg
  unfold maxLen at g1 g2 g3
  simp only
  rw [pT36]
  have w1 : wrap64 (left - (c.size : Int)) = left - (c.size : Int) := wrap_of (by omega) (by omega)
  by_cases c1 : left - (c.size : Int) < 0
  · refine ⟨-1, fun k hk => ?_, by omega, by omega⟩
    obtain ⟨k, rfl⟩ : ∃ m, k = m + 1 := ⟨k - 1, by omega⟩
    rw [laws_szPol.f, w1, if_pos c1]
  have w2 : wrap64 (left - (c.size : Int) - (d.size : Int)) = left - (c.size : Int) - (d.size : Int) := wrap_of (by omega) (by omega)
  by_cases c2 : left - (c.size : Int) - (d.size : Int) < 0
  · refine ⟨-1, fun k hk => ?_, by omega, by omega⟩
    obtain ⟨k, rfl⟩ : ∃ m, k = m + 1 := ⟨k - 1, by omega⟩
    rw [laws_szPol.f, w1, if_neg c1, w2, if_pos c2]
  obtain ⟨s, hs⟩ : ∃ s, s = left - (c.size : Int) - (d.size : Int) := ⟨_, rfl⟩
  replace w2 : wrap64 (left - (c.size : Int) - (d.size : Int)) = s := w2.trans hs.symm
  replace c2 : ¬ s < 0 := by omega
  have w3 : wrap64 (s - (l.length : Int)) = s - (l.length : Int) := wrap_of (by omega) (by omega)
  by_cases c3 : s - (l.length : Int) < 0
  · refine ⟨-1, fun k hk => ?_, by omega, by omega⟩
    obtain ⟨k, rfl⟩ : ∃ m, k = m + 1 := ⟨k - 1, by omega⟩
    rw [laws_szPol.f, w1, if_neg c1, w2, if_neg c2, laws_szPolS.f, w3, if_pos c3]
    rfl
  obtain ⟨r, ⟨hr1, hr2⟩, hr⟩ := loop_exm (σ := Int) (ok := fun m => pTs36 l < m) (L := fun m k s i => laws_szPolS.l0 (fun b0 b1 b2 b3 b4 b5 => laws_szPol.f m b0 b1 b2 b3 b4 b5) k l s i) (n := l.length)
    (I := fun s _ => 0 ≤ s ∧ s ≤ 1048576) (Post := fun s i r => r ≤ s ∧ (0 ≤ r → (pNs36 (l.drop i) : Int) ≤ s - r + ((l.length - i : Nat) : Int) ∧ ∀ j (h : j < l.length), i ≤ j → fitP l[j]))
    (fun s hI => ⟨s, ⟨by omega, fun _ => ⟨by rw [List.drop_length]; simp [pNs36], fun j hj hij => by omega⟩⟩, fun m _ k => by
      simp only [laws_szPolS.l0]
      rw [if_neg (not_lt_cast _)]⟩)
    (fun s i hi hI => by
      have hx := List.getElem_mem hi
      obtain ⟨v, hv, hv1, hv2⟩ := ih l[i] hx s (g4 _ hx) hI.1 hI.2
      have hT := pT36_mem hx
      by_cases hneg : v < 0
      · refine .inl ⟨-1, ⟨by omega, by omega⟩, fun m hm k => ?_⟩
        simp only [laws_szPolS.l0]
        rw [if_pos (lt_cast hi), if_pos (nn_cast i), rdP36 _ _ hi, hv m (by omega), Option.bind_some, if_pos hneg]
      · refine .inr ⟨v, ⟨by omega, by omega⟩, fun m hm k => ?_, fun r hr => ⟨by omega, fun hr0 => ?_⟩⟩
        · simp only [laws_szPolS.l0]
          rw [if_pos (lt_cast hi), if_pos (nn_cast i), rdP36 _ _ hi, hv m (by omega), Option.bind_some, if_neg hneg, wrap_nat1 hi (by omega)]
        · obtain ⟨q1, q2⟩ := hr.2 hr0
          obtain ⟨q3, q4⟩ := hv2 (by omega)
          refine ⟨?_, fun j hj hij => ?_⟩
          · rw [pNs36_drop l i hi]
            push_cast
            omega
          · rcases Nat.lt_or_ge i j with hlt | hge
            · exact q2 j hj hlt
            · obtain rfl : i = j := by omega
              exact q4) l.length (s - (l.length : Int)) 0 (by omega) ⟨by omega, by omega⟩
  have hf : ∀ k, 2 + l.length + pTs36 l < k + 1 → laws_szPol.f (k + 1) a b c d l left = (some r).bind fun t => if t < 0 then some (-1) else some t := by
    intro k hk
    have := hr k (by omega) k (by omega)
    rw [laws_szPol.f, w1, if_neg c1, w2, if_neg c2, laws_szPolS.f, w3, if_neg c3]
    exact congrArg (fun (z : Option Int) => z.bind fun t => if t < 0 then some (-1) else some t) this
  rw [List.drop_zero] at hr2
  by_cases c4 : r < 0
  · refine ⟨-1, fun k hk => ?_, by omega, by omega⟩
    obtain ⟨k, rfl⟩ : ∃ m, k = m + 1 := ⟨k - 1, by omega⟩
    rw [hf k hk, Option.bind_some, if_pos c4]
  · refine ⟨r, fun k hk => ?_, by omega, fun _ => ⟨?_, ?_⟩⟩
    · obtain ⟨k, rfl⟩ : ∃ m, k = m + 1 := ⟨k - 1, by omega⟩
      rw [hf k hk, Option.bind_some, if_neg c4]
    · have := (hr2 (by omega)).1
      rw [pN36]
      push_cast
      omega
    · rw [fitP]
      refine ⟨by omega, by omega, (fitPs_iff l).2 fun x hx => ?_⟩
      obtain ⟨j, hj, rfl⟩ := List.getElem_of_mem hx
      exact (hr2 (by omega)).2 j hj (by omega)

mutual
def pT26 : S26 → Nat
  | ⟨_, _, _, _, l⟩ => 2 + l.length + pTs26 l
def pTs26 : List S26 → Nat
  | [] => 0
  | x :: l => pT26 x + pTs26 l
end
mutual
def pN26 : S26 → Nat
  | ⟨_, _, _, _, l⟩ => 1 + pNs26 l
def pNs26 : List S26 → Nat
  | [] => 0
  | x :: l => pN26 x + pNs26 l
end
theorem pT26_mem {l : List S26} {x : S26} (h : x ∈ l) : pT26 x ≤ pTs26 l := by
  induction l with
  | nil => exact absurd h (by simp)
  | cons y l ih =>
    rw [pTs26]
    rcases List.mem_cons.1 h with rfl | h
    · omega
    · have := ih h
      omega
theorem pN26_mem {l : List S26} {x : S26} (h : x ∈ l) : pN26 x ≤ pNs26 l := by
  induction l with
  | nil => exact absurd h (by simp)
  | cons y l ih =>
    rw [pNs26]
    rcases List.mem_cons.1 h with rfl | h
    · omega
    · have := ih h
      omega
theorem pN26_pos (x : S26) : 1 ≤ pN26 x := by
  obtain ⟨a, b, c, d, l⟩ := x
  rw [pN26]
  omega
theorem pNs26_len (l : List S26) : l.length ≤ pNs26 l := by
  induction l with
  | nil => simp
  | cons y l ih =>
    have := pN26_pos y
    rw [pNs26, List.length_cons]
    omega
theorem pNs26_app (l m : List S26) : pNs26 (l ++ m) = pNs26 l + pNs26 m := by
  induction l with
  | nil => simp [pNs26]
  | cons y l ih =>
    rw [List.cons_append, pNs26, pNs26, ih]
    omega
theorem pNs26_take (l : List S26) (i : Nat) (h : i < l.length) : pNs26 (l.take (i + 1)) = pNs26 (l.take i) + pN26 l[i] := by
  rw [List.take_succ_eq_append_getElem h, pNs26_app, pNs26, pNs26]
  omega
theorem pNs26_drop (l : List S26) (i : Nat) (h : i < l.length) : pNs26 (l.drop i) = pN26 l[i] + pNs26 (l.drop (i + 1)) := by
  rw [List.drop_eq_getElem_cons h, pNs26]
theorem pNs26_le (l : List S26) (i : Nat) : pNs26 (l.take i) ≤ pNs26 l := by
  have := pNs26_app (l.take i) (l.drop i)
  rw [List.take_append_drop] at this
  omega
theorem ind26 {P : S26 → Prop} (h : ∀ a b c d l, (∀ x ∈ l, P x) → P ⟨a, b, c, d, l⟩) : ∀ x, P x
  | ⟨a, b, c, d, l⟩ => h a b c d l (fun x hx => ind26 h x)
termination_by x => SizeOf.sizeOf x
decreasing_by
  have := List.sizeOf_lt_of_mem hx
  simp
  omega
theorem rdP26 (l : List S26) (i : Nat) (h : i < l.length) : rd_T26 l (i : Int) = l[i] := by
  simp [rd_T26, List.getD_eq_getElem?_getD, h]

mutual
def cvP : S36 → S26
  | ⟨a, b, c, d, l⟩ => ⟨a, b, c, d, cvPs l⟩
def cvPs : List S36 → List S26
  | [] => []
  | x :: l => cvP x :: cvPs l
end
theorem cvPs_map (l : List S36) : cvPs l = l.map cvP := by
  induction l with
  | nil => rfl
  | cons x l ih => rw [cvPs, ih]; rfl
theorem cvPs_len (l : List S36) : (cvPs l).length = l.length := by rw [cvPs_map]; simp
theorem toPol_at : ∀ (x : S36), pN36 x ≤ 1048577 → ∀ k, pT36 x < k → laws_toPol.f k x.f0 x.f1 x.f2 x.f3 x.f4 = some ((cvP x).f0, (cvP x).f1, (cvP x).f2, (cvP x).f3, (cvP x).f4) := by
  intro x
  induction x using ind36 with
  | _ a b c d l ih =>
  intro hn k hk
  rw [pT36] at hk
  rw [pN36] at hn
  obtain ⟨k, rfl⟩ : ∃ m, k = m + 1 := ⟨k - 1, by omega⟩
  have hl := pNs36_len l
  have hm : (l.map cvP).length = l.length := by simp
  obtain ⟨r, hr, h⟩ := loop_ex (σ := List S26) (L := fun j s i => laws_toPolS.l0 (fun b0 b1 b2 b3 b4 => laws_toPol.f k b0 b1 b2 b3 b4) j l s i) (n := l.length) (K := 0)
    (I := fun s i => s = (l.map cvP).take i ++ List.replicate ((l.map cvP).length - i) z26) (Post := fun _ _ r => r = l.map cvP)
    (fun s hI => ⟨_, rfl, fun k => by
      simp only [laws_toPolS.l0]
      rw [if_neg (not_lt_cast _), hI, ← hm, List.take_length, Nat.sub_self]
      simp⟩)
    (fun s i hi hI => .inr ⟨_, rfl, fun j _ => by
      have hi' : i < (l.map cvP).length := by omega
      have hx := List.getElem_mem hi
      have hT := pT36_mem hx
      have hN := pN36_mem hx
      have e : (⟨(cvP l[i]).f0, (cvP l[i]).f1, (cvP l[i]).f2, (cvP l[i]).f3, (cvP l[i]).f4⟩ : S26) = (l.map cvP)[i] := by rw [List.getElem_map]; generalize cvP l[i] = z; cases z; rfl
      simp only [laws_toPolS.l0]
      rw [if_pos (lt_cast hi), if_pos (nn_cast i), rdP36 _ _ hi, ih l[i] hx (by omega) k (by omega), Option.bind_some, hI, fill_len _ _ _ (by omega), if_pos (lt_cast hi'), wrap_nat1 hi (by omega), e]
      simp only [Int.toNat_natCast]
      rw [fill_set _ _ _ hi'], fun _ h => h⟩) l.length (List.replicate l.length z26) 0 (by omega) (by simp)
  subst hr
  have h2 := h k (by omega)
  simp only [laws_toPol.f, laws_toPolS.f]
  rw [if_pos (by omega), if_pos (by simp; omega)]
  simp only [Int.toNat_natCast]
  refine (congrArg (fun (z : Option (List S26)) => z.bind fun t => some (a, b, c, d, t)) h2).trans ?_
  rw [Option.bind_some, cvP, cvPs_map]
theorem cvP_tree : ∀ x : S36, pT26 (cvP x) = pT36 x ∧ pN26 (cvP x) = pN36 x := by
  intro x
  induction x using ind36 with
  | _ a b c d l ih =>
  have h : pTs26 (cvPs l) = pTs36 l ∧ pNs26 (cvPs l) = pNs36 l := by
    induction l with
    | nil => exact ⟨rfl, rfl⟩
    | cons y l ih2 =>
      obtain ⟨h1, h2⟩ := ih2 (fun x hx => ih x (List.mem_cons_of_mem _ hx))
      obtain ⟨h3, h4⟩ := ih y List.mem_cons_self
      constructor
      · rw [cvPs, pTs26, pTs36, h1, h3]
      · rw [cvPs, pNs26, pNs36, h2, h4]
  constructor
  · rw [cvP, pT26, pT36, h.1, cvPs_len]
  · rw [cvP, pN26, pN36, h.2]

theorem eqPol_at : ∀ (x : S26), pN26 x ≤ 1048577 → ∀ k, pT26 x < k → laws_eqPol.f k x.f0 x.f1 x.f2 x.f3 x.f4 x.f0 x.f1 x.f2 x.f3 x.f4 = some true := by
  intro x
  induction x using ind26 with
  | _ a b c d l ih =>
  intro hn k hk
  rw [pT26] at hk
  rw [pN26] at hn
  obtain ⟨k, rfl⟩ : ∃ m, k = m + 1 := ⟨k - 1, by omega⟩
  have hl := pNs26_len l
  obtain ⟨r, hr, h⟩ := loop_ex (σ := Unit) (L := fun j _ i => laws_eqPolS.l0 (fun b0 b1 b2 b3 b4 b5 b6 b7 b8 b9 => laws_eqPol.f k b0 b1 b2 b3 b4 b5 b6 b7 b8 b9) j l l i) (n := l.length) (K := 0)
    (I := fun _ _ => True) (Post := fun _ _ r => r = true)
    (fun s hI => ⟨true, rfl, fun k => by
      simp only [laws_eqPolS.l0]
      rw [if_neg (not_lt_cast _)]⟩)
    (fun s i hi hI => .inr ⟨(), trivial, fun j _ => by
      have hx := List.getElem_mem hi
      have hT := pT26_mem hx
      have hN := pN26_mem hx
      simp only [laws_eqPolS.l0]
      rw [if_pos (lt_cast hi), if_pos (nn_cast i), if_pos (lt_cast hi), rdP26 _ _ hi, ih l[i] hx (by omega) k (by omega), Option.bind_some, if_pos rfl, wrap_nat1 hi (by omega)], fun _ h => h⟩) l.length () 0 (by omega) trivial
  subst hr
  have h2 := h k (by omega)
  simp only [laws_eqPol.f, laws_eqPolS.f, if_true]
  exact congrArg (fun (z : Option Bool) => z.bind fun t => if t = true then some true else some false) h2

def inB (a b c : Int) : Bool := decide (b ≤ a) && decide (a ≤ c)
theorem impl_within_eq (a b c : Int) : impl_within.f a b c = some (inB a b c) := by
  unfold impl_within.f inB
  by_cases h : a ≥ b
  · rw [if_pos h]
    simp [show b ≤ a from h]
  · rw [if_neg h]
    simp [show ¬ b ≤ a from h]

theorem spec_l1In_eq (a b c : Int) : spec_l1In.f a b c = some (inB a b c) := by
  unfold spec_l1In.f inB
  by_cases h : a ≥ b
  · rw [if_pos h]
    simp [show b ≤ a from h]
  · rw [if_neg h]
    simp [show ¬ b ≤ a from h]

theorem wrap_idx {i n : Int} (h0 : 0 ≤ i) (h : i < n) (hn : n ≤ 140737488351232) : wrap64 (i + 1) = i + 1 := by
  unfold wrap64
  omega
theorem wrap_bt (s : ByteArray) (i : Int) : wrap64 (bt s i) = bt s i := by
  have := bt_range s i
  unfold wrap64
  omega

theorem name_loops (s : ByteArray) (hn : (s.size : Int) ≤ 140737488351232) (d : Nat) : ∀ (i : Int), 0 ≤ i → (s.size : Int) - i ≤ d →
    ∃ r, (∀ k, d < k → spec_NameOk.l0 k s i = some r) ∧ ∀ k, d < k → impl_NameOk.l0 k s i = some r := by
  induction d with
  | zero =>
    intro i h0 hd
    refine ⟨inB s.size 1 8, fun k hk => ?_, fun k hk => ?_⟩ <;>
    · obtain ⟨k, rfl⟩ : ∃ m, k = m + 1 := ⟨k - 1, by omega⟩
      simp only [spec_NameOk.l0, impl_NameOk.l0, spec_l1In_eq, impl_within_eq, Option.bind_some]
      rw [if_neg (by omega)]
  | succ d ih =>
    intro i h0 hd
    by_cases hlt : i < (s.size : Int)
    · obtain ⟨r, hs, hi⟩ := ih (i + 1) (by omega) (by omega)
      refine ⟨if bt s i < 97 then false else if bt s i > 122 then false else r, fun k hk => ?_, fun k hk => ?_⟩
      · obtain ⟨k, rfl⟩ : ∃ m, k = m + 1 := ⟨k - 1, by omega⟩
        simp only [spec_NameOk.l0]
        rw [if_pos hlt, if_pos h0, wrap_idx h0 hlt hn, hs k (by omega)]
        (repeat' split) <;> rfl
      · obtain ⟨k, rfl⟩ : ∃ m, k = m + 1 := ⟨k - 1, by omega⟩
        simp only [impl_NameOk.l0]
        rw [if_pos hlt, if_pos h0, wrap_idx h0 hlt hn, hi k (by omega)]
        (repeat' split) <;> rfl
    · refine ⟨inB s.size 1 8, fun k hk => ?_, fun k hk => ?_⟩ <;>
      · obtain ⟨k, rfl⟩ : ∃ m, k = m + 1 := ⟨k - 1, by omega⟩
        simp only [spec_NameOk.l0, impl_NameOk.l0, spec_l1In_eq, impl_within_eq, Option.bind_some]
        rw [if_neg hlt]
theorem name_both (s : ByteArray) (hn : s.size ≤ 140737488351232) : ∃ r, Ev (fun k => spec_NameOk.f k s) r ∧ Ev (fun k => impl_NameOk.f k s) r := by
  obtain ⟨r, hs, hi⟩ := name_loops s (by omega) s.size 0 (by omega) (by omega)
  exact ⟨r, ⟨s.size + 1, fun k hk => hs k (by omega)⟩, ⟨s.size + 1, fun k hk => hi k (by omega)⟩⟩

def plainC (c : Int) : Bool := inB c 32 126 && !decide (c = 34)
theorem plainC_iff (c : Int) : plainC c = true ↔ (32 ≤ c ∧ c ≤ 126) ∧ c ≠ 34 := by simp [plainC, inB]
theorem plain_spec (c : Int) (r : Bool) : (if c < 32 then some false else (if c > 126 then some false else (if c = 34 then some false else some r))) = some (if plainC c then r else false) := by
  by_cases h : plainC c = true
  · have h' := (plainC_iff c).1 h
    rw [if_pos h, if_neg (by omega), if_neg (by omega), if_neg (by omega)]
  · have h' : ¬ ((32 ≤ c ∧ c ≤ 126) ∧ c ≠ 34) := fun k => h ((plainC_iff c).2 k)
    rw [if_neg h]
    (repeat' split) <;> first | rfl | (exfalso; omega)
theorem plain_impl (c : Int) (r : Bool) : (if inB c 32 126 = true then (if c = 34 then some false else some r) else some false) = some (if plainC c then r else false) := by
  unfold plainC
  by_cases h1 : inB c 32 126 = true <;> by_cases h2 : c = 34 <;> simp [h1, h2]
theorem plain_loops (s : ByteArray) (hn : (s.size : Int) ≤ 140737488351232) (d : Nat) : ∀ (i : Int), 0 ≤ i → (s.size : Int) - i ≤ d →
    ∃ r, (∀ k, d < k → spec_PlainOk.l0 k s i = some r) ∧ ∀ k, d < k → impl_PlainOk.l0 k s i = some r := by
  induction d with
  | zero =>
    intro i h0 hd
    refine ⟨decide ((s.size : Int) ≤ 20), fun k hk => ?_, fun k hk => ?_⟩ <;>
    · obtain ⟨k, rfl⟩ : ∃ m, k = m + 1 := ⟨k - 1, by omega⟩
      simp only [spec_PlainOk.l0, impl_PlainOk.l0]
      rw [if_neg (by omega)]
  | succ d ih =>
    intro i h0 hd
    by_cases hlt : i < (s.size : Int)
    · obtain ⟨r, hs, hi⟩ := ih (i + 1) (by omega) (by omega)
      refine ⟨if plainC (bt s i) then r else false, fun k hk => ?_, fun k hk => ?_⟩
      · obtain ⟨k, rfl⟩ : ∃ m, k = m + 1 := ⟨k - 1, by omega⟩
        simp only [spec_PlainOk.l0]
        rw [if_pos hlt, if_pos h0, wrap_idx h0 hlt hn, hs k (by omega)]
        exact plain_spec _ _
      · obtain ⟨k, rfl⟩ : ∃ m, k = m + 1 := ⟨k - 1, by omega⟩
        simp only [impl_PlainOk.l0]
        rw [if_pos hlt, if_pos h0, wrap_idx h0 hlt hn, hi k (by omega), wrap_bt, impl_within_eq, Option.bind_some]
        exact plain_impl _ _
    · refine ⟨decide ((s.size : Int) ≤ 20), fun k hk => ?_, fun k hk => ?_⟩ <;>
      · obtain ⟨k, rfl⟩ : ∃ m, k = m + 1 := ⟨k - 1, by omega⟩
        simp only [spec_PlainOk.l0, impl_PlainOk.l0]
        rw [if_neg hlt]
theorem plain_both (s : ByteArray) (hn : s.size ≤ 140737488351232) : ∃ r, Ev (fun k => spec_PlainOk.f k s) r ∧ Ev (fun k => impl_PlainOk.f k s) r := by
  obtain ⟨r, hs, hi⟩ := plain_loops s (by omega) s.size 0 (by omega) (by omega)
  exact ⟨r, ⟨s.size + 1, fun k hk => hs k (by omega)⟩, ⟨s.size + 1, fun k hk => hi k (by omega)⟩⟩

def headv (a b : Int) (c d : ByteArray) (n : Int) (x y : Bool) : Bool :=
  if a = 1 then decide (b = 0) && ((c.toList == []) && ((d.toList == []) && (n == 0))) else
  if a = 2 then decide (b = 0) && ((c.toList == []) && ((d.toList == []) && (n == 0))) else
  if a = 6 then decide (b = 0) && ((c.toList == []) && ((d.toList == []) && (n == 0))) else
  if a = 3 then inB b 0 2147483647 && ((c.toList == []) && ((d.toList == []) && (n == 0))) else
  if a = 4 then decide (b = 0) && (x && (y && (n == 0))) else
  if a = 5 then inB b 0 2147483647 && (x && ((d.toList == []) && (n == 0))) else
  if a = 7 then decide (b = 0) && ((c.toList == []) && ((d.toList == []) && inB n 1 4)) else
  if a = 8 then decide (b = 0) && ((c.toList == []) && ((d.toList == []) && inB n 1 4)) else
  if a = 9 then decide (b = 0) && ((c.toList == []) && ((d.toList == []) && (n == 1))) else false
theorem head_bothV (a b : Int) (c d : ByteArray) (l : List S26) (hc : c.size ≤ 1048576) (hd : d.size ≤ 1048576) :
    ∃ x y, ∀ k, 1048580 < k → spec_l5One.f k a b c d l = some (headv a b c d l.length x y) ∧ impl_polHeadOk.f k a b c d l = some (headv a b c d l.length x y) := by
  obtain ⟨x, hx1, hx2⟩ := name_loops c (by omega) c.size 0 (by omega) (by omega)
  obtain ⟨y, hy1, hy2⟩ := plain_loops d (by omega) d.size 0 (by omega) (by omega)
  refine ⟨x, y, fun k hk => ?_⟩
  obtain ⟨k, rfl⟩ : ∃ m, k = m + 1 + 1 + 1 := ⟨k - 3, by omega⟩
  have e1 : spec_NameOk.f (k + 1 + 1) c = some x := hx1 _ (by omega)
  have e2 : impl_NameOk.f (k + 1) c = some x := hx2 _ (by omega)
  have e3 : spec_PlainOk.f (k + 1 + 1) d = some y := hy1 _ (by omega)
  have e4 : impl_PlainOk.f (k + 1) d = some y := hy2 _ (by omega)
  have key : (a = 1 ∨ a = 2 ∨ a = 6 ∨ a = 9) ∨ a = 3 ∨ a = 4 ∨ a = 5 ∨ (a = 7 ∨ a = 8) ∨ (a ≠ 1 ∧ a ≠ 2 ∧ a ≠ 6 ∧ a ≠ 9 ∧ a ≠ 3 ∧ a ≠ 4 ∧ a ≠ 5 ∧ a ≠ 7 ∧ a ≠ 8) := by omega
  rcases key with (rfl | rfl | rfl | rfl) | rfl | rfl | rfl | (rfl | rfl) | ⟨n1, n2, n6, n9, n3, n4, n5, n7, n8⟩
  case inl.inl | inl.inr.inl | inl.inr.inr.inl | inl.inr.inr.inr | inr.inr.inr.inr.inl.inl | inr.inr.inr.inr.inl.inr =>
    by_cases hb : b = 0 <;> by_cases hc : c.toList = [] <;> by_cases hd : d.toList = [] <;>
      simp [spec_l5One.f, spec_l5One.j0, impl_polHeadOk.f, impl_polHeadOk.j0, impl_polHeadOk.j1, impl_polHeadOk.j2, headv, spec_l1In_eq, impl_within_eq, hb, hc, hd]
  case inr.inl =>
    cases hb : inB b 0 2147483647 <;> by_cases hb0 : b = 0 <;> by_cases hc : c.toList = [] <;> by_cases hd : d.toList = [] <;>
      simp_all [spec_l5One.f, spec_l5One.j0, impl_polHeadOk.f, impl_polHeadOk.j0, impl_polHeadOk.j1, impl_polHeadOk.j2, headv, spec_l1In_eq, impl_within_eq]
  case inr.inr.inl =>
    cases x <;> cases y <;> by_cases hb : b = 0 <;> by_cases hc : c.toList = [] <;>
      simp [spec_l5One.f, spec_l5One.j0, impl_polHeadOk.f, impl_polHeadOk.j0, impl_polHeadOk.j1, impl_polHeadOk.j2, headv, spec_l1In_eq, impl_within_eq, hb, hc, e1, e2, e3, e4]
  case inr.inr.inr.inl =>
    cases hb : inB b 0 2147483647 <;> cases x <;> by_cases hb0 : b = 0 <;> by_cases hc : c.toList = [] <;> by_cases hd : d.toList = [] <;>
      simp_all [spec_l5One.f, spec_l5One.j0, impl_polHeadOk.f, impl_polHeadOk.j0, impl_polHeadOk.j1, impl_polHeadOk.j2, headv, spec_l1In_eq, impl_within_eq]
  case inr.inr.inr.inr.inr =>
    have i1 : (a == 1) = false := by simpa using n1
    have i2 : (a == 2) = false := by simpa using n2
    have i6 : (a == 6) = false := by simpa using n6
    have i7 : (a == 7) = false := by simpa using n7
    have i8 : (a == 8) = false := by simpa using n8
    by_cases hb : b = 0 <;> by_cases hc : c.toList = [] <;>
      simp [spec_l5One.f, spec_l5One.j0, impl_polHeadOk.f, impl_polHeadOk.j0, impl_polHeadOk.j1, impl_polHeadOk.j2, headv, n1, n2, n3, n4, n5, n6, n7, n8, n9, i1, i2, i6, i7, i8, hb, hc]
theorem head_both (a b : Int) (c d : ByteArray) (l : List S26) (hc : c.size ≤ 1048576) (hd : d.size ≤ 1048576) :
    ∃ r, ∀ k, 1048580 < k → spec_l5One.f k a b c d l = some r ∧ impl_polHeadOk.f k a b c d l = some r := by
  obtain ⟨x, y, h⟩ := head_bothV a b c d l hc hd
  exact ⟨_, h⟩

theorem spec_PolCount_at : ∀ (x : S26), pN26 x ≤ 1048577 → ∀ k, pT26 x < k → spec_PolCount.f k x.f0 x.f1 x.f2 x.f3 x.f4 = some (pN26 x : Int) := by
  intro x
  induction x using ind26 with
  | _ a b c d l ih =>
  intro hn k hk
  rw [pT26] at hk
  rw [pN26] at hn ⊢
  obtain ⟨k, rfl⟩ : ∃ m, k = m + 1 := ⟨k - 1, by omega⟩
  have hl := pNs26_len l
  obtain ⟨r, hr, h⟩ := loop_ex (σ := Int) (L := fun j s i => spec_PolCount.l0 j s i a b c d l) (n := l.length) (K := pTs26 l + 1)
    (I := fun s i => s = 1 + (pNs26 (l.take i) : Int)) (Post := fun _ _ r => r = 1 + (pNs26 l : Int))
    (fun s hI => ⟨_, rfl, fun k => by
      simp only [spec_PolCount.l0]
      rw [if_neg (not_lt_cast _), hI, List.take_length]⟩)
    (fun s i hi hI => .inr ⟨_, rfl, fun j hj => by
      have hx := List.getElem_mem hi
      have hT := pT26_mem hx
      have hN := pN26_mem hx
      have hk1 := pNs26_take l i hi
      have hk2 := pNs26_le l (i + 1)
      simp only [spec_PolCount.l0]
      rw [if_pos (lt_cast hi), if_pos (nn_cast i), rdP26 _ _ hi, ih l[i] hx (by omega) j (by omega), Option.bind_some, wrap_nat1 hi (by omega), hI, wrap_of (by omega) (by omega), hk1]
      congr 1
      push_cast
      omega, fun _ h => h⟩) l.length 1 0 (by omega) (by simp [pNs26])
  subst hr
  have h2 := h k (by omega)
  simp only [spec_PolCount.f]
  refine h2.trans ?_
  push_cast
  rfl

mutual
def fitI : S26 → Prop
  | ⟨_, _, c, d, l⟩ => c.size ≤ 1048576 ∧ d.size ≤ 1048576 ∧ fitIs l
def fitIs : List S26 → Prop
  | [] => True
  | x :: l => fitI x ∧ fitIs l
end
theorem fitIs_iff (l : List S26) : fitIs l ↔ ∀ x ∈ l, fitI x := by
  induction l with
  | nil => simp [fitIs]
  | cons x l ih => simp [fitIs, ih]
theorem polOk_tree : ∀ (x : S26), pN26 x ≤ 1048577 → fitI x → ∀ n : Int, 0 ≤ n → n ≤ 5 → ∃ (q : Bool) (p : Int),
    (∀ k, 2 * pT26 x + 1048600 < k → spec_l5Deep.f k x.f0 x.f1 x.f2 x.f3 x.f4 n = some q) ∧
    (∀ k, 2 * pT26 x + 1048600 < k → impl_polParts.f k x.f0 x.f1 x.f2 x.f3 x.f4 n = some p) ∧
    1 ≤ p ∧ p ≤ 13 ∧ (p ≤ 12 → q = true ∧ p = pN26 x) ∧ (q = true → (pN26 x : Int) ≤ 12 → p = pN26 x) := by
  intro x
  induction x using ind26 with
  | _ a b c d l ih =>
  intro hn hf n hn0 hn5
  rw [fitI] at hf
  obtain ⟨hfc, hfd, hfl⟩ := hf
  rw [pN26] at hn
  simp only [pN26, pT26]
  have hl := pNs26_len l
  by_cases c1 : n > 4
  · refine ⟨false, 13, fun k hk => ?_, fun k hk => ?_, by omega, by omega, by omega, by simp⟩
    · obtain ⟨k, rfl⟩ : ∃ m, k = m + 1 + 1 := ⟨k - 2, by omega⟩
      simp only [spec_l5Deep.f, spec_l5Deep.j0]
      rw [if_pos c1, if_pos (by simp)]
    · obtain ⟨k, rfl⟩ : ∃ m, k = m + 1 + 1 := ⟨k - 2, by omega⟩
      simp only [impl_polParts.f, impl_polParts.j0]
      rw [if_pos c1, if_pos (by simp)]
  obtain ⟨h, hh⟩ := head_both a b c d l hfc hfd
  have w1 : wrap64 (n + 1) = n + 1 := wrap_of (by omega) (by omega)
  cases h with
  | false =>
    refine ⟨false, 13, fun k hk => ?_, fun k hk => ?_, by omega, by omega, by omega, by simp⟩
    · obtain ⟨k, rfl⟩ : ∃ m, k = m + 1 + 1 := ⟨k - 2, by omega⟩
      simp only [spec_l5Deep.f, spec_l5Deep.j0]
      rw [if_neg c1, (hh (k + 1) (by omega)).1, Option.bind_some, if_pos (by simp)]
    · obtain ⟨k, rfl⟩ : ∃ m, k = m + 1 + 1 := ⟨k - 2, by omega⟩
      simp only [impl_polParts.f, impl_polParts.j0]
      rw [if_neg c1, (hh (k + 1) (by omega)).2, Option.bind_some, if_pos (by simp)]
  | true =>
    -- all below are right
    obtain ⟨q, hq, hsp⟩ := loop_ex (σ := Unit) (L := fun j _ i => spec_l5Deep.l0 j n i a b c d l) (n := l.length) (K := 2 * pTs26 l + 1048601)
      (I := fun _ _ => True) (Post := fun _ i (r : Bool) => r = true ↔ ∀ j (hj : j < l.length), i ≤ j → ∀ k, 2 * pT26 l[j] + 1048600 < k → spec_l5Deep.f k l[j].f0 l[j].f1 l[j].f2 l[j].f3 l[j].f4 (n + 1) = some true)
      (fun s hI => ⟨true, ⟨fun _ j hj hij => by omega, fun _ => rfl⟩, fun k => by
        simp only [spec_l5Deep.l0]
        rw [if_neg (not_lt_cast _)]⟩)
      (fun s i hi hI => by
        have hx := List.getElem_mem hi
        have hT := pT26_mem hx
        have hN := pN26_mem hx
        obtain ⟨q, p, hq, hp, _⟩ := ih l[i] hx (by omega) ((fitIs_iff l).1 hfl _ hx) (n + 1) (by omega) (by omega)
        cases q with
        | false =>
          refine .inl ⟨false, ⟨fun hz => absurd hz (by simp), fun hz => ?_⟩, fun k hk => ?_⟩
          · have := hz i hi (Nat.le_refl _) (2 * pT26 l[i] + 1048601) (by omega)
            rw [hq _ (by omega)] at this
            exact absurd this (by simp)
          · simp only [spec_l5Deep.l0]
            rw [if_pos (lt_cast hi), if_pos (nn_cast i), rdP26 _ _ hi, w1, hq k (by omega), Option.bind_some, if_neg (by decide)]
        | true =>
          refine .inr ⟨(), trivial, fun k hk => ?_, fun r hr => ⟨fun hz j hj hij => ?_, fun hz => hr.2 fun j hj hij => hz j hj (by omega)⟩⟩
          · simp only [spec_l5Deep.l0]
            rw [if_pos (lt_cast hi), if_pos (nn_cast i), rdP26 _ _ hi, w1, hq k (by omega), Option.bind_some, if_pos rfl, wrap_nat1 hi (by omega)]
          · rcases Nat.lt_or_ge i j with hlt | hge
            · exact hr.1 hz j hj hlt
            · obtain rfl : i = j := by omega
              exact hq) l.length () 0 (by omega) trivial
    obtain ⟨p, hp, him⟩ := loop_ex (σ := Int) (L := fun j s i => impl_polParts.l0 j n s l l.length i) (n := l.length) (K := 2 * pTs26 l + 1048601)
      (I := fun s _ => 1 ≤ s ∧ s ≤ 12) (Post := fun s i r => s ≤ r ∧ r ≤ 13 ∧ (r ≤ 12 → r = s + pNs26 (l.drop i) ∧ ∀ j (hj : j < l.length), i ≤ j → ∀ k, 2 * pT26 l[j] + 1048600 < k → spec_l5Deep.f k l[j].f0 l[j].f1 l[j].f2 l[j].f3 l[j].f4 (n + 1) = some true) ∧
        ((∀ j (hj : j < l.length), i ≤ j → ∀ k, 2 * pT26 l[j] + 1048600 < k → spec_l5Deep.f k l[j].f0 l[j].f1 l[j].f2 l[j].f3 l[j].f4 (n + 1) = some true) → s + (pNs26 (l.drop i) : Int) ≤ 12 → r = s + pNs26 (l.drop i)))
      (fun s hI => ⟨s, ⟨by omega, by omega, fun _ => ⟨by rw [List.drop_length]; simp [pNs26], fun j hj hij => by omega⟩, fun _ _ => by rw [List.drop_length]; simp [pNs26]⟩, fun k => by
        simp only [impl_polParts.l0]
        rw [if_neg (not_lt_cast _)]⟩)
      (fun s i hi hI => by
        have hx := List.getElem_mem hi
        have hT := pT26_mem hx
        have hN := pN26_mem hx
        have hdr := pNs26_drop l i hi
        obtain ⟨q, p, hq, hp, p1, p13, hp1, hp2⟩ := ih l[i] hx (by omega) ((fitIs_iff l).1 hfl _ hx) (n + 1) (by omega) (by omega)
        have w2 : wrap64 (s + p) = s + p := wrap_of (by omega) (by omega)
        by_cases c2 : s + p ≥ 13
        · refine .inl ⟨13, ⟨by omega, by omega, by omega, fun hz hz2 => ?_⟩, fun k hk => ?_⟩
          · have hq1 := hz i hi (Nat.le_refl _) (2 * pT26 l[i] + 1048601) (by omega)
            rw [hq _ (by omega)] at hq1
            have := hp2 (Option.some.inj hq1) (by omega)
            omega
          · simp only [impl_polParts.l0]
            rw [if_pos (lt_cast hi), if_pos (nn_cast i), if_pos (lt_cast hi), rdP26 _ _ hi, w1, hp k (by omega), Option.bind_some, w2, if_pos c2]
        · obtain ⟨q1, q2⟩ := hp1 (by omega)
          refine .inr ⟨s + p, ⟨by omega, by omega⟩, fun k hk => ?_, fun r hr => ⟨by omega, by omega, fun hz => ⟨?_, fun j hj hij => ?_⟩, fun hz hz2 => ?_⟩⟩
          · simp only [impl_polParts.l0]
            rw [if_pos (lt_cast hi), if_pos (nn_cast i), if_pos (lt_cast hi), rdP26 _ _ hi, w1, hp k (by omega), Option.bind_some, w2, if_neg c2, wrap_nat1 hi (by omega)]
          · have := (hr.2.2.1 hz).1
            omega
          · rcases Nat.lt_or_ge i j with hlt | hge
            · exact (hr.2.2.1 hz).2 j hj hlt
            · obtain rfl : i = j := by omega
              rw [q1] at hq
              exact hq
          · have := hr.2.2.2 (fun j hj hij => hz j hj (by omega)) (by omega)
            omega) l.length 1 0 (by omega) ⟨by omega, by omega⟩
    rw [List.drop_zero] at hp
    obtain ⟨p1, p2, p3, p4⟩ := hp
    refine ⟨q, p, fun k hk => ?_, fun k hk => ?_, p1, p2, fun hz => ⟨hq.2 (p3 hz).2, ?_⟩, fun hz hz2 => ?_⟩
    · obtain ⟨k, rfl⟩ : ∃ m, k = m + 1 + 1 := ⟨k - 2, by omega⟩
      simp only [spec_l5Deep.f, spec_l5Deep.j0]
      rw [if_neg c1, (hh (k + 1) (by omega)).1, Option.bind_some, if_neg (by decide)]
      exact hsp k (by omega)
    · obtain ⟨k, rfl⟩ : ∃ m, k = m + 1 + 1 := ⟨k - 2, by omega⟩
      simp only [impl_polParts.f, impl_polParts.j0]
      rw [if_neg c1, (hh (k + 1) (by omega)).2, Option.bind_some, if_neg (by decide)]
      exact him k (by omega)
    · have := (p3 hz).1
      push_cast
      omega
    · have := p4 (hq.1 hz) (by push_cast at hz2; omega)
      push_cast
      omega
theorem polOk_both (x : S26) (hn : pN26 x ≤ 1048577) (hf : fitI x) : ∃ r, ∀ k, 2 * pT26 x + 1048600 < k → spec_PolOk.f k x.f0 x.f1 x.f2 x.f3 x.f4 = some r ∧ impl_PolOk.f k x.f0 x.f1 x.f2 x.f3 x.f4 = some r := by
  obtain ⟨q, p, hq, hp, p1, p2, p3, p4⟩ := polOk_tree x hn hf 1 (by omega) (by omega)
  refine ⟨decide (p ≤ 12), fun k hk => ⟨?_, ?_⟩⟩
  · simp only [spec_PolOk.f, spec_PolCount_at x hn k (by omega), hq k hk, Option.bind_some]
    by_cases c : (pN26 x : Int) ≤ 12
    · rw [if_pos c]
      cases q with
      | true =>
        have := p4 rfl c
        rw [decide_eq_true (by omega)]
      | false =>
        rw [decide_eq_false]
        intro hz
        exact absurd (p3 hz).1 (by simp)
    · rw [if_neg c, decide_eq_false]
      intro hz
      have := (p3 hz).2
      omega
  · simp only [impl_PolOk.f, hp k hk, Option.bind_some]

theorem fit_conv : ∀ x : S36, fitP x → fitI (cvP x) := by
  intro x
  induction x using ind36 with
  | _ a b c d l ih =>
  intro h
  rw [fitP] at h
  rw [cvP, fitI, cvPs_map]
  refine ⟨h.1, h.2.1, (fitIs_iff _).2 fun y hy => ?_⟩
  obtain ⟨z, hz, rfl⟩ := List.mem_map.1 hy
  exact ih z hz ((fitPs_iff l).1 h.2.2 z hz)

mutual
/-- All kinds are known ones, and what is told as a number is one. -/
def okI : S26 → Prop
  | ⟨a, b, _, _, l⟩ => (1 ≤ a ∧ a ≤ 9 ∧ (a = 3 ∨ a = 5 → 0 ≤ b ∧ b ≤ 2147483647)) ∧ okIs l
def okIs : List S26 → Prop
  | [] => True
  | x :: l => okI x ∧ okIs l
end
theorem okIs_iff (l : List S26) : okIs l ↔ ∀ x ∈ l, okI x := by
  induction l with
  | nil => simp [okIs]
  | cons x l ih => simp [okIs, ih]
theorem headv_true {a b : Int} {c d : ByteArray} {n : Int} {x y : Bool} (h : headv a b c d n x y = true) : 1 ≤ a ∧ a ≤ 9 ∧ (a = 3 ∨ a = 5 → 0 ≤ b ∧ b ≤ 2147483647) := by
  unfold headv at h
  have hB : inB b 0 2147483647 = true → 0 ≤ b ∧ b ≤ 2147483647 := by
    intro z
    simpa [inB] using z
  by_cases h1 : a = 1
  · exact ⟨by omega, by omega, fun z => by omega⟩
  by_cases h2 : a = 2
  · exact ⟨by omega, by omega, fun z => by omega⟩
  by_cases h6 : a = 6
  · exact ⟨by omega, by omega, fun z => by omega⟩
  rw [if_neg h1, if_neg h2, if_neg h6] at h
  by_cases h3 : a = 3
  · rw [if_pos h3, Bool.and_eq_true] at h
    exact ⟨by omega, by omega, fun _ => hB h.1⟩
  rw [if_neg h3] at h
  by_cases h4 : a = 4
  · exact ⟨by omega, by omega, fun z => by omega⟩
  rw [if_neg h4] at h
  by_cases h5 : a = 5
  · rw [if_pos h5, Bool.and_eq_true] at h
    exact ⟨by omega, by omega, fun _ => hB h.1⟩
  rw [if_neg h5] at h
  by_cases h7 : a = 7
  · exact ⟨by omega, by omega, fun z => by omega⟩
  by_cases h8 : a = 8
  · exact ⟨by omega, by omega, fun z => by omega⟩
  by_cases h9 : a = 9
  · exact ⟨by omega, by omega, fun z => by omega⟩
  rw [if_neg h7, if_neg h8, if_neg h9] at h
  cases h
theorem deep_ok : ∀ (x : S26), pN26 x ≤ 1048577 → fitI x → ∀ (n : Int) (k : Nat), 2 * pT26 x + 1048600 < k → spec_l5Deep.f k x.f0 x.f1 x.f2 x.f3 x.f4 n = some true → okI x := by
  intro x
  induction x using ind26 with
  | _ a b c d l ih =>
  intro hn hf n k hk h
  rw [fitI] at hf
  obtain ⟨hfc, hfd, hfl⟩ := hf
  rw [pN26] at hn
  rw [pT26] at hk
  have hl := pNs26_len l
  obtain ⟨k, rfl⟩ : ∃ m, k = m + 1 + 1 := ⟨k - 2, by omega⟩
  simp only [spec_l5Deep.f] at h
  by_cases c1 : n > 4
  · rw [if_pos c1] at h
    simp only [spec_l5Deep.j0] at h
    rw [if_pos trivial] at h
    cases h
  rw [if_neg c1] at h
  obtain ⟨p, q, hh⟩ := head_bothV a b c d l hfc hfd
  rw [(hh (k + 1) (by omega)).1, Option.bind_some] at h
  simp only [spec_l5Deep.j0] at h
  cases hv : headv a b c d l.length p q with
  | false =>
    rw [hv, if_pos (by decide)] at h
    cases h
  | true =>
    rw [hv, if_neg (by decide)] at h
    rw [okI]
    refine ⟨headv_true hv, (okIs_iff l).2 ?_⟩
    have key : ∀ (e i m : Nat), i + e = l.length → 2 * pTs26 l + 1048601 + e < m → spec_l5Deep.l0 m n (i : Int) a b c d l = some true → ∀ j (hj : j < l.length), i ≤ j → okI l[j] := by
      intro e
      induction e with
      | zero => intro i m hi hm _ j hj hij; omega
      | succ e ihe =>
        intro i m hi hm hz j hj hij
        have hil : i < l.length := by omega
        have hx := List.getElem_mem hil
        have hT := pT26_mem hx
        have hN := pN26_mem hx
        obtain ⟨m, rfl⟩ : ∃ q, m = q + 1 := ⟨m - 1, by omega⟩
        simp only [spec_l5Deep.l0] at hz
        rw [if_pos (lt_cast hil), if_pos (nn_cast i), rdP26 _ _ hil] at hz
        obtain ⟨t, ht, hz⟩ := Option.bind_eq_some_iff.mp hz
        cases t with
        | false =>
          rw [if_neg (by decide)] at hz
          cases hz
        | true =>
          rw [if_pos rfl, wrap_nat1 hil (by omega)] at hz
          rcases Nat.lt_or_ge i j with hlt | hge
          · exact ihe (i + 1) m (by omega) (by omega) (by rw [Int.natCast_add]; exact hz) j hj hlt
          · obtain rfl : i = j := by omega
            exact ih l[i] hx (by omega) ((fitIs_iff l).1 hfl _ hx) (wrap64 (n + 1)) m (by omega) ht
    intro y hy
    obtain ⟨j, hj, rfl⟩ := List.getElem_of_mem hy
    exact key l.length 0 k (by omega) (by omega) h j hj (by omega)
theorem polOk_kinds (x : S26) (hn : pN26 x ≤ 1048577) (hf : fitI x) (k : Nat) (hk : 2 * pT26 x + 1048600 < k) (h : spec_PolOk.f k x.f0 x.f1 x.f2 x.f3 x.f4 = some true) : okI x := by
  unfold spec_PolOk.f at h
  obtain ⟨t, _, h⟩ := Option.bind_eq_some_iff.mp h
  by_cases c : t ≤ 12
  · rw [if_pos c] at h
    obtain ⟨q, hq, h⟩ := Option.bind_eq_some_iff.mp h
    obtain rfl := Option.some.inj h
    exact deep_ok x hn hf 1 k hk hq
  · rw [if_neg c] at h
    cases h

def dec (u : Nat) : ByteArray := ⟨(Lib.decDigits u).toArray⟩
theorem dec_one {u : Nat} (h : u < 10) : dec u = strOfNums [48 + (u : Int)] := by
  have e : (48 + (u : Int)).toNat = 48 + u := by omega
  unfold dec strOfNums
  rw [Lib.decDigits_one h, List.map_cons, List.map_nil, e]
theorem dec_more {u : Nat} (h : ¬ u < 10) (s : ByteArray) : dec u ++ s = dec (u / 10) ++ (strOfNums [48 + ((u % 10 : Nat) : Int)] ++ s) := by
  have e : Lib.decDigits u = Lib.decDigits (u / 10) ++ [UInt8.ofNat (48 + u % 10)] := by rw [Lib.decDigits, dif_neg h]
  have e2 : (48 + ((u % 10 : Nat) : Int)).toNat = 48 + u % 10 := by omega
  apply ByteArray.ext
  simp only [ByteArray.data_append]
  unfold dec strOfNums
  rw [e]
  simp only [List.map_cons, List.map_nil, e2]
  apply Array.ext'
  simp
theorem dec_size (u : Nat) : (dec u).size = Lib.nDigits u := by
  unfold dec
  rw [← Lib.decDigits_length]
  simp [ByteArray.size]
theorem nDigits_le (u : Nat) (h : u < 10000000000000000000) : Lib.nDigits u ≤ 19 := by
  have key : ∀ (j u : Nat), u < 10 ^ (j + 1) → Lib.nDigits u ≤ j + 1 := by
    intro j
    induction j with
    | zero => intro u h; rw [Lib.nDigits_small (by omega)]; omega
    | succ j ih =>
      intro u h
      by_cases hu : u < 10
      · rw [Lib.nDigits_small hu]; omega
      · rw [Lib.nDigits_big hu]
        have := ih (u / 10) (by rw [Nat.pow_succ] at h; omega)
        omega
  exact key 18 u (by omega)
/-- What the reference's text of a number is, behind its digits. -/
def signed (n : Int) (s : ByteArray) : ByteArray := if n < 0 then (⟨#[45]⟩ : ByteArray) ++ s else s
theorem numText_loop (n : Int) : ∀ (u : Nat) (x : Int) (s : ByteArray) (k : Nat), 0 < u → u ≤ 9223372036854775808 → x = (u : Int) ∨ x = -(u : Int) → -9223372036854775808 ≤ x → x ≤ 9223372036854775807 → Lib.nDigits u + s.size ≤ 1000 → Lib.nDigits u + 1 ≤ k →
    spec_NumText.l0 k n s x = some (signed n (dec u ++ s)) := by
  intro u
  induction u using Nat.strongRecOn with
  | _ u ih =>
    intro x s k hu hb hx h0 h1 hs hk
    obtain ⟨k, rfl⟩ : ∃ q, k = q + 1 := ⟨k - 1, by omega⟩
    have hd : (if Int.tmod x 10 < 0 then wrap64 (-(Int.tmod x 10)) else Int.tmod x 10) = ((u % 10 : Nat) : Int) := by
      rcases hx with rfl | rfl
      · rw [Int.tmod_eq_emod_of_nonneg (by omega), if_neg (by omega)]
        omega
      · rw [Int.neg_tmod, Int.tmod_eq_emod_of_nonneg (by omega)]
        split
        · rw [wrap_of (by omega) (by omega)]
          omega
        · omega
    have hq : wrap64 (Int.tdiv x 10) = (((u / 10 : Nat)) : Int) ∧ x = (u : Int) ∨ wrap64 (Int.tdiv x 10) = -(((u / 10 : Nat)) : Int) ∧ x = -(u : Int) := by
      rcases hx with rfl | rfl
      · left
        rw [Int.tdiv_eq_ediv_of_nonneg (by omega), wrap_of (by omega) (by omega)]
        omega
      · right
        rw [Int.neg_tdiv, Int.tdiv_eq_ediv_of_nonneg (by omega), wrap_of (by omega) (by omega)]
        omega
    have hone : ∀ d : Int, d = ((u % 10 : Nat) : Int) → (wrap64 (48 + d)) % 256 = 48 + ((u % 10 : Nat) : Int) := by
      intro d e
      rw [e, wrap_of (by omega) (by omega)]
      omega
    have hsz : (strOfNums [48 + ((u % 10 : Nat) : Int)]).size = 1 := by rw [strOfNums_size]; rfl
    have hnd : 1 ≤ Lib.nDigits u := Lib.nDigits_pos u
    have hround : spec_NumText.l0 (k + 1) n s x = spec_NumText.l0 k n (strOfNums [48 + ((u % 10 : Nat) : Int)] ++ s) (wrap64 (Int.tdiv x 10)) := by
      simp only [spec_NumText.l0, Option.bind_some]
      rw [if_neg (by rcases hx with rfl | rfl <;> omega)]
      by_cases hneg : Int.tmod x 10 < 0
      · rw [if_pos hneg] at hd
        rw [if_pos hneg, hone _ hd, if_pos (by rw [hsz]; omega)]
      · rw [if_neg hneg] at hd
        rw [if_neg hneg, hone _ hd, if_pos (by rw [hsz]; omega)]
    rw [hround]
    by_cases h10 : u < 10
    · have hz : wrap64 (Int.tdiv x 10) = 0 := by omega
      rw [hz]
      obtain ⟨k, rfl⟩ : ∃ q, k = q + 1 := ⟨k - 1, by omega⟩
      simp only [spec_NumText.l0]
      rw [if_pos trivial]
      rw [dec_one h10]
      have e : u % 10 = u := by omega
      rw [e] at hsz ⊢
      unfold signed
      by_cases hn : n < 0
      · rw [if_pos hn, if_pos hn, if_pos (by rw [ByteArray.size_append, hsz]; omega)]
      · rw [if_neg hn, if_neg hn]
    · have hnb := Lib.nDigits_big h10
      rw [dec_more h10]
      have hsz2 : (strOfNums [48 + ((u % 10 : Nat) : Int)] ++ s).size = 1 + s.size := by rw [ByteArray.size_append, hsz]
      exact ih (u / 10) (by omega) _ _ k (by omega) (by omega) (by omega) (by omega) (by omega) (by omega) (by omega)
theorem pos_ne {s : ByteArray} (h : 0 < s.size) : s.toList ≠ [] := by
  intro e
  rw [ByteArray.toList_eq] at e
  have h1 := congrArg List.length e
  rw [Array.length_toList] at h1
  have h2 : s.data.size = 0 := h1
  have h3 : s.size = s.data.size := rfl
  omega
def itoaV (n : Int) : ByteArray := ⟨(Lib.itoa n).toArray⟩
theorem empty_append (s : ByteArray) : s ++ (⟨#[]⟩ : ByteArray) = s := by
  apply ByteArray.ext
  simp [ByteArray.data_append]
theorem signed_dec (n : Int) : signed n (dec n.natAbs) = itoaV n := by
  unfold signed itoaV Lib.itoa dec
  by_cases h : n < 0
  · rw [if_pos h, if_pos h]
    apply ByteArray.ext
    simp [ByteArray.data_append]
  · rw [if_neg h, if_neg h]
    have e : n.natAbs = n.toNat := by omega
    rw [e]
theorem spec_NumText_at (n : Int) (h0 : -9223372036854775808 ≤ n) (h1 : n ≤ 9223372036854775807) (k : Nat) (hk : 21 ≤ k) : spec_NumText.f k n = some (itoaV n) := by
  unfold spec_NumText.f
  by_cases hz : n = 0
  · subst hz
    rw [if_pos rfl]
    have e : Lib.itoa 0 = [48] := by
      unfold Lib.itoa
      rw [if_neg (by omega)]
      exact Lib.decDigits_one (by omega)
    unfold itoaV
    rw [e]
  · rw [if_neg hz]
    have h19 := nDigits_le n.natAbs (by omega)
    rw [numText_loop n n.natAbs n ⟨#[]⟩ k (by omega) (by omega) (by omega) h0 h1 (by have e : (⟨#[]⟩ : ByteArray).size = 0 := rfl; rw [e]; omega) (by omega), empty_append, signed_dec]
theorem impl_NumText_at (n : Int) (h0 : -9223372036854775808 ≤ n) (h1 : n ≤ 9223372036854775807) : impl_NumText.f n = some (itoaV n) := by
  simp only [impl_NumText.f, strconv_Itoa.f]
  rw [if_pos h0, if_pos h1]
  rfl
theorem i64_range {x : Int} (h : (Lit.int .i64 x).wf = true) : -9223372036854775808 ≤ x ∧ x ≤ 9223372036854775807 := by
  simp [Lit.wf, IntKind.min, IntKind.max, IntKind.signed, IntKind.bits] at h
  omega

def tAll : ByteArray := ⟨#[97, 108, 108]⟩
def tErr : ByteArray := ⟨#[101, 114, 114]⟩
def tLong : ByteArray := ⟨#[108, 111, 110, 103, 32]⟩
def tText : ByteArray := ⟨#[116, 101, 120, 116, 32]⟩
def tSQ : ByteArray := ⟨#[32, 34]⟩
def tQ : ByteArray := ⟨#[34]⟩
def tNum : ByteArray := ⟨#[110, 117, 109, 32]⟩
def tSp : ByteArray := ⟨#[32]⟩
def tRate : ByteArray := ⟨#[114, 97, 116, 101]⟩
def tAnd : ByteArray := ⟨#[97, 110, 100, 40]⟩
def tOr : ByteArray := ⟨#[111, 114, 40]⟩
def tNot : ByteArray := ⟨#[110, 111, 116, 40]⟩
def tEnd : ByteArray := ⟨#[41]⟩
def tSep : ByteArray := ⟨#[44, 32]⟩
def wordT (a : Int) : ByteArray := if a = 9 then tNot else if a = 8 then tOr else tAnd
def headT (a b : Int) (c d J : ByteArray) : ByteArray :=
  if a = 1 then tAll else if a = 2 then tErr else if a = 3 then tLong ++ itoaV b else if a = 4 then (((tText ++ c) ++ tSQ) ++ d) ++ tQ else if a = 5 then ((tNum ++ c) ++ tSp) ++ itoaV b else if a = 6 then tRate else (wordT a ++ J) ++ tEnd
mutual
def tv : S26 → ByteArray
  | ⟨a, b, c, d, l⟩ => headT a b c d (joinT l)
def joinT : List S26 → ByteArray
  | [] => ⟨#[]⟩
  | x :: l => tv x ++ tailT l
def tailT : List S26 → ByteArray
  | [] => ⟨#[]⟩
  | x :: l => (tSep ++ tv x) ++ tailT l
end
theorem app_assoc' (a b c : ByteArray) : a ++ (b ++ c) = (a ++ b) ++ c := by
  apply ByteArray.ext
  simp only [ByteArray.data_append, Array.append_assoc]
theorem joinT_hd (l : List S26) (h : 0 < l.length) : joinT l = tv l[0] ++ tailT (l.drop (0 + 1)) := by
  cases l with
  | nil => exact absurd h (by simp)
  | cons x l => rw [joinT]; rfl
theorem tailT_data (l : List S26) : (tailT l).data.toList = Lib.joinTail tSep.data.toList ((l.map tv).map (·.data.toList)) := by
  induction l with
  | nil => rfl
  | cons x l ih =>
    rw [tailT, List.map_cons, List.map_cons]
    simp only [ByteArray.data_append, Array.toList_append]
    rw [ih]
    unfold Lib.joinTail
    simp
theorem joinT_data (l : List S26) : Lib.join ((l.map tv).map (·.data.toList)) tSep.data.toList = (joinT l).data.toList := by
  cases l with
  | nil => rfl
  | cons x l =>
    rw [joinT, List.map_cons, List.map_cons, Lib.join_cons, ← tailT_data]
    simp only [ByteArray.data_append, Array.toList_append]
theorem size_data (s : ByteArray) : s.data.toList.length = s.size := by
  rw [Array.length_toList]
  rfl
theorem mk_data (s : ByteArray) : (⟨s.data.toList.toArray⟩ : ByteArray) = s := by
  apply ByteArray.ext
  simp
theorem join_at (l : List S26) (hs : (joinT l).size ≤ 140737488355328) (hl : l.length ≤ 140737488355328) : strings_Join.f (l.map tv) (⟨#[44, 32]⟩ : ByteArray) = some (joinT l) := by
  unfold strings_Join.f
  have e : Lib.join ((l.map tv).map (·.data.toList)) (⟨#[44, 32]⟩ : ByteArray).data.toList = (joinT l).data.toList := joinT_data l
  rw [e, size_data, if_pos hs, if_pos (by rw [List.length_map]; exact hl), mk_data]
theorem len3 (x y z : UInt8) : (⟨#[x, y, z]⟩ : ByteArray).size = 3 := rfl
theorem len4 (x y z u : UInt8) : (⟨#[x, y, z, u]⟩ : ByteArray).size = 4 := rfl
theorem len5 (x y z u v : UInt8) : (⟨#[x, y, z, u, v]⟩ : ByteArray).size = 5 := rfl
theorem len2 (x y : UInt8) : (⟨#[x, y]⟩ : ByteArray).size = 2 := rfl
theorem len1 (x : UInt8) : (⟨#[x]⟩ : ByteArray).size = 1 := rfl
theorem wordT_size (a : Int) : (wordT a).size ≤ 4 ∧ 3 ≤ (wordT a).size := by
  unfold wordT
  split
  · exact ⟨by decide, by decide⟩
  · split
    · exact ⟨by decide, by decide⟩
    · exact ⟨by decide, by decide⟩
theorem itoaV_sz (n : Int) (h0 : -9223372036854775808 ≤ n) (h1 : n ≤ 9223372036854775807) : (itoaV n).size ≤ 21 := by
  have := Lib.itoa_length_le n h0 h1
  show (Lib.itoa n).toArray.size ≤ 21
  rw [List.size_toArray]
  exact this
theorem headT_size (a b : Int) (c d J : ByteArray) (hc : c.size ≤ 1048576) (hd : d.size ≤ 1048576) (ha : 1 ≤ a ∧ a ≤ 9 ∧ (a = 3 ∨ a = 5 → 0 ≤ b ∧ b ≤ 2147483647)) : (headT a b c d J).size + 2 ≤ 2200010 + J.size ∧ 0 < (headT a b c d J).size := by
  unfold headT
  have e1 : tAll.size = 3 := rfl
  have e2 : tErr.size = 3 := rfl
  have e3 : tLong.size = 5 := rfl
  have e4 : tText.size = 5 := rfl
  have e5 : tSQ.size = 2 := rfl
  have e6 : tQ.size = 1 := rfl
  have e7 : tNum.size = 4 := rfl
  have e8 : tSp.size = 1 := rfl
  have e9 : tRate.size = 4 := rfl
  have e0 : tEnd.size = 1 := rfl
  have hw := wordT_size a
  by_cases h1 : a = 1
  · rw [if_pos h1]; omega
  by_cases h2 : a = 2
  · rw [if_neg h1, if_pos h2]; omega
  by_cases h3 : a = 3
  · have hb := ha.2.2 (.inl h3)
    have := itoaV_sz b (by omega) (by omega)
    rw [if_neg h1, if_neg h2, if_pos h3, ByteArray.size_append]; omega
  by_cases h4 : a = 4
  · rw [if_neg h1, if_neg h2, if_neg h3, if_pos h4]
    simp only [ByteArray.size_append]
    omega
  by_cases h5 : a = 5
  · have hb := ha.2.2 (.inr h5)
    have := itoaV_sz b (by omega) (by omega)
    rw [if_neg h1, if_neg h2, if_neg h3, if_neg h4, if_pos h5]
    simp only [ByteArray.size_append]
    omega
  by_cases h6 : a = 6
  · rw [if_neg h1, if_neg h2, if_neg h3, if_neg h4, if_neg h5, if_pos h6]; omega
  · rw [if_neg h1, if_neg h2, if_neg h3, if_neg h4, if_neg h5, if_neg h6]
    simp only [ByteArray.size_append]
    omega
theorem tv_size : ∀ (x : S26), fitI x → okI x → (tv x).size + 2 ≤ 2200010 * pN26 x ∧ 0 < (tv x).size := by
  intro x
  induction x using ind26 with
  | _ a b c d l ih =>
  intro hf ho
  rw [fitI] at hf
  rw [okI] at ho
  have htail : ∀ (m : List S26), (∀ x ∈ m, x ∈ l) → (tailT m).size ≤ 2200010 * pNs26 m := by
    intro m
    induction m with
    | nil => intro _; rw [tailT]; exact Nat.zero_le _
    | cons y m ihm =>
      intro hm
      have hy := hm y (List.mem_cons_self ..)
      have h1 := (ih y hy ((fitIs_iff l).1 hf.2.2 y hy) ((okIs_iff l).1 ho.2 y hy)).1
      have h2 := ihm (fun z hz => hm z (List.mem_cons_of_mem _ hz))
      have e : tSep.size = 2 := rfl
      rw [tailT, pNs26, ByteArray.size_append, ByteArray.size_append]
      omega
  have hjoin : (joinT l).size ≤ 2200010 * pNs26 l := by
    cases l with
    | nil => rw [joinT]; exact Nat.zero_le _
    | cons y m =>
      have hy : y ∈ y :: m := List.mem_cons_self ..
      have h1 := (ih y hy ((fitIs_iff _).1 hf.2.2 y hy) ((okIs_iff _).1 ho.2 y hy)).1
      have h2 := htail m (fun z hz => List.mem_cons_of_mem _ hz)
      rw [joinT, pNs26, ByteArray.size_append]
      omega
  have hh := headT_size a b c d (joinT l) hf.1 hf.2.1 ho.1
  rw [tv, pN26]
  omega
theorem joinT_size (l : List S26) (hf : ∀ x ∈ l, fitI x) (ho : ∀ x ∈ l, okI x) : (joinT l).size ≤ 2200010 * pNs26 l ∧ (tailT l).size ≤ 2200010 * pNs26 l := by
  induction l with
  | nil => rw [joinT, tailT]; exact ⟨Nat.zero_le _, Nat.zero_le _⟩
  | cons y m ih =>
    have h := ih (fun z hz => hf z (List.mem_cons_of_mem _ hz)) (fun z hz => ho z (List.mem_cons_of_mem _ hz))
    have h1 := (tv_size y (hf y (List.mem_cons_self ..)) (ho y (List.mem_cons_self ..))).1
    have e : tSep.size = 2 := rfl
    rw [joinT, tailT, pNs26, ByteArray.size_append, ByteArray.size_append, ByteArray.size_append]
    omega
theorem tv_at : ∀ (x : S26), pN26 x ≤ 1048577 → fitI x → okI x → ∀ k, 2 * pT26 x + 30 < k →
    spec_l5Text.f k x.f0 x.f1 x.f2 x.f3 x.f4 = some (tv x) ∧ impl_polText.f k x.f0 x.f1 x.f2 x.f3 x.f4 = some (tv x) := by
  intro x
  induction x using ind26 with
  | _ a b c d l ih =>
  intro hn hf ho k hk
  rw [fitI] at hf
  rw [okI] at ho
  rw [pN26] at hn
  rw [pT26] at hk
  have hl := pNs26_len l
  have hfl := (fitIs_iff l).1 hf.2.2
  have hol := (okIs_iff l).1 ho.2
  obtain ⟨k, rfl⟩ : ∃ m, k = m + 1 + 1 + 1 := ⟨k - 3, by omega⟩
  have hJ := joinT_size l hfl hol
  have e2 : (⟨#[44, 32]⟩ : ByteArray).size = 2 := rfl
  -- the loops
  have hspec : ∀ s : ByteArray, s.size ≤ 4 → ∀ k, 2 * pTs26 l + 31 + l.length < k → spec_l5Text.l0 k s 0 a b c d l = some ((s ++ joinT l) ++ (⟨#[41]⟩ : ByteArray)) := by
    intro s hs
    obtain ⟨r, hr, h⟩ := loop_ex (σ := ByteArray) (L := fun j s i => spec_l5Text.l0 j s i a b c d l) (n := l.length) (K := 2 * pTs26 l + 31)
      (I := fun s i => s.size ≤ 4 + 2200010 * pNs26 (l.take i)) (Post := fun s i r => r = (s ++ (if i = 0 then joinT l else tailT (l.drop i))) ++ (⟨#[41]⟩ : ByteArray))
      (fun s hI => ⟨_, rfl, fun k => by
        simp only [spec_l5Text.l0]
        rw [List.take_length] at hI
        rw [if_neg (not_lt_cast _), if_pos (by omega)]
        have e : s ++ (if l.length = 0 then joinT l else tailT (l.drop l.length)) = s := by
          rw [List.drop_length]
          by_cases hz : l.length = 0
          · rw [if_pos hz, List.length_eq_zero_iff.1 hz, joinT, empty_append]
          · rw [if_neg hz, tailT, empty_append]
        rw [e]⟩)
      (fun s i hi hI => by
        have hx := List.getElem_mem hi
        have hT := pT26_mem hx
        have hN := pN26_mem hx
        have htk := pNs26_take l i hi
        have hle := pNs26_le l (i + 1)
        have hsz := (tv_size l[i] (hfl _ hx) (hol _ hx)).1
        have hd : l.drop i = l[i] :: l.drop (i + 1) := List.drop_eq_getElem_cons hi
        by_cases h0 : i = 0
        · subst h0
          refine .inr ⟨s ++ tv l[0], by simp only [ByteArray.size_append]; omega, fun k hk => ?_, fun r hr => ?_⟩
          · simp only [spec_l5Text.l0]
            rw [if_pos (lt_cast hi), if_neg (by omega), if_pos (nn_cast 0), rdP26 _ _ hi, (ih l[0] hx (by omega) (hfl _ hx) (hol _ hx) k (by omega)).1, Option.bind_some, if_pos (by omega), wrap_nat1 hi (by omega)]
          · rw [hr, if_neg (by omega), if_pos rfl]
            rw [joinT_hd l hi, app_assoc']
        · refine .inr ⟨(s ++ (⟨#[44, 32]⟩ : ByteArray)) ++ tv l[i], by simp only [ByteArray.size_append]; omega, fun k hk => ?_, fun r hr => ?_⟩
          · simp only [spec_l5Text.l0]
            rw [if_pos (lt_cast hi), if_pos (by omega), if_pos (by omega), if_pos (nn_cast i), rdP26 _ _ hi, (ih l[i] hx (by omega) (hfl _ hx) (hol _ hx) k (by omega)).1, Option.bind_some, if_pos (by rw [ByteArray.size_append]; omega), wrap_nat1 hi (by omega)]
          · rw [hr, if_neg (by omega), if_neg h0, hd, tailT, app_assoc', app_assoc']
            rfl) l.length s 0 (by omega) (by omega)
    rw [if_pos rfl] at hr
    subst hr
    exact fun k hk => h k (by omega)
  have himpl : ∀ s : ByteArray, s.size ≤ 4 → ∀ k, 2 * pTs26 l + 31 + l.length < k → impl_polText.l0 k s ([] : List ByteArray) l (l.length : Int) 0 = some ((s ++ joinT l) ++ (⟨#[41]⟩ : ByteArray)) := by
    intro s hs
    obtain ⟨r, hr, h⟩ := loop_ex (σ := List ByteArray) (L := fun j m i => impl_polText.l0 j s m l (l.length : Int) i) (n := l.length) (K := 2 * pTs26 l + 31)
      (I := fun m i => m = (l.take i).map tv) (Post := fun _ _ r => r = (s ++ joinT l) ++ (⟨#[41]⟩ : ByteArray))
      (fun m hI => ⟨_, rfl, fun k => by
        simp only [impl_polText.l0]
        rw [List.take_length] at hI
        rw [if_neg (not_lt_cast _), hI, join_at l (by omega) (by omega), Option.bind_some, if_pos (by omega), if_pos (by rw [ByteArray.size_append]; omega)]⟩)
      (fun m i hi hI => by
        have hx := List.getElem_mem hi
        have hT := pT26_mem hx
        have hN := pN26_mem hx
        have hm : m.length = i := by rw [hI, List.length_map, List.length_take]; omega
        refine .inr ⟨m ++ [tv l[i]], by rw [hI, List.take_succ_eq_append_getElem hi, List.map_append]; rfl, fun k hk => ?_, fun r hr => hr⟩
        simp only [impl_polText.l0]
        rw [if_pos (lt_cast hi), if_pos (nn_cast i), if_pos (lt_cast hi), rdP26 _ _ hi, (ih l[i] hx (by omega) (hfl _ hx) (hol _ hx) k (by omega)).2, Option.bind_some, if_pos (by omega), wrap_nat1 hi (by omega)]) l.length [] 0 (by omega) rfl
    subst hr
    exact fun k hk => h k (by omega)
  obtain ⟨a1, a9, hb⟩ := ho.1
  have ec := hf.1
  have ed := hf.2.1
  simp only [spec_l5Text.f, impl_polText.f, tv, headT]
  by_cases h1 : a = 1
  · rw [if_pos h1, if_pos h1, if_pos h1]; exact ⟨rfl, rfl⟩
  rw [if_neg h1, if_neg h1, if_neg h1]
  by_cases h2 : a = 2
  · rw [if_pos h2, if_pos h2, if_pos h2]; exact ⟨rfl, rfl⟩
  rw [if_neg h2, if_neg h2, if_neg h2]
  by_cases h3 : a = 3
  · have hb2 := hb (.inl h3)
    have hz := itoaV_sz b (by omega) (by omega)
    rw [if_pos h3, if_pos h3, if_pos h3, spec_NumText_at b (by omega) (by omega) _ (by omega), impl_NumText_at b (by omega) (by omega), Option.bind_some, if_pos (by omega)]
    exact ⟨rfl, rfl⟩
  rw [if_neg h3, if_neg h3, if_neg h3]
  by_cases h4 : a = 4
  · have q1 : ((⟨#[116, 101, 120, 116, 32]⟩ : ByteArray) ++ c).size = 5 + c.size := by rw [ByteArray.size_append]; rfl
    have q2 : (((⟨#[116, 101, 120, 116, 32]⟩ : ByteArray) ++ c) ++ (⟨#[32, 34]⟩ : ByteArray)).size = 5 + c.size + 2 := by rw [ByteArray.size_append, q1]; rfl
    have q3 : ((((⟨#[116, 101, 120, 116, 32]⟩ : ByteArray) ++ c) ++ (⟨#[32, 34]⟩ : ByteArray)) ++ d).size = 5 + c.size + 2 + d.size := by rw [ByteArray.size_append, q2]
    rw [if_pos h4, if_pos h4, if_pos h4, if_pos (by omega), if_pos (by omega), if_pos (by omega), if_pos (by omega)]
    exact ⟨rfl, rfl⟩
  rw [if_neg h4, if_neg h4, if_neg h4]
  by_cases h5 : a = 5
  · have hb2 := hb (.inr h5)
    have hz := itoaV_sz b (by omega) (by omega)
    have q1 : ((⟨#[110, 117, 109, 32]⟩ : ByteArray) ++ c).size = 4 + c.size := by rw [ByteArray.size_append]; rfl
    have q2 : (((⟨#[110, 117, 109, 32]⟩ : ByteArray) ++ c) ++ (⟨#[32]⟩ : ByteArray)).size = 4 + c.size + 1 := by rw [ByteArray.size_append, q1]; rfl
    rw [if_pos h5, if_pos h5, if_pos h5]
    constructor
    · rw [if_pos (by omega), if_pos (by omega), spec_NumText_at b (by omega) (by omega) _ (by omega), Option.bind_some, if_pos (by omega)]
      rfl
    · rw [if_pos (by omega), if_pos (by omega), impl_NumText_at b (by omega) (by omega), Option.bind_some, if_pos (by omega)]
      rfl
  rw [if_neg h5, if_neg h5, if_neg h5]
  by_cases h6 : a = 6
  · rw [if_pos h6, if_pos h6, if_pos h6]; exact ⟨rfl, rfl⟩
  rw [if_neg h6, if_neg h6, if_neg h6]
  have s4 : (⟨#[97, 110, 100, 40]⟩ : ByteArray).size ≤ 4 := by decide
  have s3 : (⟨#[111, 114, 40]⟩ : ByteArray).size ≤ 4 := by decide
  have s5 : (⟨#[110, 111, 116, 40]⟩ : ByteArray).size ≤ 4 := by decide
  simp only [spec_l5Text.j0, impl_polText.j0]
  have hcase : a = 7 ∨ a = 8 ∨ a = 9 := by omega
  obtain ⟨k, rfl⟩ : ∃ m, k = m + 1 := ⟨k - 1, by omega⟩
  rcases hcase with rfl | rfl | rfl
  · rw [if_neg (by decide), if_pos rfl, if_neg (by decide)]
    simp only [spec_l5Text.j1]
    rw [hspec _ s4 _ (by omega), himpl _ s4 _ (by omega)]
    exact ⟨rfl, rfl⟩
  · rw [if_pos rfl, if_neg (by decide), if_neg (by decide), if_pos rfl]
    simp only [spec_l5Text.j1]
    rw [hspec _ s3 _ (by omega), himpl _ s3 _ (by omega)]
    exact ⟨rfl, rfl⟩
  · rw [if_neg (by decide), if_pos rfl, if_neg (by decide), if_neg (by decide)]
    simp only [spec_l5Text.j1]
    rw [hspec _ s5 _ (by omega), himpl _ s5 _ (by omega)]
    exact ⟨rfl, rfl⟩
theorem polText_both (x : S26) (hn : pN26 x ≤ 1048577) (hf : fitI x) : ∃ ok r, (∀ k, 2 * pT26 x + 1048600 < k → spec_PolOk.f k x.f0 x.f1 x.f2 x.f3 x.f4 = some ok ∧ impl_PolOk.f k x.f0 x.f1 x.f2 x.f3 x.f4 = some ok) ∧
    (∀ k, 2 * pT26 x + 1048600 < k → spec_PolText.f k x.f0 x.f1 x.f2 x.f3 x.f4 = some r ∧ impl_PolText.f k x.f0 x.f1 x.f2 x.f3 x.f4 = some r) ∧ (ok = true → 0 < r.size) ∧ (ok = false → r = ⟨#[]⟩) := by
  obtain ⟨ok, hok⟩ := polOk_both x hn hf
  cases ok with
  | false =>
    refine ⟨false, ⟨#[]⟩, hok, fun k hk => ?_, fun h => (by cases h), fun _ => rfl⟩
    obtain ⟨h1, h2⟩ := hok k hk
    simp only [spec_PolText.f, impl_PolText.f, h1, h2, Option.bind_some]
    rw [if_neg (by decide)]
    exact ⟨rfl, rfl⟩
  | true =>
    have ho := polOk_kinds x hn hf (2 * pT26 x + 1048601) (by omega) (hok _ (by omega)).1
    refine ⟨true, tv x, hok, fun k hk => ?_, fun _ => (tv_size x hf ho).2, fun h => (by cases h)⟩
    obtain ⟨h1, h2⟩ := hok k hk
    obtain ⟨t1, t2⟩ := tv_at x hn hf ho k (by omega)
    simp only [spec_PolText.f, impl_PolText.f, h1, h2, t1, t2, Option.bind_some, if_true]
    exact ⟨trivial, trivial⟩
theorem polText_r (x : S26) (hn : pN26 x ≤ 1048577) (hf : fitI x) : ∃ r, ∀ k, 2 * pT26 x + 1048600 < k → spec_PolText.f k x.f0 x.f1 x.f2 x.f3 x.f4 = some r ∧ impl_PolText.f k x.f0 x.f1 x.f2 x.f3 x.f4 = some r := by
  obtain ⟨_, r, _, h, _⟩ := polText_both x hn hf
  exact ⟨r, h⟩

theorem FnExactPolText : ∀ (a0_0 : Int) (a0_1 : Int) (a0_2 : ByteArray) (a0_3 : ByteArray) (l0_4 : (List S36)), ((Lit.int .i64 a0_0).wf = true ∧ (Lit.int .i64 a0_1).wf = true ∧ a0_2.size ≤ maxLen ∧ a0_3.size ≤ maxLen ∧ (l0_4.length ≤ maxLen ∧ ∀ y36 ∈ l0_4, good36 y36)) → ∃ k, laws_FnExactPolText.f k a0_0 a0_1 a0_2 a0_3 l0_4 = some true := by
  intro a b c d l hg
  have hG : good36 ⟨a, b, c, d, l⟩ := by
    refine good_up ⟨a, b, c, d, l⟩ hg.1 hg.2.1 hg.2.2.1 hg.2.2.2.1 hg.2.2.2.2.1 hg.2.2.2.2.2
  obtain ⟨v, hv, hv1, hv2⟩ := szPol_at ⟨a, b, c, d, l⟩ 1048576 hG (by omega) (by omega)
  simp only at hv
  generalize hX : (⟨a, b, c, d, l⟩ : S36) = X at *
  generalize hm : 2 * pT36 X + 1048601 = m
  refine ⟨m, ?_⟩
  by_cases hn : v < 0
  · simp only [laws_FnExactPolText.f, hv m (by omega), Option.bind_some]
    rw [if_pos hn]
  obtain ⟨f1, f2⟩ := hv2 (by omega)
  obtain ⟨t1, t2⟩ := cvP_tree X
  have h1 := toPol_at X (by omega) m (by omega)
  obtain ⟨r, hr⟩ := polText_r (cvP X) (by omega) (fit_conv X f2)
  obtain ⟨h2, h3⟩ := hr m (by omega)
  have h4 := eqPol_at (cvP X) (by omega) m (by omega)
  rw [← hX] at h1
  simp only at h1
  rw [hX] at h1
  simp only [laws_FnExactPolText.f, hv m (by omega), h1, h2, h3, h4, Option.bind_some, if_true]
  rw [if_neg hn]

end Go.Proofs.YtfhblnbicnmndaaDoor.Pure
