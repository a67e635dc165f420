/- The program's SpanText returns what the reference's returns, for all arguments. Conditions: none beyond the statement's own. -/
import Derived.Test.YtkhbhdchakbmhaaDoorQFnExactSpanTextx
set_option linter.unusedVariables false
set_option linter.unusedSimpArgs false
namespace Go.Proofs.YtkhbhdchakbmhaaDoor.Pure
open Go.RowKit Go.Proofs.YtkhbhdchakbmhaaDoor.QFnExactSpanText Go.Proofs.YtkhbhdchakbmhaaDoorW.PrintWords Go.Proofs.YtkhbhdchakbmhaaDoorW.PrintLast Go.Proofs.YtkhbhdchakbmhaaDoorW.PrintMore
def good25 (x : S25) : Prop := x.f0.size ≤ maxLen ∧ True ∧ (Lit.int .i64 x.f2).wf = true ∧ x.f3.size ≤ maxLen

/-- A loop over an index: from a state that is good, with enough rounds, it comes to an end that meets what is told of it. -/
theorem loop_ex {σ β : Type} {L : Nat → σ → Int → Option β} {n K : Nat} {I : σ → Nat → Prop} {Post : σ → Nat → β → Prop}
    (hend : ∀ s, I s n → ∃ r, Post s n r ∧ ∀ k, L (k + 1) s (n : Int) = some r)
    (hstep : ∀ s (i : Nat), i < n → I s i → (∃ r, Post s i r ∧ ∀ k, K ≤ k → L (k + 1) s (i : Int) = some r) ∨
      ∃ s', I s' (i + 1) ∧ (∀ k, K ≤ k → L (k + 1) s (i : Int) = L k s' ((i : Int) + 1)) ∧ ∀ r, Post s' (i + 1) r → Post s i r) :
    ∀ (d : Nat) s (i : Nat), i + d = n → I s i → ∃ r, Post s i r ∧ ∀ k, K + d < k → L k s (i : Int) = some r := by
  intro d
  induction d with
  | zero =>
    intro s i hd hI
    obtain rfl : i = n := by omega
    obtain ⟨r, hp, hr⟩ := hend s hI
    refine ⟨r, hp, fun k hk => ?_⟩
    obtain ⟨k, rfl⟩ : ∃ m, k = m + 1 := ⟨k - 1, by omega⟩
    exact hr k
  | succ d ih =>
    intro s i hd hI
    rcases hstep s i (by omega) hI with ⟨r, hp, hr⟩ | ⟨s', hI', he, hp⟩
    · refine ⟨r, hp, fun k hk => ?_⟩
      obtain ⟨k, rfl⟩ : ∃ m, k = m + 1 := ⟨k - 1, by omega⟩
      exact hr k (by omega)
    · obtain ⟨r, hq, hr⟩ := ih s' (i + 1) (by omega) hI'
      refine ⟨r, hp r hq, fun k hk => ?_⟩
      obtain ⟨k, rfl⟩ : ∃ m, k = m + 1 := ⟨k - 1, by omega⟩
      rw [he k (by omega)]
      have := hr k (by omega)
      rw [Int.natCast_add] at this
      exact this
theorem ev_at {α : Type} {g : Nat → Option α} {r : α} (K : Nat) (h : ∀ k, K < k → g k = some r) : Ev g r := ⟨K + 1, fun k hk => h k (by omega)⟩
theorem wrap_of {x : Int} (h0 : -9223372036854775808 ≤ x) (h1 : x ≤ 9223372036854775807) : wrap64 x = x := by
  unfold wrap64
  omega
theorem wrap_nat1 {i n : Nat} (h : i < n) (hn : n ≤ 9223372036854775807) : wrap64 ((i : Int) + 1) = (i : Int) + 1 := wrap_of (by omega) (by omega)
theorem lt_cast {i n : Nat} (h : i < n) : (i : Int) < (n : Int) := by omega
theorem nn_cast (i : Nat) : 0 ≤ (i : Int) := by omega
theorem not_lt_cast (n : Nat) : ¬ (n : Int) < (n : Int) := by omega
/-- What is written cell by cell. -/
theorem fill_set {α : Type} (l : List α) (z : α) (i : Nat) (h : i < l.length) : (l.take i ++ List.replicate (l.length - i) z).set i l[i] = l.take (i + 1) ++ List.replicate (l.length - (i + 1)) z := by
  have e1 : l.length - i = (l.length - (i + 1)) + 1 := by omega
  have e2 : (l.take i).length = i := by rw [List.length_take]; omega
  rw [e1, List.replicate_succ, List.set_append_right _ _ (by omega), e2, Nat.sub_self, List.set_cons_zero, List.take_succ_eq_append_getElem h, List.append_assoc]
  rfl
theorem fill_len {α : Type} (l : List α) (z : α) (i : Nat) (h : i ≤ l.length) : (l.take i ++ List.replicate (l.length - i) z).length = l.length := by
  rw [List.length_append, List.length_take, List.length_replicate]
  omega

theorem szAttr_ex (a : ByteArray) (b : Bool) (c : Int) (e : ByteArray) (left : Int) (ha : a.size ≤ maxLen) (he : e.size ≤ maxLen) (h0 : 0 ≤ left) (h1 : left ≤ 1048576) :
    ∃ v, laws_szAttr.f a b c e left = some v ∧ v ≤ left ∧ (0 ≤ v → (a.size : Int) ≤ left ∧ (e.size : Int) ≤ left) := by
  unfold maxLen at ha he
  unfold laws_szAttr.f
  have w1 : wrap64 (left - (a.size : Int)) = left - (a.size : Int) := wrap_of (by omega) (by omega)
  rw [w1]
  by_cases c1 : left - (a.size : Int) < 0
  · rw [if_pos c1]
    exact ⟨-1, rfl, by omega, by omega⟩
  · rw [if_neg c1]
    have w2 : wrap64 (left - (a.size : Int) - (e.size : Int)) = left - (a.size : Int) - (e.size : Int) := wrap_of (by omega) (by omega)
    rw [w2]
    by_cases c2 : left - (a.size : Int) - (e.size : Int) < 0
    · rw [if_pos c2]
      exact ⟨-1, rfl, by omega, by omega⟩
    · rw [if_neg c2]
      exact ⟨_, rfl, by omega, by omega⟩

theorem rdLA (l : List S25) (i : Nat) (h : i < l.length) : rd_T25 l (i : Int) = l[i] := by
  simp [rd_T25, List.getD_eq_getElem?_getD, h]

def fitA (x : S25) : Prop := x.f0.size ≤ 1048576 ∧ x.f3.size ≤ 1048576
theorem szAttrS_at (l : List S25) (left : Int) (hl : l.length ≤ maxLen) (hg : ∀ x ∈ l, good25 x) (h0 : 0 ≤ left) (h1 : left ≤ 1048576) :
    ∃ v, (∀ k, 1048576 < k → laws_szAttrS.f k l left = some v) ∧ v ≤ left ∧ (0 ≤ v → (l.length : Int) ≤ left ∧ ∀ x ∈ l, fitA x) := by
  unfold maxLen at hl
  have w1 : wrap64 (left - (l.length : Int)) = left - (l.length : Int) := wrap_of (by omega) (by omega)
  by_cases c1 : left - (l.length : Int) < 0
  · refine ⟨-1, fun k _ => ?_, by omega, by omega⟩
    simp only [laws_szAttrS.f]
    rw [w1, if_pos c1]
  · obtain ⟨r, ⟨hr1, hr2⟩, h⟩ := loop_ex (σ := Int) (L := fun k s i => laws_szAttrS.l0 k l s i) (n := l.length) (K := 0)
      (I := fun s _ => 0 ≤ s ∧ s ≤ left) (Post := fun s i r => r ≤ s ∧ (0 ≤ r → ∀ j (h : j < l.length), i ≤ j → fitA l[j]))
      (fun s hI => ⟨s, ⟨by omega, fun _ j hj hij => by omega⟩, fun k => by
        simp only [laws_szAttrS.l0]
        rw [if_neg (not_lt_cast _)]⟩)
      (fun s i hi hI => by
        obtain ⟨g1, _, _, g2⟩ := hg l[i] (List.getElem_mem hi)
        obtain ⟨v, hv, hv1, hv2⟩ := szAttr_ex l[i].f0 l[i].f1 l[i].f2 l[i].f3 s g1 g2 hI.1 (by omega)
        by_cases hneg : v < 0
        · refine .inl ⟨-1, ⟨by omega, by omega⟩, fun k _ => ?_⟩
          simp only [laws_szAttrS.l0]
          rw [if_pos (lt_cast hi), if_pos (nn_cast i), rdLA _ _ hi, hv, Option.bind_some, if_pos hneg]
        · refine .inr ⟨v, ⟨by omega, by omega⟩, fun k _ => ?_, fun r hr => ⟨by omega, fun hr0 j hj hij => ?_⟩⟩
          · simp only [laws_szAttrS.l0]
            rw [if_pos (lt_cast hi), if_pos (nn_cast i), rdLA _ _ hi, hv, Option.bind_some, if_neg hneg, wrap_nat1 hi (by omega)]
          · rcases Nat.lt_or_ge i j with hlt | hge
            · exact hr.2 hr0 j hj hlt
            · obtain rfl : i = j := by omega
              have := hv2 (by omega)
              exact ⟨by omega, by omega⟩) l.length (left - (l.length : Int)) 0 (by omega) ⟨by omega, by omega⟩
    refine ⟨r, fun k hk => ?_, by omega, fun hr0 => ⟨by omega, fun x hx => ?_⟩⟩
    · simp only [laws_szAttrS.f]
      rw [w1, if_neg c1]
      exact h k (by omega)
    · obtain ⟨j, hj, rfl⟩ := List.getElem_of_mem hx
      exact hr2 hr0 j hj (by omega)

theorem szSpan_at (a b c d : Int) (e : Bool) (l : List S25) (left : Int) (hl : l.length ≤ maxLen) (hg : ∀ x ∈ l, good25 x) (h0 : 0 ≤ left) (h1 : left ≤ 1048576) :
    ∃ v, (∀ k, 1048576 < k → laws_szSpan.f k a b c d e l left = some v) ∧ v ≤ left ∧ (0 ≤ v → (l.length : Int) ≤ left ∧ ∀ x ∈ l, fitA x) := by
  obtain ⟨v, hv, hv1, hv2⟩ := szAttrS_at l left hl hg h0 h1
  by_cases hn : v < 0
  · refine ⟨-1, fun k hk => ?_, by omega, by omega⟩
    simp only [laws_szSpan.f, hv k hk, Option.bind_some]
    rw [if_pos hn]
  · refine ⟨v, fun k hk => ?_, hv1, hv2⟩
    simp only [laws_szSpan.f, hv k hk, Option.bind_some]
    rw [if_neg hn]
theorem szSpan_ex (a b c d : Int) (e : Bool) (l : List S25) (left : Int) (hl : l.length ≤ maxLen) (hg : ∀ x ∈ l, good25 x) (h0 : 0 ≤ left) (h1 : left ≤ 1048576) :
    ∃ v, Ev (fun k => laws_szSpan.f k a b c d e l left) v ∧ v ≤ left ∧ (0 ≤ v → (l.length : Int) ≤ left ∧ ∀ x ∈ l, fitA x) := by
  obtain ⟨v, h, h2⟩ := szSpan_at a b c d e l left hl hg h0 h1
  exact ⟨v, ev_at 1048576 h, h2⟩

def cvA (x : S25) : S28 := ⟨x.f0, x.f1, x.f2, x.f3⟩
theorem toAttrS_at (l : List S25) (hl : l.length ≤ 1048576) : ∀ k, 1048576 < k → laws_toAttrS.f k l = some (l.map cvA) := by
  have hm : (l.map cvA).length = l.length := by simp
  obtain ⟨r, hr, h⟩ := loop_ex (σ := List S28) (L := fun k s i => laws_toAttrS.l0 k l s i) (n := l.length) (K := 0)
    (I := fun s i => s = (l.map cvA).take i ++ List.replicate ((l.map cvA).length - i) z28) (Post := fun _ _ r => r = l.map cvA)
    (fun s hI => ⟨_, rfl, fun k => by
      simp only [laws_toAttrS.l0]
      rw [if_neg (not_lt_cast _), hI, ← hm, List.take_length, Nat.sub_self]
      simp⟩)
    (fun s i hi hI => .inr ⟨_, rfl, fun k _ => by
      have hi' : i < (l.map cvA).length := by omega
      have e : (⟨l[i].f0, l[i].f1, l[i].f2, l[i].f3⟩ : S28) = (l.map cvA)[i] := by rw [List.getElem_map]; rfl
      simp only [laws_toAttrS.l0, laws_toAttr.f, Option.bind_some]
      rw [if_pos (lt_cast hi), if_pos (nn_cast i), hI, fill_len _ _ _ (by omega), if_pos (lt_cast hi'), rdLA _ _ hi, wrap_nat1 hi (by omega), e]
      simp only [Int.toNat_natCast]
      rw [fill_set _ _ _ hi'], fun _ h => h⟩) l.length (List.replicate l.length z28) 0 (by omega) (by simp)
  subst hr
  intro k hk
  simp only [laws_toAttrS.f]
  rw [if_pos (by omega), if_pos (by simp; omega)]
  exact h k (by omega)
theorem toAttrS_ev (l : List S25) (hl : l.length ≤ 1048576) : Ev (fun k => laws_toAttrS.f k l) (l.map cvA) := ev_at 1048576 (toAttrS_at l hl)

theorem toSpan_at (a b c d : Int) (e : Bool) (l : List S25) (hl : l.length ≤ 1048576) : ∀ k, 1048576 < k → laws_toSpan.f k a b c d e l = some (a, b, c, d, e, l.map cvA) := by
  intro k hk
  simp only [laws_toSpan.f, toAttrS_at l hl k hk, Option.bind_some]
theorem toSpan_ev (a b c d : Int) (e : Bool) (l : List S25) (hl : l.length ≤ 1048576) : Ev (fun k => laws_toSpan.f k a b c d e l) (a, b, c, d, e, l.map cvA) := ev_at 1048576 (toSpan_at a b c d e l hl)

theorem rdIA (l : List S28) (i : Nat) (h : i < l.length) : rd_T28 l (i : Int) = l[i] := by
  simp [rd_T28, List.getD_eq_getElem?_getD, h]

theorem eqAttr_self (a : ByteArray) (b : Bool) (c : Int) (e : ByteArray) : laws_eqAttr.f a b c e a b c e = some true := by
  simp [laws_eqAttr.f]

theorem eqAttrS_at (l : List S28) (hl : l.length ≤ 1048576) : ∀ k, 1048576 < k → laws_eqAttrS.f k l l = some true := by
  obtain ⟨r, hr, h⟩ := loop_ex (σ := Unit) (L := fun k _ i => laws_eqAttrS.l0 k l l i) (n := l.length) (K := 0)
    (I := fun _ _ => True) (Post := fun _ _ r => r = true)
    (fun s hI => ⟨true, rfl, fun k => by
      simp only [laws_eqAttrS.l0]
      rw [if_neg (not_lt_cast _)]⟩)
    (fun s i hi hI => .inr ⟨(), trivial, fun k _ => by
      simp only [laws_eqAttrS.l0, eqAttr_self, Option.bind_some, if_true]
      rw [if_pos (lt_cast hi), if_pos (nn_cast i), if_pos (lt_cast hi), wrap_nat1 hi (by omega)], fun _ h => h⟩) l.length () 0 (by omega) trivial
  subst hr
  intro k hk
  simp only [laws_eqAttrS.f, if_true]
  exact h k (by omega)
theorem eqAttrS_self (l : List S28) (hl : l.length ≤ 1048576) : Ev (fun k => laws_eqAttrS.f k l l) true := ev_at 1048576 (eqAttrS_at l hl)

theorem eqSpan_at (a b c d : Int) (e : Bool) (l : List S28) (hl : l.length ≤ 1048576) : ∀ k, 1048576 < k → laws_eqSpan.f k a b c d e l a b c d e l = some true := by
  intro k hk
  simp [laws_eqSpan.f, eqAttrS_at l hl k hk]
theorem eqSpan_self (a b c d : Int) (e : Bool) (l : List S28) (hl : l.length ≤ 1048576) : Ev (fun k => laws_eqSpan.f k a b c d e l a b c d e l) true := ev_at 1048576 (eqSpan_at a b c d e l hl)

theorem fit_map (l : List S25) (h : ∀ x ∈ l, fitA x) : ∀ x ∈ l.map cvA, x.f0.size ≤ 1048576 ∧ x.f3.size ≤ 1048576 := by
  intro x hx
  obtain ⟨y, hy, rfl⟩ := List.mem_map.1 hx
  exact h y hy

def dec (u : Nat) : ByteArray := ⟨(Lib.decDigits u).toArray⟩
theorem dec_one {u : Nat} (h : u < 10) : dec u = strOfNums [48 + (u : Int)] := by
  have e : (48 + (u : Int)).toNat = 48 + u := by omega
  unfold dec strOfNums
  rw [Lib.decDigits_one h, List.map_cons, List.map_nil, e]
theorem dec_more {u : Nat} (h : ¬ u < 10) (s : ByteArray) : dec u ++ s = dec (u / 10) ++ (strOfNums [48 + ((u % 10 : Nat) : Int)] ++ s) := by
  have e : Lib.decDigits u = Lib.decDigits (u / 10) ++ [UInt8.ofNat (48 + u % 10)] := by rw [Lib.decDigits, dif_neg h]
  have e2 : (48 + ((u % 10 : Nat) : Int)).toNat = 48 + u % 10 := by omega
  apply ByteArray.ext
  simp only [ByteArray.data_append]
  unfold dec strOfNums
  rw [e]
  simp only [List.map_cons, List.map_nil, e2]
  apply Array.ext'
  simp
theorem dec_size (u : Nat) : (dec u).size = Lib.nDigits u := by
  unfold dec
  rw [← Lib.decDigits_length]
  simp [ByteArray.size]
theorem nDigits_le (u : Nat) (h : u < 10000000000000000000) : Lib.nDigits u ≤ 19 := by
  have key : ∀ (j u : Nat), u < 10 ^ (j + 1) → Lib.nDigits u ≤ j + 1 := by
    intro j
    induction j with
    | zero => intro u h; rw [Lib.nDigits_small (by omega)]; omega
    | succ j ih =>
      intro u h
      by_cases hu : u < 10
      · rw [Lib.nDigits_small hu]; omega
      · rw [Lib.nDigits_big hu]
        have := ih (u / 10) (by rw [Nat.pow_succ] at h; omega)
        omega
  exact key 18 u (by omega)
/-- What the reference's text of a number is, behind its digits. -/
def signed (n : Int) (s : ByteArray) : ByteArray := if n < 0 then (⟨#[45]⟩ : ByteArray) ++ s else s
theorem numText_loop (n : Int) : ∀ (u : Nat) (x : Int) (s : ByteArray) (k : Nat), 0 < u → u ≤ 9223372036854775808 → x = (u : Int) ∨ x = -(u : Int) → -9223372036854775808 ≤ x → x ≤ 9223372036854775807 → Lib.nDigits u + s.size ≤ 1000 → Lib.nDigits u + 1 ≤ k →
    spec_NumText.l0 k n s x = some (signed n (dec u ++ s)) := by
  intro u
  induction u using Nat.strongRecOn with
  | _ u ih =>
    intro x s k hu hb hx h0 h1 hs hk
    obtain ⟨k, rfl⟩ : ∃ q, k = q + 1 := ⟨k - 1, by omega⟩
    have hd : (if Int.tmod x 10 < 0 then wrap64 (-(Int.tmod x 10)) else Int.tmod x 10) = ((u % 10 : Nat) : Int) := by
      rcases hx with rfl | rfl
      · rw [Int.tmod_eq_emod_of_nonneg (by omega), if_neg (by omega)]
        omega
      · rw [Int.neg_tmod, Int.tmod_eq_emod_of_nonneg (by omega)]
        split
        · rw [wrap_of (by omega) (by omega)]
          omega
        · omega
    have hq : wrap64 (Int.tdiv x 10) = (((u / 10 : Nat)) : Int) ∧ x = (u : Int) ∨ wrap64 (Int.tdiv x 10) = -(((u / 10 : Nat)) : Int) ∧ x = -(u : Int) := by
      rcases hx with rfl | rfl
      · left
        rw [Int.tdiv_eq_ediv_of_nonneg (by omega), wrap_of (by omega) (by omega)]
        omega
      · right
        rw [Int.neg_tdiv, Int.tdiv_eq_ediv_of_nonneg (by omega), wrap_of (by omega) (by omega)]
        omega
    have hone : ∀ d : Int, d = ((u % 10 : Nat) : Int) → (wrap64 (48 + d)) % 256 = 48 + ((u % 10 : Nat) : Int) := by
      intro d e
      rw [e, wrap_of (by omega) (by omega)]
      omega
    have hsz : (strOfNums [48 + ((u % 10 : Nat) : Int)]).size = 1 := by rw [strOfNums_size]; rfl
    have hnd : 1 ≤ Lib.nDigits u := Lib.nDigits_pos u
    have hround : spec_NumText.l0 (k + 1) n s x = spec_NumText.l0 k n (strOfNums [48 + ((u % 10 : Nat) : Int)] ++ s) (wrap64 (Int.tdiv x 10)) := by
      simp only [spec_NumText.l0, Option.bind_some]
      rw [if_neg (by rcases hx with rfl | rfl <;> omega)]
      by_cases hneg : Int.tmod x 10 < 0
      · rw [if_pos hneg] at hd
        rw [if_pos hneg, hone _ hd, if_pos (by rw [hsz]; omega)]
      · rw [if_neg hneg] at hd
        rw [if_neg hneg, hone _ hd, if_pos (by rw [hsz]; omega)]
    rw [hround]
    by_cases h10 : u < 10
    · have hz : wrap64 (Int.tdiv x 10) = 0 := by omega
      rw [hz]
      obtain ⟨k, rfl⟩ : ∃ q, k = q + 1 := ⟨k - 1, by omega⟩
      simp only [spec_NumText.l0]
      rw [if_pos trivial]
      rw [dec_one h10]
      have e : u % 10 = u := by omega
      rw [e] at hsz ⊢
      unfold signed
      by_cases hn : n < 0
      · rw [if_pos hn, if_pos hn, if_pos (by rw [ByteArray.size_append, hsz]; omega)]
      · rw [if_neg hn, if_neg hn]
    · have hnb := Lib.nDigits_big h10
      rw [dec_more h10]
      have hsz2 : (strOfNums [48 + ((u % 10 : Nat) : Int)] ++ s).size = 1 + s.size := by rw [ByteArray.size_append, hsz]
      exact ih (u / 10) (by omega) _ _ k (by omega) (by omega) (by omega) (by omega) (by omega) (by omega) (by omega)
def itoaV (n : Int) : ByteArray := ⟨(Lib.itoa n).toArray⟩
theorem empty_append (s : ByteArray) : s ++ (⟨#[]⟩ : ByteArray) = s := by
  apply ByteArray.ext
  simp [ByteArray.data_append]
theorem signed_dec (n : Int) : signed n (dec n.natAbs) = itoaV n := by
  unfold signed itoaV Lib.itoa dec
  by_cases h : n < 0
  · rw [if_pos h, if_pos h]
    apply ByteArray.ext
    simp [ByteArray.data_append]
  · rw [if_neg h, if_neg h]
    have e : n.natAbs = n.toNat := by omega
    rw [e]
theorem spec_NumText_at (n : Int) (h0 : -9223372036854775808 ≤ n) (h1 : n ≤ 9223372036854775807) (k : Nat) (hk : 21 ≤ k) : spec_NumText.f k n = some (itoaV n) := by
  unfold spec_NumText.f
  by_cases hz : n = 0
  · subst hz
    rw [if_pos rfl]
    have e : Lib.itoa 0 = [48] := by
      unfold Lib.itoa
      rw [if_neg (by omega)]
      exact Lib.decDigits_one (by omega)
    unfold itoaV
    rw [e]
  · rw [if_neg hz]
    have h19 := nDigits_le n.natAbs (by omega)
    rw [numText_loop n n.natAbs n ⟨#[]⟩ k (by omega) (by omega) (by omega) h0 h1 (by have e : (⟨#[]⟩ : ByteArray).size = 0 := rfl; rw [e]; omega) (by omega), empty_append, signed_dec]
theorem impl_NumText_at (n : Int) (h0 : -9223372036854775808 ≤ n) (h1 : n ≤ 9223372036854775807) : impl_NumText.f n = some (itoaV n) := by
  simp only [impl_NumText.f, strconv_Itoa.f]
  rw [if_pos h0, if_pos h1]
  rfl
theorem i64_range {x : Int} (h : (Lit.int .i64 x).wf = true) : -9223372036854775808 ≤ x ∧ x ≤ 9223372036854775807 := by
  simp [Lit.wf, IntKind.min, IntKind.max, IntKind.signed, IntKind.bits] at h
  omega

def inB (a b c : Int) : Bool := decide (b ≤ a) && decide (a ≤ c)
theorem impl_within_eq (a b c : Int) : impl_within.f a b c = some (inB a b c) := by
  unfold impl_within.f inB
  by_cases h : a ≥ b
  · rw [if_pos h]
    simp [show b ≤ a from h]
  · rw [if_neg h]
    simp [show ¬ b ≤ a from h]

theorem spec_l1In_eq (a b c : Int) : spec_l1In.f a b c = some (inB a b c) := by
  unfold spec_l1In.f inB
  by_cases h : a ≥ b
  · rw [if_pos h]
    simp [show b ≤ a from h]
  · rw [if_neg h]
    simp [show ¬ b ≤ a from h]

theorem wrap_idx {i n : Int} (h0 : 0 ≤ i) (h : i < n) (hn : n ≤ 140737488351232) : wrap64 (i + 1) = i + 1 := by
  unfold wrap64
  omega
theorem wrap_bt (s : ByteArray) (i : Int) : wrap64 (bt s i) = bt s i := by
  have := bt_range s i
  unfold wrap64
  omega

theorem name_loops (s : ByteArray) (hn : (s.size : Int) ≤ 140737488351232) (d : Nat) : ∀ (i : Int), 0 ≤ i → (s.size : Int) - i ≤ d →
    ∃ r, (∀ k, d < k → spec_NameOk.l0 k s i = some r) ∧ ∀ k, d < k → impl_NameOk.l0 k s i = some r := by
  induction d with
  | zero =>
    intro i h0 hd
    refine ⟨inB s.size 1 8, fun k hk => ?_, fun k hk => ?_⟩ <;>
    · obtain ⟨k, rfl⟩ : ∃ m, k = m + 1 := ⟨k - 1, by omega⟩
      simp only [spec_NameOk.l0, impl_NameOk.l0, spec_l1In_eq, impl_within_eq, Option.bind_some]
      rw [if_neg (by omega)]
  | succ d ih =>
    intro i h0 hd
    by_cases hlt : i < (s.size : Int)
    · obtain ⟨r, hs, hi⟩ := ih (i + 1) (by omega) (by omega)
      refine ⟨if bt s i < 97 then false else if bt s i > 122 then false else r, fun k hk => ?_, fun k hk => ?_⟩
      · obtain ⟨k, rfl⟩ : ∃ m, k = m + 1 := ⟨k - 1, by omega⟩
        simp only [spec_NameOk.l0]
        rw [if_pos hlt, if_pos h0, wrap_idx h0 hlt hn, hs k (by omega)]
        (repeat' split) <;> rfl
      · obtain ⟨k, rfl⟩ : ∃ m, k = m + 1 := ⟨k - 1, by omega⟩
        simp only [impl_NameOk.l0]
        rw [if_pos hlt, if_pos h0, wrap_idx h0 hlt hn, hi k (by omega)]
        (repeat' split) <;> rfl
    · refine ⟨inB s.size 1 8, fun k hk => ?_, fun k hk => ?_⟩ <;>
      · obtain ⟨k, rfl⟩ : ∃ m, k = m + 1 := ⟨k - 1, by omega⟩
        simp only [spec_NameOk.l0, impl_NameOk.l0, spec_l1In_eq, impl_within_eq, Option.bind_some]
        rw [if_neg hlt]
theorem name_both (s : ByteArray) (hn : s.size ≤ 140737488351232) : ∃ r, Ev (fun k => spec_NameOk.f k s) r ∧ Ev (fun k => impl_NameOk.f k s) r := by
  obtain ⟨r, hs, hi⟩ := name_loops s (by omega) s.size 0 (by omega) (by omega)
  exact ⟨r, ⟨s.size + 1, fun k hk => hs k (by omega)⟩, ⟨s.size + 1, fun k hk => hi k (by omega)⟩⟩

def plainC (c : Int) : Bool := inB c 32 126 && !decide (c = 34)
theorem plainC_iff (c : Int) : plainC c = true ↔ (32 ≤ c ∧ c ≤ 126) ∧ c ≠ 34 := by simp [plainC, inB]
theorem plain_spec (c : Int) (r : Bool) : (if c < 32 then some false else (if c > 126 then some false else (if c = 34 then some false else some r))) = some (if plainC c then r else false) := by
  by_cases h : plainC c = true
  · have h' := (plainC_iff c).1 h
    rw [if_pos h, if_neg (by omega), if_neg (by omega), if_neg (by omega)]
  · have h' : ¬ ((32 ≤ c ∧ c ≤ 126) ∧ c ≠ 34) := fun k => h ((plainC_iff c).2 k)
    rw [if_neg h]
    (repeat' split) <;> first | rfl | (exfalso; omega)
theorem plain_impl (c : Int) (r : Bool) : (if inB c 32 126 = true then (if c = 34 then some false else some r) else some false) = some (if plainC c then r else false) := by
  unfold plainC
  by_cases h1 : inB c 32 126 = true <;> by_cases h2 : c = 34 <;> simp [h1, h2]
theorem plain_loops (s : ByteArray) (hn : (s.size : Int) ≤ 140737488351232) (d : Nat) : ∀ (i : Int), 0 ≤ i → (s.size : Int) - i ≤ d →
    ∃ r, (∀ k, d < k → spec_PlainOk.l0 k s i = some r) ∧ ∀ k, d < k → impl_PlainOk.l0 k s i = some r := by
  induction d with
  | zero =>
    intro i h0 hd
    refine ⟨decide ((s.size : Int) ≤ 20), fun k hk => ?_, fun k hk => ?_⟩ <;>
    · obtain ⟨k, rfl⟩ : ∃ m, k = m + 1 := ⟨k - 1, by omega⟩
      simp only [spec_PlainOk.l0, impl_PlainOk.l0]
      rw [if_neg (by omega)]
  | succ d ih =>
    intro i h0 hd
    by_cases hlt : i < (s.size : Int)
    · obtain ⟨r, hs, hi⟩ := ih (i + 1) (by omega) (by omega)
      refine ⟨if plainC (bt s i) then r else false, fun k hk => ?_, fun k hk => ?_⟩
      · obtain ⟨k, rfl⟩ : ∃ m, k = m + 1 := ⟨k - 1, by omega⟩
        simp only [spec_PlainOk.l0]
        rw [if_pos hlt, if_pos h0, wrap_idx h0 hlt hn, hs k (by omega)]
        exact plain_spec _ _
      · obtain ⟨k, rfl⟩ : ∃ m, k = m + 1 := ⟨k - 1, by omega⟩
        simp only [impl_PlainOk.l0]
        rw [if_pos hlt, if_pos h0, wrap_idx h0 hlt hn, hi k (by omega), wrap_bt, impl_within_eq, Option.bind_some]
        exact plain_impl _ _
    · refine ⟨decide ((s.size : Int) ≤ 20), fun k hk => ?_, fun k hk => ?_⟩ <;>
      · obtain ⟨k, rfl⟩ : ∃ m, k = m + 1 := ⟨k - 1, by omega⟩
        simp only [spec_PlainOk.l0, impl_PlainOk.l0]
        rw [if_neg hlt]
theorem plain_both (s : ByteArray) (hn : s.size ≤ 140737488351232) : ∃ r, Ev (fun k => spec_PlainOk.f k s) r ∧ Ev (fun k => impl_PlainOk.f k s) r := by
  obtain ⟨r, hs, hi⟩ := plain_loops s (by omega) s.size 0 (by omega) (by omega)
  exact ⟨r, ⟨s.size + 1, fun k hk => hs k (by omega)⟩, ⟨s.size + 1, fun k hk => hi k (by omega)⟩⟩

theorem attrOk_both (a : ByteArray) (b : Bool) (c : Int) (e : ByteArray) (ha : a.size ≤ 1048576) (he : e.size ≤ 1048576) :
    ∃ r, ∀ k, 1048576 < k → spec_AttrOk.f k a b c e = some r ∧ impl_AttrOk.f k a b c e = some r := by
  obtain ⟨n, hn1, hn2⟩ := name_loops a (by omega) a.size 0 (by omega) (by omega)
  obtain ⟨p, hp1, hp2⟩ := plain_loops e (by omega) e.size 0 (by omega) (by omega)
  refine ⟨n && (if b then inB c 0 2147483647 && (e.toList == ([] : List UInt8)) else decide (c = 0) && p), fun k hk => ?_⟩
  have e1 : spec_NameOk.f k a = some n := hn1 k (by omega)
  have e2 : impl_NameOk.f k a = some n := hn2 k (by omega)
  have e3 : spec_PlainOk.f k e = some p := hp1 k (by omega)
  have e4 : impl_PlainOk.f k e = some p := hp2 k (by omega)
  constructor
  · simp only [spec_AttrOk.f, e1, e3, spec_l1In_eq, Option.bind_some]
    cases n <;> cases b <;> simp
    · by_cases hc : c = 0 <;> simp [hc]
    · cases inB c 0 2147483647 <;> simp
  · simp only [impl_AttrOk.f, e2, e4, impl_within_eq, Option.bind_some]
    cases n <;> cases b <;> simp
    · cases p <;> simp
      by_cases hc : c = 0 <;> simp [hc]
    · cases inB c 0 2147483647 <;> simp

theorem itoaV_size (n : Int) (h0 : -9223372036854775808 ≤ n) (h1 : n ≤ 9223372036854775807) : (itoaV n).size ≤ 21 := by
  have := Lib.itoa_length_le n h0 h1
  show (Lib.itoa n).toArray.size ≤ 21
  rw [List.size_toArray]
  exact this
theorem one_lit (x : UInt8) : (⟨#[x]⟩ : ByteArray).size = 1 := rfl
theorem two_lit (x y : UInt8) : (⟨#[x, y]⟩ : ByteArray).size = 2 := rfl
theorem attrText_both (a : ByteArray) (b : Bool) (c : Int) (e : ByteArray) (ha : a.size ≤ 1048576) (he : e.size ≤ 1048576) :
    ∃ ok r, (∀ k, 1048576 < k → spec_AttrOk.f k a b c e = some ok ∧ impl_AttrOk.f k a b c e = some ok) ∧ (∀ k, 1048576 < k → spec_AttrText.f k a b c e = some r ∧ impl_AttrText.f k a b c e = some r) ∧ r.size ≤ 4194304 ∧ (ok = true → 0 < r.size) ∧ (ok = false → r = ⟨#[]⟩) := by
  obtain ⟨ok, hok⟩ := attrOk_both a b c e ha he
  cases ok with
  | false =>
    refine ⟨false, ⟨#[]⟩, hok, fun k hk => ?_, by decide, (fun h => by cases h), fun _ => rfl⟩
    obtain ⟨h1, h2⟩ := hok k hk
    constructor
    · simp only [spec_AttrText.f, h1, Option.bind_some]
      rw [if_neg (by decide)]
    · simp only [impl_AttrText.f, h2, Option.bind_some]
      rw [if_neg (by decide)]
  | true =>
    cases b with
    | true =>
      have hc : 0 ≤ c ∧ c ≤ 2147483647 := by
        obtain ⟨h1, _⟩ := hok 1048577 (by omega)
        unfold spec_AttrOk.f at h1
        obtain ⟨q, _, h1⟩ := Option.bind_eq_some_iff.mp h1
        cases q with
        | false => rw [if_neg (by decide)] at h1; cases h1
        | true =>
          rw [if_pos rfl, if_pos rfl] at h1
          unfold spec_l1In.f at h1
          by_cases h0 : c ≥ 0
          · rw [if_pos h0, Option.bind_some] at h1
            by_cases h2 : c ≤ 2147483647
            · exact ⟨h0, h2⟩
            · rw [decide_eq_false h2, if_neg (by decide)] at h1
              cases h1
          · rw [if_neg h0, Option.bind_some, if_neg (by decide)] at h1
            cases h1
      have hs := itoaV_size c (by omega) (by omega)
      have s1 : ((a ++ (⟨#[61]⟩ : ByteArray)) ++ itoaV c).size = a.size + 1 + (itoaV c).size := by rw [ByteArray.size_append, ByteArray.size_append, one_lit]
      have s2 : (a ++ (⟨#[61]⟩ : ByteArray)).size = a.size + 1 := by rw [ByteArray.size_append, one_lit]
      refine ⟨true, (a ++ (⟨#[61]⟩ : ByteArray)) ++ itoaV c, hok, fun k hk => ?_, by omega, fun _ => by omega, fun h => by cases h⟩
      obtain ⟨h1, h2⟩ := hok k hk
      constructor
      · simp only [spec_AttrText.f, h1, Option.bind_some, spec_NumText_at c (by omega) (by omega) k (by omega), if_true]
        rw [if_pos (by omega), if_pos (by omega)]
      · simp only [impl_AttrText.f, h2, Option.bind_some, impl_NumText_at c (by omega) (by omega), if_true]
        rw [if_pos (by omega), if_pos (by omega)]
    | false =>
      have s2 : (a ++ (⟨#[61, 34]⟩ : ByteArray)).size = a.size + 2 := by rw [ByteArray.size_append, two_lit]
      have s3 : ((a ++ (⟨#[61, 34]⟩ : ByteArray)) ++ e).size = a.size + 2 + e.size := by rw [ByteArray.size_append, s2]
      have s4 : (((a ++ (⟨#[61, 34]⟩ : ByteArray)) ++ e) ++ (⟨#[34]⟩ : ByteArray)).size = a.size + 2 + e.size + 1 := by rw [ByteArray.size_append, s3, one_lit]
      refine ⟨true, ((a ++ (⟨#[61, 34]⟩ : ByteArray)) ++ e) ++ (⟨#[34]⟩ : ByteArray), hok, fun k hk => ?_, by omega, fun _ => by omega, fun h => by cases h⟩
      obtain ⟨h1, h2⟩ := hok k hk
      constructor
      · simp only [spec_AttrText.f, h1, Option.bind_some, if_true, Bool.false_eq_true, if_false]
        rw [if_pos (by omega), if_pos (by omega), if_pos (by omega)]
      · simp only [impl_AttrText.f, h2, Option.bind_some, if_true, Bool.false_eq_true, if_false]
        rw [if_pos (by omega), if_pos (by omega), if_pos (by omega)]

/-- Two loops that go side by side. -/
theorem loop_two {σ β : Type} {L L' : Nat → σ → Int → Option β} {n K : Nat} {I : σ → Nat → Prop}
    (hend : ∀ s, I s n → ∃ r, ∀ k, L (k + 1) s (n : Int) = some r ∧ L' (k + 1) s (n : Int) = some r)
    (hstep : ∀ s (i : Nat), i < n → I s i → (∃ r, ∀ k, K ≤ k → L (k + 1) s (i : Int) = some r ∧ L' (k + 1) s (i : Int) = some r) ∨
      ∃ s', I s' (i + 1) ∧ ∀ k, K ≤ k → L (k + 1) s (i : Int) = L k s' ((i : Int) + 1) ∧ L' (k + 1) s (i : Int) = L' k s' ((i : Int) + 1)) :
    ∀ (d : Nat) s (i : Nat), i + d = n → I s i → ∃ r, ∀ k, K + d < k → L k s (i : Int) = some r ∧ L' k s (i : Int) = some r := by
  intro d
  induction d with
  | zero =>
    intro s i hd hI
    obtain rfl : i = n := by omega
    obtain ⟨r, hr⟩ := hend s hI
    refine ⟨r, fun k hk => ?_⟩
    obtain ⟨k, rfl⟩ : ∃ m, k = m + 1 := ⟨k - 1, by omega⟩
    exact hr k
  | succ d ih =>
    intro s i hd hI
    rcases hstep s i (by omega) hI with ⟨r, hr⟩ | ⟨s', hI', he⟩
    · refine ⟨r, fun k hk => ?_⟩
      obtain ⟨k, rfl⟩ : ∃ m, k = m + 1 := ⟨k - 1, by omega⟩
      exact hr k (by omega)
    · obtain ⟨r, hr⟩ := ih s' (i + 1) (by omega) hI'
      refine ⟨r, fun k hk => ?_⟩
      obtain ⟨k, rfl⟩ : ∃ m, k = m + 1 := ⟨k - 1, by omega⟩
      rw [(he k (by omega)).1, (he k (by omega)).2]
      have := hr k (by omega)
      rw [Int.natCast_add] at this
      exact this

theorem attrsOk_both (l : List S28) (hl : l.length ≤ 1048576) (hf : ∀ x ∈ l, x.f0.size ≤ 1048576 ∧ x.f3.size ≤ 1048576) :
    ∃ r, Ev (fun k => spec_AttrsOk.f k l) r ∧ Ev (fun k => impl_AttrsOk.f k l) r := by
  obtain ⟨r, h⟩ := loop_two (σ := Unit) (L := fun k _ i => spec_AttrsOk.l0 k l i) (L' := fun k _ i => impl_AttrsOk.l0 k l l l.length i) (n := l.length) (K := 1048577) (I := fun _ _ => True)
    (fun s _ => ⟨decide ((l.length : Int) ≤ 4), fun k => by
      simp only [spec_AttrsOk.l0, impl_AttrsOk.l0]
      rw [if_neg (not_lt_cast _), if_neg (not_lt_cast _)]
      exact ⟨rfl, rfl⟩⟩)
    (fun s i hi _ => by
      obtain ⟨f1, f2⟩ := hf l[i] (List.getElem_mem hi)
      obtain ⟨r, hr⟩ := attrOk_both l[i].f0 l[i].f1 l[i].f2 l[i].f3 f1 f2
      let T (z : Option Bool) : Option Bool := if r = true then (if (i : Int) > 0 then (if 0 ≤ (wrap64 ((i : Int) - 1)) then (if (wrap64 ((i : Int) - 1)) < (l.length : Int) then (if ((Op.bytesLess (((rd_T28 l (wrap64 ((i : Int) - 1))).f0).toList) ((l[i].f0).toList)) = true) then z else (some false)) else (none)) else (none)) else z) else (some false)
      have hT : (∃ q, ∀ z, T z = some q) ∨ ∀ z, T z = z := by
        cases r with
        | false => exact .inl ⟨false, fun z => if_neg (by decide)⟩
        | true =>
          by_cases hz : (i : Int) > 0
          · have e1 : wrap64 ((i : Int) - 1) = ((i - 1 : Nat) : Int) := by rw [wrap_of (by omega) (by omega)]; omega
            by_cases hc : Op.bytesLess (((rd_T28 l (wrap64 ((i : Int) - 1))).f0).toList) (l[i].f0.toList) = true
            · exact .inr fun z => by
                show (if true = true then _ else _) = _
                rw [if_pos rfl, if_pos hz, if_pos (by omega), if_pos (by omega), if_pos hc]
            · exact .inl ⟨false, fun z => by
                show (if true = true then _ else _) = _
                rw [if_pos rfl, if_pos hz, if_pos (by omega), if_pos (by omega), if_neg hc]⟩
          · exact .inr fun z => by
              show (if true = true then _ else _) = _
              rw [if_pos rfl, if_neg hz]
      have hs : ∀ k, 1048577 ≤ k → spec_AttrsOk.l0 (k + 1) l (i : Int) = T (spec_AttrsOk.l0 k l ((i : Int) + 1)) := by
        intro k hk
        simp only [spec_AttrsOk.l0]
        rw [if_pos (lt_cast hi), if_pos (nn_cast i), rdIA _ _ hi, (hr k (by omega)).1, Option.bind_some, wrap_nat1 hi (by omega)]
      have hi' : ∀ k, 1048577 ≤ k → impl_AttrsOk.l0 (k + 1) l l l.length (i : Int) = T (impl_AttrsOk.l0 k l l l.length ((i : Int) + 1)) := by
        intro k hk
        simp only [impl_AttrsOk.l0]
        rw [if_pos (lt_cast hi), if_pos (nn_cast i), if_pos (lt_cast hi), rdIA _ _ hi, (hr k (by omega)).2, Option.bind_some, wrap_nat1 hi (by omega)]
      rcases hT with ⟨q, hq⟩ | hq
      · exact .inl ⟨q, fun k hk => ⟨(hs k hk).trans (hq _), (hi' k hk).trans (hq _)⟩⟩
      · exact .inr ⟨(), trivial, fun k hk => ⟨(hs k hk).trans (hq _), (hi' k hk).trans (hq _)⟩⟩) l.length () 0 (by omega) trivial
  exact ⟨r, ev_at (1048577 + l.length) fun k hk => (h k hk).1, ev_at (1048577 + l.length) fun k hk => (h k hk).2⟩

def attrSizeV (a : ByteArray) (b : Bool) (e : ByteArray) : Int := if b then (a.size : Int) + 4 else (a.size : Int) + (e.size : Int)
theorem spec_AttrSize_eq (a : ByteArray) (b : Bool) (c : Int) (e : ByteArray) (ha : a.size ≤ 1048576) (he : e.size ≤ 1048576) : spec_AttrSize.f a b c e = some (attrSizeV a b e) := by
  unfold spec_AttrSize.f attrSizeV
  rw [wrap_of (by omega) (by omega), wrap_of (by omega) (by omega)]
  cases b <;> rfl
theorem impl_AttrSize_eq (a : ByteArray) (b : Bool) (c : Int) (e : ByteArray) (ha : a.size ≤ 1048576) (he : e.size ≤ 1048576) : impl_AttrSize.f a b c e = some (attrSizeV a b e) := by
  unfold impl_AttrSize.f attrSizeV
  rw [wrap_of (by omega) (by omega), wrap_of (by omega) (by omega)]
  cases b <;> rfl
theorem attrSizeV_range (a : ByteArray) (b : Bool) (e : ByteArray) (ha : a.size ≤ 1048576) (he : e.size ≤ 1048576) : 0 ≤ attrSizeV a b e ∧ attrSizeV a b e ≤ 2097152 := by
  unfold attrSizeV
  split <;> omega

def sizeV (l : List S28) : Int := 12 + (l.map fun x => attrSizeV x.f0 x.f1 x.f3).sum
theorem sizes_take (l : List S28) (i : Nat) (h : i < l.length) : ((l.take (i + 1)).map fun x => attrSizeV x.f0 x.f1 x.f3).sum = ((l.take i).map fun x => attrSizeV x.f0 x.f1 x.f3).sum + attrSizeV l[i].f0 l[i].f1 l[i].f3 := by
  rw [List.take_succ_eq_append_getElem h, List.map_append, List.sum_append]
  simp
theorem sizes_range (l : List S28) (hf : ∀ x ∈ l, x.f0.size ≤ 1048576 ∧ x.f3.size ≤ 1048576) : 0 ≤ (l.map fun x => attrSizeV x.f0 x.f1 x.f3).sum ∧ (l.map fun x => attrSizeV x.f0 x.f1 x.f3).sum ≤ 2097152 * l.length := by
  induction l with
  | nil => simp
  | cons x l ih =>
    have h1 := ih (fun y hy => hf y (List.mem_cons_of_mem _ hy))
    obtain ⟨f1, f2⟩ := hf x List.mem_cons_self
    have h2 := attrSizeV_range x.f0 x.f1 x.f3 f1 f2
    rw [List.map_cons, List.sum_cons, List.length_cons]
    push_cast
    omega
theorem spec_SizeOf_at (a b c d : Int) (e : Bool) (l : List S28) (hl : l.length ≤ 1048576) (hf : ∀ x ∈ l, x.f0.size ≤ 1048576 ∧ x.f3.size ≤ 1048576) : ∀ k, 1048576 < k → spec_SizeOf.f k a b c d e l = some (sizeV l) := by
  obtain ⟨r, hr, h⟩ := loop_ex (σ := Int) (L := fun k s i => spec_SizeOf.l0 k s i a b c d e l) (n := l.length) (K := 0)
    (I := fun s i => s = 12 + ((l.take i).map fun x => attrSizeV x.f0 x.f1 x.f3).sum) (Post := fun _ _ r => r = sizeV l)
    (fun s hI => ⟨_, rfl, fun k => by
      simp only [spec_SizeOf.l0]
      rw [if_neg (not_lt_cast _), hI, List.take_length]
      rfl⟩)
    (fun s i hi hI => .inr ⟨_, rfl, fun k _ => by
      obtain ⟨f1, f2⟩ := hf l[i] (List.getElem_mem hi)
      have h1 := sizes_range (l.take (i + 1)) (fun x hx => hf x (List.mem_of_mem_take hx))
      have h2 : (l.take (i + 1)).length ≤ 1048576 := Nat.le_trans (List.length_take_le' _ _) hl
      have h3 := sizes_take l i hi
      simp only [spec_SizeOf.l0]
      rw [if_pos (lt_cast hi), if_pos (nn_cast i), rdIA _ _ hi, spec_AttrSize_eq _ _ _ _ f1 f2, Option.bind_some, wrap_nat1 hi (by omega), hI, wrap_of (by omega) (by omega), h3]
      congr 1
      omega, fun _ h => h⟩) l.length 12 0 (by omega) (by simp)
  subst hr
  exact fun k hk => h k (by omega)
theorem impl_SizeOf_at (a b c d : Int) (e : Bool) (l : List S28) (hl : l.length ≤ 1048576) (hf : ∀ x ∈ l, x.f0.size ≤ 1048576 ∧ x.f3.size ≤ 1048576) : ∀ k, 1048576 < k → impl_SizeOf.f k a b c d e l = some (sizeV l) := by
  obtain ⟨r, hr, h⟩ := loop_ex (σ := Int) (L := fun k s i => impl_SizeOf.l0 k s l l.length i) (n := l.length) (K := 0)
    (I := fun s i => s = 12 + ((l.take i).map fun x => attrSizeV x.f0 x.f1 x.f3).sum) (Post := fun _ _ r => r = sizeV l)
    (fun s hI => ⟨_, rfl, fun k => by
      simp only [impl_SizeOf.l0]
      rw [if_neg (not_lt_cast _), hI, List.take_length]
      rfl⟩)
    (fun s i hi hI => .inr ⟨_, rfl, fun k _ => by
      obtain ⟨f1, f2⟩ := hf l[i] (List.getElem_mem hi)
      have h1 := sizes_range (l.take (i + 1)) (fun x hx => hf x (List.mem_of_mem_take hx))
      have h2 : (l.take (i + 1)).length ≤ 1048576 := Nat.le_trans (List.length_take_le' _ _) hl
      have h3 := sizes_take l i hi
      simp only [impl_SizeOf.l0]
      rw [if_pos (lt_cast hi), if_pos (nn_cast i), if_pos (lt_cast hi), rdIA _ _ hi, impl_AttrSize_eq _ _ _ _ f1 f2, Option.bind_some, wrap_nat1 hi (by omega), hI, wrap_of (by omega) (by omega), h3]
      congr 1
      omega, fun _ h => h⟩) l.length 12 0 (by omega) (by simp)
  subst hr
  exact fun k hk => h k (by omega)
theorem spec_SizeOf_ev (a b c d : Int) (e : Bool) (l : List S28) (hl : l.length ≤ 1048576) (hf : ∀ x ∈ l, x.f0.size ≤ 1048576 ∧ x.f3.size ≤ 1048576) : Ev (fun k => spec_SizeOf.f k a b c d e l) (sizeV l) := ev_at 1048576 (spec_SizeOf_at a b c d e l hl hf)
theorem impl_SizeOf_ev (a b c d : Int) (e : Bool) (l : List S28) (hl : l.length ≤ 1048576) (hf : ∀ x ∈ l, x.f0.size ≤ 1048576 ∧ x.f3.size ≤ 1048576) : Ev (fun k => impl_SizeOf.f k a b c d e l) (sizeV l) := ev_at 1048576 (impl_SizeOf_at a b c d e l hl hf)

theorem spanOk_both (a b c d : Int) (e : Bool) (l : List S28) (hl : l.length ≤ 1048576) (hf : ∀ x ∈ l, x.f0.size ≤ 1048576 ∧ x.f3.size ≤ 1048576) :
    ∃ r, Ev (fun k => spec_SpanOk.f k a b c d e l) r ∧ Ev (fun k => impl_SpanOk.f k a b c d e l) r := by
  obtain ⟨r, ⟨K1, h1⟩, ⟨K2, h2⟩⟩ := attrsOk_both l hl hf
  simp only at h1 h2
  have hx : (inB d 0 99999 && inB c 0 d) = (inB c 0 99999 && inB d c 99999) := by
    simp only [inB]
    rw [Bool.eq_iff_iff]
    simp
    omega
  refine ⟨inB a 1 999 && (inB b 1 999 && ((inB c 0 99999 && inB d c 99999) && (r && decide (sizeV l ≤ 96)))), ev_at (K1 + 1048576) fun k hk => ?_, ev_at (K2 + 1048576) fun k hk => ?_⟩
  · simp only [spec_SpanOk.f, spec_l1In_eq, Option.bind_some, h1 k (by omega), spec_SizeOf_at a b c d e l hl hf k (by omega)]
    cases inB a 1 999 <;> cases inB b 1 999 <;> cases inB c 0 99999 <;> cases inB d c 99999 <;> cases r <;> rfl
  · rw [← hx]
    simp only [impl_SpanOk.f, impl_within_eq, Option.bind_some, h2 k (by omega), impl_SizeOf_at a b c d e l hl hf k (by omega)]
    cases inB a 1 999 <;> cases inB b 1 999 <;> cases inB d 0 99999 <;> cases inB c 0 d <;> cases r <;> rfl

theorem app_assoc (a b c : ByteArray) : a ++ (b ++ c) = (a ++ b) ++ c := by
  apply ByteArray.ext
  simp only [ByteArray.data_append, Array.append_assoc]
def sp : ByteArray := ⟨#[32]⟩
theorem spanText_loops (a b c d : Int) (e : Bool) (l : List S28) (hl : l.length ≤ 1048576) (hf : ∀ x ∈ l, x.f0.size ≤ 1048576 ∧ x.f3.size ≤ 1048576) (s : ByteArray) (hs : s.size ≤ 1000) (hp : 0 < s.size) :
    ∃ r, 0 < r.size ∧ ∀ k, 2097153 < k → spec_SpanText.l0 k s 0 a b c d e l = some r ∧ impl_SpanText.l0 k s l l.length 0 = some r := by
  have key : ∀ (n : Nat) (s : ByteArray) (i : Nat), i + n = l.length → 0 < s.size → s.size ≤ 1000 + i * 4194306 → ∃ r, 0 < r.size ∧ ∀ k, 1048577 + n < k → spec_SpanText.l0 k s (i : Int) a b c d e l = some r ∧ impl_SpanText.l0 k s l l.length (i : Int) = some r := by
    intro n
    induction n with
    | zero =>
      intro s i hi hp hs
      obtain rfl : i = l.length := by omega
      refine ⟨s, hp, fun k hk => ?_⟩
      obtain ⟨k, rfl⟩ : ∃ m, k = m + 1 := ⟨k - 1, by omega⟩
      simp only [spec_SpanText.l0, impl_SpanText.l0]
      rw [if_neg (not_lt_cast _), if_neg (not_lt_cast _)]
      exact ⟨rfl, rfl⟩
    | succ n ih =>
      intro s i hi hp hs
      have hil : i < l.length := by omega
      obtain ⟨f1, f2⟩ := hf l[i] (List.getElem_mem hil)
      obtain ⟨_, t, _, ht, hts, _, _⟩ := attrText_both l[i].f0 l[i].f1 l[i].f2 l[i].f3 f1 f2
      have z1 : (s ++ (⟨#[32]⟩ : ByteArray)).size = s.size + 1 := by rw [ByteArray.size_append, one_lit]
      have z2 : ((s ++ (⟨#[32]⟩ : ByteArray)) ++ t).size = s.size + 1 + t.size := by rw [ByteArray.size_append, z1]
      have z3 : ((⟨#[32]⟩ : ByteArray) ++ t).size = 1 + t.size := by rw [ByteArray.size_append, one_lit]
      obtain ⟨r, hr0, hr⟩ := ih ((s ++ (⟨#[32]⟩ : ByteArray)) ++ t) (i + 1) (by omega) (by omega) (by omega)
      refine ⟨r, hr0, fun k hk => ?_⟩
      obtain ⟨k, rfl⟩ : ∃ m, k = m + 1 := ⟨k - 1, by omega⟩
      obtain ⟨t1, t2⟩ := ht k (by omega)
      have h := hr k (by omega)
      rw [Int.natCast_add] at h
      refine ⟨?_, ?_⟩
      · simp only [spec_SpanText.l0]
        rw [if_pos (lt_cast hil), if_pos (by omega), if_pos (nn_cast i), rdIA _ _ hil, t1, Option.bind_some, if_pos (by omega), wrap_nat1 hil (by omega)]
        exact h.1
      · simp only [impl_SpanText.l0]
        rw [if_pos (lt_cast hil), if_pos (nn_cast i), if_pos (lt_cast hil), rdIA _ _ hil, t2, Option.bind_some, if_pos (by omega), if_pos (by omega), wrap_nat1 hil (by omega), app_assoc]
        exact h.2
  obtain ⟨r, hr0, hr⟩ := key l.length s 0 (by omega) hp (by omega)
  exact ⟨r, hr0, fun k hk => hr k (by omega)⟩
theorem spanText_both (a b c d : Int) (e : Bool) (l : List S28) (hl : l.length ≤ 1048576) (hf : ∀ x ∈ l, x.f0.size ≤ 1048576 ∧ x.f3.size ≤ 1048576)
    (ha : -9223372036854775808 ≤ a ∧ a ≤ 9223372036854775807) (hb : -9223372036854775808 ≤ b ∧ b ≤ 9223372036854775807) (hc : -9223372036854775808 ≤ c ∧ c ≤ 9223372036854775807) (hd : -9223372036854775808 ≤ d ∧ d ≤ 9223372036854775807) :
    ∃ ok r, Ev (fun k => spec_SpanOk.f k a b c d e l) ok ∧ Ev (fun k => impl_SpanOk.f k a b c d e l) ok ∧ Ev (fun k => spec_SpanText.f k a b c d e l) r ∧ Ev (fun k => impl_SpanText.f k a b c d e l) r ∧ (ok = true → 0 < r.size) ∧ (ok = false → r = ⟨#[]⟩) := by
  obtain ⟨ok, ⟨K1, h1⟩, ⟨K2, h2⟩⟩ := spanOk_both a b c d e l hl hf
  simp only at h1 h2
  cases ok with
  | false =>
    refine ⟨false, ⟨#[]⟩, ⟨K1, h1⟩, ⟨K2, h2⟩, ⟨K1, fun k hk => ?_⟩, ⟨K2, fun k hk => ?_⟩, (fun h => by cases h), fun _ => rfl⟩
    · simp only [spec_SpanText.f, h1 k hk, Option.bind_some]
      rw [if_neg (by decide)]
    · simp only [impl_SpanText.f, h2 k hk, Option.bind_some]
      rw [if_neg (by decide)]
  | true =>
    have n1 := itoaV_size a ha.1 ha.2
    have n2 := itoaV_size b hb.1 hb.2
    have n3 := itoaV_size c hc.1 hc.2
    have n4 := itoaV_size d hd.1 hd.2
    have q1 : ∀ k, 21 ≤ k → spec_NumText.f k a = some (itoaV a) := fun k hk => spec_NumText_at a ha.1 ha.2 k hk
    have q2 : ∀ k, 21 ≤ k → spec_NumText.f k b = some (itoaV b) := fun k hk => spec_NumText_at b hb.1 hb.2 k hk
    have q3 : ∀ k, 21 ≤ k → spec_NumText.f k c = some (itoaV c) := fun k hk => spec_NumText_at c hc.1 hc.2 k hk
    have q4 : ∀ k, 21 ≤ k → spec_NumText.f k d = some (itoaV d) := fun k hk => spec_NumText_at d hd.1 hd.2 k hk
    have p1 := impl_NumText_at a ha.1 ha.2
    have p2 := impl_NumText_at b hb.1 hb.2
    have p3 := impl_NumText_at c hc.1 hc.2
    have p4 := impl_NumText_at d hd.1 hd.2
    generalize itoaV a = A at *
    generalize itoaV b = B at *
    generalize itoaV c = C at *
    generalize itoaV d = D at *
    have z1 : (A ++ (⟨#[47]⟩ : ByteArray)).size = A.size + 1 := by rw [ByteArray.size_append, one_lit]
    have z2 : ((A ++ (⟨#[47]⟩ : ByteArray)) ++ B).size = A.size + 1 + B.size := by rw [ByteArray.size_append, z1]
    have z3 : (((A ++ (⟨#[47]⟩ : ByteArray)) ++ B) ++ (⟨#[32]⟩ : ByteArray)).size = A.size + 1 + B.size + 1 := by rw [ByteArray.size_append, z2, one_lit]
    have z4 : ((((A ++ (⟨#[47]⟩ : ByteArray)) ++ B) ++ (⟨#[32]⟩ : ByteArray)) ++ C).size = A.size + 1 + B.size + 1 + C.size := by rw [ByteArray.size_append, z3]
    have z5 : (((((A ++ (⟨#[47]⟩ : ByteArray)) ++ B) ++ (⟨#[32]⟩ : ByteArray)) ++ C) ++ (⟨#[45]⟩ : ByteArray)).size = A.size + 1 + B.size + 1 + C.size + 1 := by rw [ByteArray.size_append, z4, one_lit]
    have z6 : ((((((A ++ (⟨#[47]⟩ : ByteArray)) ++ B) ++ (⟨#[32]⟩ : ByteArray)) ++ C) ++ (⟨#[45]⟩ : ByteArray)) ++ D).size = A.size + 1 + B.size + 1 + C.size + 1 + D.size := by rw [ByteArray.size_append, z5]
    obtain ⟨s, hs⟩ : ∃ s, s = if e = true then (((((((A ++ (⟨#[47]⟩ : ByteArray)) ++ B) ++ (⟨#[32]⟩ : ByteArray)) ++ C) ++ (⟨#[45]⟩ : ByteArray)) ++ D) ++ (⟨#[32, 102, 97, 105, 108, 101, 100]⟩ : ByteArray)) else ((((((A ++ (⟨#[47]⟩ : ByteArray)) ++ B) ++ (⟨#[32]⟩ : ByteArray)) ++ C) ++ (⟨#[45]⟩ : ByteArray)) ++ D) := ⟨_, rfl⟩
    have hsz : 0 < s.size ∧ s.size ≤ 1000 := by
      have e7 : (⟨#[32, 102, 97, 105, 108, 101, 100]⟩ : ByteArray).size = 7 := rfl
      rw [hs]
      cases e with
      | true => rw [if_pos rfl, ByteArray.size_append, z6, e7]; omega
      | false => rw [if_neg (by decide), z6]; omega
    obtain ⟨r, hr0, hr⟩ := spanText_loops a b c d e l hl hf s hsz.2 hsz.1
    refine ⟨true, r, ⟨K1, h1⟩, ⟨K2, h2⟩, ⟨K1 + 2097156, fun k hk => ?_⟩, ⟨K2 + 2097156, fun k hk => ?_⟩, fun _ => hr0, fun h => by cases h⟩
    · obtain ⟨j, rfl⟩ : ∃ m, k = m + 1 := ⟨k - 1, by omega⟩
      have h := (hr j (by omega)).1
      simp only [spec_SpanText.f, h1 (j + 1) (by omega), Option.bind_some, q1 (j + 1) (by omega), q2 (j + 1) (by omega), q3 (j + 1) (by omega), q4 (j + 1) (by omega), if_true]
      rw [if_pos (by omega), if_pos (by omega), if_pos (by omega), if_pos (by omega), if_pos (by omega), if_pos (by omega)]
      cases e with
      | true =>
        rw [if_pos rfl] at hs
        rw [if_pos rfl, if_pos (by omega), ← hs]
        simp only [spec_SpanText.j0]
        exact h
      | false =>
        rw [if_neg (by decide)] at hs
        rw [if_neg (by decide), ← hs]
        simp only [spec_SpanText.j0]
        exact h
    · obtain ⟨j, rfl⟩ : ∃ m, k = m + 1 := ⟨k - 1, by omega⟩
      have h := (hr j (by omega)).2
      simp only [impl_SpanText.f, h2 (j + 1) (by omega), Option.bind_some, p1, p2, p3, p4, if_true]
      rw [if_pos (by omega), if_pos (by omega), if_pos (by omega), if_pos (by omega), if_pos (by omega), if_pos (by omega)]
      cases e with
      | true =>
        rw [if_pos rfl] at hs
        rw [if_pos rfl, if_pos (by omega), ← hs]
        simp only [impl_SpanText.j0]
        exact h
      | false =>
        rw [if_neg (by decide)] at hs
        rw [if_neg (by decide), ← hs]
        simp only [impl_SpanText.j0]
        exact h

theorem FnExactSpanText : ∀ (a0_0 : Int) (a0_1 : Int) (a0_2 : Int) (a0_3 : Int) (a0_4 : Bool) (l0_5 : (List S25)), ((Lit.int .i64 a0_0).wf = true ∧ (Lit.int .i64 a0_1).wf = true ∧ (Lit.int .i64 a0_2).wf = true ∧ (Lit.int .i64 a0_3).wf = true ∧ True ∧ (l0_5.length ≤ maxLen ∧ ∀ y25 ∈ l0_5, good25 y25)) → ∃ k, laws_FnExactSpanText.f k a0_0 a0_1 a0_2 a0_3 a0_4 l0_5 = some true := by
  intro a b c d e l hg
  obtain ⟨v, ⟨K0, hv⟩, hv1, hv2⟩ := szSpan_ex a b c d e l 1048576 hg.2.2.2.2.2.1 hg.2.2.2.2.2.2 (by omega) (by omega)
  simp only at hv
  by_cases hn : v < 0
  · refine ⟨K0, ?_⟩
    simp only [laws_FnExactSpanText.f, hv K0 (Nat.le_refl _), Option.bind_some]
    rw [if_pos hn]
  · have hf := hv2 (by omega)
    have hl : l.length ≤ 1048576 := by omega
    obtain ⟨K1, h1⟩ := toSpan_ev a b c d e l hl
    obtain ⟨_, r, _, _, ⟨K2, h2⟩, ⟨K3, h3⟩, _⟩ := spanText_both a b c d e (l.map cvA) (by simpa using hl) (fit_map l hf.2) (i64_range hg.1) (i64_range hg.2.1) (i64_range hg.2.2.1) (i64_range hg.2.2.2.1)
    obtain ⟨K4, h4⟩ := eqSpan_self a b c d e (l.map cvA) (by simp; omega)
    simp only at h1 h2 h3 h4
    generalize hm : K0 + K1 + K2 + K3 + K4 = m
    refine ⟨m, ?_⟩
    simp only [laws_FnExactSpanText.f, hv m (by omega), h1 m (by omega), h2 m (by omega), h3 m (by omega), h4 m (by omega), Option.bind_some, if_true]
    rw [if_neg hn]

end Go.Proofs.YtkhbhdchakbmhaaDoor.Pure
