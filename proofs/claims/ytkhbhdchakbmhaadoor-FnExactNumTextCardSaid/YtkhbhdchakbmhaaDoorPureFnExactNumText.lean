/- The program's NumText returns what the reference's returns, for all arguments. Conditions: none beyond the statement's own. -/
import Derived.Test.YtkhbhdchakbmhaaDoorQFnExactNumTextx
set_option linter.unusedVariables false
set_option linter.unusedSimpArgs false
namespace Go.Proofs.YtkhbhdchakbmhaaDoor.Pure
open Go.RowKit Go.Proofs.YtkhbhdchakbmhaaDoor.QFnExactNumText Go.Proofs.YtkhbhdchakbmhaaDoorW.PrintWords Go.Proofs.YtkhbhdchakbmhaaDoorW.PrintLast Go.Proofs.YtkhbhdchakbmhaaDoorW.PrintMore


/-- A loop over an index: from a state that is good, with enough rounds, it comes to an end that meets what is told of it. -/
theorem loop_ex {σ β : Type} {L : Nat → σ → Int → Option β} {n K : Nat} {I : σ → Nat → Prop} {Post : σ → Nat → β → Prop}
    (hend : ∀ s, I s n → ∃ r, Post s n r ∧ ∀ k, L (k + 1) s (n : Int) = some r)
    (hstep : ∀ s (i : Nat), i < n → I s i → (∃ r, Post s i r ∧ ∀ k, K ≤ k → L (k + 1) s (i : Int) = some r) ∨
      ∃ s', I s' (i + 1) ∧ (∀ k, K ≤ k → L (k + 1) s (i : Int) = L k s' ((i : Int) + 1)) ∧ ∀ r, Post s' (i + 1) r → Post s i r) :
    ∀ (d : Nat) s (i : Nat), i + d = n → I s i → ∃ r, Post s i r ∧ ∀ k, K + d < k → L k s (i : Int) = some r := by
  intro d
  induction d with
  | zero =>
    intro s i hd hI
    obtain rfl : i = n := by omega
    obtain ⟨r, hp, hr⟩ := hend s hI
    refine ⟨r, hp, fun k hk => ?_⟩
    obtain ⟨k, rfl⟩ : ∃ m, k = m + 1 := ⟨k - 1, by omega⟩
    exact hr k
  | succ d ih =>
    intro s i hd hI
    rcases hstep s i (by omega) hI with ⟨r, hp, hr⟩ | ⟨s', hI', he, hp⟩
    · refine ⟨r, hp, fun k hk => ?_⟩
      obtain ⟨k, rfl⟩ : ∃ m, k = m + 1 := ⟨k - 1, by omega⟩
      exact hr k (by omega)
    · obtain ⟨r, hq, hr⟩ := ih s' (i + 1) (by omega) hI'
      refine ⟨r, hp r hq, fun k hk => ?_⟩
      obtain ⟨k, rfl⟩ : ∃ m, k = m + 1 := ⟨k - 1, by omega⟩
      rw [he k (by omega)]
      have := hr k (by omega)
      rw [Int.natCast_add] at this
      exact this
theorem ev_at {α : Type} {g : Nat → Option α} {r : α} (K : Nat) (h : ∀ k, K < k → g k = some r) : Ev g r := ⟨K + 1, fun k hk => h k (by omega)⟩
theorem wrap_of {x : Int} (h0 : -9223372036854775808 ≤ x) (h1 : x ≤ 9223372036854775807) : wrap64 x = x := by
  unfold wrap64
  omega
theorem wrap_nat1 {i n : Nat} (h : i < n) (hn : n ≤ 9223372036854775807) : wrap64 ((i : Int) + 1) = (i : Int) + 1 := wrap_of (by omega) (by omega)
theorem lt_cast {i n : Nat} (h : i < n) : (i : Int) < (n : Int) := by omega
theorem nn_cast (i : Nat) : 0 ≤ (i : Int) := by omega
theorem not_lt_cast (n : Nat) : ¬ (n : Int) < (n : Int) := by omega
/-- What is written cell by cell. -/
theorem fill_set {α : Type} (l : List α) (z : α) (i : Nat) (h : i < l.length) : (l.take i ++ List.replicate (l.length - i) z).set i l[i] = l.take (i + 1) ++ List.replicate (l.length - (i + 1)) z := by
  have e1 : l.length - i = (l.length - (i + 1)) + 1 := by omega
  have e2 : (l.take i).length = i := by rw [List.length_take]; omega
  rw [e1, List.replicate_succ, List.set_append_right _ _ (by omega), e2, Nat.sub_self, List.set_cons_zero, List.take_succ_eq_append_getElem h, List.append_assoc]
  rfl
theorem fill_len {α : Type} (l : List α) (z : α) (i : Nat) (h : i ≤ l.length) : (l.take i ++ List.replicate (l.length - i) z).length = l.length := by
  rw [List.length_append, List.length_take, List.length_replicate]
  omega

def dec (u : Nat) : ByteArray := ⟨(Lib.decDigits u).toArray⟩
theorem dec_one {u : Nat} (h : u < 10) : dec u = strOfNums [48 + (u : Int)] := by
  have e : (48 + (u : Int)).toNat = 48 + u := by omega
  unfold dec strOfNums
  rw [Lib.decDigits_one h, List.map_cons, List.map_nil, e]
theorem dec_more {u : Nat} (h : ¬ u < 10) (s : ByteArray) : dec u ++ s = dec (u / 10) ++ (strOfNums [48 + ((u % 10 : Nat) : Int)] ++ s) := by
  have e : Lib.decDigits u = Lib.decDigits (u / 10) ++ [UInt8.ofNat (48 + u % 10)] := by rw [Lib.decDigits, dif_neg h]
  have e2 : (48 + ((u % 10 : Nat) : Int)).toNat = 48 + u % 10 := by omega
  apply ByteArray.ext
  simp only [ByteArray.data_append]
  unfold dec strOfNums
  rw [e]
  simp only [List.map_cons, List.map_nil, e2]
  apply Array.ext'
  simp
theorem dec_size (u : Nat) : (dec u).size = Lib.nDigits u := by
  unfold dec
  rw [← Lib.decDigits_length]
  simp [ByteArray.size]
theorem nDigits_le (u : Nat) (h : u < 10000000000000000000) : Lib.nDigits u ≤ 19 := by
  have key : ∀ (j u : Nat), u < 10 ^ (j + 1) → Lib.nDigits u ≤ j + 1 := by
    intro j
    induction j with
    | zero => intro u h; rw [Lib.nDigits_small (by omega)]; omega
    | succ j ih =>
      intro u h
      by_cases hu : u < 10
      · rw [Lib.nDigits_small hu]; omega
      · rw [Lib.nDigits_big hu]
        have := ih (u / 10) (by rw [Nat.pow_succ] at h; omega)
        omega
  exact key 18 u (by omega)
/-- What the reference's text of a number is, behind its digits. -/
def signed (n : Int) (s : ByteArray) : ByteArray := if n < 0 then (⟨#[45]⟩ : ByteArray) ++ s else s
theorem numText_loop (n : Int) : ∀ (u : Nat) (x : Int) (s : ByteArray) (k : Nat), 0 < u → u ≤ 9223372036854775808 → x = (u : Int) ∨ x = -(u : Int) → -9223372036854775808 ≤ x → x ≤ 9223372036854775807 → Lib.nDigits u + s.size ≤ 1000 → Lib.nDigits u + 1 ≤ k →
    spec_NumText.l0 k n s x = some (signed n (dec u ++ s)) := by
  intro u
  induction u using Nat.strongRecOn with
  | _ u ih =>
    intro x s k hu hb hx h0 h1 hs hk
    obtain ⟨k, rfl⟩ : ∃ q, k = q + 1 := ⟨k - 1, by omega⟩
    have hd : (if Int.tmod x 10 < 0 then wrap64 (-(Int.tmod x 10)) else Int.tmod x 10) = ((u % 10 : Nat) : Int) := by
      rcases hx with rfl | rfl
      · rw [Int.tmod_eq_emod_of_nonneg (by omega), if_neg (by omega)]
        omega
      · rw [Int.neg_tmod, Int.tmod_eq_emod_of_nonneg (by omega)]
        split
        · rw [wrap_of (by omega) (by omega)]
          omega
        · omega
    have hq : wrap64 (Int.tdiv x 10) = (((u / 10 : Nat)) : Int) ∧ x = (u : Int) ∨ wrap64 (Int.tdiv x 10) = -(((u / 10 : Nat)) : Int) ∧ x = -(u : Int) := by
      rcases hx with rfl | rfl
      · left
        rw [Int.tdiv_eq_ediv_of_nonneg (by omega), wrap_of (by omega) (by omega)]
        omega
      · right
        rw [Int.neg_tdiv, Int.tdiv_eq_ediv_of_nonneg (by omega), wrap_of (by omega) (by omega)]
        omega
    have hone : ∀ d : Int, d = ((u % 10 : Nat) : Int) → (wrap64 (48 + d)) % 256 = 48 + ((u % 10 : Nat) : Int) := by
      intro d e
      rw [e, wrap_of (by omega) (by omega)]
      omega
    have hsz : (strOfNums [48 + ((u % 10 : Nat) : Int)]).size = 1 := by rw [strOfNums_size]; rfl
    have hnd : 1 ≤ Lib.nDigits u := Lib.nDigits_pos u
    have hround : spec_NumText.l0 (k + 1) n s x = spec_NumText.l0 k n (strOfNums [48 + ((u % 10 : Nat) : Int)] ++ s) (wrap64 (Int.tdiv x 10)) := by
      simp only [spec_NumText.l0, Option.bind_some]
      rw [if_neg (by rcases hx with rfl | rfl <;> omega)]
      by_cases hneg : Int.tmod x 10 < 0
      · rw [if_pos hneg] at hd
        rw [if_pos hneg, hone _ hd, if_pos (by rw [hsz]; omega)]
      · rw [if_neg hneg] at hd
        rw [if_neg hneg, hone _ hd, if_pos (by rw [hsz]; omega)]
    rw [hround]
    by_cases h10 : u < 10
    · have hz : wrap64 (Int.tdiv x 10) = 0 := by omega
      rw [hz]
      obtain ⟨k, rfl⟩ : ∃ q, k = q + 1 := ⟨k - 1, by omega⟩
      simp only [spec_NumText.l0]
      rw [if_pos trivial]
      rw [dec_one h10]
      have e : u % 10 = u := by omega
      rw [e] at hsz ⊢
      unfold signed
      by_cases hn : n < 0
      · rw [if_pos hn, if_pos hn, if_pos (by rw [ByteArray.size_append, hsz]; omega)]
      · rw [if_neg hn, if_neg hn]
    · have hnb := Lib.nDigits_big h10
      rw [dec_more h10]
      have hsz2 : (strOfNums [48 + ((u % 10 : Nat) : Int)] ++ s).size = 1 + s.size := by rw [ByteArray.size_append, hsz]
      exact ih (u / 10) (by omega) _ _ k (by omega) (by omega) (by omega) (by omega) (by omega) (by omega) (by omega)
def itoaV (n : Int) : ByteArray := ⟨(Lib.itoa n).toArray⟩
theorem empty_append (s : ByteArray) : s ++ (⟨#[]⟩ : ByteArray) = s := by
  apply ByteArray.ext
  simp [ByteArray.data_append]
theorem signed_dec (n : Int) : signed n (dec n.natAbs) = itoaV n := by
  unfold signed itoaV Lib.itoa dec
  by_cases h : n < 0
  · rw [if_pos h, if_pos h]
    apply ByteArray.ext
    simp [ByteArray.data_append]
  · rw [if_neg h, if_neg h]
    have e : n.natAbs = n.toNat := by omega
    rw [e]
theorem spec_NumText_at (n : Int) (h0 : -9223372036854775808 ≤ n) (h1 : n ≤ 9223372036854775807) (k : Nat) (hk : 21 ≤ k) : spec_NumText.f k n = some (itoaV n) := by
  unfold spec_NumText.f
  by_cases hz : n = 0
  · subst hz
    rw [if_pos rfl]
    have e : Lib.itoa 0 = [48] := by
      unfold Lib.itoa
      rw [if_neg (by omega)]
      exact Lib.decDigits_one (by omega)
    unfold itoaV
    rw [e]
  · rw [if_neg hz]
    have h19 := nDigits_le n.natAbs (by omega)
    rw [numText_loop n n.natAbs n ⟨#[]⟩ k (by omega) (by omega) (by omega) h0 h1 (by have e : (⟨#[]⟩ : ByteArray).size = 0 := rfl; rw [e]; omega) (by omega), empty_append, signed_dec]
theorem impl_NumText_at (n : Int) (h0 : -9223372036854775808 ≤ n) (h1 : n ≤ 9223372036854775807) : impl_NumText.f n = some (itoaV n) := by
  simp only [impl_NumText.f, strconv_Itoa.f]
  rw [if_pos h0, if_pos h1]
  rfl
theorem i64_range {x : Int} (h : (Lit.int .i64 x).wf = true) : -9223372036854775808 ≤ x ∧ x ≤ 9223372036854775807 := by
  simp [Lit.wf, IntKind.min, IntKind.max, IntKind.signed, IntKind.bits] at h
  omega

theorem FnExactNumText : ∀ (a0 : Int), ((Lit.int .i64 a0).wf = true) → ∃ k, laws_FnExactNumText.f k a0 = some true := by
  intro n hg
  obtain ⟨h0, h1⟩ := i64_range hg
  refine ⟨21, ?_⟩
  simp only [laws_FnExactNumText.f, spec_NumText_at n h0 h1 21 (by omega), impl_NumText_at n h0 h1, Option.bind_some]
  rw [if_pos trivial]

end Go.Proofs.YtkhbhdchakbmhaaDoor.Pure
