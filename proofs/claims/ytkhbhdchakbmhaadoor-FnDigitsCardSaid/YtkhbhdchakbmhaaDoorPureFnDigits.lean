/- Numbers come back of their digits. Conditions: none beyond the statement's own. -/
import Derived.Test.YtkhbhdchakbmhaaDoorQFnDigitsx
set_option linter.unusedVariables false
set_option linter.unusedSimpArgs false
namespace Go.Proofs.YtkhbhdchakbmhaaDoor.Pure
open Go.RowKit Go.Proofs.YtkhbhdchakbmhaaDoor.QFnDigits Go.Proofs.YtkhbhdchakbmhaaDoorW.PrintWords Go.Proofs.YtkhbhdchakbmhaaDoorW.PrintLast Go.Proofs.YtkhbhdchakbmhaaDoorW.PrintMore


/-- A loop over an index: from a state that is good, with enough rounds, it comes to an end that meets what is told of it. -/
theorem loop_ex {σ β : Type} {L : Nat → σ → Int → Option β} {n K : Nat} {I : σ → Nat → Prop} {Post : σ → Nat → β → Prop}
    (hend : ∀ s, I s n → ∃ r, Post s n r ∧ ∀ k, L (k + 1) s (n : Int) = some r)
    (hstep : ∀ s (i : Nat), i < n → I s i → (∃ r, Post s i r ∧ ∀ k, K ≤ k → L (k + 1) s (i : Int) = some r) ∨
      ∃ s', I s' (i + 1) ∧ (∀ k, K ≤ k → L (k + 1) s (i : Int) = L k s' ((i : Int) + 1)) ∧ ∀ r, Post s' (i + 1) r → Post s i r) :
    ∀ (d : Nat) s (i : Nat), i + d = n → I s i → ∃ r, Post s i r ∧ ∀ k, K + d < k → L k s (i : Int) = some r := by
  intro d
  induction d with
  | zero =>
    intro s i hd hI
    obtain rfl : i = n := by omega
    obtain ⟨r, hp, hr⟩ := hend s hI
    refine ⟨r, hp, fun k hk => ?_⟩
    obtain ⟨k, rfl⟩ : ∃ m, k = m + 1 := ⟨k - 1, by omega⟩
    exact hr k
  | succ d ih =>
    intro s i hd hI
    rcases hstep s i (by omega) hI with ⟨r, hp, hr⟩ | ⟨s', hI', he, hp⟩
    · refine ⟨r, hp, fun k hk => ?_⟩
      obtain ⟨k, rfl⟩ : ∃ m, k = m + 1 := ⟨k - 1, by omega⟩
      exact hr k (by omega)
    · obtain ⟨r, hq, hr⟩ := ih s' (i + 1) (by omega) hI'
      refine ⟨r, hp r hq, fun k hk => ?_⟩
      obtain ⟨k, rfl⟩ : ∃ m, k = m + 1 := ⟨k - 1, by omega⟩
      rw [he k (by omega)]
      have := hr k (by omega)
      rw [Int.natCast_add] at this
      exact this
theorem ev_at {α : Type} {g : Nat → Option α} {r : α} (K : Nat) (h : ∀ k, K < k → g k = some r) : Ev g r := ⟨K + 1, fun k hk => h k (by omega)⟩
theorem wrap_of {x : Int} (h0 : -9223372036854775808 ≤ x) (h1 : x ≤ 9223372036854775807) : wrap64 x = x := by
  unfold wrap64
  omega
theorem wrap_nat1 {i n : Nat} (h : i < n) (hn : n ≤ 9223372036854775807) : wrap64 ((i : Int) + 1) = (i : Int) + 1 := wrap_of (by omega) (by omega)
theorem lt_cast {i n : Nat} (h : i < n) : (i : Int) < (n : Int) := by omega
theorem nn_cast (i : Nat) : 0 ≤ (i : Int) := by omega
theorem not_lt_cast (n : Nat) : ¬ (n : Int) < (n : Int) := by omega
/-- What is written cell by cell. -/
theorem fill_set {α : Type} (l : List α) (z : α) (i : Nat) (h : i < l.length) : (l.take i ++ List.replicate (l.length - i) z).set i l[i] = l.take (i + 1) ++ List.replicate (l.length - (i + 1)) z := by
  have e1 : l.length - i = (l.length - (i + 1)) + 1 := by omega
  have e2 : (l.take i).length = i := by rw [List.length_take]; omega
  rw [e1, List.replicate_succ, List.set_append_right _ _ (by omega), e2, Nat.sub_self, List.set_cons_zero, List.take_succ_eq_append_getElem h, List.append_assoc]
  rfl
theorem fill_len {α : Type} (l : List α) (z : α) (i : Nat) (h : i ≤ l.length) : (l.take i ++ List.replicate (l.length - i) z).length = l.length := by
  rw [List.length_append, List.length_take, List.length_replicate]
  omega

def dec (u : Nat) : ByteArray := ⟨(Lib.decDigits u).toArray⟩
theorem dec_one {u : Nat} (h : u < 10) : dec u = strOfNums [48 + (u : Int)] := by
  have e : (48 + (u : Int)).toNat = 48 + u := by omega
  unfold dec strOfNums
  rw [Lib.decDigits_one h, List.map_cons, List.map_nil, e]
theorem dec_more {u : Nat} (h : ¬ u < 10) (s : ByteArray) : dec u ++ s = dec (u / 10) ++ (strOfNums [48 + ((u % 10 : Nat) : Int)] ++ s) := by
  have e : Lib.decDigits u = Lib.decDigits (u / 10) ++ [UInt8.ofNat (48 + u % 10)] := by rw [Lib.decDigits, dif_neg h]
  have e2 : (48 + ((u % 10 : Nat) : Int)).toNat = 48 + u % 10 := by omega
  apply ByteArray.ext
  simp only [ByteArray.data_append]
  unfold dec strOfNums
  rw [e]
  simp only [List.map_cons, List.map_nil, e2]
  apply Array.ext'
  simp
theorem dec_size (u : Nat) : (dec u).size = Lib.nDigits u := by
  unfold dec
  rw [← Lib.decDigits_length]
  simp [ByteArray.size]
theorem nDigits_le (u : Nat) (h : u < 10000000000000000000) : Lib.nDigits u ≤ 19 := by
  have key : ∀ (j u : Nat), u < 10 ^ (j + 1) → Lib.nDigits u ≤ j + 1 := by
    intro j
    induction j with
    | zero => intro u h; rw [Lib.nDigits_small (by omega)]; omega
    | succ j ih =>
      intro u h
      by_cases hu : u < 10
      · rw [Lib.nDigits_small hu]; omega
      · rw [Lib.nDigits_big hu]
        have := ih (u / 10) (by rw [Nat.pow_succ] at h; omega)
        omega
  exact key 18 u (by omega)
theorem pos_ne {s : ByteArray} (h : 0 < s.size) : s.toList ≠ [] := by
  intro e
  rw [ByteArray.toList_eq] at e
  have h1 := congrArg List.length e
  rw [Array.length_toList] at h1
  have h2 : s.data.size = 0 := h1
  have h3 : s.size = s.data.size := rfl
  omega
def itoaV (n : Int) : ByteArray := ⟨(Lib.itoa n).toArray⟩
theorem empty_append (s : ByteArray) : s ++ (⟨#[]⟩ : ByteArray) = s := by
  apply ByteArray.ext
  simp [ByteArray.data_append]
theorem impl_NumText_at (n : Int) (h0 : -9223372036854775808 ≤ n) (h1 : n ≤ 9223372036854775807) : impl_NumText.f n = some (itoaV n) := by
  simp only [impl_NumText.f, strconv_Itoa.f]
  rw [if_pos h0, if_pos h1]
  rfl
theorem i64_range {x : Int} (h : (Lit.int .i64 x).wf = true) : -9223372036854775808 ≤ x ∧ x ≤ 9223372036854775807 := by
  simp [Lit.wf, IntKind.min, IntKind.max, IntKind.signed, IntKind.bits] at h
  omega

/-- What digits spell, behind what was spelt before; none where a byte is no digit. -/
def digVal (acc : Nat) : List UInt8 → Option Nat
  | [] => some acc
  | c :: r => if 48 ≤ c.toNat ∧ c.toNat ≤ 57 then digVal (acc * 10 + (c.toNat - 48)) r else none
theorem digVal_app (l m : List UInt8) : ∀ acc, digVal acc (l ++ m) = (digVal acc l).bind fun u => digVal u m := by
  induction l with
  | nil => intro acc; rfl
  | cons c l ih =>
    intro acc
    rw [List.cons_append, digVal, digVal]
    split
    · exact ih _
    · rfl
theorem digVal_lt (l : List UInt8) : ∀ acc v, digVal acc l = some v → v < (acc + 1) * 10 ^ l.length := by
  induction l with
  | nil =>
    intro acc v h
    rw [digVal] at h
    obtain rfl := Option.some.inj h
    simp
  | cons c l ih =>
    intro acc v h
    rw [digVal] at h
    by_cases hc : 48 ≤ c.toNat ∧ c.toNat ≤ 57
    · rw [if_pos hc] at h
      have := ih _ _ h
      have e : (acc * 10 + (c.toNat - 48) + 1) * 10 ^ l.length ≤ ((acc + 1) * 10) * 10 ^ l.length := Nat.mul_le_mul_right _ (by omega)
      rw [List.length_cons, Nat.pow_succ]
      have e2 : (acc + 1) * (10 ^ l.length * 10) = ((acc + 1) * 10) * 10 ^ l.length := by rw [Nat.mul_comm (10 ^ l.length) 10, Nat.mul_assoc]
      omega
    · rw [if_neg hc] at h
      cases h
theorem parseUint_dig (l : List UInt8) : ∀ acc, (acc + 1) * 10 ^ l.length ≤ 1000000000000000000 → Lib.parseUint10 acc l = (match digVal acc l with | some v => .ok v | none => .«syntax») := by
  induction l with
  | nil => intro acc _; rfl
  | cons c l ih =>
    intro acc h
    have hp : 0 < 10 ^ l.length := Nat.pow_pos (by omega)
    rw [List.length_cons, Nat.pow_succ] at h
    have e2 : (acc + 1) * (10 ^ l.length * 10) = ((acc + 1) * 10) * 10 ^ l.length := by rw [Nat.mul_comm (10 ^ l.length) 10, Nat.mul_assoc]
    rw [e2] at h
    have h10 : (acc + 1) * 10 ≤ 1000000000000000000 := Nat.le_trans (Nat.le_mul_of_pos_right _ hp) h
    rw [Lib.parseUint10, digVal]
    by_cases hc : 48 ≤ c.toNat ∧ c.toNat ≤ 57
    · rw [if_pos hc, if_pos hc, if_neg (by omega), if_neg (by omega)]
      refine ih _ (Nat.le_trans (Nat.mul_le_mul_right _ (by omega)) h)
    · rw [if_neg hc, if_neg hc]
theorem u8_of {c : UInt8} {n : Nat} (h : c.toNat = n) : UInt8.ofNat n = c := by
  rw [← h]
  exact UInt8.ofNat_toNat
theorem u8_nat {n : Nat} (h : n < 256) : (UInt8.ofNat n).toNat = n := by
  rw [UInt8.toNat_ofNat']
  omega
theorem digVal_dec (u : Nat) : digVal 0 (Lib.decDigits u) = some u := by
  induction u using Nat.strongRecOn with
  | _ u ih =>
    by_cases h : u < 10
    · rw [Lib.decDigits_one h, digVal, digVal, u8_nat (by omega), if_pos (by omega)]
      exact congrArg some (by omega)
    · rw [Lib.decDigits, dif_neg h, digVal_app, ih (u / 10) (by omega), Option.bind_some, digVal, digVal, u8_nat (by omega), if_pos (by omega)]
      exact congrArg some (by omega)
theorem dec_ne (u : Nat) : Lib.decDigits u ≠ [] := by
  intro h
  have := Lib.decDigits_length u
  rw [h] at this
  have h1 := Lib.nDigits_pos u
  simp at this
  omega
/-- No zero stands first, but for a single digit. -/
def noZero (l : List UInt8) : Prop := ∀ c r, l = c :: r → r ≠ [] → c.toNat ≠ 48
theorem dec_head (u : Nat) (h : 1 ≤ u) : ∀ c r, Lib.decDigits u = c :: r → 49 ≤ c.toNat ∧ c.toNat ≤ 57 := by
  induction u using Nat.strongRecOn with
  | _ u ih =>
    intro c r hc
    by_cases hu : u < 10
    · rw [Lib.decDigits_one hu] at hc
      obtain ⟨h1, _⟩ := List.cons.inj hc
      rw [← h1, u8_nat (by omega)]
      omega
    · rw [Lib.decDigits, dif_neg hu] at hc
      cases hd : Lib.decDigits (u / 10) with
      | nil => exact absurd hd (dec_ne _)
      | cons c' r' =>
        rw [hd, List.cons_append] at hc
        obtain ⟨h1, _⟩ := List.cons.inj hc
        rw [← h1]
        exact ih (u / 10) (by omega) (by omega) c' r' hd
theorem dec_first (u : Nat) : ∀ c r, Lib.decDigits u = c :: r → 48 ≤ c.toNat ∧ c.toNat ≤ 57 := by
  intro c r h
  by_cases hu : 1 ≤ u
  · have := dec_head u hu c r h
    omega
  · obtain rfl : u = 0 := by omega
    rw [Lib.decDigits_one (by omega)] at h
    obtain ⟨h1, _⟩ := List.cons.inj h
    rw [← h1, u8_nat (by omega)]
    omega
theorem dec_noZero (u : Nat) : noZero (Lib.decDigits u) := by
  intro c r h hr
  by_cases hu : u < 10
  · rw [Lib.decDigits_one hu] at h
    obtain ⟨_, h2⟩ := List.cons.inj h
    exact absurd h2.symm hr
  · have := dec_head u (by omega) c r h
    omega
theorem dec_of_dig : ∀ (n : Nat) (l : List UInt8) (v : Nat), l.length = n → l ≠ [] → noZero l → digVal 0 l = some v → Lib.decDigits v = l := by
  intro n
  induction n with
  | zero =>
    intro l v hn hl
    exact absurd (List.length_eq_zero_iff.1 hn) hl
  | succ n ih =>
    intro l v hn hl hz hv
    obtain ⟨m, c, rfl⟩ : ∃ m c, l = m ++ [c] := ⟨l.dropLast, l.getLast hl, (List.dropLast_concat_getLast hl).symm⟩
    rw [digVal_app] at hv
    obtain ⟨u, hu, hv⟩ := Option.bind_eq_some_iff.mp hv
    rw [digVal] at hv
    by_cases hc : 48 ≤ c.toNat ∧ c.toNat ≤ 57
    · rw [if_pos hc, digVal] at hv
      have hv := Option.some.inj hv
      cases hm : m with
      | nil =>
        subst hm
        rw [digVal] at hu
        have hu := Option.some.inj hu
        rw [Lib.decDigits_one (by omega), List.nil_append]
        exact congrArg (fun x => [x]) (u8_of (by omega))
      | cons c0 r0 =>
        have hne : m ≠ [] := by rw [hm]; simp
        have h0 : c0.toNat ≠ 48 := hz c0 (r0 ++ [c]) (by rw [hm]; rfl) (by simp)
        have hzm : noZero m := fun c' r' h' _ => by
          rw [hm] at h'
          obtain ⟨e, _⟩ := List.cons.inj h'
          rw [← e]
          exact h0
        have hd := ih m u (by rw [List.length_append] at hn; simpa using hn) hne hzm hu
        have hu1 : 1 ≤ u := by
          rcases Nat.eq_zero_or_pos u with h | h
          · exfalso
            rw [h, Lib.decDigits_one (by omega), hm] at hd
            obtain ⟨e, _⟩ := List.cons.inj hd
            apply h0
            rw [← e, u8_nat (by omega)]
          · exact h
        rw [Lib.decDigits, dif_neg (by omega), ← hm]
        have e1 : v / 10 = u := by omega
        rw [e1, hd]
        exact congrArg (fun x => m ++ [x]) (u8_of (by omega))
    · rw [if_neg hc] at hv
      cases hv
/-- A number's text, as it may stand. -/
def isNum (l : List UInt8) (v : Nat) : Prop := 1 ≤ l.length ∧ l.length ≤ 10 ∧ noZero l ∧ digVal 0 l = some v ∧ v ≤ 2147483647
theorem isNum_dec {l : List UInt8} {v : Nat} (h : isNum l v) : l = Lib.decDigits v := (dec_of_dig l.length l v rfl (fun e => by have := h.1; rw [e] at this; simp at this) h.2.2.1 h.2.2.2.1).symm
theorem dec_isNum (v : Nat) (h : v ≤ 2147483647) : isNum (Lib.decDigits v) v := by
  have h1 := Lib.decDigits_length v
  have h2 := Lib.nDigits_pos v
  have key : ∀ (j u : Nat), u < 10 ^ (j + 1) → Lib.nDigits u ≤ j + 1 := by
    intro j
    induction j with
    | zero => intro u h; rw [Lib.nDigits_small (by omega)]; omega
    | succ j ih =>
      intro u h
      by_cases hu : u < 10
      · rw [Lib.nDigits_small hu]; omega
      · rw [Lib.nDigits_big hu]
        have := ih (u / 10) (by rw [Nat.pow_succ] at h; omega)
        omega
  have h3 := key 9 v (by omega)
  exact ⟨by omega, by omega, dec_noZero v, digVal_dec v, h⟩
theorem atoiAll_num {l : List UInt8} {v : Nat} (h : isNum l v) : Lib.atoiAll l = .ok (v : Int) := by
  obtain ⟨h1, h2, h3, h4, h5⟩ := h
  cases l with
  | nil => simp at h1
  | cons c r =>
    have hc : 48 ≤ c.toNat ∧ c.toNat ≤ 57 := by
      rw [digVal] at h4
      by_cases hc : 48 ≤ c.toNat ∧ c.toNat ≤ 57
      · exact hc
      · rw [if_neg hc] at h4
        cases h4
    have hp : Lib.parseUint10 0 (c :: r) = .ok v := by
      have hpow : 10 ^ (c :: r).length ≤ 10 ^ 10 := Nat.pow_le_pow_right (by omega) h2
      rw [parseUint_dig (c :: r) 0 (by omega), h4]
    simp only [Lib.atoiAll]
    rw [if_neg (by omega)]
    have hm : Lib.parseMag (c :: r) = .ok v := by
      unfold Lib.parseMag
      rw [if_neg (by simp)]
      exact hp
    rw [hm]
    simp only
    rw [if_neg (by omega), if_neg (by omega), if_neg (by omega)]
/-- What the program's ParseNum answers. -/
theorem val_num {s : ByteArray} {v : Nat} (h : isNum s.data.toList v) : impl_ParseNum.val s = ((v : Int), true) := by
  unfold impl_ParseNum.val
  rw [atoiAll_num h]
  simp only
  have e := isNum_dec h
  rw [if_pos]
  refine ⟨?_, by omega, by have := h.2.2.2.2; omega⟩
  rw [Lib.itoa_nonneg, ← e]
theorem val_or (s : ByteArray) : impl_ParseNum.val s = (0, false) ∨ ∃ n : Int, impl_ParseNum.val s = (n, true) ∧ 0 ≤ n ∧ n ≤ 2147483647 ∧ s = itoaV n ∧ isNum s.data.toList n.toNat := by
  unfold impl_ParseNum.val
  cases h : Lib.atoiAll s.data.toList with
  | «syntax» => exact .inl rfl
  | range => exact .inl rfl
  | ok n =>
    simp only
    by_cases hc : (⟨(Lib.itoa n).toArray⟩ : ByteArray) = s ∧ 0 ≤ n ∧ n ≤ 2147483647
    · rw [if_pos hc]
      refine .inr ⟨n, rfl, hc.2.1, hc.2.2, hc.1.symm, ?_⟩
      obtain ⟨m, rfl⟩ : ∃ m : Nat, n = m := ⟨n.toNat, by omega⟩
      have e : s.data.toList = Lib.decDigits m := by
        rw [← hc.1, Lib.itoa_nonneg]
      rw [e]
      exact dec_isNum _ (by omega)
    · rw [if_neg hc]
      exact .inl rfl
theorem bt_list (s : ByteArray) (i : Nat) (h : i < s.data.toList.length) : bt s (i : Int) = ((s.data.toList[i]).toNat : Int) := by
  have h2 : i < s.size := by rwa [Array.length_toList] at h
  have e : (i : Int).toNat = i := by omega
  unfold bt
  rw [dif_pos (by rw [e]; exact h2)]
  simp only [e]
  rw [Array.getElem_toList]
  rfl
def numEnd (o : Option Nat) : Int × Bool := match o with
  | some v => if v ≤ 2147483647 then ((v : Int), true) else (0, false)
  | none => (0, false)
theorem parse_loop (s : ByteArray) (hs : s.size ≤ 10) : ∀ (d i acc k : Nat), i + d = s.size → acc < 10 ^ i → d < k → spec_ParseNum.l0 k s (acc : Int) (i : Int) = some (numEnd (digVal acc (s.data.toList.drop i))) := by
  have hlen : s.data.toList.length = s.size := by rw [Array.length_toList]; rfl
  intro d
  induction d with
  | zero =>
    intro i acc k hi ha hk
    obtain ⟨k, rfl⟩ : ∃ q, k = q + 1 := ⟨k - 1, by omega⟩
    simp only [spec_ParseNum.l0]
    rw [if_neg (by omega), List.drop_eq_nil_of_le (by omega), digVal]
    unfold numEnd
    simp only
    by_cases hm : acc ≤ 2147483647
    · rw [if_neg (by omega), if_pos hm]
    · rw [if_pos (by omega), if_neg hm]
  | succ d ih =>
    intro i acc k hi ha hk
    obtain ⟨k, rfl⟩ : ∃ q, k = q + 1 := ⟨k - 1, by omega⟩
    have hil : i < s.data.toList.length := by omega
    have hb := bt_list s i hil
    have hu : (s.data.toList[i]).toNat < 256 := UInt8.toNat_lt _
    have hpow : 10 ^ i ≤ 10 ^ 9 := Nat.pow_le_pow_right (by omega) (by omega)
    have hd : s.data.toList.drop i = s.data.toList[i] :: s.data.toList.drop (i + 1) := List.drop_eq_getElem_cons hil
    simp only [spec_ParseNum.l0, spec_l1In.f]
    rw [if_pos (by omega), if_pos (by omega), hb, wrap_of (by omega) (by omega), hd, digVal]
    generalize (s.data.toList[i]).toNat = c at *
    by_cases h0 : 48 ≤ c
    · rw [if_pos (by omega), Option.bind_some]
      by_cases h1 : c ≤ 57
      · have w1 : wrap64 (10 * (acc : Int)) = 10 * (acc : Int) := wrap_of (by omega) (by omega)
        have w2 : wrap64 (wrap64 (10 * (acc : Int)) + ((c : Int) - 48) % 256) = ((acc * 10 + (c - 48) : Nat) : Int) := by
          rw [w1, wrap_of (by omega) (by omega)]
          omega
        rw [decide_eq_true (by omega), if_pos rfl, if_pos ⟨h0, h1⟩, w2, wrap_of (x := (i : Int) + 1) (by omega) (by omega)]
        have := ih (i + 1) (acc * 10 + (c - 48)) k (by omega) (by rw [Nat.pow_succ]; omega) (by omega)
        rw [Int.natCast_add i 1] at this
        exact this
      · rw [decide_eq_false (by omega), if_neg (by decide), if_neg (by omega)]
        rfl
    · rw [if_neg (by omega), Option.bind_some, if_neg (by decide), if_neg (by omega)]
      rfl
theorem spec_ParseNum_at (s : ByteArray) (k : Nat) (hk : 20 ≤ k) (hs : s.size ≤ 1048576) : spec_ParseNum.f k s = some (impl_ParseNum.val s) := by
  have hlen : s.data.toList.length = s.size := by rw [Array.length_toList]; rfl
  obtain ⟨k, rfl⟩ : ∃ q, k = q + 1 := ⟨k - 1, by omega⟩
  -- no number: then the answer is none
  have hno : (∀ v, ¬ isNum s.data.toList v) → impl_ParseNum.val s = (0, false) := by
    intro h
    rcases val_or s with hv | ⟨n, _, _, _, _, hn⟩
    · exact hv
    · exact absurd hn (h _)
  unfold spec_ParseNum.f
  by_cases h0 : (s.size : Int) = 0
  · rw [if_pos h0]
    simp only [spec_ParseNum.j0]
    rw [if_pos trivial, hno fun v hv => by have := hv.1; omega]
  rw [if_neg h0]
  by_cases h1 : (s.size : Int) > 10
  · rw [if_pos h1]
    simp only [spec_ParseNum.j0]
    rw [if_pos trivial, hno fun v hv => by have := hv.2.1; omega]
  rw [if_neg h1]
  have hloop := parse_loop s (by omega) s.size 0 0 k (by omega) (by simp) (by omega)
  rw [List.drop_zero] at hloop
  have hloop' : spec_ParseNum.l0 k s 0 0 = some (numEnd (digVal 0 s.data.toList)) := hloop
  have hgood : noZero s.data.toList → numEnd (digVal 0 s.data.toList) = impl_ParseNum.val s := by
    intro hz
    cases hd : digVal 0 s.data.toList with
    | none =>
      rw [hno fun v hv => by have := hv.2.2.2.1; rw [hd] at this; cases this]
      rfl
    | some v =>
      unfold numEnd
      simp only
      by_cases hm : v ≤ 2147483647
      · rw [if_pos hm, val_num ⟨by omega, by omega, hz, hd, hm⟩]
      · rw [if_neg hm, hno fun u hu => by
          have := hu.2.2.2.1
          rw [hd] at this
          have e := Option.some.inj this
          have := hu.2.2.2.2
          omega]
  cases hl : s.data.toList with
  | nil => rw [hl] at hlen; simp at hlen; omega
  | cons c r =>
    have hbt : bt s 0 = (c.toNat : Int) := by
      have := bt_list s 0 (by rw [hl]; simp)
      simp only [hl, List.getElem_cons_zero] at this
      exact this
    by_cases h2 : (s.size : Int) > 1
    · rw [if_pos h2, if_pos (by omega)]
      simp only [spec_ParseNum.j0]
      by_cases hc : c.toNat = 48
      · have e : (bt s 0 == 48) = true := by rw [hbt, hc]; rfl
        rw [e, if_pos rfl, hno fun v hv => ?_]
        have hr : r ≠ [] := by
          intro e
          rw [hl, e] at hlen
          simp at hlen
          omega
        exact hv.2.2.1 c r hl hr hc
      · have e : (bt s 0 == 48) = false := by
          rw [hbt]
          exact beq_eq_false_iff_ne.mpr (by omega)
        rw [e, if_neg (by decide), hloop']
        exact congrArg some (hgood fun c' r' h' _ => by
          rw [hl] at h'
          obtain ⟨e1, _⟩ := List.cons.inj h'
          rw [← e1]
          exact hc)
    · rw [if_neg h2]
      simp only [spec_ParseNum.j0]
      rw [if_neg (by decide), hloop']
      exact congrArg some (hgood fun c' r' h' hr => by
        exfalso
        apply hr
        rw [h'] at hlen
        rw [List.length_cons] at hlen
        exact List.length_eq_zero_iff.1 (by omega))

/-- What the reference's text of a number is, behind its digits. -/
def signed (n : Int) (s : ByteArray) : ByteArray := if n < 0 then (⟨#[45]⟩ : ByteArray) ++ s else s
theorem numText_loop (n : Int) : ∀ (u : Nat) (x : Int) (s : ByteArray) (k : Nat), 0 < u → u ≤ 9223372036854775808 → x = (u : Int) ∨ x = -(u : Int) → -9223372036854775808 ≤ x → x ≤ 9223372036854775807 → Lib.nDigits u + s.size ≤ 1000 → Lib.nDigits u + 1 ≤ k →
    spec_NumText.l0 k n s x = some (signed n (dec u ++ s)) := by
  intro u
  induction u using Nat.strongRecOn with
  | _ u ih =>
    intro x s k hu hb hx h0 h1 hs hk
    obtain ⟨k, rfl⟩ : ∃ q, k = q + 1 := ⟨k - 1, by omega⟩
    have hd : (if Int.tmod x 10 < 0 then wrap64 (-(Int.tmod x 10)) else Int.tmod x 10) = ((u % 10 : Nat) : Int) := by
      rcases hx with rfl | rfl
      · rw [Int.tmod_eq_emod_of_nonneg (by omega), if_neg (by omega)]
        omega
      · rw [Int.neg_tmod, Int.tmod_eq_emod_of_nonneg (by omega)]
        split
        · rw [wrap_of (by omega) (by omega)]
          omega
        · omega
    have hq : wrap64 (Int.tdiv x 10) = (((u / 10 : Nat)) : Int) ∧ x = (u : Int) ∨ wrap64 (Int.tdiv x 10) = -(((u / 10 : Nat)) : Int) ∧ x = -(u : Int) := by
      rcases hx with rfl | rfl
      · left
        rw [Int.tdiv_eq_ediv_of_nonneg (by omega), wrap_of (by omega) (by omega)]
        omega
      · right
        rw [Int.neg_tdiv, Int.tdiv_eq_ediv_of_nonneg (by omega), wrap_of (by omega) (by omega)]
        omega
    have hone : ∀ d : Int, d = ((u % 10 : Nat) : Int) → (wrap64 (48 + d)) % 256 = 48 + ((u % 10 : Nat) : Int) := by
      intro d e
      rw [e, wrap_of (by omega) (by omega)]
      omega
    have hsz : (strOfNums [48 + ((u % 10 : Nat) : Int)]).size = 1 := by rw [strOfNums_size]; rfl
    have hnd : 1 ≤ Lib.nDigits u := Lib.nDigits_pos u
    have hround : spec_NumText.l0 (k + 1) n s x = spec_NumText.l0 k n (strOfNums [48 + ((u % 10 : Nat) : Int)] ++ s) (wrap64 (Int.tdiv x 10)) := by
      simp only [spec_NumText.l0, Option.bind_some]
      rw [if_neg (by rcases hx with rfl | rfl <;> omega)]
      by_cases hneg : Int.tmod x 10 < 0
      · rw [if_pos hneg] at hd
        rw [if_pos hneg, hone _ hd, if_pos (by rw [hsz]; omega)]
      · rw [if_neg hneg] at hd
        rw [if_neg hneg, hone _ hd, if_pos (by rw [hsz]; omega)]
    rw [hround]
    by_cases h10 : u < 10
    · have hz : wrap64 (Int.tdiv x 10) = 0 := by omega
      rw [hz]
      obtain ⟨k, rfl⟩ : ∃ q, k = q + 1 := ⟨k - 1, by omega⟩
      simp only [spec_NumText.l0]
      rw [if_pos trivial]
      rw [dec_one h10]
      have e : u % 10 = u := by omega
      rw [e] at hsz ⊢
      unfold signed
      by_cases hn : n < 0
      · rw [if_pos hn, if_pos hn, if_pos (by rw [ByteArray.size_append, hsz]; omega)]
      · rw [if_neg hn, if_neg hn]
    · have hnb := Lib.nDigits_big h10
      rw [dec_more h10]
      have hsz2 : (strOfNums [48 + ((u % 10 : Nat) : Int)] ++ s).size = 1 + s.size := by rw [ByteArray.size_append, hsz]
      exact ih (u / 10) (by omega) _ _ k (by omega) (by omega) (by omega) (by omega) (by omega) (by omega) (by omega)
theorem signed_dec (n : Int) : signed n (dec n.natAbs) = itoaV n := by
  unfold signed itoaV Lib.itoa dec
  by_cases h : n < 0
  · rw [if_pos h, if_pos h]
    apply ByteArray.ext
    simp [ByteArray.data_append]
  · rw [if_neg h, if_neg h]
    have e : n.natAbs = n.toNat := by omega
    rw [e]
theorem spec_NumText_at (n : Int) (h0 : -9223372036854775808 ≤ n) (h1 : n ≤ 9223372036854775807) (k : Nat) (hk : 21 ≤ k) : spec_NumText.f k n = some (itoaV n) := by
  unfold spec_NumText.f
  by_cases hz : n = 0
  · subst hz
    rw [if_pos rfl]
    have e : Lib.itoa 0 = [48] := by
      unfold Lib.itoa
      rw [if_neg (by omega)]
      exact Lib.decDigits_one (by omega)
    unfold itoaV
    rw [e]
  · rw [if_neg hz]
    have h19 := nDigits_le n.natAbs (by omega)
    rw [numText_loop n n.natAbs n ⟨#[]⟩ k (by omega) (by omega) (by omega) h0 h1 (by have e : (⟨#[]⟩ : ByteArray).size = 0 := rfl; rw [e]; omega) (by omega), empty_append, signed_dec]

theorem band_range (x : Int) (m : Nat) (hm : m < 9223372036854775808) : 0 ≤ Go.bits .and .i64 x (m : Int) ∧ Go.bits .and .i64 x (m : Int) ≤ m := by
  have e1 : (BitVec.ofInt 64 (m : Int)).toNat = m := by
    rw [BitVec.ofInt_natCast, BitVec.toNat_ofNat]
    exact Nat.mod_eq_of_lt (by omega)
  have e2 : Go.bits .and .i64 x (m : Int) = IntKind.i64.wrap ((BitVec.ofInt 64 x &&& BitVec.ofInt 64 (m : Int)).toNat : Int) := rfl
  have h : (BitVec.ofInt 64 x).toNat &&& m ≤ m := Nat.and_le_right
  rw [e2, BitVec.toNat_and, e1, IntKind.wrap_i64]
  omega
/-- A reader's place is in what it reads. -/
def RdOk (s : List Int) (i : Int) : Prop := 0 ≤ i ∧ i ≤ s.length ∧ s.length ≤ 140737488351232
theorem l1Byte_ex (s : List Int) (i h : Int) (H : RdOk s i) : ∃ b j h', spec_l1Byte.f s i h = some (b, j, h') ∧ 0 ≤ b ∧ b ≤ 255 ∧ RdOk s j := by
  obtain ⟨h0, h1, h2⟩ := H
  unfold spec_l1Byte.f
  by_cases hc : i < (s.length : Int)
  · rw [if_pos hc, if_pos h0]
    refine ⟨_, _, _, rfl, (band_range _ 255 (by omega)).1, (band_range _ 255 (by omega)).2, ?_⟩
    rw [wrap_of (by omega) (by omega)]
    exact ⟨by omega, by omega, h2⟩
  · rw [if_neg hc]
    exact ⟨_, _, _, rfl, (band_range _ 255 (by omega)).1, (band_range _ 255 (by omega)).2, h0, h1, h2⟩
theorem l1Below_ex (s : List Int) (i h n : Int) (H : RdOk s i) : ∃ v j h', spec_l1Below.f s i h n = some (v, j, h') ∧ 0 ≤ v ∧ (0 < n → v < n) ∧ (n ≤ 0 → v = 0) ∧ RdOk s j := by
  unfold spec_l1Below.f
  by_cases h1 : n ≤ 0
  · rw [if_pos h1]
    exact ⟨0, i, h, rfl, by omega, fun _ => by omega, fun _ => rfl, H⟩
  · rw [if_neg h1]
    by_cases h2 : n ≤ 256
    · rw [if_pos h2]
      obtain ⟨b, j, h', e, b0, b1, H1⟩ := l1Byte_ex s i h H
      rw [e, Option.bind_some, if_neg (by omega), Int.tmod_eq_emod_of_nonneg b0]
      exact ⟨_, _, _, rfl, Int.emod_nonneg _ (by omega), fun _ => Int.emod_lt_of_pos _ (by omega), fun _ => by omega, H1⟩
    · rw [if_neg h2]
      obtain ⟨b, j, h', e, b0, b1, H1⟩ := l1Byte_ex s i h H
      obtain ⟨b', j', h'', e', b0', b1', H2⟩ := l1Byte_ex s j h' H1
      obtain ⟨b'', j'', h3, e'', b0'', b1'', H3⟩ := l1Byte_ex s j' h'' H2
      simp only [e, e', e'', Option.bind_some]
      have w1 : wrap64 (b * 65536) = b * 65536 := wrap_of (by omega) (by omega)
      have w2 : wrap64 (b' * 256) = b' * 256 := wrap_of (by omega) (by omega)
      have w3 : wrap64 (b * 65536 + b' * 256) = b * 65536 + b' * 256 := wrap_of (by omega) (by omega)
      have w4 : wrap64 (b * 65536 + b' * 256 + b'') = b * 65536 + b' * 256 + b'' := wrap_of (by omega) (by omega)
      rw [if_neg (by omega), w1, w2, w3, w4, Int.tmod_eq_emod_of_nonneg (by omega)]
      exact ⟨_, _, _, rfl, Int.emod_nonneg _ (by omega), fun _ => Int.emod_lt_of_pos _ (by omega), fun _ => by omega, H3⟩
theorem l1New_ex (l : List Int) (hl : l.length ≤ 140737488351232) : ∃ h, Ev (fun k => spec_l1New.f k l) (l, 0, h) := by
  obtain ⟨r, ⟨h, rfl⟩, hr⟩ := loop_ex (σ := Int) (L := fun k s i => spec_l1New.l0 k l s i) (n := l.length) (K := 0)
    (I := fun _ _ => True) (Post := fun _ _ r => ∃ h, r = (l, 0, h))
    (fun s _ => ⟨_, ⟨s, rfl⟩, fun k => by
      simp only [spec_l1New.l0]
      rw [if_neg (not_lt_cast _)]⟩)
    (fun s i hi _ => by
      by_cases h4 : (i : Int) < 4000
      · refine .inr ⟨Go.bits .and .i64 (wrap64 ((wrap64 ((wrap64 (s * 137)) + (wrap64 (rd l (i : Int))))) + 11)) 1073741823, trivial, fun k _ => ?_, fun _ h => h⟩
        simp only [spec_l1New.l0]
        rw [if_pos (lt_cast hi), if_pos h4, if_pos (nn_cast i), wrap_nat1 hi (by omega)]
      · refine .inl ⟨_, ⟨s, rfl⟩, fun k _ => ?_⟩
        simp only [spec_l1New.l0]
        rw [if_pos (lt_cast hi), if_neg h4]) l.length (wrap64 (140371 + (l.length : Int))) 0 (by omega) trivial
  exact ⟨h, ev_at (0 + l.length) fun k hk => hr k hk⟩
theorem rdOk_0 (l : List Int) (hl : l.length ≤ 140737488351232) : RdOk l 0 := ⟨by omega, by omega, hl⟩

theorem l1Once_ex (s : List Int) (i h n : Int) (H : RdOk s i) : ∃ b j h', spec_l1Once.f s i h n = some (b, j, h') ∧ RdOk s j := by
  obtain ⟨v, j, h', e, _, _, _, H1⟩ := l1Below_ex s i h n H
  exact ⟨v == 0, j, h', by simp only [spec_l1Once.f, e, Option.bind_some], H1⟩

theorem rd_nat (l : List Int) (i : Nat) (h : i < l.length) : rd l (i : Int) = l[i] := by
  simp [rd, List.getD_eq_getElem?_getD, h]

theorem l1Int_ex (s : List Int) (i h : Int) (l : List Int) (hl : 0 < l.length) (H : RdOk s i) : ∃ v j h', spec_l1Int.f s i h l = some (v, j, h') ∧ v ∈ l ∧ RdOk s j := by
  obtain ⟨v, j, h', e, v0, v1, _, H1⟩ := l1Below_ex s i h (l.length : Int) H
  have hv : v < (l.length : Int) := v1 (by omega)
  obtain ⟨m, rfl⟩ : ∃ m : Nat, v = m := ⟨v.toNat, by omega⟩
  have hm : m < l.length := by omega
  refine ⟨l[m], j, h', ?_, List.getElem_mem hm, H1⟩
  simp only [spec_l1Int.f, e, Option.bind_some]
  rw [if_pos v0, if_pos hv, rd_nat _ _ hm]

theorem l1Odd_ex (s : List Int) (i h : Int) (H : RdOk s i) : ∃ v j h', spec_l1Odd.f s i h = some (v, j, h') ∧ RdOk s j ∧ -9223372036854775808 ≤ v ∧ v ≤ 9223372036854775807 := by
  obtain ⟨v, j, h', e, hv, H1⟩ := l1Int_ex s i h [(-1), 0, 1, 2, 255, 256, 65535, 2147483647, 2147483648, 4294967295, 4294967296, (-2147483648), 9223372036854775807, (-9223372036854775808)] (by decide) H
  refine ⟨v, j, h', by simp only [spec_l1Odd.f, e, Option.bind_some], H1, ?_⟩
  simp only [List.mem_cons, List.not_mem_nil, or_false] at hv
  omega
theorem l1Raw_ex (s : List Int) (i h : Int) (H : RdOk s i) : ∃ v j h', spec_l1Raw.f s i h = some (v, j, h') ∧ RdOk s j ∧ -9223372036854775808 ≤ v ∧ v ≤ 9223372036854775807 := by
  obtain ⟨b, j, h', e, H1⟩ := l1Once_ex s i h 2 H
  cases b with
  | true =>
    obtain ⟨v, j2, h2, e2, H2, hv⟩ := l1Odd_ex s j h' H1
    exact ⟨v, j2, h2, by simp only [spec_l1Raw.f, e, e2, Option.bind_some, if_true], H2, hv⟩
  | false =>
    obtain ⟨v, j2, h2, e2, hv, H2⟩ := l1Int_ex s j h' [(-2147483648), (-3), (-1), 0, 1, 3, 7, 65536, 2147483647, 2147483648] (by decide) H1
    refine ⟨v, j2, h2, by simp only [spec_l1Raw.f, e, e2, Option.bind_some, Bool.false_eq_true, if_false], H2, ?_⟩
    simp only [List.mem_cons, List.not_mem_nil, or_false] at hv
    omega

theorem l1Str_ex (s : List Int) (i h : Int) (l : List ByteArray) (hl : 0 < l.length) (H : RdOk s i) : ∃ v j h', spec_l1Str.f s i h l = some (v, j, h') ∧ v ∈ l ∧ RdOk s j := by
  obtain ⟨v, j, h', e, v0, v1, _, H1⟩ := l1Below_ex s i h (l.length : Int) H
  have hv : v < (l.length : Int) := v1 (by omega)
  obtain ⟨m, rfl⟩ : ∃ m : Nat, v = m := ⟨v.toNat, by omega⟩
  have hm : m < l.length := by omega
  refine ⟨l[m], j, h', ?_, List.getElem_mem hm, H1⟩
  simp only [spec_l1Str.f, e, Option.bind_some]
  rw [if_pos v0, if_pos hv]
  simp [rdOf, List.getD_eq_getElem?_getD, hm]

theorem s_of {l : List ByteArray} {v : ByteArray} (h : v ∈ l) (hl : (l.all fun s => decide (s.size ≤ 100)) = true) : v.size ≤ 100 := by
  have := List.all_eq_true.1 hl v h
  simpa using this
theorem g1Names (s : List Int) (i h : Int) (H : RdOk s i) : ∃ v j h', spec_l1Names.f s i h = some (v, j, h') ∧ v.size ≤ 100 ∧ RdOk s j := by
  obtain ⟨v, j, h', e, hv, H1⟩ := l1Str_ex s i h [(⟨#[107]⟩ : ByteArray), (⟨#[112, 97, 116, 104]⟩ : ByteArray), (⟨#[99, 111, 100, 101]⟩ : ByteArray), (⟨#[117, 115, 101, 114]⟩ : ByteArray)] (by decide) H
  exact ⟨v, j, h', by simp only [spec_l1Names.f, e, Option.bind_some], s_of hv (by decide), H1⟩
theorem g1AnyName (s : List Int) (i h : Int) (H : RdOk s i) : ∃ v j h', spec_l1AnyName.f s i h = some (v, j, h') ∧ v.size ≤ 100 ∧ RdOk s j := by
  obtain ⟨o, j, h', e, H1⟩ := l1Once_ex s i h 2 H
  cases o with
  | true =>
    obtain ⟨v, j2, h2, e2, hv, H2⟩ := g1Names s j h' H1
    exact ⟨v, j2, h2, by simp only [spec_l1AnyName.f, e, e2, Option.bind_some, if_true], hv, H2⟩
  | false =>
    obtain ⟨v, j2, h2, e2, hv, H2⟩ := l1Str_ex s j h' [(⟨#[]⟩ : ByteArray), (⟨#[75]⟩ : ByteArray), (⟨#[110, 105, 110, 101, 99, 104, 97, 114, 115]⟩ : ByteArray), (⟨#[101, 105, 103, 104, 116, 97, 98, 99]⟩ : ByteArray), (⟨#[97, 32, 98]⟩ : ByteArray), (⟨#[97, 49]⟩ : ByteArray), (⟨#[102, 97, 105, 108, 101, 100]⟩ : ByteArray), (⟨#[102, 97, 105, 108, 101, 100, 120]⟩ : ByteArray)] (by decide) H1
    exact ⟨v, j2, h2, by simp only [spec_l1AnyName.f, e, e2, Option.bind_some, Bool.false_eq_true, if_false], s_of hv (by decide), H2⟩
theorem g1Plain (s : List Int) (i h : Int) (H : RdOk s i) : ∃ v j h', spec_l1Plain.f s i h = some (v, j, h') ∧ v.size ≤ 100 ∧ RdOk s j := by
  obtain ⟨o, j, h', e, H1⟩ := l1Once_ex s i h 6 H
  cases o with
  | true =>
    obtain ⟨v, j2, h2, e2, hv, H2⟩ := l1Str_ex s j h' [(⟨#[]⟩ : ByteArray), (⟨#[34]⟩ : ByteArray), (⟨#[127]⟩ : ByteArray), (⟨#[31]⟩ : ByteArray), (⟨#[116, 119, 101, 110, 116, 121, 32, 98, 121, 116, 101, 115, 32, 97, 114, 101, 32, 104, 101, 114, 101]⟩ : ByteArray), (⟨#[116, 119, 101, 110, 116, 121, 98, 121, 116, 101, 115, 97, 114, 101, 104, 101, 114, 101, 50, 48]⟩ : ByteArray), (⟨#[126, 32]⟩ : ByteArray)] (by decide) H1
    exact ⟨v, j2, h2, by simp only [spec_l1Plain.f, e, e2, Option.bind_some, if_true], s_of hv (by decide), H2⟩
  | false =>
    obtain ⟨v, j2, h2, e2, hv, H2⟩ := l1Str_ex s j h' [(⟨#[97]⟩ : ByteArray), (⟨#[98]⟩ : ByteArray), (⟨#[111, 107]⟩ : ByteArray), (⟨#[120, 32, 121]⟩ : ByteArray)] (by decide) H1
    exact ⟨v, j2, h2, by simp only [spec_l1Plain.f, e, e2, Option.bind_some, Bool.false_eq_true, if_false], s_of hv (by decide), H2⟩

def inB (a b c : Int) : Bool := decide (b ≤ a) && decide (a ≤ c)
theorem impl_within_eq (a b c : Int) : impl_within.f a b c = some (inB a b c) := by
  unfold impl_within.f inB
  by_cases h : a ≥ b
  · rw [if_pos h]
    simp [show b ≤ a from h]
  · rw [if_neg h]
    simp [show ¬ b ≤ a from h]

theorem spec_l1In_eq (a b c : Int) : spec_l1In.f a b c = some (inB a b c) := by
  unfold spec_l1In.f inB
  by_cases h : a ≥ b
  · rw [if_pos h]
    simp [show b ≤ a from h]
  · rw [if_neg h]
    simp [show ¬ b ≤ a from h]

theorem wrap_idx {i n : Int} (h0 : 0 ≤ i) (h : i < n) (hn : n ≤ 140737488351232) : wrap64 (i + 1) = i + 1 := by
  unfold wrap64
  omega
theorem wrap_bt (s : ByteArray) (i : Int) : wrap64 (bt s i) = bt s i := by
  have := bt_range s i
  unfold wrap64
  omega

theorem name_loops (s : ByteArray) (hn : (s.size : Int) ≤ 140737488351232) (d : Nat) : ∀ (i : Int), 0 ≤ i → (s.size : Int) - i ≤ d →
    ∃ r, (∀ k, d < k → spec_NameOk.l0 k s i = some r) ∧ ∀ k, d < k → impl_NameOk.l0 k s i = some r := by
  induction d with
  | zero =>
    intro i h0 hd
    refine ⟨inB s.size 1 8, fun k hk => ?_, fun k hk => ?_⟩ <;>
    · obtain ⟨k, rfl⟩ : ∃ m, k = m + 1 := ⟨k - 1, by omega⟩
      simp only [spec_NameOk.l0, impl_NameOk.l0, spec_l1In_eq, impl_within_eq, Option.bind_some]
      rw [if_neg (by omega)]
  | succ d ih =>
    intro i h0 hd
    by_cases hlt : i < (s.size : Int)
    · obtain ⟨r, hs, hi⟩ := ih (i + 1) (by omega) (by omega)
      refine ⟨if bt s i < 97 then false else if bt s i > 122 then false else r, fun k hk => ?_, fun k hk => ?_⟩
      · obtain ⟨k, rfl⟩ : ∃ m, k = m + 1 := ⟨k - 1, by omega⟩
        simp only [spec_NameOk.l0]
        rw [if_pos hlt, if_pos h0, wrap_idx h0 hlt hn, hs k (by omega)]
        (repeat' split) <;> rfl
      · obtain ⟨k, rfl⟩ : ∃ m, k = m + 1 := ⟨k - 1, by omega⟩
        simp only [impl_NameOk.l0]
        rw [if_pos hlt, if_pos h0, wrap_idx h0 hlt hn, hi k (by omega)]
        (repeat' split) <;> rfl
    · refine ⟨inB s.size 1 8, fun k hk => ?_, fun k hk => ?_⟩ <;>
      · obtain ⟨k, rfl⟩ : ∃ m, k = m + 1 := ⟨k - 1, by omega⟩
        simp only [spec_NameOk.l0, impl_NameOk.l0, spec_l1In_eq, impl_within_eq, Option.bind_some]
        rw [if_neg hlt]
theorem name_both (s : ByteArray) (hn : s.size ≤ 140737488351232) : ∃ r, Ev (fun k => spec_NameOk.f k s) r ∧ Ev (fun k => impl_NameOk.f k s) r := by
  obtain ⟨r, hs, hi⟩ := name_loops s (by omega) s.size 0 (by omega) (by omega)
  exact ⟨r, ⟨s.size + 1, fun k hk => hs k (by omega)⟩, ⟨s.size + 1, fun k hk => hi k (by omega)⟩⟩

def plainC (c : Int) : Bool := inB c 32 126 && !decide (c = 34)
theorem plainC_iff (c : Int) : plainC c = true ↔ (32 ≤ c ∧ c ≤ 126) ∧ c ≠ 34 := by simp [plainC, inB]
theorem plain_spec (c : Int) (r : Bool) : (if c < 32 then some false else (if c > 126 then some false else (if c = 34 then some false else some r))) = some (if plainC c then r else false) := by
  by_cases h : plainC c = true
  · have h' := (plainC_iff c).1 h
    rw [if_pos h, if_neg (by omega), if_neg (by omega), if_neg (by omega)]
  · have h' : ¬ ((32 ≤ c ∧ c ≤ 126) ∧ c ≠ 34) := fun k => h ((plainC_iff c).2 k)
    rw [if_neg h]
    (repeat' split) <;> first | rfl | (exfalso; omega)
theorem plain_impl (c : Int) (r : Bool) : (if inB c 32 126 = true then (if c = 34 then some false else some r) else some false) = some (if plainC c then r else false) := by
  unfold plainC
  by_cases h1 : inB c 32 126 = true <;> by_cases h2 : c = 34 <;> simp [h1, h2]
theorem plain_loops (s : ByteArray) (hn : (s.size : Int) ≤ 140737488351232) (d : Nat) : ∀ (i : Int), 0 ≤ i → (s.size : Int) - i ≤ d →
    ∃ r, (∀ k, d < k → spec_PlainOk.l0 k s i = some r) ∧ ∀ k, d < k → impl_PlainOk.l0 k s i = some r := by
  induction d with
  | zero =>
    intro i h0 hd
    refine ⟨decide ((s.size : Int) ≤ 20), fun k hk => ?_, fun k hk => ?_⟩ <;>
    · obtain ⟨k, rfl⟩ : ∃ m, k = m + 1 := ⟨k - 1, by omega⟩
      simp only [spec_PlainOk.l0, impl_PlainOk.l0]
      rw [if_neg (by omega)]
  | succ d ih =>
    intro i h0 hd
    by_cases hlt : i < (s.size : Int)
    · obtain ⟨r, hs, hi⟩ := ih (i + 1) (by omega) (by omega)
      refine ⟨if plainC (bt s i) then r else false, fun k hk => ?_, fun k hk => ?_⟩
      · obtain ⟨k, rfl⟩ : ∃ m, k = m + 1 := ⟨k - 1, by omega⟩
        simp only [spec_PlainOk.l0]
        rw [if_pos hlt, if_pos h0, wrap_idx h0 hlt hn, hs k (by omega)]
        exact plain_spec _ _
      · obtain ⟨k, rfl⟩ : ∃ m, k = m + 1 := ⟨k - 1, by omega⟩
        simp only [impl_PlainOk.l0]
        rw [if_pos hlt, if_pos h0, wrap_idx h0 hlt hn, hi k (by omega), wrap_bt, impl_within_eq, Option.bind_some]
        exact plain_impl _ _
    · refine ⟨decide ((s.size : Int) ≤ 20), fun k hk => ?_, fun k hk => ?_⟩ <;>
      · obtain ⟨k, rfl⟩ : ∃ m, k = m + 1 := ⟨k - 1, by omega⟩
        simp only [spec_PlainOk.l0, impl_PlainOk.l0]
        rw [if_neg hlt]
theorem plain_both (s : ByteArray) (hn : s.size ≤ 140737488351232) : ∃ r, Ev (fun k => spec_PlainOk.f k s) r ∧ Ev (fun k => impl_PlainOk.f k s) r := by
  obtain ⟨r, hs, hi⟩ := plain_loops s (by omega) s.size 0 (by omega) (by omega)
  exact ⟨r, ⟨s.size + 1, fun k hk => hs k (by omega)⟩, ⟨s.size + 1, fun k hk => hi k (by omega)⟩⟩

theorem itoaV_list (n : Int) : (itoaV n).data.toList = Lib.itoa n := rfl
theorem itoaV_size (n : Int) (h0 : -9223372036854775808 ≤ n) (h1 : n ≤ 9223372036854775807) : (itoaV n).size ≤ 21 := by
  have := Lib.itoa_length_le n h0 h1
  show (Lib.itoa n).toArray.size ≤ 21
  rw [List.size_toArray]
  exact this
theorem val_itoa (n : Int) : impl_ParseNum.val (itoaV n) = if 0 ≤ n ∧ n ≤ 2147483647 then (n, true) else (0, false) := by
  by_cases h : 0 ≤ n ∧ n ≤ 2147483647
  · rw [if_pos h]
    obtain ⟨m, rfl⟩ : ∃ m : Nat, n = m := ⟨n.toNat, by omega⟩
    exact val_num (by rw [itoaV_list, Lib.itoa_nonneg]; exact dec_isNum m (by omega))
  · rw [if_neg h]
    rcases val_or (itoaV n) with hv | ⟨m, _, m0, m1, he, _⟩
    · exact hv
    · exfalso
      apply h
      have e : Lib.itoa n = Lib.itoa m := by
        have := congrArg (fun s : ByteArray => s.data.toList) he
        exact this
      obtain ⟨q, rfl⟩ : ∃ q : Nat, m = q := ⟨m.toNat, by omega⟩
      rw [Lib.itoa_nonneg] at e
      by_cases hn : n < 0
      · unfold Lib.itoa at e
        rw [if_pos hn] at e
        have := dec_first q _ _ e.symm
        simp at this
      · obtain ⟨p, rfl⟩ : ∃ p : Nat, n = p := ⟨n.toNat, by omega⟩
        rw [Lib.itoa_nonneg] at e
        have h1 := digVal_dec p
        rw [e, digVal_dec q] at h1
        have := Option.some.inj h1
        omega
theorem parse_at (s : ByteArray) (hs : s.size ≤ 1048576) : impl_ParseNum.f s = some (impl_ParseNum.val s) := by
  unfold impl_ParseNum.f
  rw [if_pos (by omega)]
theorem FnDigits : ∀ (l0 : (List Int)), ((l0.length ≤ maxLen ∧ ∀ y5 ∈ l0, (Lit.int .u8 y5).wf = true)) → ∃ k, laws_FnDigits.f k l0 = some true := by
  intro l hg
  by_cases hb : (l.length : Int) > 1048576
  · refine ⟨0, ?_⟩
    simp [laws_FnDigits.f, laws_big.f, hb]
  have hl : l.length ≤ 140737488351232 := by omega
  obtain ⟨h, K, hK⟩ := l1New_ex l hl
  simp only at hK
  have H0 := rdOk_0 l hl
  obtain ⟨n, j1, h1, e1, _, n0, n1⟩ := l1Raw_ex l 0 h H0
  have ht : ∃ t, t.size ≤ 100 ∧ ∀ k, K + 21 ≤ k → spec_DrawParseNum.f k l = some t := by
    obtain ⟨o, j2, h2, e2, H2⟩ := l1Once_ex l 0 h 2 H0
    cases o with
    | true =>
      obtain ⟨v, j3, h3, e3, hv, H3⟩ := l1Str_ex l j2 h2 [(⟨#[]⟩ : ByteArray), (⟨#[48]⟩ : ByteArray), (⟨#[48, 48]⟩ : ByteArray), (⟨#[48, 49]⟩ : ByteArray), (⟨#[55]⟩ : ByteArray), (⟨#[50, 49, 52, 55, 52, 56, 51, 54, 52, 55]⟩ : ByteArray), (⟨#[50, 49, 52, 55, 52, 56, 51, 54, 52, 56]⟩ : ByteArray), (⟨#[57, 57, 57, 57, 57, 57, 57, 57, 57, 57, 57]⟩ : ByteArray), (⟨#[45, 49]⟩ : ByteArray), (⟨#[49, 120]⟩ : ByteArray), (⟨#[32, 49]⟩ : ByteArray)] (by decide) H2
      refine ⟨v, s_of hv (by decide), fun k hk => ?_⟩
      simp only [spec_DrawParseNum.f, hK k (by omega), Option.bind_some, e2, if_true, e3]
    | false =>
      obtain ⟨m, j3, h3, e3, _, m0, m1⟩ := l1Raw_ex l j2 h2 H2
      refine ⟨itoaV m, by have := itoaV_size m m0 m1; omega, fun k hk => ?_⟩
      simp only [spec_DrawParseNum.f, hK k (by omega), Option.bind_some, e2, Bool.false_eq_true, if_false, e3, spec_NumText_at m m0 m1 k (by omega)]
  obtain ⟨t, hts, ht⟩ := ht
  obtain ⟨u, j4, h4, e4, hu, _⟩ := g1AnyName l 0 h H0
  obtain ⟨v, j5, h5, e5, hv, _⟩ := g1Plain l 0 h H0
  obtain ⟨a, a1, a2⟩ := name_loops u (by omega) u.size 0 (by omega) (by omega)
  obtain ⟨b, b1, b2⟩ := plain_loops v (by omega) v.size 0 (by omega) (by omega)
  obtain ⟨k, hk⟩ : ∃ k, k = K + 1048700 := ⟨_, rfl⟩
  have c1 : spec_NameOk.f k u = some a := a1 k (by omega)
  have c2 : impl_NameOk.f k u = some a := a2 k (by omega)
  have c3 : spec_PlainOk.f k v = some b := b1 k (by omega)
  have c4 : impl_PlainOk.f k v = some b := b2 k (by omega)
  have d1 : spec_DrawNumText.f k l = some n := by simp only [spec_DrawNumText.f, hK k (by omega), Option.bind_some, e1]
  have d3 : spec_DrawNameOk.f k l = some u := by simp only [spec_DrawNameOk.f, hK k (by omega), Option.bind_some, e4]
  have d4 : spec_DrawPlainOk.f k l = some v := by simp only [spec_DrawPlainOk.f, hK k (by omega), Option.bind_some, e5]
  have s21 := itoaV_size n n0 n1
  refine ⟨k, ?_⟩
  have e0 : laws_big.f l = some false := by unfold laws_big.f; rw [decide_eq_false hb]
  unfold laws_FnDigits.f
  rw [e0, Option.bind_some, if_neg (by decide), d1, Option.bind_some, impl_NumText_at n n0 n1, Option.bind_some, parse_at (itoaV n) (by omega), Option.bind_some, ht k (by omega), Option.bind_some, parse_at t (by omega), Option.bind_some,
    spec_ParseNum_at t k (by omega) (by omega), Option.bind_some, d3, Option.bind_some, d4, Option.bind_some, spec_NumText_at n n0 n1 k (by omega), Option.bind_some, if_pos rfl, val_itoa]
  simp only [c1, c2, c3, c4, Option.bind_some]
  rcases val_or t with hz | ⟨y, hz, y0, y1, hy, _⟩
  · rw [hz]
    by_cases p0 : n ≥ 0
    · by_cases p1 : n ≤ 2147483647
      · simp [p0, p1]
      · simp [p0, p1]
    · have p2 : ¬ (0 ≤ n) := p0
      simp [p0, p2]
  · have hny : impl_NumText.f y = some t := by rw [impl_NumText_at y (by omega) (by omega), ← hy]
    rw [hz]
    simp only [hny, Option.bind_some]
    by_cases p0 : n ≥ 0
    · by_cases p1 : n ≤ 2147483647
      · simp [p0, p1]
      · simp [p0, p1]
    · have p2 : ¬ (0 ≤ n) := p0
      simp [p0, p2]

end Go.Proofs.YtkhbhdchakbmhaaDoor.Pure
