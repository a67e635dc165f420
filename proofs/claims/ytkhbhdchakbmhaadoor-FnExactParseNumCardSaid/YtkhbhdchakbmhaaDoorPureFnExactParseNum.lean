/- The program's ParseNum returns what the reference's returns, for all arguments. Conditions: none beyond the statement's own. -/
import Derived.Test.YtkhbhdchakbmhaaDoorQFnExactParseNumx
set_option linter.unusedVariables false
set_option linter.unusedSimpArgs false
namespace Go.Proofs.YtkhbhdchakbmhaaDoor.Pure
open Go.RowKit Go.Proofs.YtkhbhdchakbmhaaDoor.QFnExactParseNum Go.Proofs.YtkhbhdchakbmhaaDoorW.PrintWords Go.Proofs.YtkhbhdchakbmhaaDoorW.PrintLast Go.Proofs.YtkhbhdchakbmhaaDoorW.PrintMore


/-- A loop over an index: from a state that is good, with enough rounds, it comes to an end that meets what is told of it. -/
theorem loop_ex {σ β : Type} {L : Nat → σ → Int → Option β} {n K : Nat} {I : σ → Nat → Prop} {Post : σ → Nat → β → Prop}
    (hend : ∀ s, I s n → ∃ r, Post s n r ∧ ∀ k, L (k + 1) s (n : Int) = some r)
    (hstep : ∀ s (i : Nat), i < n → I s i → (∃ r, Post s i r ∧ ∀ k, K ≤ k → L (k + 1) s (i : Int) = some r) ∨
      ∃ s', I s' (i + 1) ∧ (∀ k, K ≤ k → L (k + 1) s (i : Int) = L k s' ((i : Int) + 1)) ∧ ∀ r, Post s' (i + 1) r → Post s i r) :
    ∀ (d : Nat) s (i : Nat), i + d = n → I s i → ∃ r, Post s i r ∧ ∀ k, K + d < k → L k s (i : Int) = some r := by
  intro d
  induction d with
  | zero =>
    intro s i hd hI
    obtain rfl : i = n := by omega
    obtain ⟨r, hp, hr⟩ := hend s hI
    refine ⟨r, hp, fun k hk => ?_⟩
    obtain ⟨k, rfl⟩ : ∃ m, k = m + 1 := ⟨k - 1, by omega⟩
    exact hr k
  | succ d ih =>
    intro s i hd hI
    rcases hstep s i (by omega) hI with ⟨r, hp, hr⟩ | ⟨s', hI', he, hp⟩
    · refine ⟨r, hp, fun k hk => ?_⟩
      obtain ⟨k, rfl⟩ : ∃ m, k = m + 1 := ⟨k - 1, by omega⟩
      exact hr k (by omega)
    · obtain ⟨r, hq, hr⟩ := ih s' (i + 1) (by omega) hI'
      refine ⟨r, hp r hq, fun k hk => ?_⟩
      obtain ⟨k, rfl⟩ : ∃ m, k = m + 1 := ⟨k - 1, by omega⟩
      rw [he k (by omega)]
      have := hr k (by omega)
      rw [Int.natCast_add] at this
      exact this
theorem ev_at {α : Type} {g : Nat → Option α} {r : α} (K : Nat) (h : ∀ k, K < k → g k = some r) : Ev g r := ⟨K + 1, fun k hk => h k (by omega)⟩
theorem wrap_of {x : Int} (h0 : -9223372036854775808 ≤ x) (h1 : x ≤ 9223372036854775807) : wrap64 x = x := by
  unfold wrap64
  omega
theorem wrap_nat1 {i n : Nat} (h : i < n) (hn : n ≤ 9223372036854775807) : wrap64 ((i : Int) + 1) = (i : Int) + 1 := wrap_of (by omega) (by omega)
theorem lt_cast {i n : Nat} (h : i < n) : (i : Int) < (n : Int) := by omega
theorem nn_cast (i : Nat) : 0 ≤ (i : Int) := by omega
theorem not_lt_cast (n : Nat) : ¬ (n : Int) < (n : Int) := by omega
/-- What is written cell by cell. -/
theorem fill_set {α : Type} (l : List α) (z : α) (i : Nat) (h : i < l.length) : (l.take i ++ List.replicate (l.length - i) z).set i l[i] = l.take (i + 1) ++ List.replicate (l.length - (i + 1)) z := by
  have e1 : l.length - i = (l.length - (i + 1)) + 1 := by omega
  have e2 : (l.take i).length = i := by rw [List.length_take]; omega
  rw [e1, List.replicate_succ, List.set_append_right _ _ (by omega), e2, Nat.sub_self, List.set_cons_zero, List.take_succ_eq_append_getElem h, List.append_assoc]
  rfl
theorem fill_len {α : Type} (l : List α) (z : α) (i : Nat) (h : i ≤ l.length) : (l.take i ++ List.replicate (l.length - i) z).length = l.length := by
  rw [List.length_append, List.length_take, List.length_replicate]
  omega

def dec (u : Nat) : ByteArray := ⟨(Lib.decDigits u).toArray⟩
theorem dec_one {u : Nat} (h : u < 10) : dec u = strOfNums [48 + (u : Int)] := by
  have e : (48 + (u : Int)).toNat = 48 + u := by omega
  unfold dec strOfNums
  rw [Lib.decDigits_one h, List.map_cons, List.map_nil, e]
theorem dec_more {u : Nat} (h : ¬ u < 10) (s : ByteArray) : dec u ++ s = dec (u / 10) ++ (strOfNums [48 + ((u % 10 : Nat) : Int)] ++ s) := by
  have e : Lib.decDigits u = Lib.decDigits (u / 10) ++ [UInt8.ofNat (48 + u % 10)] := by rw [Lib.decDigits, dif_neg h]
  have e2 : (48 + ((u % 10 : Nat) : Int)).toNat = 48 + u % 10 := by omega
  apply ByteArray.ext
  simp only [ByteArray.data_append]
  unfold dec strOfNums
  rw [e]
  simp only [List.map_cons, List.map_nil, e2]
  apply Array.ext'
  simp
theorem dec_size (u : Nat) : (dec u).size = Lib.nDigits u := by
  unfold dec
  rw [← Lib.decDigits_length]
  simp [ByteArray.size]
theorem nDigits_le (u : Nat) (h : u < 10000000000000000000) : Lib.nDigits u ≤ 19 := by
  have key : ∀ (j u : Nat), u < 10 ^ (j + 1) → Lib.nDigits u ≤ j + 1 := by
    intro j
    induction j with
    | zero => intro u h; rw [Lib.nDigits_small (by omega)]; omega
    | succ j ih =>
      intro u h
      by_cases hu : u < 10
      · rw [Lib.nDigits_small hu]; omega
      · rw [Lib.nDigits_big hu]
        have := ih (u / 10) (by rw [Nat.pow_succ] at h; omega)
        omega
  exact key 18 u (by omega)
theorem pos_ne {s : ByteArray} (h : 0 < s.size) : s.toList ≠ [] := by
  intro e
  rw [ByteArray.toList_eq] at e
  have h1 := congrArg List.length e
  rw [Array.length_toList] at h1
  have h2 : s.data.size = 0 := h1
  have h3 : s.size = s.data.size := rfl
  omega
def itoaV (n : Int) : ByteArray := ⟨(Lib.itoa n).toArray⟩
theorem empty_append (s : ByteArray) : s ++ (⟨#[]⟩ : ByteArray) = s := by
  apply ByteArray.ext
  simp [ByteArray.data_append]
theorem impl_NumText_at (n : Int) (h0 : -9223372036854775808 ≤ n) (h1 : n ≤ 9223372036854775807) : impl_NumText.f n = some (itoaV n) := by
  simp only [impl_NumText.f, strconv_Itoa.f]
  rw [if_pos h0, if_pos h1]
  rfl
theorem i64_range {x : Int} (h : (Lit.int .i64 x).wf = true) : -9223372036854775808 ≤ x ∧ x ≤ 9223372036854775807 := by
  simp [Lit.wf, IntKind.min, IntKind.max, IntKind.signed, IntKind.bits] at h
  omega

/-- What digits spell, behind what was spelt before; none where a byte is no digit. -/
def digVal (acc : Nat) : List UInt8 → Option Nat
  | [] => some acc
  | c :: r => if 48 ≤ c.toNat ∧ c.toNat ≤ 57 then digVal (acc * 10 + (c.toNat - 48)) r else none
theorem digVal_app (l m : List UInt8) : ∀ acc, digVal acc (l ++ m) = (digVal acc l).bind fun u => digVal u m := by
  induction l with
  | nil => intro acc; rfl
  | cons c l ih =>
    intro acc
    rw [List.cons_append, digVal, digVal]
    split
    · exact ih _
    · rfl
theorem digVal_lt (l : List UInt8) : ∀ acc v, digVal acc l = some v → v < (acc + 1) * 10 ^ l.length := by
  induction l with
  | nil =>
    intro acc v h
    rw [digVal] at h
    obtain rfl := Option.some.inj h
    simp
  | cons c l ih =>
    intro acc v h
    rw [digVal] at h
    by_cases hc : 48 ≤ c.toNat ∧ c.toNat ≤ 57
    · rw [if_pos hc] at h
      have := ih _ _ h
      have e : (acc * 10 + (c.toNat - 48) + 1) * 10 ^ l.length ≤ ((acc + 1) * 10) * 10 ^ l.length := Nat.mul_le_mul_right _ (by omega)
      rw [List.length_cons, Nat.pow_succ]
      have e2 : (acc + 1) * (10 ^ l.length * 10) = ((acc + 1) * 10) * 10 ^ l.length := by rw [Nat.mul_comm (10 ^ l.length) 10, Nat.mul_assoc]
      omega
    · rw [if_neg hc] at h
      cases h
theorem parseUint_dig (l : List UInt8) : ∀ acc, (acc + 1) * 10 ^ l.length ≤ 1000000000000000000 → Lib.parseUint10 acc l = (match digVal acc l with | some v => .ok v | none => .«syntax») := by
  induction l with
  | nil => intro acc _; rfl
  | cons c l ih =>
    intro acc h
    have hp : 0 < 10 ^ l.length := Nat.pow_pos (by omega)
    rw [List.length_cons, Nat.pow_succ] at h
    have e2 : (acc + 1) * (10 ^ l.length * 10) = ((acc + 1) * 10) * 10 ^ l.length := by rw [Nat.mul_comm (10 ^ l.length) 10, Nat.mul_assoc]
    rw [e2] at h
    have h10 : (acc + 1) * 10 ≤ 1000000000000000000 := Nat.le_trans (Nat.le_mul_of_pos_right _ hp) h
    rw [Lib.parseUint10, digVal]
    by_cases hc : 48 ≤ c.toNat ∧ c.toNat ≤ 57
    · rw [if_pos hc, if_pos hc, if_neg (by omega), if_neg (by omega)]
      refine ih _ (Nat.le_trans (Nat.mul_le_mul_right _ (by omega)) h)
    · rw [if_neg hc, if_neg hc]
theorem u8_of {c : UInt8} {n : Nat} (h : c.toNat = n) : UInt8.ofNat n = c := by
  rw [← h]
  exact UInt8.ofNat_toNat
theorem u8_nat {n : Nat} (h : n < 256) : (UInt8.ofNat n).toNat = n := by
  rw [UInt8.toNat_ofNat']
  omega
theorem digVal_dec (u : Nat) : digVal 0 (Lib.decDigits u) = some u := by
  induction u using Nat.strongRecOn with
  | _ u ih =>
    by_cases h : u < 10
    · rw [Lib.decDigits_one h, digVal, digVal, u8_nat (by omega), if_pos (by omega)]
      exact congrArg some (by omega)
    · rw [Lib.decDigits, dif_neg h, digVal_app, ih (u / 10) (by omega), Option.bind_some, digVal, digVal, u8_nat (by omega), if_pos (by omega)]
      exact congrArg some (by omega)
theorem dec_ne (u : Nat) : Lib.decDigits u ≠ [] := by
  intro h
  have := Lib.decDigits_length u
  rw [h] at this
  have h1 := Lib.nDigits_pos u
  simp at this
  omega
/-- No zero stands first, but for a single digit. -/
def noZero (l : List UInt8) : Prop := ∀ c r, l = c :: r → r ≠ [] → c.toNat ≠ 48
theorem dec_head (u : Nat) (h : 1 ≤ u) : ∀ c r, Lib.decDigits u = c :: r → 49 ≤ c.toNat ∧ c.toNat ≤ 57 := by
  induction u using Nat.strongRecOn with
  | _ u ih =>
    intro c r hc
    by_cases hu : u < 10
    · rw [Lib.decDigits_one hu] at hc
      obtain ⟨h1, _⟩ := List.cons.inj hc
      rw [← h1, u8_nat (by omega)]
      omega
    · rw [Lib.decDigits, dif_neg hu] at hc
      cases hd : Lib.decDigits (u / 10) with
      | nil => exact absurd hd (dec_ne _)
      | cons c' r' =>
        rw [hd, List.cons_append] at hc
        obtain ⟨h1, _⟩ := List.cons.inj hc
        rw [← h1]
        exact ih (u / 10) (by omega) (by omega) c' r' hd
theorem dec_first (u : Nat) : ∀ c r, Lib.decDigits u = c :: r → 48 ≤ c.toNat ∧ c.toNat ≤ 57 := by
  intro c r h
  by_cases hu : 1 ≤ u
  · have := dec_head u hu c r h
    omega
  · obtain rfl : u = 0 := by omega
    rw [Lib.decDigits_one (by omega)] at h
    obtain ⟨h1, _⟩ := List.cons.inj h
    rw [← h1, u8_nat (by omega)]
    omega
theorem dec_noZero (u : Nat) : noZero (Lib.decDigits u) := by
  intro c r h hr
  by_cases hu : u < 10
  · rw [Lib.decDigits_one hu] at h
    obtain ⟨_, h2⟩ := List.cons.inj h
    exact absurd h2.symm hr
  · have := dec_head u (by omega) c r h
    omega
theorem dec_of_dig : ∀ (n : Nat) (l : List UInt8) (v : Nat), l.length = n → l ≠ [] → noZero l → digVal 0 l = some v → Lib.decDigits v = l := by
  intro n
  induction n with
  | zero =>
    intro l v hn hl
    exact absurd (List.length_eq_zero_iff.1 hn) hl
  | succ n ih =>
    intro l v hn hl hz hv
    obtain ⟨m, c, rfl⟩ : ∃ m c, l = m ++ [c] := ⟨l.dropLast, l.getLast hl, (List.dropLast_concat_getLast hl).symm⟩
    rw [digVal_app] at hv
    obtain ⟨u, hu, hv⟩ := Option.bind_eq_some_iff.mp hv
    rw [digVal] at hv
    by_cases hc : 48 ≤ c.toNat ∧ c.toNat ≤ 57
    · rw [if_pos hc, digVal] at hv
      have hv := Option.some.inj hv
      cases hm : m with
      | nil =>
        subst hm
        rw [digVal] at hu
        have hu := Option.some.inj hu
        rw [Lib.decDigits_one (by omega), List.nil_append]
        exact congrArg (fun x => [x]) (u8_of (by omega))
      | cons c0 r0 =>
        have hne : m ≠ [] := by rw [hm]; simp
        have h0 : c0.toNat ≠ 48 := hz c0 (r0 ++ [c]) (by rw [hm]; rfl) (by simp)
        have hzm : noZero m := fun c' r' h' _ => by
          rw [hm] at h'
          obtain ⟨e, _⟩ := List.cons.inj h'
          rw [← e]
          exact h0
        have hd := ih m u (by rw [List.length_append] at hn; simpa using hn) hne hzm hu
        have hu1 : 1 ≤ u := by
          rcases Nat.eq_zero_or_pos u with h | h
          · exfalso
            rw [h, Lib.decDigits_one (by omega), hm] at hd
            obtain ⟨e, _⟩ := List.cons.inj hd
            apply h0
            rw [← e, u8_nat (by omega)]
          · exact h
        rw [Lib.decDigits, dif_neg (by omega), ← hm]
        have e1 : v / 10 = u := by omega
        rw [e1, hd]
        exact congrArg (fun x => m ++ [x]) (u8_of (by omega))
    · rw [if_neg hc] at hv
      cases hv
/-- A number's text, as it may stand. -/
def isNum (l : List UInt8) (v : Nat) : Prop := 1 ≤ l.length ∧ l.length ≤ 10 ∧ noZero l ∧ digVal 0 l = some v ∧ v ≤ 2147483647
theorem isNum_dec {l : List UInt8} {v : Nat} (h : isNum l v) : l = Lib.decDigits v := (dec_of_dig l.length l v rfl (fun e => by have := h.1; rw [e] at this; simp at this) h.2.2.1 h.2.2.2.1).symm
theorem dec_isNum (v : Nat) (h : v ≤ 2147483647) : isNum (Lib.decDigits v) v := by
  have h1 := Lib.decDigits_length v
  have h2 := Lib.nDigits_pos v
  have key : ∀ (j u : Nat), u < 10 ^ (j + 1) → Lib.nDigits u ≤ j + 1 := by
    intro j
    induction j with
    | zero => intro u h; rw [Lib.nDigits_small (by omega)]; omega
    | succ j ih =>
      intro u h
      by_cases hu : u < 10
      · rw [Lib.nDigits_small hu]; omega
      · rw [Lib.nDigits_big hu]
        have := ih (u / 10) (by rw [Nat.pow_succ] at h; omega)
        omega
  have h3 := key 9 v (by omega)
  exact ⟨by omega, by omega, dec_noZero v, digVal_dec v, h⟩
theorem atoiAll_num {l : List UInt8} {v : Nat} (h : isNum l v) : Lib.atoiAll l = .ok (v : Int) := by
  obtain ⟨h1, h2, h3, h4, h5⟩ := h
  cases l with
  | nil => simp at h1
  | cons c r =>
    have hc : 48 ≤ c.toNat ∧ c.toNat ≤ 57 := by
      rw [digVal] at h4
      by_cases hc : 48 ≤ c.toNat ∧ c.toNat ≤ 57
      · exact hc
      · rw [if_neg hc] at h4
        cases h4
    have hp : Lib.parseUint10 0 (c :: r) = .ok v := by
      have hpow : 10 ^ (c :: r).length ≤ 10 ^ 10 := Nat.pow_le_pow_right (by omega) h2
      rw [parseUint_dig (c :: r) 0 (by omega), h4]
    simp only [Lib.atoiAll]
    rw [if_neg (by omega)]
    have hm : Lib.parseMag (c :: r) = .ok v := by
      unfold Lib.parseMag
      rw [if_neg (by simp)]
      exact hp
    rw [hm]
    simp only
    rw [if_neg (by omega), if_neg (by omega), if_neg (by omega)]
/-- What the program's ParseNum answers. -/
theorem val_num {s : ByteArray} {v : Nat} (h : isNum s.data.toList v) : impl_ParseNum.val s = ((v : Int), true) := by
  unfold impl_ParseNum.val
  rw [atoiAll_num h]
  simp only
  have e := isNum_dec h
  rw [if_pos]
  refine ⟨?_, by omega, by have := h.2.2.2.2; omega⟩
  rw [Lib.itoa_nonneg, ← e]
theorem val_or (s : ByteArray) : impl_ParseNum.val s = (0, false) ∨ ∃ n : Int, impl_ParseNum.val s = (n, true) ∧ 0 ≤ n ∧ n ≤ 2147483647 ∧ s = itoaV n ∧ isNum s.data.toList n.toNat := by
  unfold impl_ParseNum.val
  cases h : Lib.atoiAll s.data.toList with
  | «syntax» => exact .inl rfl
  | range => exact .inl rfl
  | ok n =>
    simp only
    by_cases hc : (⟨(Lib.itoa n).toArray⟩ : ByteArray) = s ∧ 0 ≤ n ∧ n ≤ 2147483647
    · rw [if_pos hc]
      refine .inr ⟨n, rfl, hc.2.1, hc.2.2, hc.1.symm, ?_⟩
      obtain ⟨m, rfl⟩ : ∃ m : Nat, n = m := ⟨n.toNat, by omega⟩
      have e : s.data.toList = Lib.decDigits m := by
        rw [← hc.1, Lib.itoa_nonneg]
      rw [e]
      exact dec_isNum _ (by omega)
    · rw [if_neg hc]
      exact .inl rfl
theorem bt_list (s : ByteArray) (i : Nat) (h : i < s.data.toList.length) : bt s (i : Int) = ((s.data.toList[i]).toNat : Int) := by
  have h2 : i < s.size := by rwa [Array.length_toList] at h
  have e : (i : Int).toNat = i := by omega
  unfold bt
  rw [dif_pos (by rw [e]; exact h2)]
  simp only [e]
  rw [Array.getElem_toList]
  rfl
def numEnd (o : Option Nat) : Int × Bool := match o with
  | some v => if v ≤ 2147483647 then ((v : Int), true) else (0, false)
  | none => (0, false)
theorem parse_loop (s : ByteArray) (hs : s.size ≤ 10) : ∀ (d i acc k : Nat), i + d = s.size → acc < 10 ^ i → d < k → spec_ParseNum.l0 k s (acc : Int) (i : Int) = some (numEnd (digVal acc (s.data.toList.drop i))) := by
  have hlen : s.data.toList.length = s.size := by rw [Array.length_toList]; rfl
  intro d
  induction d with
  | zero =>
    intro i acc k hi ha hk
    obtain ⟨k, rfl⟩ : ∃ q, k = q + 1 := ⟨k - 1, by omega⟩
    simp only [spec_ParseNum.l0]
    rw [if_neg (by omega), List.drop_eq_nil_of_le (by omega), digVal]
    unfold numEnd
    simp only
    by_cases hm : acc ≤ 2147483647
    · rw [if_neg (by omega), if_pos hm]
    · rw [if_pos (by omega), if_neg hm]
  | succ d ih =>
    intro i acc k hi ha hk
    obtain ⟨k, rfl⟩ : ∃ q, k = q + 1 := ⟨k - 1, by omega⟩
    have hil : i < s.data.toList.length := by omega
    have hb := bt_list s i hil
    have hu : (s.data.toList[i]).toNat < 256 := UInt8.toNat_lt _
    have hpow : 10 ^ i ≤ 10 ^ 9 := Nat.pow_le_pow_right (by omega) (by omega)
    have hd : s.data.toList.drop i = s.data.toList[i] :: s.data.toList.drop (i + 1) := List.drop_eq_getElem_cons hil
    simp only [spec_ParseNum.l0, spec_l1In.f]
    rw [if_pos (by omega), if_pos (by omega), hb, wrap_of (by omega) (by omega), hd, digVal]
    generalize (s.data.toList[i]).toNat = c at *
    by_cases h0 : 48 ≤ c
    · rw [if_pos (by omega), Option.bind_some]
      by_cases h1 : c ≤ 57
      · have w1 : wrap64 (10 * (acc : Int)) = 10 * (acc : Int) := wrap_of (by omega) (by omega)
        have w2 : wrap64 (wrap64 (10 * (acc : Int)) + ((c : Int) - 48) % 256) = ((acc * 10 + (c - 48) : Nat) : Int) := by
          rw [w1, wrap_of (by omega) (by omega)]
          omega
        rw [decide_eq_true (by omega), if_pos rfl, if_pos ⟨h0, h1⟩, w2, wrap_of (x := (i : Int) + 1) (by omega) (by omega)]
        have := ih (i + 1) (acc * 10 + (c - 48)) k (by omega) (by rw [Nat.pow_succ]; omega) (by omega)
        rw [Int.natCast_add i 1] at this
        exact this
      · rw [decide_eq_false (by omega), if_neg (by decide), if_neg (by omega)]
        rfl
    · rw [if_neg (by omega), Option.bind_some, if_neg (by decide), if_neg (by omega)]
      rfl
theorem spec_ParseNum_at (s : ByteArray) (k : Nat) (hk : 20 ≤ k) (hs : s.size ≤ 1048576) : spec_ParseNum.f k s = some (impl_ParseNum.val s) := by
  have hlen : s.data.toList.length = s.size := by rw [Array.length_toList]; rfl
  obtain ⟨k, rfl⟩ : ∃ q, k = q + 1 := ⟨k - 1, by omega⟩
  -- no number: then the answer is none
  have hno : (∀ v, ¬ isNum s.data.toList v) → impl_ParseNum.val s = (0, false) := by
    intro h
    rcases val_or s with hv | ⟨n, _, _, _, _, hn⟩
    · exact hv
    · exact absurd hn (h _)
  unfold spec_ParseNum.f
  by_cases h0 : (s.size : Int) = 0
  · rw [if_pos h0]
    simp only [spec_ParseNum.j0]
    rw [if_pos trivial, hno fun v hv => by have := hv.1; omega]
  rw [if_neg h0]
  by_cases h1 : (s.size : Int) > 10
  · rw [if_pos h1]
    simp only [spec_ParseNum.j0]
    rw [if_pos trivial, hno fun v hv => by have := hv.2.1; omega]
  rw [if_neg h1]
  have hloop := parse_loop s (by omega) s.size 0 0 k (by omega) (by simp) (by omega)
  rw [List.drop_zero] at hloop
  have hloop' : spec_ParseNum.l0 k s 0 0 = some (numEnd (digVal 0 s.data.toList)) := hloop
  have hgood : noZero s.data.toList → numEnd (digVal 0 s.data.toList) = impl_ParseNum.val s := by
    intro hz
    cases hd : digVal 0 s.data.toList with
    | none =>
      rw [hno fun v hv => by have := hv.2.2.2.1; rw [hd] at this; cases this]
      rfl
    | some v =>
      unfold numEnd
      simp only
      by_cases hm : v ≤ 2147483647
      · rw [if_pos hm, val_num ⟨by omega, by omega, hz, hd, hm⟩]
      · rw [if_neg hm, hno fun u hu => by
          have := hu.2.2.2.1
          rw [hd] at this
          have e := Option.some.inj this
          have := hu.2.2.2.2
          omega]
  cases hl : s.data.toList with
  | nil => rw [hl] at hlen; simp at hlen; omega
  | cons c r =>
    have hbt : bt s 0 = (c.toNat : Int) := by
      have := bt_list s 0 (by rw [hl]; simp)
      simp only [hl, List.getElem_cons_zero] at this
      exact this
    by_cases h2 : (s.size : Int) > 1
    · rw [if_pos h2, if_pos (by omega)]
      simp only [spec_ParseNum.j0]
      by_cases hc : c.toNat = 48
      · have e : (bt s 0 == 48) = true := by rw [hbt, hc]; rfl
        rw [e, if_pos rfl, hno fun v hv => ?_]
        have hr : r ≠ [] := by
          intro e
          rw [hl, e] at hlen
          simp at hlen
          omega
        exact hv.2.2.1 c r hl hr hc
      · have e : (bt s 0 == 48) = false := by
          rw [hbt]
          exact beq_eq_false_iff_ne.mpr (by omega)
        rw [e, if_neg (by decide), hloop']
        exact congrArg some (hgood fun c' r' h' _ => by
          rw [hl] at h'
          obtain ⟨e1, _⟩ := List.cons.inj h'
          rw [← e1]
          exact hc)
    · rw [if_neg h2]
      simp only [spec_ParseNum.j0]
      rw [if_neg (by decide), hloop']
      exact congrArg some (hgood fun c' r' h' hr => by
        exfalso
        apply hr
        rw [h'] at hlen
        rw [List.length_cons] at hlen
        exact List.length_eq_zero_iff.1 (by omega))

theorem FnExactParseNum : ∀ (a0 : ByteArray), (a0.size ≤ 140737488351232) → ∃ k, laws_FnExactParseNum.f k a0 = some true := by
  intro s hg
  refine ⟨20, ?_⟩
  unfold laws_FnExactParseNum.f
  by_cases hb : (s.size : Int) > 1048576
  · rw [if_pos hb]
  · have h2 : impl_ParseNum.f s = some (impl_ParseNum.val s) := by
      unfold impl_ParseNum.f
      rw [if_pos (by omega)]
    rw [if_neg hb, spec_ParseNum_at s 20 (by omega) (by omega), h2, Option.bind_some, Option.bind_some, if_pos rfl]
    simp

end Go.Proofs.YtkhbhdchakbmhaaDoor.Pure
