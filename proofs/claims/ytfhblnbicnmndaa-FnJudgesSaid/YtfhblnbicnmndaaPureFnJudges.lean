/- Of a drawn rule, things and tokens, what a rule wants and what is judged is as the document has it; what is the opposite wants what the rule does not; and, or, not. Conditions: none beyond the statement's own. -/
import Derived.Test.YtfhblnbicnmndaaQFnJudgesx
set_option linter.unusedVariables false
set_option linter.unusedSimpArgs false
namespace Go.Proofs.Ytfhblnbicnmndaa.Pure
open Go.RowKit Go.Proofs.Ytfhblnbicnmndaa.QFnJudges Go.Proofs.YtfhblnbicnmndaaW.PrintWords Go.Proofs.YtfhblnbicnmndaaW.PrintLast Go.Proofs.YtfhblnbicnmndaaW.PrintMore


/-- A loop over an index: from a state that is good, with enough rounds, it comes to an end that meets what is told of it. -/
theorem loop_ex {σ β : Type} {L : Nat → σ → Int → Option β} {n K : Nat} {I : σ → Nat → Prop} {Post : σ → Nat → β → Prop}
    (hend : ∀ s, I s n → ∃ r, Post s n r ∧ ∀ k, L (k + 1) s (n : Int) = some r)
    (hstep : ∀ s (i : Nat), i < n → I s i → (∃ r, Post s i r ∧ ∀ k, K ≤ k → L (k + 1) s (i : Int) = some r) ∨
      ∃ s', I s' (i + 1) ∧ (∀ k, K ≤ k → L (k + 1) s (i : Int) = L k s' ((i : Int) + 1)) ∧ ∀ r, Post s' (i + 1) r → Post s i r) :
    ∀ (d : Nat) s (i : Nat), i + d = n → I s i → ∃ r, Post s i r ∧ ∀ k, K + d < k → L k s (i : Int) = some r := by
  intro d
  induction d with
  | zero =>
    intro s i hd hI
    obtain rfl : i = n := by omega
    obtain ⟨r, hp, hr⟩ := hend s hI
    refine ⟨r, hp, fun k hk => ?_⟩
    obtain ⟨k, rfl⟩ : ∃ m, k = m + 1 := ⟨k - 1, by omega⟩
    exact hr k
  | succ d ih =>
    intro s i hd hI
    rcases hstep s i (by omega) hI with ⟨r, hp, hr⟩ | ⟨s', hI', he, hp⟩
    · refine ⟨r, hp, fun k hk => ?_⟩
      obtain ⟨k, rfl⟩ : ∃ m, k = m + 1 := ⟨k - 1, by omega⟩
      exact hr k (by omega)
    · obtain ⟨r, hq, hr⟩ := ih s' (i + 1) (by omega) hI'
      refine ⟨r, hp r hq, fun k hk => ?_⟩
      obtain ⟨k, rfl⟩ : ∃ m, k = m + 1 := ⟨k - 1, by omega⟩
      rw [he k (by omega)]
      have := hr k (by omega)
      rw [Int.natCast_add] at this
      exact this
theorem ev_at {α : Type} {g : Nat → Option α} {r : α} (K : Nat) (h : ∀ k, K < k → g k = some r) : Ev g r := ⟨K + 1, fun k hk => h k (by omega)⟩
theorem wrap_of {x : Int} (h0 : -9223372036854775808 ≤ x) (h1 : x ≤ 9223372036854775807) : wrap64 x = x := by
  unfold wrap64
  omega
theorem wrap_nat1 {i n : Nat} (h : i < n) (hn : n ≤ 9223372036854775807) : wrap64 ((i : Int) + 1) = (i : Int) + 1 := wrap_of (by omega) (by omega)
theorem lt_cast {i n : Nat} (h : i < n) : (i : Int) < (n : Int) := by omega
theorem nn_cast (i : Nat) : 0 ≤ (i : Int) := by omega
theorem not_lt_cast (n : Nat) : ¬ (n : Int) < (n : Int) := by omega
/-- What is written cell by cell. -/
theorem fill_set {α : Type} (l : List α) (z : α) (i : Nat) (h : i < l.length) : (l.take i ++ List.replicate (l.length - i) z).set i l[i] = l.take (i + 1) ++ List.replicate (l.length - (i + 1)) z := by
  have e1 : l.length - i = (l.length - (i + 1)) + 1 := by omega
  have e2 : (l.take i).length = i := by rw [List.length_take]; omega
  rw [e1, List.replicate_succ, List.set_append_right _ _ (by omega), e2, Nat.sub_self, List.set_cons_zero, List.take_succ_eq_append_getElem h, List.append_assoc]
  rfl
theorem fill_len {α : Type} (l : List α) (z : α) (i : Nat) (h : i ≤ l.length) : (l.take i ++ List.replicate (l.length - i) z).length = l.length := by
  rw [List.length_append, List.length_take, List.length_replicate]
  omega

theorem rdIA (l : List S83) (i : Nat) (h : i < l.length) : rd_T83 l (i : Int) = l[i] := by
  simp [rd_T83, List.getD_eq_getElem?_getD, h]

def faV (key : ByteArray) (l : List S83) : ByteArray × Bool × Int × ByteArray × Bool := match l with
  | [] => ((⟨#[]⟩ : ByteArray), false, 0, (⟨#[]⟩ : ByteArray), false)
  | x :: l => if x.f0.toList = key.toList then (x.f0, x.f1, x.f2, x.f3, true) else faV key l
theorem faV_drop (key : ByteArray) (l : List S83) (i : Nat) (h : i < l.length) : faV key (l.drop i) = if l[i].f0.toList = key.toList then (l[i].f0, l[i].f1, l[i].f2, l[i].f3, true) else faV key (l.drop (i + 1)) := by
  rw [List.drop_eq_getElem_cons h, faV]
theorem spec_FindAttr_at (key : ByteArray) (l : List S83) (hl : l.length ≤ 1048576) : ∀ k, l.length < k → spec_FindAttr.f k l key = some (faV key l) := by
  obtain ⟨r, hr, h⟩ := loop_ex (σ := Unit) (L := fun k _ i => spec_FindAttr.l0 k l key i) (n := l.length) (K := 0)
    (I := fun _ _ => True) (Post := fun _ i r => r = faV key (l.drop i))
    (fun s _ => ⟨_, by rw [List.drop_length, faV], fun k => by
      simp only [spec_FindAttr.l0]
      rw [if_neg (not_lt_cast _)]⟩)
    (fun s i hi _ => by
      by_cases hc : l[i].f0.toList = key.toList
      · refine .inl ⟨_, by rw [faV_drop key l i hi, if_pos hc], fun k hk => ?_⟩
        simp only [spec_FindAttr.l0]
        rw [if_pos (lt_cast hi), if_pos (nn_cast i), rdIA _ _ hi, if_pos hc]
      · refine .inr ⟨(), trivial, fun k hk => ?_, fun r hr => by rw [faV_drop key l i hi, if_neg hc]; exact hr⟩
        simp only [spec_FindAttr.l0]
        rw [if_pos (lt_cast hi), if_pos (nn_cast i), rdIA _ _ hi, if_neg hc, wrap_nat1 hi (by omega)]) l.length () 0 (by omega) trivial
  rw [List.drop_zero] at hr
  subst hr
  exact fun k hk => h k (by omega)
theorem impl_FindAttr_at (key : ByteArray) (l : List S83) (hl : l.length ≤ 1048576) : ∀ k, l.length < k → impl_FindAttr.f k l key = some (faV key l) := by
  obtain ⟨r, hr, h⟩ := loop_ex (σ := Unit) (L := fun k _ i => impl_FindAttr.l0 k key l l.length i) (n := l.length) (K := 0)
    (I := fun _ _ => True) (Post := fun _ i r => r = faV key (l.drop i))
    (fun s _ => ⟨_, by rw [List.drop_length, faV], fun k => by
      simp only [impl_FindAttr.l0]
      rw [if_neg (not_lt_cast _)]⟩)
    (fun s i hi _ => by
      by_cases hc : l[i].f0.toList = key.toList
      · refine .inl ⟨_, by rw [faV_drop key l i hi, if_pos hc], fun k hk => ?_⟩
        simp only [impl_FindAttr.l0]
        rw [if_pos (lt_cast hi), if_pos (nn_cast i), if_pos (lt_cast hi), rdIA _ _ hi, if_pos hc]
      · refine .inr ⟨(), trivial, fun k hk => ?_, fun r hr => by rw [faV_drop key l i hi, if_neg hc]; exact hr⟩
        simp only [impl_FindAttr.l0]
        rw [if_pos (lt_cast hi), if_pos (nn_cast i), if_pos (lt_cast hi), rdIA _ _ hi, if_neg hc, wrap_nat1 hi (by omega)]) l.length () 0 (by omega) trivial
  rw [List.drop_zero] at hr
  subst hr
  exact fun k hk => h k (by omega)

theorem rdIS (l : List S73) (i : Nat) (h : i < l.length) : rd_T73 l (i : Int) = l[i] := by
  simp [rd_T73, List.getD_eq_getElem?_getD, h]

theorem any_drop {α : Type} (p : α → Bool) (l : List α) (i : Nat) (h : i < l.length) : (l.drop i).any p = (p l[i] || (l.drop (i + 1)).any p) := by
  rw [List.drop_eq_getElem_cons h, List.any_cons]
theorem anySpan_at (F_ : Int → Int → Int → Int → Bool → List S83 → Option Bool) (p : S73 → Bool) (l : List S73) (hl : l.length ≤ 1048576) (hF : ∀ x ∈ l, F_ x.f0 x.f1 x.f2 x.f3 x.f4 x.f5 = some (p x)) :
    ∀ k, l.length < k → impl_Span_87.f F_ k l = some (l.any p) := by
  obtain ⟨r, hr, h⟩ := loop_ex (σ := Unit) (L := fun j _ i => impl_Span_107.l0 F_ j l l.length i) (n := l.length) (K := 0)
    (I := fun _ _ => True) (Post := fun _ i r => decide (0 ≤ r) = (l.drop i).any p)
    (fun s hI => ⟨-1, by rw [List.drop_length]; rfl, fun k => by
      simp only [impl_Span_107.l0]
      rw [if_neg (not_lt_cast _)]⟩)
    (fun s i hi hI => by
      have hx := List.getElem_mem hi
      by_cases hv : p l[i] = true
      · refine .inl ⟨(i : Int), by rw [any_drop p l i hi, hv, Bool.true_or]; exact decide_eq_true (by omega), fun j hj => ?_⟩
        simp only [impl_Span_107.l0]
        rw [if_pos (lt_cast hi), if_pos (nn_cast i), if_pos (lt_cast hi), rdIS _ _ hi, hF l[i] hx, Option.bind_some, if_pos hv]
      · refine .inr ⟨(), trivial, fun j hj => ?_, fun r hr => by rw [any_drop p l i hi, Bool.eq_false_iff.mpr hv, Bool.false_or]; exact hr⟩
        simp only [impl_Span_107.l0]
        rw [if_pos (lt_cast hi), if_pos (nn_cast i), if_pos (lt_cast hi), rdIS _ _ hi, hF l[i] hx, Option.bind_some, if_neg hv, wrap_nat1 hi (by omega)]) l.length () 0 (by omega) trivial
  rw [List.drop_zero] at hr
  intro k hk
  have h2 := h k (by omega)
  simp only [impl_Span_87.f, impl_Span_107.f]
  rw [← hr]
  exact congrArg (fun (z : Option Int) => z.bind fun t => some (decide (0 ≤ t))) h2

def textV (key text : ByteArray) (x : S73) : Bool := (faV key x.f5).2.2.2.2 && (!(faV key x.f5).2.1 && (faV key x.f5).2.2.2.1.toList == text.toList)
def numV (key : ByteArray) (n : Int) (x : S73) : Bool := (faV key x.f5).2.2.2.2 && ((faV key x.f5).2.1 && decide ((faV key x.f5).2.2.1 ≥ n))
theorem l6Some_at (a b : Int) (c d : ByteArray) (q : List S29) (ha : a = 4 ∨ a = 5) (l : List S73) (hl : l.length ≤ 1048576) (hf : ∀ x ∈ l, x.f5.length ≤ 1048576) :
    ∀ k, 2097153 < k → spec_l6Some.f k a b c d q l = some (l.any fun x => if a = 4 then textV c d x else numV c b x) := by
  obtain ⟨r, hr, h⟩ := loop_ex (σ := Unit) (L := fun k _ i => spec_l6Some.l0 k l i a b c d q) (n := l.length) (K := 1048577)
    (I := fun _ _ => True) (Post := fun _ i r => r = (l.drop i).any fun x => if a = 4 then textV c d x else numV c b x)
    (fun s _ => ⟨false, by rw [List.drop_length]; rfl, fun k => by
      simp only [spec_l6Some.l0]
      rw [if_neg (not_lt_cast _)]⟩)
    (fun s i hi _ => by
      have hx := hf l[i] (List.getElem_mem hi)
      have hs : ∀ k, 1048577 ≤ k → spec_l6Some.l0 (k + 1) l i a b c d q = if (if a = 4 then textV c d l[i] else numV c b l[i]) = true then some true else spec_l6Some.l0 k l ((i : Int) + 1) a b c d q := by
        intro k hk
        rw [spec_l6Some.l0, if_pos (lt_cast hi), if_pos (nn_cast i), rdIS _ _ hi, spec_FindAttr_at c l[i].f5 hx k (by omega), Option.bind_some, wrap_nat1 hi (by omega)]
        unfold textV numV
        generalize faV c l[i].f5 = u
        obtain ⟨u1, u2, u3, u4, u5⟩ := u
        rcases ha with rfl | rfl
        · cases u5 <;> cases u2 <;> by_cases hd : u4.toList = d.toList <;> simp [hd]
        · cases u5 <;> cases u2 <;> by_cases hd : u3 ≥ b <;> simp [hd]
      by_cases hv : (if a = 4 then textV c d l[i] else numV c b l[i]) = true
      · refine .inl ⟨true, by rw [any_drop _ l i hi, hv]; rfl, fun k hk => ?_⟩
        rw [hs k hk, if_pos hv]
      · refine .inr ⟨(), trivial, fun k hk => ?_, fun r hr => by rw [any_drop _ l i hi, Bool.eq_false_iff.mpr hv, Bool.false_or]; exact hr⟩
        rw [hs k hk, if_neg hv]) l.length () 0 (by omega) trivial
  rw [List.drop_zero] at hr
  subst hr
  exact fun k hk => h k (by omega)

mutual
def pT29 : S29 → Nat
  | ⟨_, _, _, _, l⟩ => 2 + l.length + pTs29 l
def pTs29 : List S29 → Nat
  | [] => 0
  | x :: l => pT29 x + pTs29 l
end
mutual
def pN29 : S29 → Nat
  | ⟨_, _, _, _, l⟩ => 1 + pNs29 l
def pNs29 : List S29 → Nat
  | [] => 0
  | x :: l => pN29 x + pNs29 l
end
theorem pT29_mem {l : List S29} {x : S29} (h : x ∈ l) : pT29 x ≤ pTs29 l := by
  induction l with
  | nil => exact absurd h (by simp)
  | cons y l ih =>
    rw [pTs29]
    rcases List.mem_cons.1 h with rfl | h
    · omega
    · have := ih h
      omega
theorem pN29_mem {l : List S29} {x : S29} (h : x ∈ l) : pN29 x ≤ pNs29 l := by
  induction l with
  | nil => exact absurd h (by simp)
  | cons y l ih =>
    rw [pNs29]
    rcases List.mem_cons.1 h with rfl | h
    · omega
    · have := ih h
      omega
theorem pN29_pos (x : S29) : 1 ≤ pN29 x := by
  obtain ⟨a, b, c, d, l⟩ := x
  rw [pN29]
  omega
theorem pNs29_len (l : List S29) : l.length ≤ pNs29 l := by
  induction l with
  | nil => simp
  | cons y l ih =>
    have := pN29_pos y
    rw [pNs29, List.length_cons]
    omega
theorem pNs29_app (l m : List S29) : pNs29 (l ++ m) = pNs29 l + pNs29 m := by
  induction l with
  | nil => simp [pNs29]
  | cons y l ih =>
    rw [List.cons_append, pNs29, pNs29, ih]
    omega
theorem pNs29_take (l : List S29) (i : Nat) (h : i < l.length) : pNs29 (l.take (i + 1)) = pNs29 (l.take i) + pN29 l[i] := by
  rw [List.take_succ_eq_append_getElem h, pNs29_app, pNs29, pNs29]
  omega
theorem pNs29_drop (l : List S29) (i : Nat) (h : i < l.length) : pNs29 (l.drop i) = pN29 l[i] + pNs29 (l.drop (i + 1)) := by
  rw [List.drop_eq_getElem_cons h, pNs29]
theorem pNs29_le (l : List S29) (i : Nat) : pNs29 (l.take i) ≤ pNs29 l := by
  have := pNs29_app (l.take i) (l.drop i)
  rw [List.take_append_drop] at this
  omega
theorem ind29 {P : S29 → Prop} (h : ∀ a b c d l, (∀ x ∈ l, P x) → P ⟨a, b, c, d, l⟩) : ∀ x, P x
  | ⟨a, b, c, d, l⟩ => h a b c d l (fun x hx => ind29 h x)
termination_by x => SizeOf.sizeOf x
decreasing_by
  have := List.sizeOf_lt_of_mem hx
  simp
  omega
theorem rdP29 (l : List S29) (i : Nat) (h : i < l.length) : rd_T29 l (i : Int) = l[i] := by
  simp [rd_T29, List.getD_eq_getElem?_getD, h]

theorem anyPol_at (F_ : Int → Int → ByteArray → ByteArray → List S29 → Option Bool) (p : S29 → Bool) (l : List S29) (hl : l.length ≤ 1048577) (hF : ∀ x ∈ l, F_ x.f0 x.f1 x.f2 x.f3 x.f4 = some (p x)) :
    ∀ k, l.length < k → impl_Pol_49.f F_ k l = some (l.any p) := by
  obtain ⟨r, hr, h⟩ := loop_ex (σ := Unit) (L := fun j _ i => impl_Pol_78.l0 F_ j l l.length i) (n := l.length) (K := 0)
    (I := fun _ _ => True) (Post := fun _ i r => decide (0 ≤ r) = (l.drop i).any p)
    (fun s hI => ⟨-1, by rw [List.drop_length]; rfl, fun k => by
      simp only [impl_Pol_78.l0]
      rw [if_neg (not_lt_cast _)]⟩)
    (fun s i hi hI => by
      have hx := List.getElem_mem hi
      by_cases hv : p l[i] = true
      · refine .inl ⟨(i : Int), by rw [any_drop p l i hi, hv, Bool.true_or]; exact decide_eq_true (by omega), fun j hj => ?_⟩
        simp only [impl_Pol_78.l0]
        rw [if_pos (lt_cast hi), if_pos (nn_cast i), if_pos (lt_cast hi), rdP29 _ _ hi, hF l[i] hx, Option.bind_some, if_pos hv]
      · refine .inr ⟨(), trivial, fun j hj => ?_, fun r hr => by rw [any_drop p l i hi, Bool.eq_false_iff.mpr hv, Bool.false_or]; exact hr⟩
        simp only [impl_Pol_78.l0]
        rw [if_pos (lt_cast hi), if_pos (nn_cast i), if_pos (lt_cast hi), rdP29 _ _ hi, hF l[i] hx, Option.bind_some, if_neg hv, wrap_nat1 hi (by omega)]) l.length () 0 (by omega) trivial
  rw [List.drop_zero] at hr
  intro k hk
  have h2 := h k (by omega)
  simp only [impl_Pol_49.f, impl_Pol_78.f]
  rw [← hr]
  exact congrArg (fun (z : Option Int) => z.bind fun t => some (decide (0 ≤ t))) h2

def capv (n : Int) : Int := if n < 0 then 0 else if n > 2147483647 then 2147483647 else n
theorem capv_range (n : Int) : 0 ≤ capv n ∧ capv n ≤ 2147483647 := by unfold capv; (repeat' split) <;> omega
theorem capv_id {n : Int} (h0 : 0 ≤ n) (h1 : n ≤ 2147483647) : capv n = n := by unfold capv; (repeat' split) <;> omega
theorem spec_Cap_eq (a : Int) : spec_Cap.f a = some (capv a) := by unfold spec_Cap.f capv; (repeat' split) <;> rfl
theorem impl_Cap_eq (a : Int) : impl_Cap.f a = some (capv a) := by
  unfold impl_Cap.f capv mn mx
  congr 1
  (repeat' split) <;> omega

def subv (a b : Int) : Int := capv (capv a - capv b)
theorem wrap_sub (a b : Int) : wrap64 (capv a - capv b) = capv a - capv b := by
  have := capv_range a
  have := capv_range b
  unfold wrap64
  omega

theorem spec_Sub_eq (a b : Int) : spec_Sub.f a b = some (subv a b) := by
  simp only [spec_Sub.f, spec_Cap_eq, Option.bind_some, wrap_sub, subv]
theorem impl_Sub_eq (a b : Int) : impl_Sub.f a b = some (subv a b) := by
  simp only [impl_Sub.f, impl_Cap_eq, Option.bind_some, wrap_sub, subv]

theorem spec_LengthOf_eq (a b c d : Int) (e : Bool) (l : List S83) : spec_LengthOf.f a b c d e l = some (subv d c) := by
  simp only [spec_LengthOf.f, spec_Sub_eq, Option.bind_some]
theorem impl_LengthOf_eq (a b c d : Int) (e : Bool) (l : List S83) : impl_LengthOf.f a b c d e l = some (subv d c) := by
  simp only [impl_LengthOf.f, impl_Sub_eq, Option.bind_some]

def lenV (x : S73) : Int := subv x.f3 x.f2
def longV (l : List S73) : Int := l.foldl (fun n x => mx n (lenV x)) 0
theorem longV_take (l : List S73) (i : Nat) (h : i < l.length) : longV (l.take (i + 1)) = mx (longV (l.take i)) (lenV l[i]) := by
  unfold longV
  rw [List.take_succ_eq_append_getElem h, List.foldl_append]
  rfl
theorem spec_Longest_at (l : List S73) (hl : l.length ≤ 1048576) : ∀ k, l.length < k → spec_Longest.f k l = some (longV l) := by
  obtain ⟨r, hr, h⟩ := loop_ex (σ := Int) (L := fun k s i => spec_Longest.l0 k l s i) (n := l.length) (K := 0)
    (I := fun s i => s = longV (l.take i)) (Post := fun _ _ r => r = longV l)
    (fun s hI => ⟨_, rfl, fun k => by
      simp only [spec_Longest.l0]
      rw [if_neg (not_lt_cast _), hI, List.take_length]⟩)
    (fun s i hi hI => .inr ⟨longV (l.take (i + 1)), rfl, fun k hk => by
      simp only [spec_Longest.l0]
      rw [if_pos (lt_cast hi), if_pos (nn_cast i), rdIS _ _ hi, spec_LengthOf_eq, Option.bind_some, Option.bind_some, wrap_nat1 hi (by omega), longV_take _ _ hi, hI]
      show (if lenV l[i] > _ then _ else _) = _
      unfold mx
      by_cases hc : longV (l.take i) < lenV l[i]
      · rw [if_pos hc, if_pos hc]
        rfl
      · rw [if_neg hc, if_neg hc], fun _ h => h⟩) l.length 0 0 (by omega) (by simp [longV])
  subst hr
  exact fun k hk => h k (by omega)

def errV (l : List S73) : Int := ((l.filter fun x => x.f4).length : Int)
theorem errV_take (l : List S73) (i : Nat) (h : i < l.length) : errV (l.take (i + 1)) = errV (l.take i) + if l[i].f4 then 1 else 0 := by
  unfold errV
  rw [List.take_succ_eq_append_getElem h, List.filter_append]
  by_cases c : l[i].f4 = true <;> simp [c]
theorem errV_range (l : List S73) : 0 ≤ errV l ∧ errV l ≤ l.length := by
  unfold errV
  have := List.length_filter_le (fun x : S73 => x.f4) l
  omega
theorem spec_Errors_at (l : List S73) (hl : l.length ≤ 1048576) : ∀ k, l.length < k → spec_Errors.f k l = some (errV l) := by
  obtain ⟨r, hr, h⟩ := loop_ex (σ := Int) (L := fun k s i => spec_Errors.l0 k l s i) (n := l.length) (K := 0)
    (I := fun s i => s = errV (l.take i)) (Post := fun _ _ r => r = errV l)
    (fun s hI => ⟨_, rfl, fun k => by
      simp only [spec_Errors.l0]
      rw [if_neg (not_lt_cast _), hI, List.take_length]⟩)
    (fun s i hi hI => .inr ⟨errV (l.take (i + 1)), rfl, fun k hk => by
      have hb := errV_range (l.take i)
      have hb2 : (l.take i).length ≤ l.length := List.length_take_le' _ _
      simp only [spec_Errors.l0]
      rw [if_pos (lt_cast hi), if_pos (nn_cast i), rdIS _ _ hi, wrap_nat1 hi (by omega), errV_take _ _ hi, hI, wrap_of (by omega) (by omega)]
      by_cases c : l[i].f4 = true <;> simp [c], fun _ h => h⟩) l.length 0 0 (by omega) (by simp [errV])
  subst hr
  exact fun k hk => h k (by omega)
theorem impl_Errors_at (l : List S73) (hl : l.length ≤ 1048576) : ∀ k, l.length < k → impl_Errors.f k l = some (errV l) := by
  obtain ⟨r, hr, h⟩ := loop_ex (σ := Int) (L := fun k s i => impl_Errors.l0 k s l l.length i) (n := l.length) (K := 0)
    (I := fun s i => s = errV (l.take i)) (Post := fun _ _ r => r = errV l)
    (fun s hI => ⟨_, rfl, fun k => by
      simp only [impl_Errors.l0]
      rw [if_neg (not_lt_cast _), hI, List.take_length]⟩)
    (fun s i hi hI => .inr ⟨errV (l.take (i + 1)), rfl, fun k hk => by
      have hb := errV_range (l.take i)
      have hb2 : (l.take i).length ≤ l.length := List.length_take_le' _ _
      simp only [impl_Errors.l0]
      rw [if_pos (lt_cast hi), if_pos (nn_cast i), if_pos (lt_cast hi), rdIS _ _ hi, wrap_nat1 hi (by omega), errV_take _ _ hi, hI, wrap_of (by omega) (by omega)]
      by_cases c : l[i].f4 = true <;> simp [c], fun _ h => h⟩) l.length 0 0 (by omega) (by simp [errV])
  subst hr
  exact fun k hk => h k (by omega)

theorem long_any (n : Int) (l : List S73) : ∀ s : Int, decide (l.foldl (fun n x => mx n (lenV x)) s ≥ n) = (decide (s ≥ n) || l.any fun x => decide (lenV x ≥ n)) := by
  induction l with
  | nil => intro s; simp
  | cons x l ih =>
    intro s
    rw [List.foldl_cons, ih, List.any_cons, ← Bool.or_assoc]
    congr 1
    unfold mx
    rw [Bool.eq_iff_iff]
    by_cases h : s < lenV x
    · rw [if_pos h]; simp; omega
    · rw [if_neg h]; simp; omega
theorem longest_any (n : Int) (l : List S73) (h : (l.length : Int) > 0) : decide (longV l ≥ n) = l.any fun x => decide (lenV x ≥ n) := by
  unfold longV
  rw [long_any]
  by_cases hn : (0 : Int) ≥ n
  · cases l with
    | nil => simp at h
    | cons x l =>
      have hx : decide (lenV x ≥ n) = true := decide_eq_true (by have := (capv_range (capv x.f3 - capv x.f2)).1; unfold lenV subv; omega)
      rw [List.any_cons, hx]
      simp
  · rw [decide_eq_false hn, Bool.false_or]
section
variable (l : List S73) (t : Int)
mutual
def wv : S29 → Bool
  | ⟨a, b, c, d, q⟩ => if a = 1 then true else if a = 2 then decide (errV l > 0) else if a = 3 then l.any (fun x => decide (lenV x ≥ b)) else if a = 4 then l.any (fun x => textV c d x) else if a = 5 then l.any (fun x => numV c b x) else
    if a = 6 then decide (t ≥ (l.length : Int)) else if a = 7 then !wnot q else if a = 8 then wany q else if a = 9 then whead q else false
def wnot : List S29 → Bool
  | [] => false
  | x :: q => !wv x || wnot q
def wany : List S29 → Bool
  | [] => false
  | x :: q => wv x || wany q
def whead : List S29 → Bool
  | [] => true
  | x :: _ => !wv x
end
theorem wnot_any (q : List S29) : wnot l t q = q.any fun x => !wv l t x := by
  induction q with
  | nil => simp [wnot]
  | cons x q ih => rw [wnot, ih, List.any_cons]
theorem wany_any (q : List S29) : wany l t q = q.any fun x => wv l t x := by
  induction q with
  | nil => simp [wany]
  | cons x q ih => rw [wany, ih, List.any_cons]
theorem wants_at (hl : l.length ≤ 1048576) (hf : ∀ x ∈ l, x.f5.length ≤ 1048576) : ∀ (x : S29), pN29 x ≤ 1048577 → ∀ k, 2 * pT29 x + 2097160 < k →
    spec_Wants.f k x.f0 x.f1 x.f2 x.f3 x.f4 l t = some (wv l t x) ∧ impl_Wants.f k x.f0 x.f1 x.f2 x.f3 x.f4 l t = some (wv l t x) := by
  intro x
  induction x using ind29 with
  | _ a b c d q ih =>
  intro hn k hk
  rw [pT29] at hk
  rw [pN29] at hn
  have hq := pNs29_len q
  obtain ⟨k, rfl⟩ : ∃ m, k = m + 1 + 1 := ⟨k - 2, by omega⟩
  have kids : ∀ y ∈ q, ∀ j, 2 * pTs29 q + 2097160 < j → spec_Wants.f j y.f0 y.f1 y.f2 y.f3 y.f4 l t = some (wv l t y) ∧ impl_Wants.f j y.f0 y.f1 y.f2 y.f3 y.f4 l t = some (wv l t y) := fun y hy j hj => by
    have hT := pT29_mem hy
    have hN := pN29_mem hy
    exact ih y hy (by omega) j (by omega)
  simp only [wv]
  rw [spec_Wants.f, impl_Wants.f]
  by_cases h1 : a = 1
  · rw [if_pos h1, if_pos h1, if_pos h1]; exact ⟨rfl, rfl⟩
  rw [if_neg h1, if_neg h1, if_neg h1]
  by_cases h2 : a = 2
  · rw [if_pos h2, if_pos h2, if_pos h2, spec_Errors_at l hl _ (by omega), impl_Errors_at l hl _ (by omega)]; exact ⟨rfl, rfl⟩
  rw [if_neg h2, if_neg h2, if_neg h2]
  by_cases h3 : a = 3
  · rw [if_pos h3, if_pos h3, if_pos h3]
    constructor
    · by_cases h0 : (l.length : Int) > 0
      · rw [if_pos h0, spec_Longest_at l hl _ (by omega), Option.bind_some, longest_any _ _ h0]
      · rw [if_neg h0]
        have : l = [] := List.eq_nil_of_length_eq_zero (by omega)
        rw [this]
        rfl
    · exact anySpan_at _ (fun x => decide (lenV x ≥ b)) l hl (fun x _ => by rw [clo2.f, impl_LengthOf_eq]; rfl) _ (by omega)
  rw [if_neg h3, if_neg h3, if_neg h3]
  have hj : ∀ z : Bool, spec_Wants.j0 (k + 1) l t a z a b c d q = (if z = true then spec_l6Some.f k a b c d q l else spec_Wants.j0 (k + 1) l t a false a b c d q) := by
    intro z
    cases z with
    | false => rfl
    | true =>
      rw [spec_Wants.j0, if_pos rfl, if_pos rfl]
      cases spec_l6Some.f k a b c d q l <;> rfl
  by_cases h4 : a = 4
  · rw [if_pos h4, if_pos h4, if_pos h4, hj, if_pos (by simp [h4]), l6Some_at a b c d q (.inl h4) l hl hf _ (by omega)]
    refine ⟨by simp only [if_pos h4], ?_⟩
    exact anySpan_at _ (fun x => textV c d x) l hl (fun x hx => by rw [clo3.f, impl_FindAttr_at c x.f5 (hf x hx) _ (by have := hf x hx; omega)]; rfl) _ (by omega)
  rw [if_neg h4, if_neg h4, if_neg h4]
  by_cases h5 : a = 5
  · rw [if_pos h5, if_pos h5, hj, if_pos (by simp [h5]), l6Some_at a b c d q (.inr h5) l hl hf _ (by omega)]
    refine ⟨by simp only [if_neg h4], ?_⟩
    exact anySpan_at _ (fun x => numV c b x) l hl (fun x hx => by rw [clo4.f, impl_FindAttr_at c x.f5 (hf x hx) _ (by have := hf x hx; omega)]; rfl) _ (by omega)
  rw [if_neg h5, if_neg h5, hj, if_neg (by simp [h5]), spec_Wants.j0, if_neg (by decide)]
  by_cases h6 : a = 6
  · rw [if_pos h6, if_pos h6, if_pos h6]; exact ⟨rfl, rfl⟩
  rw [if_neg h6, if_neg h6, if_neg h6]
  by_cases h7 : a = 7
  · rw [if_pos h7, if_pos h7, if_pos h7]
    constructor
    · obtain ⟨r, hr, h⟩ := loop_ex (σ := Unit) (L := fun j _ i => spec_Wants.l0 j l t i a b c d q) (n := q.length) (K := 2 * pTs29 q + 2097161)
        (I := fun _ _ => True) (Post := fun _ i r => r = !((q.drop i).any fun x => !wv l t x))
        (fun s hI => ⟨true, by rw [List.drop_length]; rfl, fun k => by
          simp only [spec_Wants.l0]
          rw [if_neg (not_lt_cast _)]⟩)
        (fun s i hi hI => by
          have hx := List.getElem_mem hi
          by_cases hv : wv l t q[i] = true
          · refine .inr ⟨(), trivial, fun j hj => ?_, fun r hr => by rw [any_drop _ q i hi, hv]; exact hr⟩
            simp only [spec_Wants.l0]
            rw [if_pos (lt_cast hi), if_pos (nn_cast i), rdP29 _ _ hi, (kids q[i] hx j (by omega)).1, Option.bind_some, if_pos hv, wrap_nat1 hi (by omega)]
          · refine .inl ⟨false, by rw [any_drop _ q i hi, Bool.eq_false_iff.mpr hv]; rfl, fun j hj => ?_⟩
            simp only [spec_Wants.l0]
            rw [if_pos (lt_cast hi), if_pos (nn_cast i), rdP29 _ _ hi, (kids q[i] hx j (by omega)).1, Option.bind_some, if_neg hv]) q.length () 0 (by omega) trivial
      rw [List.drop_zero, ← wnot_any] at hr
      subst hr
      exact h k (by omega)
    · rw [anyPol_at _ (fun x => !wv l t x) q (by omega) (fun x hx => by rw [(kids x hx (k + 1) (by omega)).2]; rfl) _ (by omega), wnot_any]
      rfl
  rw [if_neg h7, if_neg h7, if_neg h7]
  by_cases h8 : a = 8
  · rw [if_pos h8, if_pos h8, if_pos h8]
    constructor
    · obtain ⟨r, hr, h⟩ := loop_ex (σ := Unit) (L := fun j _ i => spec_Wants.l1 j l t i a b c d q) (n := q.length) (K := 2 * pTs29 q + 2097161)
        (I := fun _ _ => True) (Post := fun _ i r => r = ((q.drop i).any fun x => wv l t x))
        (fun s hI => ⟨false, by rw [List.drop_length]; rfl, fun k => by
          simp only [spec_Wants.l1]
          rw [if_neg (not_lt_cast _)]⟩)
        (fun s i hi hI => by
          have hx := List.getElem_mem hi
          by_cases hv : wv l t q[i] = true
          · refine .inl ⟨true, by rw [any_drop _ q i hi, hv]; rfl, fun j hj => ?_⟩
            simp only [spec_Wants.l1]
            rw [if_pos (lt_cast hi), if_pos (nn_cast i), rdP29 _ _ hi, (kids q[i] hx j (by omega)).1, Option.bind_some, if_pos hv]
          · refine .inr ⟨(), trivial, fun j hj => ?_, fun r hr => by rw [any_drop _ q i hi, Bool.eq_false_iff.mpr hv]; exact hr⟩
            simp only [spec_Wants.l1]
            rw [if_pos (lt_cast hi), if_pos (nn_cast i), rdP29 _ _ hi, (kids q[i] hx j (by omega)).1, Option.bind_some, if_neg hv, wrap_nat1 hi (by omega)]) q.length () 0 (by omega) trivial
      rw [List.drop_zero, ← wany_any] at hr
      subst hr
      exact h k (by omega)
    · rw [anyPol_at _ (fun x => wv l t x) q (by omega) (fun x hx => (kids x hx (k + 1) (by omega)).2) _ (by omega), wany_any]
  rw [if_neg h8, if_neg h8, if_neg h8]
  by_cases h9 : a = 9
  · rw [if_pos h9, if_pos h9, if_pos h9]
    cases q with
    | nil => exact ⟨rfl, rfl⟩
    | cons y q =>
      have hy := kids y List.mem_cons_self
      have e : rd_T29 (y :: q) 0 = y := rfl
      have e0 : ¬ (((y :: q).length : Nat) : Int) = 0 := by simp only [List.length_cons]; omega
      have e1 : (0 : Int) < (((y :: q).length : Nat) : Int) := by simp only [List.length_cons]; omega
      rw [if_neg e0, if_pos e1, if_neg e0, e, (hy k (by omega)).1, (hy (k + 1) (by omega)).2, whead]
      exact ⟨rfl, rfl⟩
  rw [if_neg h9, if_neg h9, if_neg h9]
  exact ⟨rfl, rfl⟩
end

mutual
def hrv : S29 → Bool
  | ⟨a, _, _, _, l⟩ => decide (a = 6) || hrs l
def hrs : List S29 → Bool
  | [] => false
  | x :: l => hrv x || hrs l
end
theorem hrs_any (q : List S29) : hrs q = q.any fun x => hrv x := by
  induction q with
  | nil => simp [hrs]
  | cons x q ih => rw [hrs, ih, List.any_cons]
theorem hasRate2_at : ∀ (x : S29), pN29 x ≤ 1048577 → ∀ k, pT29 x < k →
    spec_HasRate.f k x.f0 x.f1 x.f2 x.f3 x.f4 = some (hrv x) ∧ impl_HasRate.f k x.f0 x.f1 x.f2 x.f3 x.f4 = some (hrv x) := by
  intro x
  induction x using ind29 with
  | _ a b c d l ih =>
  intro hn k hk
  rw [pT29] at hk
  rw [pN29] at hn
  obtain ⟨k, rfl⟩ : ∃ m, k = m + 1 := ⟨k - 1, by omega⟩
  simp only [spec_HasRate.f, impl_HasRate.f, hrv]
  by_cases ha : a = 6
  · rw [if_pos ha, if_pos ha]
    simp [ha]
  rw [if_neg ha, if_neg ha]
  have e : decide (a = 6) = false := decide_eq_false ha
  rw [e, Bool.false_or, hrs_any]
  have hl := pNs29_len l
  have kids : ∀ y ∈ l, ∀ j, pTs29 l < j → spec_HasRate.f j y.f0 y.f1 y.f2 y.f3 y.f4 = some (hrv y) ∧ impl_HasRate.f j y.f0 y.f1 y.f2 y.f3 y.f4 = some (hrv y) := fun y hy j hj => by
    have hT := pT29_mem hy
    have hN := pN29_mem hy
    exact ih y hy (by omega) j (by omega)
  constructor
  · obtain ⟨r, hr, h⟩ := loop_ex (σ := Unit) (L := fun j _ i => spec_HasRate.l0 j i a b c d l) (n := l.length) (K := pTs29 l + 1)
      (I := fun _ _ => True) (Post := fun _ i r => r = (l.drop i).any fun x => hrv x)
      (fun s hI => ⟨false, by rw [List.drop_length]; rfl, fun k => by
        simp only [spec_HasRate.l0]
        rw [if_neg (not_lt_cast _)]⟩)
      (fun s i hi hI => by
        have hx := List.getElem_mem hi
        by_cases hv : hrv l[i] = true
        · refine .inl ⟨true, by rw [any_drop _ l i hi, hv]; rfl, fun j hj => ?_⟩
          simp only [spec_HasRate.l0]
          rw [if_pos (lt_cast hi), if_pos (nn_cast i), rdP29 _ _ hi, (kids l[i] hx j (by omega)).1, Option.bind_some, if_pos hv]
        · refine .inr ⟨(), trivial, fun j hj => ?_, fun r hr => by rw [any_drop _ l i hi, Bool.eq_false_iff.mpr hv, Bool.false_or]; exact hr⟩
          simp only [spec_HasRate.l0]
          rw [if_pos (lt_cast hi), if_pos (nn_cast i), rdP29 _ _ hi, (kids l[i] hx j (by omega)).1, Option.bind_some, if_neg hv, wrap_nat1 hi (by omega)]) l.length () 0 (by omega) trivial
    rw [List.drop_zero] at hr
    subst hr
    exact h k (by omega)
  · exact anyPol_at _ (fun x => hrv x) l (by omega) (fun x hx => (kids x hx k (by omega)).2) _ (by omega)

def judgeV (w h : Bool) (n t : Int) : Bool × Int := if w then (if h then (true, mn n (capv t)) else (true, 0)) else (false, 0)
theorem judge_at (l : List S73) (t : Int) (hl : l.length ≤ 1048576) (hf : ∀ x ∈ l, x.f5.length ≤ 1048576) (x : S29) (hn : pN29 x ≤ 1048577) (k : Nat) (hk : 2 * pT29 x + 2097160 < k) :
    spec_Judge.f k x.f0 x.f1 x.f2 x.f3 x.f4 l t = some (judgeV (wv l t x) (hrv x) l.length t) ∧ impl_Judge.f k x.f0 x.f1 x.f2 x.f3 x.f4 l t = some (judgeV (wv l t x) (hrv x) l.length t) := by
  obtain ⟨w1, w2⟩ := wants_at l t hl hf x hn k hk
  obtain ⟨h1, h2⟩ := hasRate2_at x hn k (by omega)
  generalize wv l t x = w at w1 w2
  generalize hrv x = h at h1 h2
  unfold spec_Judge.f impl_Judge.f
  rw [w1, w2, Option.bind_some, Option.bind_some, h1, h2]
  cases w with
  | false => exact ⟨rfl, rfl⟩
  | true =>
    cases h with
    | false => exact ⟨rfl, rfl⟩
    | true =>
      rw [if_pos rfl, if_pos rfl, Option.bind_some, Option.bind_some, if_pos rfl, if_pos rfl, spec_Cap_eq, impl_Cap_eq, Option.bind_some, Option.bind_some, Option.bind_some]
      refine ⟨?_, rfl⟩
      unfold judgeV mn
      rw [if_pos rfl, if_pos rfl]
      by_cases c : (l.length : Int) > capv t
      · rw [if_pos c, if_pos c]
      · rw [if_neg c, if_neg c]

theorem copyPol_at : ∀ (x : S29), pN29 x ≤ 1048577 → ∀ k, 2 * pT29 x < k → impl_copyPol.f k x.f0 x.f1 x.f2 x.f3 x.f4 = some (x.f0, x.f1, x.f2, x.f3, x.f4) := by
  intro x
  induction x using ind29 with
  | _ a b c d l ih =>
  intro hn k hk
  rw [pT29] at hk
  rw [pN29] at hn
  obtain ⟨k, rfl⟩ : ∃ m, k = m + 1 := ⟨k - 1, by omega⟩
  have hl := pNs29_len l
  obtain ⟨r, hr, h⟩ := loop_ex (σ := List S29) (L := fun j s i => impl_copyPol.l0 j l l.length i a b c d s) (n := l.length) (K := 2 * pTs29 l + 1)
    (I := fun s i => s = l.take i) (Post := fun _ _ r => r = (a, b, c, d, l))
    (fun s hI => ⟨_, rfl, fun k => by
      simp only [impl_copyPol.l0]
      rw [if_neg (not_lt_cast _), hI, List.take_length]⟩)
    (fun s i hi hI => .inr ⟨l.take (i + 1), rfl, fun j hj => by
      have hx := List.getElem_mem hi
      have hT := pT29_mem hx
      have hN := pN29_mem hx
      have hs : s.length ≤ l.length := by rw [hI]; exact List.length_take_le' _ _
      simp only [impl_copyPol.l0]
      rw [if_pos (lt_cast hi), if_pos (nn_cast i), if_pos (lt_cast hi), rdP29 _ _ hi, ih l[i] hx (by omega) j (by omega), Option.bind_some, if_pos (by omega), wrap_nat1 hi (by omega), hI, List.take_succ_eq_append_getElem hi]
      show impl_copyPol.l0 j l l.length ((i : Int) + 1) a b c d (l.take i ++ [(⟨l[i].f0, l[i].f1, l[i].f2, l[i].f3, l[i].f4⟩ : S29)]) = _
      rw [show (⟨l[i].f0, l[i].f1, l[i].f2, l[i].f3, l[i].f4⟩ : S29) = l[i] from by generalize l[i] = z; cases z; rfl], fun _ h => h⟩) l.length [] 0 (by omega) (by simp)
  subst hr
  simp only [impl_copyPol.f]
  exact h k (by omega)

theorem band_range (x : Int) (m : Nat) (hm : m < 9223372036854775808) : 0 ≤ Go.bits .and .i64 x (m : Int) ∧ Go.bits .and .i64 x (m : Int) ≤ m := by
  have e1 : (BitVec.ofInt 64 (m : Int)).toNat = m := by
    rw [BitVec.ofInt_natCast, BitVec.toNat_ofNat]
    exact Nat.mod_eq_of_lt (by omega)
  have e2 : Go.bits .and .i64 x (m : Int) = IntKind.i64.wrap ((BitVec.ofInt 64 x &&& BitVec.ofInt 64 (m : Int)).toNat : Int) := rfl
  have h : (BitVec.ofInt 64 x).toNat &&& m ≤ m := Nat.and_le_right
  rw [e2, BitVec.toNat_and, e1, IntKind.wrap_i64]
  omega
/-- A reader's place is in what it reads. -/
def RdOk (s : List Int) (i : Int) : Prop := 0 ≤ i ∧ i ≤ s.length ∧ s.length ≤ 140737488351232
theorem l1Byte_ex (s : List Int) (i h : Int) (H : RdOk s i) : ∃ b j h', spec_l1Byte.f s i h = some (b, j, h') ∧ 0 ≤ b ∧ b ≤ 255 ∧ RdOk s j := by
  obtain ⟨h0, h1, h2⟩ := H
  unfold spec_l1Byte.f
  by_cases hc : i < (s.length : Int)
  · rw [if_pos hc, if_pos h0]
    refine ⟨_, _, _, rfl, (band_range _ 255 (by omega)).1, (band_range _ 255 (by omega)).2, ?_⟩
    rw [wrap_of (by omega) (by omega)]
    exact ⟨by omega, by omega, h2⟩
  · rw [if_neg hc]
    exact ⟨_, _, _, rfl, (band_range _ 255 (by omega)).1, (band_range _ 255 (by omega)).2, h0, h1, h2⟩
theorem l1Below_ex (s : List Int) (i h n : Int) (H : RdOk s i) : ∃ v j h', spec_l1Below.f s i h n = some (v, j, h') ∧ 0 ≤ v ∧ (0 < n → v < n) ∧ (n ≤ 0 → v = 0) ∧ RdOk s j := by
  unfold spec_l1Below.f
  by_cases h1 : n ≤ 0
  · rw [if_pos h1]
    exact ⟨0, i, h, rfl, by omega, fun _ => by omega, fun _ => rfl, H⟩
  · rw [if_neg h1]
    by_cases h2 : n ≤ 256
    · rw [if_pos h2]
      obtain ⟨b, j, h', e, b0, b1, H1⟩ := l1Byte_ex s i h H
      rw [e, Option.bind_some, if_neg (by omega), Int.tmod_eq_emod_of_nonneg b0]
      exact ⟨_, _, _, rfl, Int.emod_nonneg _ (by omega), fun _ => Int.emod_lt_of_pos _ (by omega), fun _ => by omega, H1⟩
    · rw [if_neg h2]
      obtain ⟨b, j, h', e, b0, b1, H1⟩ := l1Byte_ex s i h H
      obtain ⟨b', j', h'', e', b0', b1', H2⟩ := l1Byte_ex s j h' H1
      obtain ⟨b'', j'', h3, e'', b0'', b1'', H3⟩ := l1Byte_ex s j' h'' H2
      simp only [e, e', e'', Option.bind_some]
      have w1 : wrap64 (b * 65536) = b * 65536 := wrap_of (by omega) (by omega)
      have w2 : wrap64 (b' * 256) = b' * 256 := wrap_of (by omega) (by omega)
      have w3 : wrap64 (b * 65536 + b' * 256) = b * 65536 + b' * 256 := wrap_of (by omega) (by omega)
      have w4 : wrap64 (b * 65536 + b' * 256 + b'') = b * 65536 + b' * 256 + b'' := wrap_of (by omega) (by omega)
      rw [if_neg (by omega), w1, w2, w3, w4, Int.tmod_eq_emod_of_nonneg (by omega)]
      exact ⟨_, _, _, rfl, Int.emod_nonneg _ (by omega), fun _ => Int.emod_lt_of_pos _ (by omega), fun _ => by omega, H3⟩
theorem l1New_ex (l : List Int) (hl : l.length ≤ 140737488351232) : ∃ h, Ev (fun k => spec_l1New.f k l) (l, 0, h) := by
  obtain ⟨r, ⟨h, rfl⟩, hr⟩ := loop_ex (σ := Int) (L := fun k s i => spec_l1New.l0 k l s i) (n := l.length) (K := 0)
    (I := fun _ _ => True) (Post := fun _ _ r => ∃ h, r = (l, 0, h))
    (fun s _ => ⟨_, ⟨s, rfl⟩, fun k => by
      simp only [spec_l1New.l0]
      rw [if_neg (not_lt_cast _)]⟩)
    (fun s i hi _ => by
      by_cases h4 : (i : Int) < 4000
      · refine .inr ⟨Go.bits .and .i64 (wrap64 ((wrap64 ((wrap64 (s * 137)) + (wrap64 (rd l (i : Int))))) + 11)) 1073741823, trivial, fun k _ => ?_, fun _ h => h⟩
        simp only [spec_l1New.l0]
        rw [if_pos (lt_cast hi), if_pos h4, if_pos (nn_cast i), wrap_nat1 hi (by omega)]
      · refine .inl ⟨_, ⟨s, rfl⟩, fun k _ => ?_⟩
        simp only [spec_l1New.l0]
        rw [if_pos (lt_cast hi), if_neg h4]) l.length (wrap64 (140371 + (l.length : Int))) 0 (by omega) trivial
  exact ⟨h, ev_at (0 + l.length) fun k hk => hr k hk⟩
theorem rdOk_0 (l : List Int) (hl : l.length ≤ 140737488351232) : RdOk l 0 := ⟨by omega, by omega, hl⟩

theorem l1Once_ex (s : List Int) (i h n : Int) (H : RdOk s i) : ∃ b j h', spec_l1Once.f s i h n = some (b, j, h') ∧ RdOk s j := by
  obtain ⟨v, j, h', e, _, _, _, H1⟩ := l1Below_ex s i h n H
  exact ⟨v == 0, j, h', by simp only [spec_l1Once.f, e, Option.bind_some], H1⟩

theorem rd_nat (l : List Int) (i : Nat) (h : i < l.length) : rd l (i : Int) = l[i] := by
  simp [rd, List.getD_eq_getElem?_getD, h]

theorem l1Int_ex (s : List Int) (i h : Int) (l : List Int) (hl : 0 < l.length) (H : RdOk s i) : ∃ v j h', spec_l1Int.f s i h l = some (v, j, h') ∧ v ∈ l ∧ RdOk s j := by
  obtain ⟨v, j, h', e, v0, v1, _, H1⟩ := l1Below_ex s i h (l.length : Int) H
  have hv : v < (l.length : Int) := v1 (by omega)
  obtain ⟨m, rfl⟩ : ∃ m : Nat, v = m := ⟨v.toNat, by omega⟩
  have hm : m < l.length := by omega
  refine ⟨l[m], j, h', ?_, List.getElem_mem hm, H1⟩
  simp only [spec_l1Int.f, e, Option.bind_some]
  rw [if_pos v0, if_pos hv, rd_nat _ _ hm]

theorem l1Odd_ex (s : List Int) (i h : Int) (H : RdOk s i) : ∃ v j h', spec_l1Odd.f s i h = some (v, j, h') ∧ RdOk s j ∧ -9223372036854775808 ≤ v ∧ v ≤ 9223372036854775807 := by
  obtain ⟨v, j, h', e, hv, H1⟩ := l1Int_ex s i h [(-1), 0, 1, 2, 255, 256, 65535, 2147483647, 2147483648, 4294967295, 4294967296, (-2147483648), 9223372036854775807, (-9223372036854775808)] (by decide) H
  refine ⟨v, j, h', by simp only [spec_l1Odd.f, e, Option.bind_some], H1, ?_⟩
  simp only [List.mem_cons, List.not_mem_nil, or_false] at hv
  omega
theorem l1Raw_ex (s : List Int) (i h : Int) (H : RdOk s i) : ∃ v j h', spec_l1Raw.f s i h = some (v, j, h') ∧ RdOk s j ∧ -9223372036854775808 ≤ v ∧ v ≤ 9223372036854775807 := by
  obtain ⟨b, j, h', e, H1⟩ := l1Once_ex s i h 2 H
  cases b with
  | true =>
    obtain ⟨v, j2, h2, e2, H2, hv⟩ := l1Odd_ex s j h' H1
    exact ⟨v, j2, h2, by simp only [spec_l1Raw.f, e, e2, Option.bind_some, if_true], H2, hv⟩
  | false =>
    obtain ⟨v, j2, h2, e2, hv, H2⟩ := l1Int_ex s j h' [(-2147483648), (-3), (-1), 0, 1, 3, 7, 65536, 2147483647, 2147483648] (by decide) H1
    refine ⟨v, j2, h2, by simp only [spec_l1Raw.f, e, e2, Option.bind_some, Bool.false_eq_true, if_false], H2, ?_⟩
    simp only [List.mem_cons, List.not_mem_nil, or_false] at hv
    omega

theorem l1Str_ex (s : List Int) (i h : Int) (l : List ByteArray) (hl : 0 < l.length) (H : RdOk s i) : ∃ v j h', spec_l1Str.f s i h l = some (v, j, h') ∧ v ∈ l ∧ RdOk s j := by
  obtain ⟨v, j, h', e, v0, v1, _, H1⟩ := l1Below_ex s i h (l.length : Int) H
  have hv : v < (l.length : Int) := v1 (by omega)
  obtain ⟨m, rfl⟩ : ∃ m : Nat, v = m := ⟨v.toNat, by omega⟩
  have hm : m < l.length := by omega
  refine ⟨l[m], j, h', ?_, List.getElem_mem hm, H1⟩
  simp only [spec_l1Str.f, e, Option.bind_some]
  rw [if_pos v0, if_pos hv]
  simp [rdOf, List.getD_eq_getElem?_getD, hm]

theorem s_of {l : List ByteArray} {v : ByteArray} (h : v ∈ l) (hl : (l.all fun s => decide (s.size ≤ 100)) = true) : v.size ≤ 100 := by
  have := List.all_eq_true.1 hl v h
  simpa using this
theorem g1Names (s : List Int) (i h : Int) (H : RdOk s i) : ∃ v j h', spec_l1Names.f s i h = some (v, j, h') ∧ v.size ≤ 100 ∧ RdOk s j := by
  obtain ⟨v, j, h', e, hv, H1⟩ := l1Str_ex s i h [(⟨#[107]⟩ : ByteArray), (⟨#[112, 97, 116, 104]⟩ : ByteArray), (⟨#[99, 111, 100, 101]⟩ : ByteArray), (⟨#[117, 115, 101, 114]⟩ : ByteArray)] (by decide) H
  exact ⟨v, j, h', by simp only [spec_l1Names.f, e, Option.bind_some], s_of hv (by decide), H1⟩
theorem g1AnyName (s : List Int) (i h : Int) (H : RdOk s i) : ∃ v j h', spec_l1AnyName.f s i h = some (v, j, h') ∧ v.size ≤ 100 ∧ RdOk s j := by
  obtain ⟨o, j, h', e, H1⟩ := l1Once_ex s i h 2 H
  cases o with
  | true =>
    obtain ⟨v, j2, h2, e2, hv, H2⟩ := g1Names s j h' H1
    exact ⟨v, j2, h2, by simp only [spec_l1AnyName.f, e, e2, Option.bind_some, if_true], hv, H2⟩
  | false =>
    obtain ⟨v, j2, h2, e2, hv, H2⟩ := l1Str_ex s j h' [(⟨#[]⟩ : ByteArray), (⟨#[75]⟩ : ByteArray), (⟨#[110, 105, 110, 101, 99, 104, 97, 114, 115]⟩ : ByteArray), (⟨#[101, 105, 103, 104, 116, 97, 98, 99]⟩ : ByteArray), (⟨#[97, 32, 98]⟩ : ByteArray), (⟨#[97, 49]⟩ : ByteArray), (⟨#[102, 97, 105, 108, 101, 100]⟩ : ByteArray), (⟨#[102, 97, 105, 108, 101, 100, 120]⟩ : ByteArray)] (by decide) H1
    exact ⟨v, j2, h2, by simp only [spec_l1AnyName.f, e, e2, Option.bind_some, Bool.false_eq_true, if_false], s_of hv (by decide), H2⟩
theorem g1Plain (s : List Int) (i h : Int) (H : RdOk s i) : ∃ v j h', spec_l1Plain.f s i h = some (v, j, h') ∧ v.size ≤ 100 ∧ RdOk s j := by
  obtain ⟨o, j, h', e, H1⟩ := l1Once_ex s i h 6 H
  cases o with
  | true =>
    obtain ⟨v, j2, h2, e2, hv, H2⟩ := l1Str_ex s j h' [(⟨#[]⟩ : ByteArray), (⟨#[34]⟩ : ByteArray), (⟨#[127]⟩ : ByteArray), (⟨#[31]⟩ : ByteArray), (⟨#[116, 119, 101, 110, 116, 121, 32, 98, 121, 116, 101, 115, 32, 97, 114, 101, 32, 104, 101, 114, 101]⟩ : ByteArray), (⟨#[116, 119, 101, 110, 116, 121, 98, 121, 116, 101, 115, 97, 114, 101, 104, 101, 114, 101, 50, 48]⟩ : ByteArray), (⟨#[126, 32]⟩ : ByteArray)] (by decide) H1
    exact ⟨v, j2, h2, by simp only [spec_l1Plain.f, e, e2, Option.bind_some, if_true], s_of hv (by decide), H2⟩
  | false =>
    obtain ⟨v, j2, h2, e2, hv, H2⟩ := l1Str_ex s j h' [(⟨#[97]⟩ : ByteArray), (⟨#[98]⟩ : ByteArray), (⟨#[111, 107]⟩ : ByteArray), (⟨#[120, 32, 121]⟩ : ByteArray)] (by decide) H1
    exact ⟨v, j2, h2, by simp only [spec_l1Plain.f, e, e2, Option.bind_some, Bool.false_eq_true, if_false], s_of hv (by decide), H2⟩

mutual
def fitI : S29 → Prop
  | ⟨_, _, c, d, l⟩ => c.size ≤ 1048576 ∧ d.size ≤ 1048576 ∧ fitIs l
def fitIs : List S29 → Prop
  | [] => True
  | x :: l => fitI x ∧ fitIs l
end
theorem fitIs_iff (l : List S29) : fitIs l ↔ ∀ x ∈ l, fitI x := by
  induction l with
  | nil => simp [fitIs]
  | cons x l ih => simp [fitIs, ih]

/-- A drawn rule is small. -/
def DrawOk (d B K : Nat) : Prop := ∀ (s : List Int) (i h : Int), RdOk s i → ∃ a b c e l j h', (∀ k, K < k → spec_l5Draw.f k s i h (d : Int) = some (a, b, c, e, l, j, h')) ∧ pN29 ⟨a, b, c, e, l⟩ ≤ B ∧ fitI ⟨a, b, c, e, l⟩ ∧ RdOk s j
theorem fitI_mk {a b : Int} {c e : ByteArray} {l : List S29} (hc : c.size ≤ 100) (he : e.size ≤ 100) (hl : ∀ x ∈ l, fitI x) : fitI ⟨a, b, c, e, l⟩ := by
  rw [fitI]
  exact ⟨by omega, by omega, (fitIs_iff l).2 hl⟩
theorem e_sz : (⟨#[]⟩ : ByteArray).size ≤ 100 := by decide
theorem j1_leaf (d : Int) (s : List Int) (i h q : Int) (H : RdOk s i) (h7 : q ≠ 7) (h8 : q ≠ 8) (h9 : q ≠ 9) :
    ∃ b c e j h', (∀ k, 1 < k → spec_l5Draw.j1 k d s i h q 0 ⟨#[]⟩ ⟨#[]⟩ = some (q, b, c, e, [], j, h')) ∧ c.size ≤ 100 ∧ e.size ≤ 100 ∧ RdOk s j := by
  by_cases c3 : q = 3
  · obtain ⟨v, j, h', e1, _, H1⟩ := l1Int_ex s i h [0, 1, 5, 20] (by decide) H
    refine ⟨v, ⟨#[]⟩, ⟨#[]⟩, j, h', fun k hk => ?_, e_sz, e_sz, H1⟩
    obtain ⟨k, rfl⟩ : ∃ m, k = m + 1 := ⟨k - 1, by omega⟩
    simp only [spec_l5Draw.j1, e1, Option.bind_some]
    rw [if_pos c3]
  by_cases c4 : q = 4
  · obtain ⟨v, j, h', e1, hv, H1⟩ := g1Names s i h H
    obtain ⟨u, j2, h2, e2, hu, H2⟩ := l1Str_ex s j h' [(⟨#[97]⟩ : ByteArray), (⟨#[98]⟩ : ByteArray), (⟨#[111, 107]⟩ : ByteArray)] (by decide) H1
    refine ⟨0, v, u, j2, h2, fun k hk => ?_, hv, s_of hu (by decide), H2⟩
    obtain ⟨k, rfl⟩ : ∃ m, k = m + 1 := ⟨k - 1, by omega⟩
    simp only [spec_l5Draw.j1, e1, e2, Option.bind_some]
    rw [if_neg c3, if_pos c4]
  by_cases c5 : q = 5
  · obtain ⟨v, j, h', e1, hv, H1⟩ := g1Names s i h H
    obtain ⟨u, j2, h2, e2, _, H2⟩ := l1Int_ex s j h' [0, 1, 200, 500] (by decide) H1
    refine ⟨u, v, ⟨#[]⟩, j2, h2, fun k hk => ?_, hv, e_sz, H2⟩
    obtain ⟨k, rfl⟩ : ∃ m, k = m + 1 := ⟨k - 1, by omega⟩
    simp only [spec_l5Draw.j1, e1, e2, Option.bind_some]
    rw [if_neg c3, if_neg c4, if_pos c5]
  · refine ⟨0, ⟨#[]⟩, ⟨#[]⟩, i, h, fun k hk => ?_, e_sz, e_sz, H⟩
    obtain ⟨k, rfl⟩ : ∃ m, k = m + 1 + 1 := ⟨k - 2, by omega⟩
    have b8 : (q == 8) = false := by simpa using h8
    simp only [spec_l5Draw.j1]
    rw [if_neg c3, if_neg c4, if_neg c5, if_neg h7, b8]
    simp only [spec_l5Draw.j2]
    rw [if_neg (by decide), if_neg h9]
theorem leafOk {s : List Int} {i h q : Int} (d : Int) (H : RdOk s i) (h7 : q ≠ 7) (h8 : q ≠ 8) (h9 : q ≠ 9) : ∃ b c e j h', (∀ k, 1 < k → spec_l5Draw.j1 k d s i h q 0 ⟨#[]⟩ ⟨#[]⟩ = some (q, b, c, e, [], j, h')) ∧ pN29 ⟨q, b, c, e, []⟩ = 1 ∧ fitI ⟨q, b, c, e, []⟩ ∧ RdOk s j := by
  obtain ⟨b, c, e, j, h', e1, hc, he, H1⟩ := j1_leaf d s i h q H h7 h8 h9
  exact ⟨b, c, e, j, h', e1, by rw [pN29, pNs29], fitI_mk hc he (fun x hx => nomatch hx), H1⟩
theorem draw1 : DrawOk 1 1 10 := by
  intro s i h H
  obtain ⟨q, j, h', e0, hq, H1⟩ := l1Int_ex s i h [1, 2, 3, 4, 5, 6, 6, 7, 8, 9] (by decide) H
  by_cases c : q ≥ 7
  · obtain ⟨v, j2, h2, e2, v0, v1, _, H2⟩ := l1Below_ex s j h' 6 H1
    have v2 := v1 (by omega)
    have w : wrap64 (1 + v) = 1 + v := wrap_of (by omega) (by omega)
    obtain ⟨b, c', e, j3, h3, e3, n3, f3, H3⟩ := leafOk (h := h2) (q := 1 + v) 1 H2 (by omega) (by omega) (by omega)
    refine ⟨1 + v, b, c', e, [], j3, h3, fun k hk => ?_, by omega, f3, H3⟩
    obtain ⟨k, rfl⟩ : ∃ m, k = m + 1 + 1 := ⟨k - 2, by omega⟩
    show spec_l5Draw.f (k + 1 + 1) s i h 1 = _
    simp only [spec_l5Draw.f, spec_l5Draw.j0, e0, e2, Option.bind_some, w, e3 k (by omega)]
    rw [if_pos trivial, if_pos (decide_eq_true c)]
  · have hq' : 1 ≤ q := by
      simp only [List.mem_cons, List.not_mem_nil, or_false] at hq
      omega
    obtain ⟨b, c', e, j3, h3, e3, n3, f3, H3⟩ := leafOk (h := h') (q := q) 1 H1 (by omega) (by omega) (by omega)
    refine ⟨q, b, c', e, [], j3, h3, fun k hk => ?_, by omega, f3, H3⟩
    obtain ⟨k, rfl⟩ : ∃ m, k = m + 1 + 1 := ⟨k - 2, by omega⟩
    show spec_l5Draw.f (k + 1 + 1) s i h 1 = _
    simp only [spec_l5Draw.f, spec_l5Draw.j0, e0, Option.bind_some, e3 k (by omega)]
    rw [if_pos trivial, if_neg (by rw [decide_eq_false c]; decide)]
theorem l5l0 (d B K : Nat) (hd : d ≤ 2) (ih : DrawOk d B K) (s : List Int) (q : Int) : ∀ (m : Nat) (i h : Int) (acc : List S29), RdOk s i → m ≤ 2 → acc.length + m ≤ 4 → (∀ x ∈ acc, fitI x) →
    ∃ l j h', (∀ k, K + m < k → spec_l5Draw.l0 k ((d + 1 : Nat) : Int) (m : Int) s i h q 0 ⟨#[]⟩ ⟨#[]⟩ acc = some (q, 0, ⟨#[]⟩, ⟨#[]⟩, l, j, h')) ∧ pNs29 l ≤ pNs29 acc + m * B ∧ (∀ x ∈ l, fitI x) ∧ RdOk s j := by
  intro m
  induction m with
  | zero =>
    intro i h acc H _ hl hf
    refine ⟨acc, i, h, fun k hk => ?_, by omega, hf, H⟩
    obtain ⟨k, rfl⟩ : ∃ q, k = q + 1 := ⟨k - 1, by omega⟩
    simp only [spec_l5Draw.l0]
    rw [if_neg (by omega)]
  | succ m im =>
    intro i h acc H hm hl hf
    obtain ⟨a, b, c, e, l1, j, h1, e1, n1, f1, H1⟩ := ih s i h H
    obtain ⟨l, j2, h2, e2, n2, f2, H2⟩ := im j h1 (acc ++ [(⟨a, b, c, e, l1⟩ : S29)]) H1 (by omega) (by simp; omega) (fun x hx => by
      rcases List.mem_append.1 hx with hx | hx
      · exact hf x hx
      · rw [List.mem_singleton.1 hx]
        exact f1)
    refine ⟨l, j2, h2, fun k hk => ?_, ?_, f2, H2⟩
    · obtain ⟨k, rfl⟩ : ∃ q, k = q + 1 := ⟨k - 1, by omega⟩
      have w1 : wrap64 (((d + 1 : Nat) : Int) - 1) = (d : Int) := by rw [wrap_of (by omega) (by omega)]; omega
      have w2 : wrap64 (((m + 1 : Nat) : Int) - 1) = (m : Int) := by rw [wrap_of (by omega) (by omega)]; omega
      simp only [spec_l5Draw.l0]
      rw [if_pos (by omega), w1, e1 k (by omega), Option.bind_some, if_pos (by omega), w2]
      exact e2 k (by omega)
    · rw [pNs29_app, pNs29, pNs29] at n2
      rw [Nat.succ_mul]
      omega
theorem drawS (d B K : Nat) (h1 : 1 ≤ d) (hd : d ≤ 2) (ih : DrawOk d B K) : DrawOk (d + 1) (1 + 2 * B) (K + 10) := by
  intro s i h H
  obtain ⟨q, j, h', e0, hq, H1⟩ := l1Int_ex s i h [1, 2, 3, 4, 5, 6, 6, 7, 8, 9] (by decide) H
  have hd1 : ¬ (((d + 1 : Nat) : Int) = 1) := by omega
  have start : ∀ k r, spec_l5Draw.j1 k ((d + 1 : Nat) : Int) s j h' q 0 ⟨#[]⟩ ⟨#[]⟩ = r → spec_l5Draw.f (k + 1 + 1) s i h ((d + 1 : Nat) : Int) = r := by
    intro k r hr
    simp only [spec_l5Draw.f, spec_l5Draw.j0, e0, Option.bind_some]
    rw [if_neg hd1, if_neg (by decide)]
    exact hr
  by_cases c78 : q = 7 ∨ q = 8
  · obtain ⟨v, j2, h2, e2, v0, v1, _, H2⟩ := l1Below_ex s j h' 2 H1
    have v2 := v1 (by omega)
    obtain ⟨m, hm, hm2⟩ : ∃ m : Nat, wrap64 (1 + v) = (m : Int) ∧ m ≤ 2 := ⟨(1 + v).toNat, by rw [wrap_of (by omega) (by omega)]; omega, by omega⟩
    obtain ⟨l, j3, h3, e3, n3, f3, H3⟩ := l5l0 d B K hd ih s q m j2 h2 [] H2 hm2 (by simp; omega) (fun x hx => nomatch hx)
    refine ⟨q, 0, ⟨#[]⟩, ⟨#[]⟩, l, j3, h3, fun k hk => ?_, ?_, fitI_mk e_sz e_sz f3, H3⟩
    · obtain ⟨k, rfl⟩ : ∃ m, k = m + 1 + 1 + 1 + 1 := ⟨k - 4, by omega⟩
      have e4 := e3 k (by omega)
      refine start (k + 1 + 1) _ ?_
      simp only [spec_l5Draw.j1]
      have j2t : spec_l5Draw.j2 (k + 1) ((d + 1 : Nat) : Int) q true s j h' q 0 ⟨#[]⟩ ⟨#[]⟩ = some (q, 0, ⟨#[]⟩, ⟨#[]⟩, l, j3, h3) := by
        simp only [spec_l5Draw.j2]
        rw [if_pos trivial, e2, Option.bind_some, hm]
        exact e4
      rcases c78 with c7 | c8
      · have b7 : (q == 7) = true := by simpa using c7
        rw [if_neg (by omega), if_neg (by omega), if_neg (by omega), if_pos c7, b7]
        exact j2t
      · have b8 : (q == 8) = true := by simpa using c8
        rw [if_neg (by omega), if_neg (by omega), if_neg (by omega), if_neg (by omega), b8]
        exact j2t
    · have := Nat.mul_le_mul_right B hm2
      rw [pNs29] at n3
      rw [pN29]
      omega
  by_cases c9 : q = 9
  · obtain ⟨a, b, c, e, l1, j2, h2, e2, n2, f2, H2⟩ := ih s j h' H1
    refine ⟨q, 0, ⟨#[]⟩, ⟨#[]⟩, [(⟨a, b, c, e, l1⟩ : S29)], j2, h2, fun k hk => ?_, ?_, fitI_mk e_sz e_sz (fun x hx => by rw [List.mem_singleton.1 hx]; exact f2), H2⟩
    · obtain ⟨k, rfl⟩ : ∃ m, k = m + 1 + 1 + 1 + 1 := ⟨k - 4, by omega⟩
      have w1 : wrap64 (((d + 1 : Nat) : Int) - 1) = (d : Int) := by rw [wrap_of (by omega) (by omega)]; omega
      refine start (k + 1 + 1) _ ?_
      have b8 : (q == 8) = false := by simp; omega
      simp only [spec_l5Draw.j1]
      rw [if_neg (by omega), if_neg (by omega), if_neg (by omega), if_neg (by omega), b8]
      simp only [spec_l5Draw.j2]
      rw [if_neg (by decide), if_pos c9, w1, e2 k (by omega), Option.bind_some, if_pos (by decide)]
      rfl
    · rw [pN29, pNs29, pNs29]
      omega
  · obtain ⟨b, c', e, j3, h3, e3, n3, f3, H3⟩ := leafOk (h := h') (q := q) ((d + 1 : Nat) : Int) H1 (by omega) (by omega) c9
    refine ⟨q, b, c', e, [], j3, h3, fun k hk => ?_, by omega, f3, H3⟩
    obtain ⟨k, rfl⟩ : ∃ m, k = m + 1 + 1 := ⟨k - 2, by omega⟩
    exact start k _ (e3 k (by omega))
theorem draw2 : DrawOk 2 3 20 := drawS 1 1 10 (by omega) (by omega) draw1
theorem draw3 : DrawOk 3 7 30 := drawS 2 3 20 (by omega) (by omega) draw2
theorem l5Any_ex (s : List Int) (i h : Int) (H : RdOk s i) : ∃ a b c e l j h', (∀ k, 50 < k → spec_l5Any.f k s i h = some (a, b, c, e, l, j, h')) ∧ pN29 ⟨a, b, c, e, l⟩ ≤ 100 ∧ fitI ⟨a, b, c, e, l⟩ ∧ RdOk s j := by
  obtain ⟨a, b, c, e, l, j, h1, e1, n1, f1, H1⟩ := draw3 s i h H
  have e1' : ∀ k, 30 < k → spec_l5Draw.f k s i h 3 = some (a, b, c, e, l, j, h1) := e1
  obtain ⟨v, j2, h2, e2, _, _, _, H2⟩ := l1Below_ex s j h1 14 H1
  have g1 := f1
  have m1 := n1
  rw [fitI] at g1
  rw [pN29] at m1
  obtain ⟨gc, ge, gl⟩ := g1
  have ll := pNs29_len l
  by_cases c0 : v = 0
  · obtain ⟨x, j3, h3, e3, _, H3⟩ := l1Int_ex s j2 h2 [0, 1, 7, 9, 10] (by decide) H2
    refine ⟨x, b, c, e, l, j3, h3, fun k hk => ?_, by rw [pN29]; omega, by rw [fitI]; exact ⟨gc, ge, gl⟩, H3⟩
    simp only [spec_l5Any.f, e1' k (by omega), e2, e3, Option.bind_some]
    rw [if_pos c0]
  by_cases c1 : v = 1
  · obtain ⟨x, j3, h3, e3, H3, _⟩ := l1Raw_ex s j2 h2 H2
    refine ⟨a, x, c, e, l, j3, h3, fun k hk => ?_, by rw [pN29]; omega, by rw [fitI]; exact ⟨gc, ge, gl⟩, H3⟩
    simp only [spec_l5Any.f, e1' k (by omega), e2, e3, Option.bind_some]
    rw [if_neg c0, if_pos c1]
  by_cases c2 : v = 2
  · obtain ⟨x, j3, h3, e3, hx, H3⟩ := g1AnyName s j2 h2 H2
    refine ⟨a, b, x, e, l, j3, h3, fun k hk => ?_, by rw [pN29]; omega, by rw [fitI]; exact ⟨by omega, ge, gl⟩, H3⟩
    simp only [spec_l5Any.f, e1' k (by omega), e2, e3, Option.bind_some]
    rw [if_neg c0, if_neg c1, if_pos c2]
  by_cases c3 : v = 3
  · obtain ⟨x, j3, h3, e3, hx, H3⟩ := g1Plain s j2 h2 H2
    refine ⟨a, b, c, x, l, j3, h3, fun k hk => ?_, by rw [pN29]; omega, by rw [fitI]; exact ⟨gc, by omega, gl⟩, H3⟩
    simp only [spec_l5Any.f, e1' k (by omega), e2, e3, Option.bind_some]
    rw [if_neg c0, if_neg c1, if_neg c2, if_pos c3]
  by_cases c4 : v = 4
  · obtain ⟨a2, b2, c2', d2, l2, j3, h3, e3, n3, f3, H3⟩ := draw2 s j2 h2 H2
    have e3' : ∀ k, 20 < k → spec_l5Draw.f k s j2 h2 2 = some (a2, b2, c2', d2, l2, j3, h3) := e3
    obtain ⟨a3, b3, c3', d3, l3, j4, h4, e4, n4, f4, H4⟩ := draw2 s j3 h3 H3
    have e4' : ∀ k, 20 < k → spec_l5Draw.f k s j3 h3 2 = some (a3, b3, c3', d3, l3, j4, h4) := e4
    refine ⟨a, b, c, e, l ++ [(⟨a2, b2, c2', d2, l2⟩ : S29), (⟨a3, b3, c3', d3, l3⟩ : S29)], j4, h4, fun k hk => ?_, ?_, ?_, H4⟩
    · simp only [spec_l5Any.f, e1' k (by omega), e2, e3' k (by omega), e4' k (by omega), Option.bind_some]
      rw [if_neg c0, if_neg c1, if_neg c2, if_neg c3, if_pos c4, if_pos (by simp; omega)]
    · rw [pN29, pNs29_app, pNs29, pNs29, pNs29]
      omega
    · rw [fitI, fitIs_iff]
      refine ⟨gc, ge, fun x hx => ?_⟩
      rcases List.mem_append.1 hx with hx | hx
      · exact (fitIs_iff l).1 gl x hx
      · simp only [List.mem_cons, List.not_mem_nil, or_false] at hx
        rcases hx with rfl | rfl
        · exact f3
        · exact f4
  by_cases c5 : v = 5
  · refine ⟨9, 0, ⟨#[]⟩, ⟨#[]⟩, [(⟨9, 0, ⟨#[]⟩, ⟨#[]⟩, [(⟨9, 0, ⟨#[]⟩, ⟨#[]⟩, [(⟨a, b, c, e, l⟩ : S29)]⟩ : S29)]⟩ : S29)], j2, h2, fun k hk => ?_, ?_, ?_, H2⟩
    · obtain ⟨k, rfl⟩ : ∃ m, k = m + 1 + 1 + 1 + 1 := ⟨k - 4, by omega⟩
      simp only [spec_l5Any.f, e1' (k + 1 + 1 + 1 + 1) (by omega), e2, Option.bind_some]
      rw [if_neg c0, if_neg c1, if_neg c2, if_neg c3, if_neg c4, if_pos c5]
      have w0 : wrap64 (0 + 1) = 1 := wrap_of (by omega) (by omega)
      have w1 : wrap64 (1 + 1) = 2 := wrap_of (by omega) (by omega)
      have w2 : wrap64 (2 + 1) = 3 := wrap_of (by omega) (by omega)
      rw [spec_l5Any.l0, if_pos (by decide), w0, spec_l5Any.l0, if_pos (by decide), w1, spec_l5Any.l0, if_pos (by decide), w2, spec_l5Any.l0, if_neg (by decide)]
    · simp only [pN29, pNs29]
      omega
    · simp only [fitI, fitIs]
      have := e_sz
      exact ⟨by omega, by omega, ⟨by omega, by omega, ⟨by omega, by omega, ⟨gc, ge, gl⟩, trivial⟩, trivial⟩, trivial⟩
  by_cases c6 : v = 6
  · refine ⟨7, 0, ⟨#[]⟩, ⟨#[]⟩, [(⟨a, b, c, e, l⟩ : S29), (⟨a, b, c, e, l⟩ : S29), (⟨a, b, c, e, l⟩ : S29), (⟨a, b, c, e, l⟩ : S29)], j2, h2, fun k hk => ?_, ?_, ?_, H2⟩
    · simp only [spec_l5Any.f, e1' k (by omega), e2, Option.bind_some]
      rw [if_neg c0, if_neg c1, if_neg c2, if_neg c3, if_neg c4, if_neg c5, if_pos c6]
    · simp only [pN29, pNs29]
      omega
    · simp only [fitI, fitIs]
      have := e_sz
      exact ⟨by omega, by omega, ⟨gc, ge, gl⟩, ⟨gc, ge, gl⟩, ⟨gc, ge, gl⟩, ⟨gc, ge, gl⟩, trivial⟩
  · refine ⟨a, b, c, e, l, j2, h2, fun k hk => ?_, by omega, f1, H2⟩
    simp only [spec_l5Any.f, e1' k (by omega), e2, Option.bind_some]
    rw [if_neg c0, if_neg c1, if_neg c2, if_neg c3, if_neg c4, if_neg c5, if_neg c6]
theorem l5Copy_at : ∀ (x : S29), pN29 x ≤ 1048577 → ∀ k, 2 * pT29 x < k → spec_l5Copy.f k x.f0 x.f1 x.f2 x.f3 x.f4 = some (x.f0, x.f1, x.f2, x.f3, x.f4) := by
  intro x
  induction x using ind29 with
  | _ a b c d l ih =>
  intro hn k hk
  rw [pT29] at hk
  rw [pN29] at hn
  obtain ⟨k, rfl⟩ : ∃ m, k = m + 1 := ⟨k - 1, by omega⟩
  have hl := pNs29_len l
  obtain ⟨r, hr, h⟩ := loop_ex (σ := List S29) (L := fun j s i => spec_l5Copy.l0 j i a b c d l a b c d s) (n := l.length) (K := 2 * pTs29 l + 1)
    (I := fun s i => s = l.take i) (Post := fun _ _ r => r = (a, b, c, d, l))
    (fun s hI => ⟨_, rfl, fun k => by
      simp only [spec_l5Copy.l0]
      rw [if_neg (not_lt_cast _), hI, List.take_length]⟩)
    (fun s i hi hI => .inr ⟨l.take (i + 1), rfl, fun j hj => by
      have hx := List.getElem_mem hi
      have hT := pT29_mem hx
      have hN := pN29_mem hx
      have hs : s.length ≤ l.length := by rw [hI]; exact List.length_take_le' _ _
      simp only [spec_l5Copy.l0]
      rw [if_pos (lt_cast hi), if_pos (nn_cast i), rdP29 _ _ hi, ih l[i] hx (by omega) j (by omega), Option.bind_some, if_pos (by omega), wrap_nat1 hi (by omega), hI, List.take_succ_eq_append_getElem hi]
      show spec_l5Copy.l0 j ((i : Int) + 1) a b c d l a b c d (l.take i ++ [(⟨l[i].f0, l[i].f1, l[i].f2, l[i].f3, l[i].f4⟩ : S29)]) = _
      rw [show (⟨l[i].f0, l[i].f1, l[i].f2, l[i].f3, l[i].f4⟩ : S29) = l[i] from by generalize l[i] = z; cases z; rfl], fun _ h => h⟩) l.length [] 0 (by omega) (by simp)
  subst hr
  simp only [spec_l5Copy.f]
  exact h k (by omega)

def oppV (x : S29) : S29 := if x.f0 = 9 ∧ (x.f4.length : Int) = 1 then rd_T29 x.f4 0 else ⟨9, 0, ⟨#[]⟩, ⟨#[]⟩, [x]⟩
theorem oppV_sz (x : S29) : pN29 (oppV x) ≤ pN29 x + 1 ∧ pT29 (oppV x) ≤ pT29 x + 3 := by
  obtain ⟨a, b, c, d, l⟩ := x
  unfold oppV
  by_cases h : a = 9 ∧ (l.length : Int) = 1
  · rw [if_pos h]
    match l, h.2 with
    | [y], _ =>
      have e : rd_T29 [y] 0 = y := rfl
      show pN29 (rd_T29 [y] 0) ≤ _ ∧ pT29 (rd_T29 [y] 0) ≤ _
      rw [e, pN29, pNs29, pNs29, pT29, pTs29, pTs29]
      omega
  · rw [if_neg h]
    rw [pN29, pNs29, pNs29, pT29, pTs29, pTs29]
    simp only [List.length_cons, List.length_nil]
    omega
theorem opposite_at (x : S29) (hn : pN29 x ≤ 1000000) (k : Nat) (hk : 2 * pT29 x + 4 < k) :
    spec_Opposite.f k x.f0 x.f1 x.f2 x.f3 x.f4 = some ((oppV x).f0, (oppV x).f1, (oppV x).f2, (oppV x).f3, (oppV x).f4) ∧ impl_Opposite.f k x.f0 x.f1 x.f2 x.f3 x.f4 = some ((oppV x).f0, (oppV x).f1, (oppV x).f2, (oppV x).f3, (oppV x).f4) := by
  obtain ⟨k, rfl⟩ : ∃ m, k = m + 1 := ⟨k - 1, by omega⟩
  have c1 := l5Copy_at x (by omega) k (by omega)
  have c2 := copyPol_at x (by omega) k (by omega)
  obtain ⟨a, b, c, d, l⟩ := x
  rw [pT29] at hk
  rw [pN29] at hn
  simp only at c1 c2 ⊢
  unfold spec_Opposite.f impl_Opposite.f oppV
  by_cases h9 : a = 9
  · rw [if_pos h9, if_pos h9]
    by_cases h1 : (l.length : Int) = 1
    · have b1 : ((l.length : Int) == 1) = true := by simpa using h1
      rw [if_pos (show a = 9 ∧ (l.length : Int) = 1 from ⟨h9, h1⟩), b1, spec_Opposite.j0, impl_Opposite.j0, if_pos rfl, if_pos rfl, if_pos (by omega), if_pos (by omega)]
      have hm : rd_T29 l 0 ∈ l := by
        have h0 : 0 < l.length := by omega
        have := rdP29 l 0 h0
        rw [show ((0 : Nat) : Int) = 0 from rfl] at this
        rw [this]
        exact List.getElem_mem h0
      have hT := pT29_mem hm
      have hN := pN29_mem hm
      rw [l5Copy_at (rd_T29 l 0) (by omega) k (by omega), copyPol_at (rd_T29 l 0) (by omega) k (by omega)]
      exact ⟨rfl, rfl⟩
    · have b1 : ((l.length : Int) == 1) = false := by simpa using h1
      rw [if_neg (show ¬ (a = 9 ∧ (l.length : Int) = 1) from fun h => h1 h.2), b1, spec_Opposite.j0, impl_Opposite.j0, if_neg (by decide), if_neg (by decide), c1, c2]
      exact ⟨rfl, rfl⟩
  · rw [if_neg h9, if_neg h9, if_neg (show ¬ (a = 9 ∧ (l.length : Int) = 1) from fun h => h9 h.1), spec_Opposite.j0, impl_Opposite.j0, if_neg (by decide), if_neg (by decide), c1, c2]
    exact ⟨rfl, rfl⟩
theorem wv_not (l : List S73) (t : Int) (x : S29) : wv l t ⟨9, 0, ⟨#[]⟩, ⟨#[]⟩, [x]⟩ = !wv l t x := by
  rw [wv, if_neg (by decide), if_neg (by decide), if_neg (by decide), if_neg (by decide), if_neg (by decide), if_neg (by decide), if_neg (by decide), if_neg (by decide), if_pos rfl, whead]
theorem wv_and (l : List S73) (t : Int) (x y : S29) : wv l t ⟨7, 0, ⟨#[]⟩, ⟨#[]⟩, [x, y]⟩ = (wv l t x && wv l t y) := by
  rw [wv, if_neg (by decide), if_neg (by decide), if_neg (by decide), if_neg (by decide), if_neg (by decide), if_neg (by decide), if_pos rfl, wnot, wnot, wnot]
  cases wv l t x <;> cases wv l t y <;> rfl
theorem wv_or (l : List S73) (t : Int) (x y : S29) : wv l t ⟨8, 0, ⟨#[]⟩, ⟨#[]⟩, [x, y]⟩ = (wv l t x || wv l t y) := by
  rw [wv, if_neg (by decide), if_neg (by decide), if_neg (by decide), if_neg (by decide), if_neg (by decide), if_neg (by decide), if_neg (by decide), if_pos rfl, wany, wany, wany]
  cases wv l t x <;> cases wv l t y <;> rfl
theorem wv_opp (l : List S73) (t : Int) (x : S29) : wv l t (oppV x) = !wv l t x := by
  obtain ⟨a, b, c, d, q⟩ := x
  unfold oppV
  by_cases h : a = 9 ∧ (q.length : Int) = 1
  · rw [if_pos h]
    match q, h.2 with
    | [y], _ =>
      have e : rd_T29 [y] 0 = y := rfl
      show wv l t (rd_T29 [y] 0) = !wv l t ⟨a, b, c, d, [y]⟩
      rw [e, h.1, wv, if_neg (by decide), if_neg (by decide), if_neg (by decide), if_neg (by decide), if_neg (by decide), if_neg (by decide), if_neg (by decide), if_neg (by decide), if_pos rfl, whead, Bool.not_not]
  · rw [if_neg h, wv_not]

mutual
def spv : S29 → S29 → Bool
  | ⟨a, b, c, d, l⟩, y => decide (a = y.f0) && (decide (b = y.f1) && (decide (c.toList = y.f2.toList) && (decide (d.toList = y.f3.toList) && (decide ((l.length : Int) = (y.f4.length : Int)) && spvs l y.f4))))
def spvs : List S29 → List S29 → Bool
  | [], _ => true
  | x :: l, m => spv x (m.headD z29) && spvs l m.tail
end
theorem spv_self : ∀ x, spv x x = true := by
  intro x
  induction x using ind29 with
  | _ a b c d l ih =>
  have hs : ∀ m : List S29, (∀ x ∈ m, spv x x = true) → spvs m m = true := by
    intro m hm
    induction m with
    | nil => rw [spvs]
    | cons y m im =>
      rw [spvs]
      show (spv y y && spvs m m) = true
      rw [hm y List.mem_cons_self, im (fun x hx => hm x (List.mem_cons_of_mem _ hx))]
      rfl
  rw [spv]
  simp [hs l ih]
theorem samePol_self : ∀ (x : S29), pN29 x ≤ 1048577 → ∀ k, 2 * pT29 x < k → impl_SamePol.f k x.f0 x.f1 x.f2 x.f3 x.f4 x.f0 x.f1 x.f2 x.f3 x.f4 = some true := by
  intro x
  induction x using ind29 with
  | _ a b c d l ih =>
  intro hn k hk
  rw [pT29] at hk
  rw [pN29] at hn
  obtain ⟨k, rfl⟩ : ∃ m, k = m + 1 + 1 := ⟨k - 2, by omega⟩
  have hl := pNs29_len l
  rw [impl_SamePol.f, if_pos rfl, if_pos rfl, if_pos rfl, if_pos rfl, impl_Pol_50.f, if_pos rfl]
  obtain ⟨r, hr, h⟩ := loop_ex (σ := Unit) (L := fun j _ i => impl_Pol_50.l0 (fun b0 b1 b2 b3 b4 b5 b6 b7 b8 b9 => impl_SamePol.f (k + 1) b0 b1 b2 b3 b4 b5 b6 b7 b8 b9) j l l l.length i) (n := l.length) (K := 0)
    (I := fun _ _ => True) (Post := fun _ i r => r = true)
    (fun s hI => ⟨true, rfl, fun k => by
      simp only [impl_Pol_50.l0]
      rw [if_neg (not_lt_cast _)]⟩)
    (fun s i hi hI => by
      have hx := List.getElem_mem hi
      have hT := pT29_mem hx
      have hN := pN29_mem hx
      refine .inr ⟨(), trivial, fun j hj => ?_, fun r hr => hr⟩
      simp only [impl_Pol_50.l0]
      rw [if_pos (lt_cast hi), if_pos (nn_cast i), if_pos (lt_cast hi), if_pos (lt_cast hi), rdP29 _ _ hi, ih l[i] hx (by omega) (k + 1) (by omega), Option.bind_some, if_pos rfl, wrap_nat1 hi (by omega)]) l.length () 0 (by omega) trivial
  subst hr
  have h7 := h (k + 1) (by omega)
  exact congrArg (fun (z : Option Bool) => z.bind fun t => some t) h7

/-- What is drawn is small. -/
def gA (x : S83) : Prop := x.f0.size ≤ 100 ∧ x.f3.size ≤ 100
theorem g2One (s : List Int) (i h : Int) (a : ByteArray) (ha : a.size ≤ 100) (H : RdOk s i) : ∃ x b c d j h', spec_l2One.f s i h a = some (x, b, c, d, j, h') ∧ gA ⟨x, b, c, d⟩ ∧ RdOk s j := by
  obtain ⟨o, j, h', e, H1⟩ := l1Once_ex s i h 2 H
  cases o with
  | true =>
    obtain ⟨v, j2, h2, e2, _, H2⟩ := l1Int_ex s j h' [0, 1, 5, 200, 500] (by decide) H1
    exact ⟨a, true, v, ⟨#[]⟩, j2, h2, by simp only [spec_l2One.f, e, e2, Option.bind_some, if_true], ⟨ha, by show (⟨#[]⟩ : ByteArray).size ≤ 100; decide⟩, H2⟩
  | false =>
    obtain ⟨v, j2, h2, e2, hv, H2⟩ := l1Str_ex s j h' [(⟨#[97]⟩ : ByteArray), (⟨#[98]⟩ : ByteArray), (⟨#[111, 107]⟩ : ByteArray), (⟨#[]⟩ : ByteArray)] (by decide) H1
    exact ⟨a, false, 0, v, j2, h2, by simp only [spec_l2One.f, e, e2, Option.bind_some, Bool.false_eq_true, if_false], ⟨ha, s_of hv (by decide)⟩, H2⟩
theorem g2Draw (s : List Int) (i h : Int) (H : RdOk s i) : ∃ l j h', (∀ k, 5 < k → spec_l2Draw.f k s i h = some (l, j, h')) ∧ l.length ≤ 5 ∧ (∀ x ∈ l, gA x) ∧ RdOk s j := by
  obtain ⟨ys, hys⟩ : ∃ ys : List ByteArray, ys = [(⟨#[99, 111, 100, 101]⟩ : ByteArray), (⟨#[102, 97, 105, 108, 101, 100]⟩ : ByteArray), (⟨#[107]⟩ : ByteArray), (⟨#[112, 97, 116, 104]⟩ : ByteArray), (⟨#[117, 115, 101, 114]⟩ : ByteArray)] := ⟨_, rfl⟩
  have hn : ys.length = 5 := by rw [hys]; rfl
  have hg : ∀ y ∈ ys, y.size ≤ 100 := fun y hy => s_of hy (by rw [hys]; decide)
  obtain ⟨⟨l, j, h'⟩, ⟨hl, hgl, hj⟩, hr⟩ := loop_ex (σ := List S83 × Int × Int) (L := fun k x i => spec_l2Draw.l0 k x.1 ys ys.length i s x.2.1 x.2.2) (n := ys.length) (K := 0)
    (I := fun x i => x.1.length ≤ i ∧ (∀ y ∈ x.1, gA y) ∧ RdOk s x.2.1) (Post := fun _ _ r => r.1.length ≤ 5 ∧ (∀ y ∈ r.1, gA y) ∧ RdOk s r.2.1)
    (fun x hI => ⟨x, ⟨by omega, hI.2⟩, fun k => by
      simp only [spec_l2Draw.l0]
      rw [if_neg (not_lt_cast _)]⟩)
    (fun x i hi hI => by
      obtain ⟨o, j, h', e, H1⟩ := l1Once_ex s x.2.1 x.2.2 4 hI.2.2
      cases o with
      | true =>
        have hy : (rdOf ByteArray.empty ys (i : Int)).size ≤ 100 := by
          have e3 : rdOf ByteArray.empty ys (i : Int) = ys[i] := by simp [rdOf, List.getD_eq_getElem?_getD, hi]
          rw [e3]
          exact hg _ (List.getElem_mem hi)
        obtain ⟨a, b, c, d, j2, h2, e2, hq, H2⟩ := g2One s j h' (rdOf ByteArray.empty ys (i : Int)) hy H1
        refine .inr ⟨(x.1 ++ [(⟨a, b, c, d⟩ : S83)], j2, h2), ⟨by simp; omega, fun y hy => ?_, H2⟩, fun k _ => ?_, fun _ h => h⟩
        · rcases List.mem_append.1 hy with hy | hy
          · exact hI.2.1 y hy
          · rw [List.mem_singleton.1 hy]
            exact hq
        · simp only [spec_l2Draw.l0]
          rw [if_pos (lt_cast hi), if_pos (nn_cast i), if_pos (lt_cast hi), e, Option.bind_some, if_pos rfl, e2, Option.bind_some, if_pos (by omega), wrap_nat1 hi (by omega)]
      | false =>
        refine .inr ⟨(x.1, j, h'), ⟨by simp only; omega, hI.2.1, H1⟩, fun k _ => ?_, fun _ h => h⟩
        simp only [spec_l2Draw.l0]
        rw [if_pos (lt_cast hi), if_pos (nn_cast i), if_pos (lt_cast hi), e, Option.bind_some, if_neg (by simp), wrap_nat1 hi (by omega)]) ys.length ([], i, h) 0 (by omega) ⟨by simp, fun y hy => (nomatch hy), H⟩
  refine ⟨l, j, h', fun k hk => ?_, hl, hgl, hj⟩
  have := hr k (by omega)
  simp only [spec_l2Draw.f, Option.bind_some]
  rw [← hys]
  exact this
theorem g_snoc {l : List S83} {m : List S83} (h : ∀ x ∈ l, gA x) (k : ∀ x ∈ m, gA x) : ∀ x ∈ l ++ m, gA x := by
  intro x hx
  rcases List.mem_append.1 hx with hx | hx
  · exact h x hx
  · exact k x hx
theorem g_one {a : ByteArray} {b : Bool} {c : Int} {d : ByteArray} (h : a.size ≤ 100) (k : d.size ≤ 100) : ∀ x ∈ [(⟨a, b, c, d⟩ : S83)], gA x := by
  intro x hx
  rw [List.mem_singleton.1 hx]
  exact ⟨h, k⟩

theorem g2Any (s : List Int) (i h : Int) (H : RdOk s i) : ∃ l j h', (∀ k, 5 < k → spec_l2Any.f k s i h = some (l, j, h')) ∧ l.length ≤ 9 ∧ (∀ x ∈ l, gA x) ∧ RdOk s j := by
  obtain ⟨l, j1, h1, e1, hl, hg, H1⟩ := g2Draw s i h H
  obtain ⟨v, j2, h2, e2, _, _, _, H2⟩ := l1Below_ex s j1 h1 8 H1
  by_cases c0 : v = 0
  · obtain ⟨n, j3, h3, e3, hn, H3⟩ := g1AnyName s j2 h2 H2
    obtain ⟨o, j4, h4, e4, H4⟩ := l1Once_ex s j3 h3 2 H3
    obtain ⟨r, j5, h5, e5, H5, _⟩ := l1Raw_ex s j4 h4 H4
    obtain ⟨p, j6, h6, e6, hp, H6⟩ := g1Plain s j5 h5 H5
    refine ⟨l ++ [(⟨n, o, r, p⟩ : S83)], j6, h6, fun k hk => ?_, by simp; omega, g_snoc hg (g_one hn hp), H6⟩
    simp only [spec_l2Any.f, e1 k hk, e2, e3, e4, e5, e6, Option.bind_some]
    rw [if_pos c0, if_pos (by omega)]
  by_cases c1 : v = 1
  · obtain ⟨n, j3, h3, e3, hn, H3⟩ := l1Str_ex s j2 h2 [(⟨#[97]⟩ : ByteArray), (⟨#[122, 111, 111]⟩ : ByteArray)] (by decide) H2
    obtain ⟨a, b, c, d, j4, h4, e4, q4, H4⟩ := g2One s j3 h3 n (s_of hn (by decide)) H3
    refine ⟨l ++ [(⟨a, b, c, d⟩ : S83)], j4, h4, fun k hk => ?_, by simp; omega, g_snoc hg (g_one q4.1 q4.2), H4⟩
    simp only [spec_l2Any.f, e1 k hk, e2, e3, e4, Option.bind_some]
    rw [if_neg c0, if_pos c1, if_pos (by omega)]
  by_cases c2 : v = 2
  · obtain ⟨a, b, c, d, j3, h3, e3, q3, H3⟩ := g2One s j2 h2 ⟨#[118]⟩ (by decide) H2
    obtain ⟨a', b', c', d', j4, h4, e4, q4, H4⟩ := g2One s j3 h3 ⟨#[119]⟩ (by decide) H3
    obtain ⟨a2, b2, c2', d2, j5, h5, e5, q5, H5⟩ := g2One s j4 h4 ⟨#[120]⟩ (by decide) H4
    obtain ⟨a3, b3, c3, d3, j6, h6, e6, q6, H6⟩ := g2One s j5 h5 ⟨#[121]⟩ (by decide) H5
    refine ⟨l ++ [(⟨a, b, c, d⟩ : S83), ⟨a', b', c', d'⟩, ⟨a2, b2, c2', d2⟩, ⟨a3, b3, c3, d3⟩], j6, h6, fun k hk => ?_, by simp; omega, g_snoc hg ?_, H6⟩
    · simp only [spec_l2Any.f, e1 k hk, e2, e3, e4, e5, e6, Option.bind_some]
      rw [if_neg c0, if_neg c1, if_pos c2, if_pos (by simp; omega)]
    · intro x hx
      simp only [List.mem_cons, List.not_mem_nil, or_false] at hx
      rcases hx with rfl | rfl | rfl | rfl
      · exact q3
      · exact q4
      · exact q5
      · exact q6
  · refine ⟨l, j2, h2, fun k hk => ?_, by omega, hg, H2⟩
    simp only [spec_l2Any.f, e1 k hk, e2, Option.bind_some]
    rw [if_neg c0, if_neg c1, if_neg c2]

/-- What is drawn of a thing is small. -/
def i64 (x : Int) : Prop := -9223372036854775808 ≤ x ∧ x ≤ 9223372036854775807
def gS (x : S73) : Prop := (i64 x.f0 ∧ i64 x.f1 ∧ i64 x.f2 ∧ i64 x.f3) ∧ x.f5.length ≤ 9 ∧ ∀ y ∈ x.f5, gA y
theorem w_i64 (x : Int) : i64 (wrap64 x) := by unfold i64 wrap64; omega
theorem l1Int_i (s : List Int) (i h : Int) (l : List Int) (hl : 0 < l.length) (hg : (l.all fun x => decide (-9223372036854775808 ≤ x) && decide (x ≤ 9223372036854775807)) = true) (H : RdOk s i) : ∃ v j h', spec_l1Int.f s i h l = some (v, j, h') ∧ i64 v ∧ RdOk s j := by
  obtain ⟨v, j, h', e, hv, H1⟩ := l1Int_ex s i h l hl H
  have := List.all_eq_true.1 hg v hv
  exact ⟨v, j, h', e, by unfold i64; simpa using this, H1⟩
theorem g3Draw (s : List Int) (i h : Int) (H : RdOk s i) : ∃ a b c d e l j h', (∀ k, 5 < k → spec_l3Draw.f k s i h = some (a, b, c, d, e, l, j, h')) ∧ gS ⟨a, b, c, d, e, l⟩ ∧ RdOk s j := by
  obtain ⟨v1, j1, h1, e1, _, _, _, H1⟩ := l1Below_ex s i h 5 H
  obtain ⟨v2, j2, h2, e2, _, _, _, H2⟩ := l1Below_ex s j1 h1 9 H1
  obtain ⟨v3, j3, h3, e3, p0, p1, _, H3⟩ := l1Below_ex s j2 h2 9 H2
  have p2 := p1 (by omega)
  obtain ⟨v4, j4, h4, e4, H4⟩ := l1Once_ex s j3 h3 4 H3
  obtain ⟨l, j5, h5, e5, hl, hg, H5⟩ := g2Draw s j4 h4 H4
  obtain ⟨v6, j6, h6, e6, _, H6⟩ := l1Int_ex s j5 h5 [0, 1, 5, 20] (by decide) H5
  refine ⟨wrap64 (1 + v1), wrap64 (1 + v2), v3, wrap64 (v3 + v6), v4, l, j6, h6, fun k hk => ?_, ⟨⟨w_i64 _, w_i64 _, ⟨by show _ ≤ v3; omega, by show v3 ≤ _; omega⟩, w_i64 _⟩, by show l.length ≤ 9; omega, hg⟩, H6⟩
  simp only [spec_l3Draw.f, e1, e2, e3, e4, e5 k hk, e6, Option.bind_some]
theorem g3List (s : List Int) (i h : Int) (H : RdOk s i) : ∃ l j h', (∀ k, 12 < k → spec_l3List.f k s i h = some (l, j, h')) ∧ l.length ≤ 8 ∧ (∀ x ∈ l, gS x) ∧ RdOk s j := by
  obtain ⟨c, j1, h1, e1, c0, c1, _, H1⟩ := l1Below_ex s i h 5 H
  have c2 := c1 (by omega)
  obtain ⟨m, rfl⟩ : ∃ m : Nat, c = m := ⟨c.toNat, by omega⟩
  have key : ∀ (m : Nat) (x : List S73) (j h : Int), RdOk s j → x.length + m ≤ 8 → (∀ y ∈ x, gS y) → ∃ l j' h', (∀ k, 6 + m < k → spec_l3List.l0 k x (m : Int) s j h = some (l, j', h')) ∧ l.length ≤ 8 ∧ (∀ x ∈ l, gS x) ∧ RdOk s j' := by
    intro m
    induction m with
    | zero =>
      intro x j h hj hx hg
      refine ⟨x, j, h, fun k hk => ?_, by omega, hg, hj⟩
      obtain ⟨k, rfl⟩ : ∃ q, k = q + 1 := ⟨k - 1, by omega⟩
      simp only [spec_l3List.l0]
      rw [if_neg (by omega)]
    | succ m ih =>
      intro x j h hj hx hg
      obtain ⟨a, b, c, d, e, l, j2, h2, e2, q2, H2⟩ := g3Draw s j h hj
      obtain ⟨l', j3, h3, e3, hl3, hg3, H3⟩ := ih (x ++ [(⟨a, b, c, d, e, l⟩ : S73)]) j2 h2 H2 (by simp; omega) (by
        intro y hy
        rcases List.mem_append.1 hy with hy | hy
        · exact hg y hy
        · rw [List.mem_singleton.1 hy]
          exact q2)
      refine ⟨l', j3, h3, fun k hk => ?_, hl3, hg3, H3⟩
      obtain ⟨k, rfl⟩ : ∃ q, k = q + 1 := ⟨k - 1, by omega⟩
      have w : wrap64 (((m + 1 : Nat) : Int) - 1) = (m : Int) := by rw [wrap_of (by omega) (by omega)]; omega
      simp only [spec_l3List.l0]
      rw [if_pos (by omega), e2 k (by omega), Option.bind_some, if_pos (by omega), w]
      exact e3 k (by omega)
  obtain ⟨l, j2, h2, e2, hl, hg, H2⟩ := key m [] j1 h1 H1 (by simp; omega) (fun y hy => (nomatch hy))
  refine ⟨l, j2, h2, fun k hk => ?_, hl, hg, H2⟩
  simp only [spec_l3List.f, e1, Option.bind_some]
  exact e2 k (by omega)
theorem g3Any (s : List Int) (i h : Int) (H : RdOk s i) : ∃ a b c d e l j h', (∀ k, 5 < k → spec_l3Any.f k s i h = some (a, b, c, d, e, l, j, h')) ∧ gS ⟨a, b, c, d, e, l⟩ ∧ RdOk s j := by
  obtain ⟨a, b, c, d, e, l, j1, h1, e1, ⟨⟨ga, gb, gc, gd⟩, hl, hg⟩, H1⟩ := g3Draw s i h H
  simp only at ga gb gc gd hl hg
  obtain ⟨v, j2, h2, e2, _, _, _, H2⟩ := l1Below_ex s j1 h1 12 H1
  by_cases c0 : v = 0
  · obtain ⟨x, j3, h3, e3, gx, H3⟩ := l1Int_i s j2 h2 [0, 999, 1000] (by decide) (by decide) H2
    refine ⟨x, b, c, d, e, l, j3, h3, fun k hk => ?_, ⟨⟨gx, gb, gc, gd⟩, hl, hg⟩, H3⟩
    simp only [spec_l3Any.f, e1 k hk, e2, e3, Option.bind_some]
    rw [if_pos c0]
  by_cases c1 : v = 1
  · obtain ⟨x, j3, h3, e3, gx, H3⟩ := l1Int_i s j2 h2 [0, 999, 1000] (by decide) (by decide) H2
    refine ⟨a, x, c, d, e, l, j3, h3, fun k hk => ?_, ⟨⟨ga, gx, gc, gd⟩, hl, hg⟩, H3⟩
    simp only [spec_l3Any.f, e1 k hk, e2, e3, Option.bind_some]
    rw [if_neg c0, if_pos c1]
  by_cases c2 : v = 2
  · obtain ⟨x, j3, h3, e3, gx, H3⟩ := l1Int_i s j2 h2 [(-1), 99999, 100000] (by decide) (by decide) H2
    refine ⟨a, b, x, d, e, l, j3, h3, fun k hk => ?_, ⟨⟨ga, gb, gx, gd⟩, hl, hg⟩, H3⟩
    simp only [spec_l3Any.f, e1 k hk, e2, e3, Option.bind_some]
    rw [if_neg c0, if_neg c1, if_pos c2]
  by_cases c3 : v = 3
  · obtain ⟨x, j3, h3, e3, H3, gx⟩ := l1Raw_ex s j2 h2 H2
    refine ⟨a, b, c, x, e, l, j3, h3, fun k hk => ?_, ⟨⟨ga, gb, gc, gx⟩, hl, hg⟩, H3⟩
    simp only [spec_l3Any.f, e1 k hk, e2, e3, Option.bind_some]
    rw [if_neg c0, if_neg c1, if_neg c2, if_pos c3]
  by_cases c4 : v = 4
  · obtain ⟨x, j3, h3, e3, hx, gx, H3⟩ := g2Any s j2 h2 H2
    refine ⟨a, b, c, d, e, x, j3, h3, fun k hk => ?_, ⟨⟨ga, gb, gc, gd⟩, hx, gx⟩, H3⟩
    simp only [spec_l3Any.f, e1 k hk, e2, e3 k hk, Option.bind_some]
    rw [if_neg c0, if_neg c1, if_neg c2, if_neg c3, if_pos c4]
  by_cases c5 : v = 5
  · obtain ⟨x, j3, h3, e3, hx, H3⟩ := l1Str_ex s j2 h2 [(⟨#[116, 119, 101, 110, 116, 121, 98, 121, 116, 101, 115, 97, 114, 101, 104, 101, 114, 101, 50, 48]⟩ : ByteArray), (⟨#[116, 119, 101, 110, 116, 121, 98, 121, 116, 101, 115, 97, 114, 101, 104, 101, 114, 101, 50]⟩ : ByteArray), (⟨#[]⟩ : ByteArray)] (by decide) H2
    refine ⟨a, b, c, d, e, [(⟨(⟨#[97, 97, 97, 97, 97, 97, 97, 97]⟩ : ByteArray), false, 0, (⟨#[116, 119, 101, 110, 116, 121, 98, 121, 116, 101, 115, 97, 114, 101, 104, 101, 114, 101, 50, 48]⟩ : ByteArray)⟩ : S83), (⟨(⟨#[98, 98, 98, 98, 98, 98, 98, 98]⟩ : ByteArray), false, 0, (⟨#[116, 119, 101, 110, 116, 121, 98, 121, 116, 101, 115, 97, 114, 101, 104, 101, 114, 101, 50, 48]⟩ : ByteArray)⟩ : S83), (⟨(⟨#[99, 99, 99, 99, 99, 99, 99, 99]⟩ : ByteArray), false, 0, x⟩ : S83)], j3, h3, fun k hk => ?_, ⟨⟨ga, gb, gc, gd⟩, by simp, ?_⟩, H3⟩
    · simp only [spec_l3Any.f, e1 k hk, e2, e3, Option.bind_some]
      rw [if_neg c0, if_neg c1, if_neg c2, if_neg c3, if_neg c4, if_pos c5]
    · intro y hy
      simp only [List.mem_cons, List.not_mem_nil, or_false] at hy
      rcases hy with rfl | rfl | rfl
      · exact ⟨by show ByteArray.size _ ≤ 100; decide, by show ByteArray.size _ ≤ 100; decide⟩
      · exact ⟨by show ByteArray.size _ ≤ 100; decide, by show ByteArray.size _ ≤ 100; decide⟩
      · exact ⟨by show ByteArray.size (⟨#[99, 99, 99, 99, 99, 99, 99, 99]⟩ : ByteArray) ≤ 100; decide, s_of hx (by decide)⟩
  · refine ⟨a, b, c, d, e, l, j2, h2, fun k hk => ?_, ⟨⟨ga, gb, gc, gd⟩, hl, hg⟩, H2⟩
    simp only [spec_l3Any.f, e1 k hk, e2, Option.bind_some]
    rw [if_neg c0, if_neg c1, if_neg c2, if_neg c3, if_neg c4, if_neg c5]

theorem drawJudge_ex (l : List Int) (hl : l.length ≤ 140737488351232) : ∃ a b c e q sp n K, (∀ k, K < k → spec_DrawJudge.f k l = some (a, b, c, e, q, sp, n)) ∧ pN29 ⟨a, b, c, e, q⟩ ≤ 100 ∧ sp.length ≤ 9 ∧ ∀ x ∈ sp, x.f5.length ≤ 9 := by
  obtain ⟨h, K, hK⟩ := l1New_ex l hl
  simp only at hK
  obtain ⟨a, b, c, e, q, j1, h1, e1, n1, f1, H1⟩ := draw3 l 0 h (rdOk_0 l hl)
  have e1' : ∀ k, 30 < k → spec_l5Draw.f k l 0 h 3 = some (a, b, c, e, q, j1, h1) := e1
  obtain ⟨o, j2, h2, e2, H2⟩ := l1Once_ex l j1 h1 8 H1
  have key : ∀ (a b : Int) (c e : ByteArray) (q : List S29) (i h : Int), RdOk l i → ∃ sp n, (∀ k, 20 < k → spec_DrawJudge.j0 k l i h a b c e q = some (a, b, c, e, q, sp, n)) ∧ sp.length ≤ 9 ∧ ∀ x ∈ sp, x.f5.length ≤ 9 := by
    intro a b c e q i h H
    obtain ⟨s1, j3, h3, e3, l3, g3_, H3⟩ := g3List l i h H
    obtain ⟨o, j4, h4, e4, H4⟩ := l1Once_ex l j3 h3 8 H3
    cases o with
    | true =>
      obtain ⟨a', b', c', d', e', s', j5, h5, e5, g5_, H5⟩ := g3Any l j4 h4 H4
      obtain ⟨n, j6, h6, e6, _, H6⟩ := l1Int_ex l j5 h5 [0, 1, 2, 3, 5, (-1), 100] (by decide) H5
      refine ⟨s1 ++ [(⟨a', b', c', d', e', s'⟩ : S73)], n, fun k hk => ?_, by simp; omega, fun x hx => ?_⟩
      · obtain ⟨k, rfl⟩ : ∃ m, k = m + 1 := ⟨k - 1, by omega⟩
        rw [spec_DrawJudge.j0, e3 k (by omega), Option.bind_some, e4, Option.bind_some, if_pos rfl, e5 k (by omega), Option.bind_some, if_pos (show s1.length < 2199023255552 by omega), e6]
        rfl
      · rcases List.mem_append.1 hx with hx | hx
        · exact (g3_ x hx).2.1
        · rw [List.mem_singleton.1 hx]
          exact g5_.2.1
    | false =>
      obtain ⟨n, j6, h6, e6, _, H6⟩ := l1Int_ex l j4 h4 [0, 1, 2, 3, 5, (-1), 100] (by decide) H4
      refine ⟨s1, n, fun k hk => ?_, by omega, fun x hx => (g3_ x hx).2.1⟩
      obtain ⟨k, rfl⟩ : ∃ m, k = m + 1 := ⟨k - 1, by omega⟩
      rw [spec_DrawJudge.j0, e3 k (by omega), Option.bind_some, e4, Option.bind_some, if_neg (by simp), e6]
      rfl
  cases o with
  | true =>
    obtain ⟨a', b', c', e', q', j3, h3, e3, n3, f3, H3⟩ := l5Any_ex l j2 h2 H2
    obtain ⟨sp, n, e4, l4, g4⟩ := key a' b' c' e' q' j3 h3 H3
    refine ⟨a', b', c', e', q', sp, n, K + 60, fun k hk => ?_, n3, l4, g4⟩
    rw [spec_DrawJudge.f, hK k (by omega), Option.bind_some, e1' k (by omega), Option.bind_some, e2, Option.bind_some, if_pos rfl, e3 k (by omega), Option.bind_some]
    exact e4 k (by omega)
  | false =>
    obtain ⟨sp, n, e4, l4, g4⟩ := key a b c e q j2 h2 H2
    refine ⟨a, b, c, e, q, sp, n, K + 60, fun k hk => ?_, by omega, l4, g4⟩
    rw [spec_DrawJudge.f, hK k (by omega), Option.bind_some, e1' k (by omega), Option.bind_some, e2, Option.bind_some, if_neg (by simp)]
    exact e4 k (by omega)
theorem drawOpp_ex (l : List Int) (hl : l.length ≤ 140737488351232) : ∃ a b c e q K, (∀ k, K < k → spec_DrawOpposite.f k l = some (a, b, c, e, q)) ∧ pN29 ⟨a, b, c, e, q⟩ ≤ 100 := by
  obtain ⟨h, K, hK⟩ := l1New_ex l hl
  simp only at hK
  obtain ⟨a, b, c, e, q, j1, h1, e1, n1, f1, H1⟩ := l5Any_ex l 0 h (rdOk_0 l hl)
  refine ⟨a, b, c, e, q, K + 60, fun k hk => ?_, n1⟩
  rw [spec_DrawOpposite.f, hK k (by omega), Option.bind_some, e1 k (by omega)]
  rfl

theorem FnJudges : ∀ (l0 : (List Int)), ((l0.length ≤ maxLen ∧ ∀ y5 ∈ l0, (Lit.int .u8 y5).wf = true)) → ∃ k, laws_FnJudges.f k l0 = some true := by
  intro l hg
  by_cases hb : (l.length : Int) > 1048576
  · refine ⟨0, ?_⟩
    simp [laws_FnJudges.f, laws_big.f, hb]
  have hl : l.length ≤ 140737488351232 := by omega
  have e0 : laws_big.f l = some false := by unfold laws_big.f; rw [decide_eq_false hb]
  obtain ⟨a, b, c, e, q, sp, n, K1, d1, n1, s1, s2⟩ := drawJudge_ex l hl
  obtain ⟨a', b', c', e', q', K2, d2, n2⟩ := drawOpp_ex l hl
  obtain ⟨X, hX⟩ : ∃ X : S29, X = ⟨a, b, c, e, q⟩ := ⟨_, rfl⟩
  obtain ⟨Y, hY⟩ : ∃ Y : S29, Y = ⟨a', b', c', e', q'⟩ := ⟨_, rfl⟩
  have nX : pN29 X ≤ 100 := by rw [hX]; exact n1
  have nY : pN29 Y ≤ 100 := by rw [hY]; exact n2
  have hs1 : sp.length ≤ 1048576 := by omega
  have hs2 : ∀ x ∈ sp, x.f5.length ≤ 1048576 := fun x hx => Nat.le_trans (s2 x hx) (by omega)
  obtain ⟨o1, o2⟩ := oppV_sz Y
  obtain ⟨m, hm⟩ : ∃ m, m = K1 + K2 + 2 * pT29 X + 2 * pT29 Y + 2097300 := ⟨_, rfl⟩
  have w1 : ∀ k, m ≤ k → impl_Wants.f k a b c e q sp n = some (wv sp n X) := fun k hk => by
    have := (wants_at sp n hs1 hs2 X (by omega) k (by omega)).2
    rw [hX] at this ⊢
    exact this
  have w2 : ∀ k, m ≤ k → spec_Wants.f k a b c e q sp n = some (wv sp n X) := fun k hk => by
    have := (wants_at sp n hs1 hs2 X (by omega) k (by omega)).1
    rw [hX] at this ⊢
    exact this
  have w3 : ∀ k, m ≤ k → impl_Wants.f k a' b' c' e' q' sp n = some (wv sp n Y) := fun k hk => by
    have := (wants_at sp n hs1 hs2 Y (by omega) k (by omega)).2
    rw [hY] at this ⊢
    exact this
  have w4 : ∀ k, m ≤ k → impl_Wants.f k (oppV Y).f0 (oppV Y).f1 (oppV Y).f2 (oppV Y).f3 (oppV Y).f4 sp n = some (!wv sp n Y) := fun k hk => by
    rw [← wv_opp]
    exact (wants_at sp n hs1 hs2 (oppV Y) (by omega) k (by omega)).2
  have w5 : ∀ k, m ≤ k → impl_Wants.f k 7 0 (⟨#[]⟩ : ByteArray) (⟨#[]⟩ : ByteArray) [(⟨a, b, c, e, q⟩ : S29), (⟨a', b', c', e', q'⟩ : S29)] sp n = some (wv sp n X && wv sp n Y) := fun k hk => by
    rw [← wv_and, ← hX, ← hY]
    exact (wants_at sp n hs1 hs2 ⟨7, 0, ⟨#[]⟩, ⟨#[]⟩, [X, Y]⟩ (by simp only [pN29, pNs29]; omega) k (by simp only [pT29, pTs29, List.length_cons, List.length_nil]; omega)).2
  have w6 : ∀ k, m ≤ k → impl_Wants.f k 8 0 (⟨#[]⟩ : ByteArray) (⟨#[]⟩ : ByteArray) [(⟨a, b, c, e, q⟩ : S29), (⟨a', b', c', e', q'⟩ : S29)] sp n = some (wv sp n X || wv sp n Y) := fun k hk => by
    rw [← wv_or, ← hX, ← hY]
    exact (wants_at sp n hs1 hs2 ⟨8, 0, ⟨#[]⟩, ⟨#[]⟩, [X, Y]⟩ (by simp only [pN29, pNs29]; omega) k (by simp only [pT29, pTs29, List.length_cons, List.length_nil]; omega)).2
  have w7 : ∀ k, m ≤ k → impl_Wants.f k 9 0 (⟨#[]⟩ : ByteArray) (⟨#[]⟩ : ByteArray) [(⟨a, b, c, e, q⟩ : S29)] sp n = some (!wv sp n X) := fun k hk => by
    rw [← wv_not, ← hX]
    exact (wants_at sp n hs1 hs2 ⟨9, 0, ⟨#[]⟩, ⟨#[]⟩, [X]⟩ (by simp only [pN29, pNs29]; omega) k (by simp only [pT29, pTs29, List.length_cons, List.length_nil]; omega)).2
  have h1 : ∀ k, m ≤ k → impl_HasRate.f k a b c e q = some (hrv X) := fun k hk => by
    have := (hasRate2_at X (by omega) k (by omega)).2
    rw [hX] at this ⊢
    exact this
  have g1 : ∀ k, m ≤ k → spec_Judge.f k a b c e q sp n = some (judgeV (wv sp n X) (hrv X) sp.length n) ∧ impl_Judge.f k a b c e q sp n = some (judgeV (wv sp n X) (hrv X) sp.length n) := fun k hk => by
    have := judge_at sp n hs1 hs2 X (by omega) k (by omega)
    rw [hX] at this ⊢
    exact this
  have p1 : ∀ k, m ≤ k → spec_Opposite.f k a' b' c' e' q' = some ((oppV Y).f0, (oppV Y).f1, (oppV Y).f2, (oppV Y).f3, (oppV Y).f4) ∧ impl_Opposite.f k a' b' c' e' q' = some ((oppV Y).f0, (oppV Y).f1, (oppV Y).f2, (oppV Y).f3, (oppV Y).f4) := fun k hk => by
    have := opposite_at Y (by omega) k (by omega)
    rw [hY] at this ⊢
    exact this
  have p2 : ∀ k, m ≤ k → impl_SamePol.f k (oppV Y).f0 (oppV Y).f1 (oppV Y).f2 (oppV Y).f3 (oppV Y).f4 (oppV Y).f0 (oppV Y).f1 (oppV Y).f2 (oppV Y).f3 (oppV Y).f4 = some true := fun k hk => samePol_self (oppV Y) (by omega) k (by omega)
  generalize oppV Y = O at w4 p1 p2
  generalize wv sp n X = x at w1 w2 w5 w6 w7 g1
  generalize wv sp n Y = y at w3 w4 w5 w6
  generalize hrv X = r at h1 g1
  have fin : laws_FnJudges.j0 (m + 1) sp n x (judgeV x r sp.length n).1 (judgeV x r sp.length n).2 false a b c e q a' b' c' e' q' O.f0 O.f1 O.f2 O.f3 O.f4 = some true := by
    have cr := capv_range n
    have t0 : (judgeV x r sp.length n).2 ≥ 0 := by
      unfold judgeV mn
      cases x <;> cases r <;> simp
      split <;> omega
    have t1 : (judgeV x r sp.length n).2 ≤ capv n := by
      unfold judgeV mn
      cases x <;> cases r <;> simp <;> first | omega | (split <;> omega)
    have t2 : (judgeV x r sp.length n).2 ≤ (sp.length : Int) := by
      unfold judgeV mn
      cases x <;> cases r <;> simp
      split <;> omega
    have t3 : (judgeV x r sp.length n).2 ≠ 0 → r = true ∧ x = true := by
      unfold judgeV
      cases x <;> cases r <;> simp
    have t4 : (judgeV x r sp.length n).1 = x := by
      unfold judgeV
      cases x <;> cases r <;> rfl
    rw [t4]
    generalize (judgeV x r sp.length n).2 = t at t0 t1 t2 t3
    have tl : (if t = 0 then (some true) else ((some r).bind fun t770 => (if t770 = true then (some x) else (some false)))) = some true := by
      by_cases h0 : t = 0
      · rw [if_pos h0]
      · rw [if_neg h0, (t3 h0).1, (t3 h0).2]; rfl
    rw [laws_FnJudges.j0, if_neg (by decide), w3 m (Nat.le_refl _), Option.bind_some, w5 m (Nat.le_refl _), Option.bind_some, w6 m (Nat.le_refl _), Option.bind_some, w7 m (Nat.le_refl _), w4 m (Nat.le_refl _), impl_Cap_eq, h1 m (Nat.le_refl _)]
    cases x with
    | true =>
      rw [if_pos rfl, if_pos (by cases y <;> rfl), if_pos (by cases y <;> rfl), Option.bind_some, if_pos (by decide), Option.bind_some, if_pos (by cases y <;> rfl), if_pos t0, Option.bind_some, if_pos t1, if_pos t2]
      exact tl
    | false =>
      rw [if_neg (by decide), if_pos (by cases y <;> rfl), if_pos (by cases y <;> rfl), Option.bind_some, if_pos (by decide), Option.bind_some, if_pos (by cases y <;> rfl), if_pos t0, Option.bind_some, if_pos t1, if_pos t2]
      exact tl
  refine ⟨m + 1, ?_⟩
  have k1 : m ≤ m + 1 := Nat.le_succ _
  rw [laws_FnJudges.f, e0, Option.bind_some, if_neg (by decide), d1 (m + 1) (by omega), Option.bind_some, w1 (m + 1) k1, Option.bind_some, (g1 (m + 1) k1).2, Option.bind_some, (g1 (m + 1) k1).1, Option.bind_some, d2 (m + 1) (by omega), Option.bind_some, (p1 (m + 1) k1).2, Option.bind_some, w2 (m + 1) k1, Option.bind_some,
    if_neg (by simp), if_neg (by simp), if_pos rfl, (p1 (m + 1) k1).1, Option.bind_some, p2 (m + 1) k1, Option.bind_some, if_pos rfl]
  have e5 : ((judgeV x r sp.length n).1 != x) = false := by
    unfold judgeV
    cases x <;> cases r <;> rfl
  rw [e5]
  exact fin

end Go.Proofs.Ytfhblnbicnmndaa.Pure
