/- What a value that comes in as a datum of a type is, told by the print's kinds: numbers, flags, texts, slices, structs, and a struct nested in itself. Conditions: the facts on the program's types that each lemma names. -/
import Derived.Test.YtfhblnbicnmndaaWMore
import Derived.Deep.Slices
import Derived.ChangeArms
import Derived.DataReads
set_option linter.unusedVariables false
set_option linter.unusedSimpArgs false
namespace Go.Proofs.Ytfhblnbicnmndaa.Op
open Go.RowKit Go.ChangeShapes Go.WideShapes Go.Proofs.YtfhblnbicnmndaaW.PrintWords

/-- Whatever reads as a datum of type t, in at most n steps, is of the kind d. -/
def Down (P : Program) (n : Nat) (t : TypeId) {α : Type} (d : Kd α) (good : α → Prop) : Prop :=
  ∀ (H : Type) (enc : TypeId × Value → H) (w : World) (cs : List Value) (x : DataW H × List MemPlace),
    DataW.trod enc P w 0 (fun _ => true) true n t cs = some x → ∃ a, d.K w a cs ∧ good a

section
variable {P : Program} {n : Nat} {t e : TypeId} {α β : Type} {d : Kd α} {d' : Kd β} {g : α → Prop} {g' : β → Prop}

theorem down_int {k : IntKind} (hu : P.underlying t = some (.int k)) : Down P n t (Kd.int k) (fun a => (Lit.int k a).wf = true) := by
  intro H enc w cs x h
  obtain ⟨a, rfl, _, hw⟩ := DataW.trod_int hu h
  exact ⟨a, rfl, hw⟩
theorem down_bool (hu : P.underlying t = some .bool) : Down P n t Kd.bool (fun _ => True) := by
  intro H enc w cs x h
  obtain ⟨a, rfl, _⟩ := DataW.trod_bool hu h
  exact ⟨a, rfl, trivial⟩
theorem down_string (hu : P.underlying t = some .string) : Down P n t Kd.string (fun a => a.size ≤ maxLen) := by
  intro H enc w cs x h
  obtain ⟨a, rfl, _, hw⟩ := DataW.trod_string hu h
  exact ⟨a, rfl, hw⟩
theorem list_of {γ : Type} {p : Nat → γ → Prop} (n : Nat) (h : ∀ i, i < n → ∃ x, p i x) : ∃ xs : List γ, xs.length = n ∧ ∀ i x, xs[i]? = some x → p i x := by
  induction n with
  | zero => exact ⟨[], rfl, fun i x h => by simp at h⟩
  | succ n ih =>
    obtain ⟨xs, hl, hx⟩ := ih (fun i hi => h i (by omega))
    obtain ⟨y, hy⟩ := h n (by omega)
    refine ⟨xs ++ [y], by simp [hl], fun i x hi => ?_⟩
    rcases Nat.lt_or_ge i xs.length with hlt | hge
    · rw [List.getElem?_append_left hlt] at hi
      exact hx i x hi
    · have he : i = xs.length := by
        have := (List.getElem?_eq_some_iff.1 hi).1
        simp at this
        omega
      subst he
      simp at hi
      subst hi
      rw [hl]
      exact hy
theorem down_slice (hu : P.underlying t = some (.slice e)) (hc : P.cellsOf e = d.sz) (h : ∀ m, m < n → Down P m e d g) :
    Down P n t (Kd.slice e d) (fun xs => xs.length ≤ maxLen ∧ ∀ x ∈ xs, g x) := by
  intro H enc w cs x hx
  rcases DataW.trod_slice hu hx with ⟨rfl, _⟩ | ⟨a, len, cap, elems, rest, m, hn, rfl, _, hb, hl, hm, hlen, hel, _⟩
  · exact ⟨[], ⟨none, 0, rfl, Nat.le_refl _, Kd.C_nil d w⟩, by simp, by simp⟩
  · obtain ⟨xs, h1, h2⟩ := list_of (p := fun i x => ∃ cs', w.cells? 0 (a.add (i * P.cellsOf e)) (P.cellsOf e) = some cs' ∧ d.K w x cs' ∧ g x) len (fun i hi => by
      have k := hel i hi
      rw [List.getElem?_eq_getElem (by omega)] at k
      obtain ⟨cs', k1, k2⟩ := Option.bind_eq_some_iff.1 k
      obtain ⟨y, k3, k4⟩ := h m (by omega) _ _ _ _ _ k2
      exact ⟨y, cs', k1, k3, k4⟩)
    subst h1
    refine ⟨xs, ⟨some a, cap, rfl, hl, rfl, by unfold maxLen at hm; omega, fun _ => ⟨a, rfl, fun j p hj => ?_⟩⟩, by omega, fun x hx => ?_⟩
    · obtain ⟨cs', k1, k2, _⟩ := h2 j p hj
      obtain ⟨_, k5, k6⟩ := World.cells?_some k1
      refine ⟨cs', k5.trans hc, k2, fun i u hu => ?_⟩
      have hi : i < P.cellsOf e := by rw [← k5]; exact (List.getElem?_eq_some_iff.1 hu).1
      have k7 := k6 i hi
      rw [Go.Deep.add_add, hc] at k7
      rw [k7, hu]
    · obtain ⟨i, hi⟩ := List.getElem?_of_mem hx
      obtain ⟨_, _, _, k⟩ := h2 i x hi
      exact k

/-- The fields of a struct from a cell on, in line. -/
def DownF (P : Program) (n : Nat) (fs : List Field) (off : Nat) {α : Type} (d : Kd α) (good : α → Prop) : Prop :=
  ∀ (H : Type) (enc : TypeId × Value → H) (w : World) (cs : List Value),
    (∀ f ∈ fs, ∃ x, DataW.trod enc P w 0 (fun _ => true) true n f.type ((cs.drop f.offset).take (P.cellsOf f.type)) = some x) → cs.length = off + d.sz → ∃ a, d.K w a (cs.drop off) ∧ good a
theorem downF_last {f : Field} {off : Nat} (ho : f.offset = off) (hc : P.cellsOf f.type = d.sz) (h : Down P n f.type d g) : DownF P n [f] off d g := by
  intro H enc w cs hf hl
  obtain ⟨x, hx⟩ := hf f (by simp)
  rw [ho, hc, List.take_of_length_le (by rw [List.length_drop]; omega)] at hx
  exact h _ _ _ _ _ hx
theorem downF_cons {f : Field} {fs : List Field} {off : Nat} (ho : f.offset = off) (hc : P.cellsOf f.type = d.sz) (h : Down P n f.type d g) (r : DownF P n fs (off + d.sz) d' g') :
    DownF P n (f :: fs) off (Kd.pair d d') (fun x => g x.1 ∧ g' x.2) := by
  intro H enc w cs hf hl
  obtain ⟨x, hx⟩ := hf f (by simp)
  rw [ho, hc] at hx
  obtain ⟨a, k1, k2⟩ := h _ _ _ _ _ hx
  have hl' : cs.length = off + (d.sz + d'.sz) := hl
  obtain ⟨b, k3, k4⟩ := r _ _ _ _ (fun f' hf' => hf f' (by simp [hf'])) (by omega)
  refine ⟨(a, b), ⟨_, _, ?_, k1, k3⟩, k2, k4⟩
  rw [← List.drop_drop]
  exact (List.take_append_drop d.sz _).symm
theorem down_struct {fs : Array Field} (hu : P.underlying t = some (.struct fs)) (hc : P.cellsOf t = d.sz) (f : β → α) (inv : α → β) (hf : ∀ a, f (inv a) = a)
    (h : ∀ m, m < n → DownF P m fs.toList 0 d g) : Down P n t (Kd.iso d f) (fun x => g (f x)) := by
  intro H enc w cs x hx
  obtain ⟨xs, m, rfl, _, hl, hlen, hfs⟩ := DataW.trod_struct hu hx
  obtain ⟨a, k1, k2⟩ := h m (by omega) _ _ _ cs (fun f' hf' => by
    obtain ⟨i, hi⟩ := List.getElem?_of_mem hf'
    have hi' : fs[i]? = some f' := by simpa using hi
    have hlt : i < fs.size := (Array.getElem?_eq_some_iff.1 hi').1
    rw [hfs i f' hi', List.getElem?_eq_getElem (by omega)]
    exact ⟨_, rfl⟩) (by rw [hl, hc]; omega)
  refine ⟨inv a, ?_, (show g (f (inv a)) by rw [hf]; exact k2)⟩
  show d.K w (f (inv a)) cs
  rw [hf]
  exact k1
theorem down_weaken {g2 : α → Prop} (h : Down P n t d g) (hg : ∀ a, g a → g2 a) : Down P n t d g2 := by
  intro H enc w cs x hx
  obtain ⟨a, k1, k2⟩ := h _ _ _ _ _ hx
  exact ⟨a, k1, hg a k2⟩
/-- A struct nested in itself. -/
theorem down_upto {F : Kd α → Kd α} {sz : Nat} {E : List Nat} (hm : Kd.Mono F) (hs : ∀ n, (Kd.upto F sz E n).sz = sz) (gn : Nat → α → Prop) (gmono : ∀ n m a, n ≤ m → gn n a → gn m a)
    (step : ∀ n, (∀ m, m < n → Down P m t (Kd.upto F sz E n) (gn n)) → Down P n t (Kd.upto F sz E (n + 1)) (gn (n + 1))) : ∀ n, Down P n t (Kd.upto F sz E (n + 1)) (gn (n + 1)) := by
  intro n
  induction n using Nat.strongRecOn with
  | _ n ih =>
    refine step n (fun m hlt => ?_)
    intro H enc w cs x hx
    obtain ⟨a, k1, k2⟩ := ih m hlt _ _ _ _ _ hx
    exact ⟨a, Kd.upto_K_le hm hs (by omega) k1, gmono _ _ _ (by omega) k2⟩
theorem down_fix {F : Kd α → Kd α} {sz : Nat} {E : List Nat} {hs : ∀ n, (Kd.upto F sz E n).sz = sz} {hE : ∀ n q, q ∈ (Kd.upto F sz E n).E → q ∈ E} (gn : Nat → α → Prop)
    (h : Down P n t (Kd.upto F sz E (n + 1)) (gn (n + 1))) : Down P n t (Kd.fix F sz E hs hE) (fun a => ∃ m, gn m a) := by
  intro H enc w cs x hx
  obtain ⟨a, k1, k2⟩ := h _ _ _ _ _ hx
  exact ⟨a, ⟨n + 1, k1⟩, n + 1, k2⟩

/-- A parameter that is a struct: the value written out. -/
theorem in_struct {r : Reach} {b0 : Nat} {fs : Array Field} {H : Type} {enc : TypeId × Value → H} {w : World} {v : Value} {x : DataW H} {ps : List MemPlace} (hu : P.underlying t = some (.struct fs))
    (hv : Value.okWide P w r b0 t v) (h : DataW.Trod enc P w 0 (fun _ => true) true t v x ps) (hd : ∀ n, Down P n t d g) : ∃ a cs, v = .agg cs ∧ d.K w a cs.toList ∧ g a := by
  obtain ⟨cs, rfl, _⟩ := okWide_struct hu hv
  obtain ⟨n, hn⟩ := h
  obtain ⟨a, k1, k2⟩ := hd n _ _ _ _ _ hn
  exact ⟨a, cs, rfl, k1, k2⟩
/-- A parameter that is a slice. -/
theorem in_slice {r : Reach} {b0 : Nat} {H : Type} {enc : TypeId × Value → H} {w : World} {v : Value} {x : DataW H} {ps : List MemPlace} (hu : P.underlying t = some (.slice e))
    (hv : Value.okWide P w r b0 t v) (h : DataW.Trod enc P w 0 (fun _ => true) true t v x ps) {gs : List α → Prop} (hd : ∀ n, Down P n t (Kd.slice e d) gs) :
    ∃ a A c, v = .slice A a.length c ∧ a.length ≤ c ∧ d.C w A a.length a ∧ gs a := by
  obtain ⟨A, l, c, rfl⟩ := okWide_slice hu hv
  obtain ⟨n, hn⟩ := h
  obtain ⟨a, ⟨A', c', k0, kl, k1⟩, k2⟩ := hd n _ _ _ _ _ hn
  have e1 : [Value.slice A l c] = [Value.slice A' a.length c'] := k0
  simp only [List.cons.injEq, Value.slice.injEq, and_true] at e1
  obtain ⟨rfl, rfl, rfl⟩ := e1
  exact ⟨a, A, c, rfl, kl, k1, k2⟩
end
end Go.Proofs.Ytfhblnbicnmndaa.Op
