/- What a value that comes in as a datum of a type is, told by the print's kinds: numbers, flags, texts, slices, structs, and a struct nested in itself. Conditions: the facts on the program's types that each lemma names. -/
import Derived.Test.YtggenhomnbnodaaWMore
import Derived.Deep.Slices
import Derived.ChangeArms
import Derived.DataReads
set_option linter.unusedVariables false
set_option linter.unusedSimpArgs false
namespace Go.Proofs.Ytggenhomnbnodaa.Op
open Go.RowKit Go.ChangeShapes Go.WideShapes Go.Proofs.YtggenhomnbnodaaW.PrintWords

def Down (P : Program) (n : Nat) (t : TypeId) {α : Type} (d : Kd α) (good : α → Prop) : Prop :=
  ∀ (H : Type) (enc : TypeId × Value → H) (w : World) (cs : List Value) (x : DataW H × List MemPlace),
    DataW.trod enc P w 0 (fun _ => true) true n t cs = some x → ∃ a, d.K w a cs ∧ good a

section
variable {P : Program} {n : Nat} {t e : TypeId} {α β : Type} {d : Kd α} {d' : Kd β} {g : α → Prop} {g' : β → Prop}

theorem down_int {k : IntKind} (hu : P.underlying t = some (.int k)) : Down P n t (Kd.int k) (fun a => (Lit.int k a).wf = true) := by
  intro H enc w cs x h
  obtain ⟨a, rfl, _, hw⟩ := DataW.trod_int hu h
  exact ⟨a, rfl, hw⟩
theorem list_of {γ : Type} {p : Nat → γ → Prop} (n : Nat) (h : ∀ i, i < n → ∃ x, p i x) : ∃ xs : List γ, xs.length = n ∧ ∀ i x, xs[i]? = some x → p i x := by
  induction n with
  | zero => exact ⟨[], rfl, fun i x h => by simp at h⟩
  | succ n ih =>
    obtain ⟨xs, hl, hx⟩ := ih (fun i hi => h i (by omega))
    obtain ⟨y, hy⟩ := h n (by omega)
    refine ⟨xs ++ [y], by simp [hl], fun i x hi => ?_⟩
    rcases Nat.lt_or_ge i xs.length with hlt | hge
    · rw [List.getElem?_append_left hlt] at hi
      exact hx i x hi
    · have he : i = xs.length := by
        have := (List.getElem?_eq_some_iff.1 hi).1
        simp at this
        omega
      subst he
      simp at hi
      subst hi
      rw [hl]
      exact hy
theorem down_slice (hu : P.underlying t = some (.slice e)) (hc : P.cellsOf e = d.sz) (h : ∀ m, m < n → Down P m e d g) :
    Down P n t (Kd.slice e d) (fun xs => xs.length ≤ maxLen ∧ ∀ x ∈ xs, g x) := by
  intro H enc w cs x hx
  rcases DataW.trod_slice hu hx with ⟨rfl, _⟩ | ⟨a, len, cap, elems, rest, m, hn, rfl, _, hb, hl, hm, hlen, hel, _⟩
  · exact ⟨[], ⟨none, 0, rfl, Nat.le_refl _, Kd.C_nil d w⟩, by simp, by simp⟩
  · obtain ⟨xs, h1, h2⟩ := list_of (p := fun i x => ∃ cs', w.cells? 0 (a.add (i * P.cellsOf e)) (P.cellsOf e) = some cs' ∧ d.K w x cs' ∧ g x) len (fun i hi => by
      have k := hel i hi
      rw [List.getElem?_eq_getElem (by omega)] at k
      obtain ⟨cs', k1, k2⟩ := Option.bind_eq_some_iff.1 k
      obtain ⟨y, k3, k4⟩ := h m (by omega) _ _ _ _ _ k2
      exact ⟨y, cs', k1, k3, k4⟩)
    subst h1
    refine ⟨xs, ⟨some a, cap, rfl, hl, rfl, by unfold maxLen at hm; omega, fun _ => ⟨a, rfl, fun j p hj => ?_⟩⟩, by omega, fun x hx => ?_⟩
    · obtain ⟨cs', k1, k2, _⟩ := h2 j p hj
      obtain ⟨_, k5, k6⟩ := World.cells?_some k1
      refine ⟨cs', k5.trans hc, k2, fun i u hu => ?_⟩
      have hi : i < P.cellsOf e := by rw [← k5]; exact (List.getElem?_eq_some_iff.1 hu).1
      have k7 := k6 i hi
      rw [Go.Deep.add_add, hc] at k7
      rw [k7, hu]
    · obtain ⟨i, hi⟩ := List.getElem?_of_mem hx
      obtain ⟨_, _, _, k⟩ := h2 i x hi
      exact k

theorem in_slice {r : Reach} {b0 : Nat} {H : Type} {enc : TypeId × Value → H} {w : World} {v : Value} {x : DataW H} {ps : List MemPlace} (hu : P.underlying t = some (.slice e))
    (hv : Value.okWide P w r b0 t v) (h : DataW.Trod enc P w 0 (fun _ => true) true t v x ps) {gs : List α → Prop} (hd : ∀ n, Down P n t (Kd.slice e d) gs) :
    ∃ a A c, v = .slice A a.length c ∧ a.length ≤ c ∧ d.C w A a.length a ∧ gs a := by
  obtain ⟨A, l, c, rfl⟩ := okWide_slice hu hv
  obtain ⟨n, hn⟩ := h
  obtain ⟨a, ⟨A', c', k0, kl, k1⟩, k2⟩ := hd n _ _ _ _ _ hn
  have e1 : [Value.slice A l c] = [Value.slice A' a.length c'] := k0
  simp only [List.cons.injEq, Value.slice.injEq, and_true] at e1
  obtain ⟨rfl, rfl, rfl⟩ := e1
  exact ⟨a, A, c, rfl, kl, k1, k2⟩
end
end Go.Proofs.Ytggenhomnbnodaa.Op
