-- PRINTED BY print.sh 35421559b90ae4d0a3588c463048766b98c2df88dd9212a6774a882060cdf62d: not written by this session
import Derived.Test.YtdmcepodfkmlaaaPFnExactStripeOfx0
namespace Go.Proofs.Ytdmcepodfkmlaaa.PFnExactStripeOf
open Go.RowKit Go.Proofs.YtdmcepodfkmlaaaW.PrintWords Go.Proofs.YtdmcepodfkmlaaaW.PrintLast Go.Proofs.YtdmcepodfkmlaaaW.PrintMore
attribute [local go_sem] max2_int min2_int max_two min_two max_three min_three max_four min_four   -- for this text's walks alone
set_option linter.unusedVariables false
set_option linter.unusedSimpArgs false

/-! ### spec_Mix: function 17 -/
def spec_Mix.f (a0 : Int) : Option (Int) := some (Go.bits .and .i64 (Go.bits .xor .i64 (Go.bits .xor .i64 (Go.bits .and .i64 (Go.bits .xor .i64 (Go.bits .and .i64 a0 65535) (wrap64 ((Go.bits .and .i64 a0 65535) * 128))) 65535) ((Go.bits .and .i64 (Go.bits .xor .i64 (Go.bits .and .i64 a0 65535) (wrap64 ((Go.bits .and .i64 a0 65535) * 128))) 65535) / 512)) (wrap64 ((Go.bits .xor .i64 (Go.bits .and .i64 (Go.bits .xor .i64 (Go.bits .and .i64 a0 65535) (wrap64 ((Go.bits .and .i64 a0 65535) * 128))) 65535) ((Go.bits .and .i64 (Go.bits .xor .i64 (Go.bits .and .i64 a0 65535) (wrap64 ((Go.bits .and .i64 a0 65535) * 128))) 65535) / 512)) * 256))) 65535)
set_option maxHeartbeats 8000000 in
set_option maxRecDepth 100000 in
theorem spec_Mix.calls (a0 : Int) (r : Int) (w : World) (h : spec_Mix.f a0 = some r) :
    Calls Try.prog 17 #[.int .i64 a0] w fun e w' => e = .returned (.int .i64 r) ∧ Drawn0 w w' := by
  have H : (some (Go.bits .and .i64 (Go.bits .xor .i64 (Go.bits .xor .i64 (Go.bits .and .i64 (Go.bits .xor .i64 (Go.bits .and .i64 a0 65535) (wrap64 ((Go.bits .and .i64 a0 65535) * 128))) 65535) ((Go.bits .and .i64 (Go.bits .xor .i64 (Go.bits .and .i64 a0 65535) (wrap64 ((Go.bits .and .i64 a0 65535) * 128))) 65535) / 512)) (wrap64 ((Go.bits .xor .i64 (Go.bits .and .i64 (Go.bits .xor .i64 (Go.bits .and .i64 a0 65535) (wrap64 ((Go.bits .and .i64 a0 65535) * 128))) 65535) ((Go.bits .and .i64 (Go.bits .xor .i64 (Go.bits .and .i64 a0 65535) (wrap64 ((Go.bits .and .i64 a0 65535) * 128))) 65535) / 512)) * 256))) 65535)) = some r := h
  clear h
  obtain rfl := Option.some.inj H
  go_enter Try.func17, Try.ntmps17
  go_wp2
  go_ret
  exact ⟨by first | rfl | (simp; done) | (simp [*]; done), by repeat (first | exact Drawn0.refl _ | apply Drawn0.step)⟩

/-! ### spec_StripeOf: function 35 -/
def spec_StripeOf.f (a0 : Int) (a1 : Int) : Option (Int) := if a1 < 1 then (some 0) else ((spec_Mix.f a0).bind fun t101 => (if a1 = 0 then (none) else (some (Int.tmod t101 a1))))
set_option maxHeartbeats 8000000 in
set_option maxRecDepth 100000 in
theorem spec_StripeOf.calls (a0 : Int) (a1 : Int) (r : Int) (w : World) (h : spec_StripeOf.f a0 a1 = some r) :
    Calls Try.prog 35 #[.int .i64 a0, .int .i64 a1] w fun e w' => e = .returned (.int .i64 r) ∧ Drawn0 w w' := by
  have H : (if a1 < 1 then (some 0) else ((spec_Mix.f a0).bind fun t101 => (if a1 = 0 then (none) else (some (Int.tmod t101 a1))))) = some r := h
  clear h
  by_cases c3 : a1 < 1
  · rw [if_pos c3] at H
    have c3b0 : decide (a1 < 1) = true := decide_eq_true c3
    clear c3
    obtain rfl := Option.some.inj H
    go_enter Try.func35, Try.ntmps35
    go_wp2
    go_ret
    exact ⟨by first | rfl | (simp; done) | (simp [*]; done), by repeat (first | exact Drawn0.refl _ | apply Drawn0.step)⟩
  · rw [if_neg c3] at H
    have c3b0 : decide (a1 < 1) = false := decide_eq_false c3
    clear c3
    replace H := Option.bind_eq_some_iff.mp H
    obtain ⟨t101, A40, H⟩ := H
    replace H : (if a1 = 0 then (none) else (some (Int.tmod t101 a1))) = some r := H
    have A4 := Aside0.mk A40
    clear A40
    by_cases c5 : a1 = 0
    · rw [if_pos c5] at H
      exact absurd H (by simp)
    · rw [if_neg c5] at H
      have c5b0 : (a1 == 0) = false := beq_eq_false_iff_ne.mpr c5
      have c5b1 : (a1 != 0) = true := bne_iff_ne.mpr c5
      obtain rfl := Option.some.inj H
      go_enter Try.func35, Try.ntmps35
      go_wp2_with (first | ((with_reducible refine gate_callee (f := 17) rfl ?_); refine goesL_ (some 8) rfl rfl Try.func17 (by kernel_rfl) rfl #[.int .i64 a0] rfl (by (try simp only [List.map_toArray, List.map_cons, List.map_nil]); first | done | rfl | (simp only [List.length_drop, List.length_take]; rfl)) ?_; (with_reducible refine (spec_Mix.calls a0 t101 _ A4.out).mono ?_); rintro e w' ⟨rfl, ⟨nd, rfl⟩⟩; refine ⟨_, rfl, ?_⟩))
      go_ret
      exact ⟨by first | rfl | (simp; done) | (simp [*]; done), by repeat (first | exact Drawn0.refl _ | apply Drawn0.step)⟩

/-! ### impl_Mix: function 18 -/
def impl_Mix.f (a0 : Int) : Option (Int) := some (Go.bits .xor .i64 (Go.bits .xor .i64 (Go.bits .xor .i64 (Go.bits .and .i64 a0 65535) (Go.bits .and .i64 (wrap64 ((Go.bits .and .i64 a0 65535) * 128)) 65535)) ((Go.bits .xor .i64 (Go.bits .and .i64 a0 65535) (Go.bits .and .i64 (wrap64 ((Go.bits .and .i64 a0 65535) * 128)) 65535)) / 512)) (Go.bits .and .i64 (wrap64 ((Go.bits .xor .i64 (Go.bits .xor .i64 (Go.bits .and .i64 a0 65535) (Go.bits .and .i64 (wrap64 ((Go.bits .and .i64 a0 65535) * 128)) 65535)) ((Go.bits .xor .i64 (Go.bits .and .i64 a0 65535) (Go.bits .and .i64 (wrap64 ((Go.bits .and .i64 a0 65535) * 128)) 65535)) / 512)) * 256)) 65535))
set_option maxHeartbeats 8000000 in
set_option maxRecDepth 100000 in
theorem impl_Mix.calls (a0 : Int) (r : Int) (w : World) (h : impl_Mix.f a0 = some r) :
    Calls Try.prog 18 #[.int .i64 a0] w fun e w' => e = .returned (.int .i64 r) ∧ Drawn0 w w' := by
  have H : (some (Go.bits .xor .i64 (Go.bits .xor .i64 (Go.bits .xor .i64 (Go.bits .and .i64 a0 65535) (Go.bits .and .i64 (wrap64 ((Go.bits .and .i64 a0 65535) * 128)) 65535)) ((Go.bits .xor .i64 (Go.bits .and .i64 a0 65535) (Go.bits .and .i64 (wrap64 ((Go.bits .and .i64 a0 65535) * 128)) 65535)) / 512)) (Go.bits .and .i64 (wrap64 ((Go.bits .xor .i64 (Go.bits .xor .i64 (Go.bits .and .i64 a0 65535) (Go.bits .and .i64 (wrap64 ((Go.bits .and .i64 a0 65535) * 128)) 65535)) ((Go.bits .xor .i64 (Go.bits .and .i64 a0 65535) (Go.bits .and .i64 (wrap64 ((Go.bits .and .i64 a0 65535) * 128)) 65535)) / 512)) * 256)) 65535))) = some r := h
  clear h
  obtain rfl := Option.some.inj H
  go_enter Try.func18, Try.ntmps18
  go_wp2
  go_ret
  exact ⟨by first | rfl | (simp; done) | (simp [*]; done), by repeat (first | exact Drawn0.refl _ | apply Drawn0.step)⟩

/-! ### impl_StripeOf: function 36 -/
def impl_StripeOf.f (a0 : Int) (a1 : Int) : Option (Int) := if a1 < 1 then (some 0) else ((impl_Mix.f a0).bind fun t102 => (if a1 = 0 then (none) else (some (Int.tmod t102 a1))))
set_option maxHeartbeats 8000000 in
set_option maxRecDepth 100000 in
theorem impl_StripeOf.calls (a0 : Int) (a1 : Int) (r : Int) (w : World) (h : impl_StripeOf.f a0 a1 = some r) :
    Calls Try.prog 36 #[.int .i64 a0, .int .i64 a1] w fun e w' => e = .returned (.int .i64 r) ∧ Drawn0 w w' := by
  have H : (if a1 < 1 then (some 0) else ((impl_Mix.f a0).bind fun t102 => (if a1 = 0 then (none) else (some (Int.tmod t102 a1))))) = some r := h
  clear h
  by_cases c3 : a1 < 1
  · rw [if_pos c3] at H
    have c3b0 : decide (a1 < 1) = true := decide_eq_true c3
    clear c3
    obtain rfl := Option.some.inj H
    go_enter Try.func36, Try.ntmps36
    go_wp2
    go_ret
    exact ⟨by first | rfl | (simp; done) | (simp [*]; done), by repeat (first | exact Drawn0.refl _ | apply Drawn0.step)⟩
  · rw [if_neg c3] at H
    have c3b0 : decide (a1 < 1) = false := decide_eq_false c3
    clear c3
    replace H := Option.bind_eq_some_iff.mp H
    obtain ⟨t102, A40, H⟩ := H
    replace H : (if a1 = 0 then (none) else (some (Int.tmod t102 a1))) = some r := H
    have A4 := Aside0.mk A40
    clear A40
    by_cases c5 : a1 = 0
    · rw [if_pos c5] at H
      exact absurd H (by simp)
    · rw [if_neg c5] at H
      have c5b0 : (a1 == 0) = false := beq_eq_false_iff_ne.mpr c5
      have c5b1 : (a1 != 0) = true := bne_iff_ne.mpr c5
      obtain rfl := Option.some.inj H
      go_enter Try.func36, Try.ntmps36
      go_wp2_with (first | ((with_reducible refine gate_callee (f := 18) rfl ?_); refine goesL_ (some 8) rfl rfl Try.func18 (by kernel_rfl) rfl #[.int .i64 a0] rfl (by (try simp only [List.map_toArray, List.map_cons, List.map_nil]); first | done | rfl | (simp only [List.length_drop, List.length_take]; rfl)) ?_; (with_reducible refine (impl_Mix.calls a0 t102 _ A4.out).mono ?_); rintro e w' ⟨rfl, ⟨nd, rfl⟩⟩; refine ⟨_, rfl, ?_⟩))
      go_ret
      exact ⟨by first | rfl | (simp; done) | (simp [*]; done), by repeat (first | exact Drawn0.refl _ | apply Drawn0.step)⟩

/-! ### laws_FnExactStripeOf: function 13 -/
def laws_FnExactStripeOf.f (a0 : Int) (a1 : Int) : Option (Bool) := (spec_StripeOf.f a0 a1).bind fun t103 => ((impl_StripeOf.f a0 a1).bind fun t104 => (if t104 = t103 then (some true) else (some false)))
set_option maxHeartbeats 8000000 in
set_option maxRecDepth 100000 in
theorem laws_FnExactStripeOf.calls (a0 : Int) (a1 : Int) (r : Bool) (w : World) (h : laws_FnExactStripeOf.f a0 a1 = some r) :
    Calls Try.prog 13 #[.int .i64 a0, .int .i64 a1] w fun e w' => e = .returned (.bool r) ∧ Drawn0 w w' := by
  have H : ((spec_StripeOf.f a0 a1).bind fun t103 => ((impl_StripeOf.f a0 a1).bind fun t104 => (if t104 = t103 then (some true) else (some false)))) = some r := h
  clear h
  replace H := Option.bind_eq_some_iff.mp H
  obtain ⟨t103, A30, H⟩ := H
  replace H : ((impl_StripeOf.f a0 a1).bind fun t104 => (if t104 = t103 then (some true) else (some false))) = some r := H
  have A3 := Aside0.mk A30
  clear A30
  replace H := Option.bind_eq_some_iff.mp H
  obtain ⟨t104, A40, H⟩ := H
  replace H : (if t104 = t103 then (some true) else (some false)) = some r := H
  have A4 := Aside0.mk A40
  clear A40
  by_cases c5 : t104 = t103
  · rw [if_pos c5] at H
    have c5b0 : (t104 == t103) = true := beq_iff_eq.mpr c5
    have c5b1 : (t104 != t103) = false := bne_eq_false_iff_eq.mpr c5
    clear c5
    obtain rfl := Option.some.inj H
    go_enter Try.func13, Try.ntmps13
    go_wp2_with (first | ((with_reducible refine gate_callee (f := 35) rfl ?_); refine goesL_ (some 9) rfl rfl Try.func35 (by kernel_rfl) rfl #[.int .i64 a0, .int .i64 a1] rfl (by (try simp only [List.map_toArray, List.map_cons, List.map_nil]); first | done | rfl | (simp only [List.length_drop, List.length_take]; rfl)) ?_; (with_reducible refine (spec_StripeOf.calls a0 a1 t103 _ A3.out).mono ?_); rintro e w' ⟨rfl, ⟨nd, rfl⟩⟩; refine ⟨_, rfl, ?_⟩) | ((with_reducible refine gate_callee (f := 36) rfl ?_); refine goesL_ (some 12) rfl rfl Try.func36 (by kernel_rfl) rfl #[.int .i64 a0, .int .i64 a1] rfl (by (try simp only [List.map_toArray, List.map_cons, List.map_nil]); first | done | rfl | (simp only [List.length_drop, List.length_take]; rfl)) ?_; (with_reducible refine (impl_StripeOf.calls a0 a1 t104 _ A4.out).mono ?_); rintro e w' ⟨rfl, ⟨nd, rfl⟩⟩; refine ⟨_, rfl, ?_⟩))
    go_ret
    exact ⟨by first | rfl | (simp; done) | (simp [*]; done), by repeat (first | exact Drawn0.refl _ | apply Drawn0.step)⟩
  · rw [if_neg c5] at H
    have c5b0 : (t104 == t103) = false := beq_eq_false_iff_ne.mpr c5
    have c5b1 : (t104 != t103) = true := bne_iff_ne.mpr c5
    obtain rfl := Option.some.inj H
    go_enter Try.func13, Try.ntmps13
    go_wp2_with (first | ((with_reducible refine gate_callee (f := 35) rfl ?_); refine goesL_ (some 9) rfl rfl Try.func35 (by kernel_rfl) rfl #[.int .i64 a0, .int .i64 a1] rfl (by (try simp only [List.map_toArray, List.map_cons, List.map_nil]); first | done | rfl | (simp only [List.length_drop, List.length_take]; rfl)) ?_; (with_reducible refine (spec_StripeOf.calls a0 a1 t103 _ A3.out).mono ?_); rintro e w' ⟨rfl, ⟨nd, rfl⟩⟩; refine ⟨_, rfl, ?_⟩) | ((with_reducible refine gate_callee (f := 36) rfl ?_); refine goesL_ (some 12) rfl rfl Try.func36 (by kernel_rfl) rfl #[.int .i64 a0, .int .i64 a1] rfl (by (try simp only [List.map_toArray, List.map_cons, List.map_nil]); first | done | rfl | (simp only [List.length_drop, List.length_take]; rfl)) ?_; (with_reducible refine (impl_StripeOf.calls a0 a1 t104 _ A4.out).mono ?_); rintro e w' ⟨rfl, ⟨nd, rfl⟩⟩; refine ⟨_, rfl, ?_⟩))
    go_ret
    exact ⟨by first | rfl | (simp; done) | (simp [*]; done), by repeat (first | exact Drawn0.refl _ | apply Drawn0.step)⟩

/-- THE ONE PURE STATEMENT of laws_FnExactStripeOf: yours. -/
def laws_FnExactStripeOf.Pure : Prop := ∀ (a0 : Int) (a1 : Int), (Lit.int .i64 a0).wf = true → (Lit.int .i64 a1).wf = true → laws_FnExactStripeOf.f a0 a1 = some true
theorem laws_FnExactStripeOf.walk (P : laws_FnExactStripeOf.Pure) (a0 : Int) (a1 : Int) (w : World) (w0 : (Lit.int .i64 a0).wf = true) (w1 : (Lit.int .i64 a1).wf = true) :
    Calls Try.prog 13 #[.int .i64 a0, .int .i64 a1] w fun e w' => e = .returned (.bool true) ∧ Below w.heap.size w w' := by
  have h := P a0 a1 w0 w1
  refine (laws_FnExactStripeOf.calls a0 a1 true w h).mono ?_
  rintro e w' ⟨rfl, hd⟩
  exact ⟨rfl, hd.below⟩

end Go.Proofs.Ytdmcepodfkmlaaa.PFnExactStripeOf
