/- What functions that the law reaches answer, with their walks. Conditions: those that each theorem names. -/
import Derived.Test.YtggenhomnbnodaaQFnWheelsx0
import Derived.Test.YtggenhomnbnodaaQFnWheelsx8
namespace Go.Proofs.Ytggenhomnbnodaa.QFnWheels
open Go.RowKit Go.Proofs.YtggenhomnbnodaaW.PrintWords Go.Proofs.YtggenhomnbnodaaW.PrintLast Go.Proofs.YtggenhomnbnodaaW.PrintMore
attribute [local go_sem] max2_int min2_int max_two min_two max_three min_three max_four min_four
set_option linter.unusedVariables false
set_option linter.unusedSimpArgs false

open Go.Proofs.YtggenhomnbnodaaW.PrintWords renaming blk_drewN → bN, blk_drew → bD, blk_alloc → bA, blk_cell → bC, blk_below → bB, below_set → bS
def laws_big.f (l0 : List Int) : Option (Bool) := some (decide ((l0.length : Int) > 1048576))
set_option maxHeartbeats 8000000 in
set_option maxRecDepth 100000 in
theorem laws_big.calls (A0 : Option Addr) (c0 : Nat) (l0 : List Int) (r : Bool) (w : World) (hr0 : Kd.C (Kd.int .u8) w A0 l0.length l0) (hc0 : l0.length ≤ c0) (h : laws_big.f l0 = some r) :
  Calls Try.prog 45 #[.slice A0 l0.length c0] w fun e w' => e = .returned (.bool r) ∧ Drawn0 w w' := by
 have HR0 := aM hr0
 have HC0 := aM hc0
 clear hr0 hc0
 unfold laws_big.f at h; have H := h
 clear h
 obtain rfl := Option.some.inj H
 go_enter Try.func45, Try.ntmps45
 go_wp2
 go_ret
 exact ⟨zV, zU⟩

open Go.Proofs.YtggenhomnbnodaaW.PrintWords renaming blk_drewN → bN, blk_drew → bD, blk_alloc → bA, blk_cell → bC, blk_below → bB, below_set → bS
def IsS98 (w0 W : World) (g : Nat) (f0 : List Int) (f1 : Int) (f2 : Int) : Prop := ∃ A0 c0, W.heap[g]? = some (.cells #[.slice A0 f0.length c0, .int .i64 f1, .int .i64 f2] 98 (0, 0)) ∧ w0.heap.size ≤ g ∧ Kd.C (Kd.int .u8) w0 A0 f0.length f0
theorem IsS98.grown {w0 W : World} {g : Nat} {f0 : List Int} {f1 : Int} {f2 : Int} {W1 : World} {row : Option Nat} (h : IsS98 w0 W g f0 f1 f2) (hw : W.grownBy W1 row) (hne : some g ≠ row) : IsS98 w0 W1 g f0 f1 f2 := by
 obtain ⟨A0, c0, hb, hg, hr0⟩ := h
 exact ⟨A0, c0, blk_grown hb hw hne, hg, hr0⟩
theorem IsS98.own_neN {w0 W : World} {g : Nat} {f0 : List Int} {f1 : Int} {f2 : Int} {α : Type} {d : Kd α} {e : Nat} {base : Nat} {ok : Nat → Prop} {v : Value} {xs : List α} (h : IsS98 w0 W g f0 f1 f2) (ho : Kd.N d e W base ok v xs) (ht : e ≠ 98) : some g ≠ v.ownBlock := by
 obtain ⟨A0, c0, hb, hg, hr0⟩ := h
 exact Kd.N_ne ho hb ht
theorem IsS98.fresh {w0 W : World} {g : Nat} {f0 : List Int} {f1 : Int} {f2 : Int} (h : IsS98 w0 W g f0 f1 f2) : ∀ k, W.heap.size ≤ k → k ≠ g := by
 obtain ⟨A0, c0, hb, hg, hr0⟩ := h
 exact Kd.freshB hb
theorem IsS98.kept {w0 W : World} {g : Nat} {f0 : List Int} {f1 : Int} {f2 : Int} {W1 : World} {S : Nat → Prop} (h : IsS98 w0 W g f0 f1 f2) (hk : Kept W W1 S) (hne : ¬ S g) : IsS98 w0 W1 g f0 f1 f2 := by
 obtain ⟨A0, c0, hb, hg, hr0⟩ := h
 exact ⟨A0, c0, blk_kept hb hk hne, hg, hr0⟩
theorem IsS98.below {w0 W : World} {g : Nat} {f0 : List Int} {f1 : Int} {f2 : Int} {W1 : World} (h : IsS98 w0 W g f0 f1 f2) (hw : Below W.heap.size W W1) : IsS98 w0 W1 g f0 f1 f2 := h.grown (grown_of_below hw none) (by simp)
theorem IsS98.alloc {w0 W : World} {g : Nat} {f0 : List Int} {f1 : Int} {f2 : Int} (h : IsS98 w0 W g f0 f1 f2) (o : Obj) : IsS98 w0 (W.alloc o) g f0 f1 f2 := h.below (below_alloc (Below.refl _ _) o)
theorem IsS98.drewN {w0 W : World} {g : Nat} {f0 : List Int} {f1 : Int} {f2 : Int} (h : IsS98 w0 W g f0 f1 f2) (m : Nat) : IsS98 w0 (W.drewN m) g f0 f1 f2 := h
theorem IsS98.drew {w0 W : World} {g : Nat} {f0 : List Int} {f1 : Int} {f2 : Int} (h : IsS98 w0 W g f0 f1 f2) : IsS98 w0 W.drew g f0 f1 f2 := h
theorem IsS98.apart {w0 W : World} {g : Nat} {f0 : List Int} {f1 : Int} {f2 : Int} {α : Type} {d : Kd α} {e : Nat} {base : Nat} {ok : Nat → Prop} {v : Value} {xs : List α} (h : IsS98 w0 W g f0 f1 f2) (ho : d.R e W base ok v xs) (ht : ∀ q, q ∈ e :: d.E → q ≠ 98) : d.R e W base (fun k => ok k ∧ k ≠ g) v xs := by
 obtain ⟨A0, c0, hb, hg, hr0⟩ := h
 exact Kd.R_types ho hb ht
theorem IsS98.own_ne {w0 W : World} {g : Nat} {f0 : List Int} {f1 : Int} {f2 : Int} {α : Type} {d : Kd α} {e : Nat} {base : Nat} {ok : Nat → Prop} {v : Value} {xs : List α} (h : IsS98 w0 W g f0 f1 f2) (ho : d.R e W base ok v xs) (ht : e ≠ 98) : some g ≠ v.ownBlock := by
 obtain ⟨A0, c0, hb, hg, hr0⟩ := h
 exact Kd.R_ne ho hb ht
theorem IsS98.apartS {w0 W : World} {g : Nat} {f0 : List Int} {f1 : Int} {f2 : Int} {α : Type} {d : Kd α} {e : Nat} {base : Nat} {ok : Nat → Prop} {v : Value} {xs : List α} (h : IsS98 w0 W g f0 f1 f2) (ho : d.S e W base ok v xs) (ht : ∀ q, q ∈ e :: d.E → q ≠ 98) : d.S e W base (fun k => ok k ∧ k ≠ g) v xs := by
 obtain ⟨A0, c0, hb, hg, hr0⟩ := h
 exact Kd.S_types ho hb ht
theorem IsS98.lt {w0 W : World} {g : Nat} {f0 : List Int} {f1 : Int} {f2 : Int} (h : IsS98 w0 W g f0 f1 f2) : g < W.heap.size := by
 obtain ⟨A0, c0, hb, hg, hr0⟩ := h
 exact blk_lt hb
theorem IsS98.ge {w0 W : World} {g : Nat} {f0 : List Int} {f1 : Int} {f2 : Int} (h : IsS98 w0 W g f0 f1 f2) : w0.heap.size ≤ g := by
 obtain ⟨A0, c0, hb, hg, hr0⟩ := h
 exact hg
theorem IsS98.ne_blk {w0 W : World} {g : Nat} {f0 : List Int} {f1 : Int} {f2 : Int} {a : Nat} {cs : Array Value} {t : TypeId} {fr : Nat × Nat} (h : IsS98 w0 W g f0 f1 f2) (hb2 : W.heap[a]? = some (.cells cs t fr)) (ht : t ≠ 98) : g ≠ a := by
 obtain ⟨A0, c0, hb, hg, hr0⟩ := h
 rintro rfl
 rw [hb] at hb2
 injection hb2 with hb2
 injection hb2 with _ ht2
 exact ht ht2.symm
theorem IsS98.far {w0 W : World} {g : Nat} {f0 : List Int} {f1 : Int} {f2 : Int} {p : Addr} (h : IsS98 w0 W g f0 f1 f2) (hne : g ≠ p.block) (u : Value) : IsS98 w0 (W.setCell p u) g f0 f1 f2 := by
 obtain ⟨A0, c0, hb, hg, hr0⟩ := h
 exact ⟨A0, c0, blk_far hb hne u, hg, hr0⟩
theorem cellS98_0 {W : World} {g : Nat} {A0 : Option Addr} {c0 : Nat} {f0 : List Int} {f1 : Int} {f2 : Int} (h : W.heap[g]? = some (.cells #[.slice A0 f0.length c0, .int .i64 f1, .int .i64 f2] 98 (0, 0))) : W.cell? ⟨g, 0, none⟩ = some (.slice A0 f0.length c0) := (bC h 0).trans rfl
theorem cellS98_1 {W : World} {g : Nat} {A0 : Option Addr} {c0 : Nat} {f0 : List Int} {f1 : Int} {f2 : Int} (h : W.heap[g]? = some (.cells #[.slice A0 f0.length c0, .int .i64 f1, .int .i64 f2] 98 (0, 0))) : W.cell? ⟨g, 1, none⟩ = some (.int .i64 f1) := (bC h 1).trans rfl
theorem IsS98.set_1 {w0 W : World} {g : Nat} {f0 : List Int} {f1 : Int} {f2 : Int} (h : IsS98 w0 W g f0 f1 f2) (x : Int) : IsS98 w0 (W.setCell ⟨g, 1, none⟩ (.int .i64 x)) g f0 x f2 := by
 obtain ⟨A0, c0, hb, hg, hr0⟩ := h
 exact ⟨A0, c0, by simpa using blk_set hb 1 (.int .i64 x), hg, hr0⟩
theorem cellS98_2 {W : World} {g : Nat} {A0 : Option Addr} {c0 : Nat} {f0 : List Int} {f1 : Int} {f2 : Int} (h : W.heap[g]? = some (.cells #[.slice A0 f0.length c0, .int .i64 f1, .int .i64 f2] 98 (0, 0))) : W.cell? ⟨g, 2, none⟩ = some (.int .i64 f2) := (bC h 2).trans rfl
theorem IsS98.set_2 {w0 W : World} {g : Nat} {f0 : List Int} {f1 : Int} {f2 : Int} (h : IsS98 w0 W g f0 f1 f2) (x : Int) : IsS98 w0 (W.setCell ⟨g, 2, none⟩ (.int .i64 x)) g f0 f1 x := by
 obtain ⟨A0, c0, hb, hg, hr0⟩ := h
 exact ⟨A0, c0, by simpa using blk_set hb 2 (.int .i64 x), hg, hr0⟩
theorem IsS98.new (w0 W : World) (A0 : Option Addr) (c0 : Nat) (f0 : List Int) (f1 : Int) (f2 : Int) (hB : Below w0.heap.size w0 W) (hr0 : Kd.C (Kd.int .u8) w0 A0 f0.length f0) : IsS98 w0 (W.alloc (.cells #[.slice A0 f0.length c0, .int .i64 f1, .int .i64 f2] 98)) W.heap.size f0 f1 f2 := ⟨A0, c0, by simpa using heap_alloc_new W _, hB.size, hr0⟩

def spec_l1New.l0 : Nat → List Int → Int → Int → Option (List Int × Int × Int)
 | 0, _, _, _ => none
 | k + 1, x0, x3, x4 => if x4 < (x0.length : Int) then (if x4 < 4000 then (if 0 ≤ x4 then (spec_l1New.l0 k x0 (Go.bits .and .i64 (wrap64 ((wrap64 ((wrap64 (x3 * 137)) + (wrap64 (rd x0 x4)))) + 11)) 1073741823) (wrap64 (x4 + 1))) else (none)) else (some (x0, 0, x3))) else (some (x0, 0, x3))
def spec_l1New.f (k : Nat) (l0 : List Int) : Option (List Int × Int × Int) := spec_l1New.l0 k l0 (wrap64 (140371 + (l0.length : Int))) 0
set_option maxHeartbeats 8000000 in
set_option maxRecDepth 100000 in
theorem spec_l1New.calls (k : Nat) (A0 : Option Addr) (c0 : Nat) (l0 : List Int) (r1 : List Int) (r2 : Int) (r3 : Int) (w0 w : World) (hB : Below w0.heap.size w0 w) (hr0 : Kd.C (Kd.int .u8) w0 A0 l0.length l0) (hc0 : l0.length ≤ c0) (h : spec_l1New.f k l0 = some (r1, r2, r3)) :
  Calls Try.prog 80 #[.slice A0 l0.length c0] w fun e w' => ∃ g_ : Nat, e = .returned (.pointer (some ⟨g_, 0, none⟩)) ∧ IsS98 w0 w' g_ r1 r2 r3 ∧ Below w0.heap.size w0 w' ∧ Below w.heap.size w w' := by
 have hu98 := Try.underlying98
 have HR0 := aM hr0
 have HC0 := aM hc0
 clear hr0 hc0
 have HBW := aM (Below.refl w.heap.size w)
 have HW0 := aM hB.size
 have HB := aM hB
 clear hB
 unfold spec_l1New.f at h; have H := h
 clear h
 have H' := aM H
 clear H
 go_enter Try.func80, Try.ntmps80
 go_wp2
 go_loopg [3, 4] k (fun kq v3 v4 w' => ∃ (x3_1 : Int) (x4_1 : Int), v3 = .int .i64 x3_1 ∧ v4 = .int .i64 x4_1 ∧ Aside0 (spec_l1New.l0 kq l0 x3_1 x4_1 = some (r1, r2, r3)) ∧ Aside0 (kq ≤ k) ∧ Aside0 (Below w0.heap.size w0 w') ∧ Aside0 (Below w.heap.size w w'))
 case atStart => exact ⟨(wrap64 (140371 + (l0.length : Int))), (0), zV, zV, H', ⟨Nat.le_refl _⟩, ⟨zL HB.o⟩, ⟨zL HBW.o⟩⟩
 case round =>
  clear H'
  obtain ⟨x3_1, x4_1, rfl, rfl, HA, HK1, HB, HBW⟩ := hrel
  cases gk with
  | zero => exact absurd HA.o (by simp [spec_l1New.l0])
  | succ k1 =>
   have H := HA.o
   clear HA
   simp only [spec_l1New.l0] at H
   by_cases c2 : x4_1 < (l0.length : Int)
   ·rw [if_pos c2] at H
    have c2b0 := dT c2
    clear c2
    by_cases c3 : x4_1 < 4000
    ·rw [if_pos c3] at H
     have c3b0 := dT c3
     clear c3
     by_cases c4 : 0 ≤ x4_1
     ·rw [if_pos c4] at H
      have c4b0 := dT c4
      clear c4
      have H' := aM H
      clear H
      have pQ : 0 ≤ (x4_1 : Int) := zD
      have qQ : x4_1 < (l0.length : Int) := zD
      obtain ⟨adQ, eQ, hxQ_0⟩ := Kd.at_int HR0.o x4_1 pQ qQ
      cases eQ
      replace hxQ_0 := pw_cell_below HB.o hxQ_0
      replace pQ := eq_true pQ
      replace qQ := eq_true qQ
      go_wp2
      go_roundg k1
      case measure => have := HK1.o; omega
      case rel => exact ⟨(Go.bits .and .i64 (wrap64 ((wrap64 ((wrap64 (x3_1 * 137)) + (wrap64 (rd l0 x4_1)))) + 11)) 1073741823), (wrap64 (x4_1 + 1)), zV, zV, H', ⟨by have := HK1.o; omega⟩, ⟨zL HB.o⟩, ⟨zL HBW.o⟩⟩
     ·rw [if_neg c4] at H
      exact absurd H (by simp)
    ·rw [if_neg c3] at H
     have c3b0 := dF c3
     clear c3
     simp only [Option.some.injEq, Prod.mk.injEq] at H
     obtain ⟨rfl, rfl, rfl⟩ := H
     go_wp2
     go_ret
     exact ⟨_, rfl, IsS98.new w0 wr A0 c0 l0 0 x3_1 HB.o HR0.o, below_alloc HB.o _, below_alloc HBW.o _⟩
   ·rw [if_neg c2] at H
    have c2b0 := dF c2
    clear c2
    simp only [Option.some.injEq, Prod.mk.injEq] at H
    obtain ⟨rfl, rfl, rfl⟩ := H
    go_wp2
    go_ret
    exact ⟨_, rfl, IsS98.new w0 wr A0 c0 l0 0 x3_1 HB.o HR0.o, below_alloc HB.o _, below_alloc HBW.o _⟩

open Go.Proofs.YtggenhomnbnodaaW.PrintWords renaming blk_drewN → bN, blk_drew → bD, blk_alloc → bA, blk_cell → bC, blk_below → bB, below_set → bS
def spec_l1Byte.f (s0_0 : List Int) (s0_1 : Int) (s0_2 : Int) : Option (Int × Int × Int) := if s0_1 < (s0_0.length : Int) then (if 0 ≤ s0_1 then (some (Go.bits .and .i64 (wrap64 ((Go.bits .and .i64 (Go.bits .xor .i64 ((wrap64 ((wrap64 (s0_2 * 6364136223846793005)) + 1442695040888963407)) / 8589934592) ((wrap64 ((wrap64 (s0_2 * 6364136223846793005)) + 1442695040888963407)) / 140737488355328)) 255) + (wrap64 (rd s0_0 s0_1)))) 255, wrap64 (s0_1 + 1), wrap64 ((wrap64 (s0_2 * 6364136223846793005)) + 1442695040888963407))) else (none)) else (some (Go.bits .and .i64 (Go.bits .xor .i64 ((wrap64 ((wrap64 (s0_2 * 6364136223846793005)) + 1442695040888963407)) / 8589934592) ((wrap64 ((wrap64 (s0_2 * 6364136223846793005)) + 1442695040888963407)) / 140737488355328)) 255, s0_1, wrap64 ((wrap64 (s0_2 * 6364136223846793005)) + 1442695040888963407)))
set_option maxHeartbeats 8000000 in
set_option maxRecDepth 100000 in
theorem spec_l1Byte.calls (g : Nat) (s0_0 : List Int) (s0_1 : Int) (s0_2 : Int) (r1 : Int) (r2 : Int) (r3 : Int) (w0 w : World) (hI : IsS98 w0 w g s0_0 s0_1 s0_2) (hB : Below w0.heap.size w0 w) (h : spec_l1Byte.f s0_0 s0_1 s0_2 = some (r1, r2, r3)) :
  Calls Try.prog 95 #[.pointer (some ⟨g, 0, none⟩)] w fun e w' => e = .returned (.int .i64 r1) ∧ IsS98 w0 w' g s0_0 r2 r3 ∧ Below w0.heap.size w0 w' ∧ KeepBut w w' g none := by
 have HI0 := aM hI
 have HK := aM (KeepBut.refl w g none)
 have HL := aM hB.size
 clear hI
 have HW0 := aM hB.size
 have HB := aM hB
 clear hB
 unfold spec_l1Byte.f at h; have H := h
 clear h
 by_cases c2 : s0_1 < (s0_0.length : Int)
 ·rw [if_pos c2] at H
  have c2b0 := dT c2
  clear c2
  by_cases c3 : 0 ≤ s0_1
  ·rw [if_pos c3] at H
   have c3b0 := dT c3
   clear c3
   simp only [Option.some.injEq, Prod.mk.injEq] at H
   obtain ⟨rfl, rfl, rfl⟩ := H
   obtain ⟨ASz4_0, cSz4_0, HGz4, hgz4, HSz4_0⟩ := HI0.o
   have hcz4_0 := cellS98_0 HGz4
   have hcz4_1 := cellS98_1 HGz4
   have hcz4_2 := cellS98_2 HGz4
   have hfz4_1 := blk_frozen HGz4 1
   have hfz4_2 := blk_frozen HGz4 2
   clear HGz4 hgz4
   have pK : 0 ≤ (s0_1 : Int) := zD
   have qK : s0_1 < (s0_0.length : Int) := zD
   obtain ⟨adK, eK, hxK_0⟩ := Kd.at_int HSz4_0 s0_1 pK qK
   cases eK
   have hnK_0 : adK.block ≠ g := Nat.ne_of_lt (Nat.lt_of_lt_of_le (by have := World.block_lt_of_cell? _ _ hxK_0; first | rwa [add_block] at this | exact this) (IsS98.ge HI0.o))
   replace hxK_0 := pw_cell_below HB.o hxK_0
   replace hxK_0 := (cell_far (p := ⟨g, 2, none⟩) (by first | (rw [add_block]; exact hnK_0) | (show (Addr.add _ _).block ≠ _; rw [add_block]; exact hnK_0) | exact hnK_0) (.int .i64 (wrap64 ((wrap64 (s0_2 * 6364136223846793005)) + 1442695040888963407)))).trans hxK_0
   (try have hyK_0 := fun (n_ : Nat) => (show (((w.drewN n_).setCell ⟨g, 2, none⟩ (.int .i64 (wrap64 ((wrap64 (s0_2 * 6364136223846793005)) + 1442695040888963407))))).cell? _ = some _ from hxK_0))
   clear hnK_0
   replace pK := eq_true pK
   replace qK := eq_true qK
   go_enter Try.func95, Try.ntmps95
   go_wp2
   repeat (go_quiet (fail); try go_wp2)
   go_ret
   exact ⟨zW, zI HI0.o, zL1 HB.o (IsS98.ge HI0.o), zK HK.o⟩
  ·rw [if_neg c3] at H
   exact absurd H (by simp)
 ·rw [if_neg c2] at H
  have c2b0 := dF c2
  clear c2
  simp only [Option.some.injEq, Prod.mk.injEq] at H
  obtain ⟨rfl, rfl, rfl⟩ := H
  obtain ⟨ASz5_0, cSz5_0, HGz5, hgz5, HSz5_0⟩ := HI0.o
  have hcz5_0 := cellS98_0 HGz5
  have hcz5_1 := cellS98_1 HGz5
  have hcz5_2 := cellS98_2 HGz5
  have hfz5_1 := blk_frozen HGz5 1
  have hfz5_2 := blk_frozen HGz5 2
  clear HGz5 hgz5
  go_enter Try.func95, Try.ntmps95
  go_wp2
  repeat (go_quiet (fail); try go_wp2)
  go_ret
  exact ⟨zW, zI HI0.o, zL1 HB.o (IsS98.ge HI0.o), zK HK.o⟩

open Go.Proofs.YtggenhomnbnodaaW.PrintWords renaming blk_drewN → bN, blk_drew → bD, blk_alloc → bA, blk_cell → bC, blk_below → bB, below_set → bS
def spec_l1Below.f (s0_0 : List Int) (s0_1 : Int) (s0_2 : Int) (a1 : Int) : Option (Int × Int × Int) := if a1 ≤ 0 then (some (0, s0_1, s0_2)) else (if a1 ≤ 256 then ((spec_l1Byte.f s0_0 s0_1 s0_2).bind fun btB8 => (if a1 = 0 then (none) else (some (Int.tmod btB8.1 a1, btB8.2.1, btB8.2.2)))) else ((spec_l1Byte.f s0_0 s0_1 s0_2).bind fun btB9 => ((spec_l1Byte.f s0_0 btB9.2.1 btB9.2.2).bind fun btC0 => ((spec_l1Byte.f s0_0 btC0.2.1 btC0.2.2).bind fun btC1 => (if a1 = 0 then (none) else (some (Int.tmod (wrap64 ((wrap64 ((wrap64 (btB9.1 * 65536)) + (wrap64 (btC0.1 * 256)))) + btC1.1)) a1, btC1.2.1, btC1.2.2)))))))
set_option maxHeartbeats 8000000 in
set_option maxRecDepth 100000 in
theorem spec_l1Below.calls (g : Nat) (s0_0 : List Int) (s0_1 : Int) (s0_2 : Int) (a1 : Int) (r1 : Int) (r2 : Int) (r3 : Int) (w0 w : World) (hI : IsS98 w0 w g s0_0 s0_1 s0_2) (hB : Below w0.heap.size w0 w) (h : spec_l1Below.f s0_0 s0_1 s0_2 a1 = some (r1, r2, r3)) :
  Calls Try.prog 83 #[.pointer (some ⟨g, 0, none⟩), .int .i64 a1] w fun e w' => e = .returned (.int .i64 r1) ∧ IsS98 w0 w' g s0_0 r2 r3 ∧ Below w0.heap.size w0 w' ∧ KeepBut w w' g none := by
 have HI0 := aM hI
 have HK := aM (KeepBut.refl w g none)
 have HL := aM hB.size
 clear hI
 have HW0 := aM hB.size
 have HB := aM hB
 clear hB
 unfold spec_l1Below.f at h; have H := h
 clear h
 by_cases c3 : a1 ≤ 0
 ·rw [if_pos c3] at H
  have c3b0 := dT c3
  clear c3
  simp only [Option.some.injEq, Prod.mk.injEq] at H
  obtain ⟨rfl, rfl, rfl⟩ := H
  go_enter Try.func83, Try.ntmps83
  go_wp2
  go_ret
  exact ⟨zW, zI HI0.o, zL1 HB.o (IsS98.ge HI0.o), zK HK.o⟩
 ·rw [if_neg c3] at H
  have c3b0 := dF c3
  clear c3
  by_cases c4 : a1 ≤ 256
  ·rw [if_pos c4] at H
   have c4b0 := dT c4
   clear c4
   obtain ⟨⟨tB8, tE2, tE3⟩, A5, H⟩ := zO H; try dsimp only at H
   by_cases c6 : a1 = 0
   ·rw [if_pos c6] at H
    exact absurd H (by simp)
   ·rw [if_neg c6] at H
    obtain ⟨c6b0, c6b1⟩ := zf c6
    simp only [Option.some.injEq, Prod.mk.injEq] at H
    obtain ⟨rfl, rfl, rfl⟩ := H
    go_enter Try.func83, Try.ntmps83
    go_wp2_with (first | ((with_reducible refine gC 95 rfl ?_); refine gL 13 Try.func95 #[.pointer (some ⟨g, 0, none⟩)] ?_; (with_reducible refine (spec_l1Byte.calls g s0_0 s0_1 s0_2 tB8 tE2 tE3 w0 _ ?side1 ?side2 A5.o).mono ?_); (case side1 => exact zI HI0.o); (case side2 => exact zL1 HB.o (IsS98.ge HI0.o)); rintro e w7 ⟨rfl, hi, hb, hk⟩; refine ⟨_, rfl, ?_⟩; replace HK := zKK (zK HK.o) hk; replace HB := aM hb; replace HI0 := aM hi; clear hi hb hk))
    go_ret
    exact ⟨zW, zI HI0.o, zL1 HB.o (IsS98.ge HI0.o), zK HK.o⟩
  ·rw [if_neg c4] at H
   have c4b0 := dF c4
   clear c4
   obtain ⟨⟨tB9, tC8, tC9⟩, A8, H⟩ := zO H; try dsimp only at H
   obtain ⟨⟨tC0, tD0, tD1⟩, A9, H⟩ := zO H; try dsimp only at H
   obtain ⟨⟨tC1, tE4, tE5⟩, A10, H⟩ := zO H; try dsimp only at H
   by_cases c11 : a1 = 0
   ·rw [if_pos c11] at H
    exact absurd H (by simp)
   ·rw [if_neg c11] at H
    obtain ⟨c11b0, c11b1⟩ := zf c11
    simp only [Option.some.injEq, Prod.mk.injEq] at H
    obtain ⟨rfl, rfl, rfl⟩ := H
    go_enter Try.func83, Try.ntmps83
    go_wp2_with (first | ((with_reducible refine gC 95 rfl ?_); refine gL 17 Try.func95 #[.pointer (some ⟨g, 0, none⟩)] ?_; (with_reducible refine (spec_l1Byte.calls g s0_0 s0_1 s0_2 tB9 tC8 tC9 w0 _ ?side1 ?side2 A8.o).mono ?_); (case side1 => exact zI HI0.o); (case side2 => exact zL1 HB.o (IsS98.ge HI0.o)); rintro e w12 ⟨rfl, hi, hb, hk⟩; refine ⟨_, rfl, ?_⟩; replace HK := zKK (zK HK.o) hk; replace HB := aM hb; replace HI0 := aM hi; clear hi hb hk) | ((with_reducible refine gC 95 rfl ?_); refine gL 19 Try.func95 #[.pointer (some ⟨g, 0, none⟩)] ?_; (with_reducible refine (spec_l1Byte.calls g s0_0 tC8 tC9 tC0 tD0 tD1 w0 _ ?side1 ?side2 A9.o).mono ?_); (case side1 => exact zI HI0.o); (case side2 => exact zL1 HB.o (IsS98.ge HI0.o)); rintro e w13 ⟨rfl, hi, hb, hk⟩; refine ⟨_, rfl, ?_⟩; replace HK := zKK (zK HK.o) hk; replace HB := aM hb; replace HI0 := aM hi; clear hi hb hk) | ((with_reducible refine gC 95 rfl ?_); refine gL 21 Try.func95 #[.pointer (some ⟨g, 0, none⟩)] ?_; (with_reducible refine (spec_l1Byte.calls g s0_0 tD0 tD1 tC1 tE4 tE5 w0 _ ?side1 ?side2 A10.o).mono ?_); (case side1 => exact zI HI0.o); (case side2 => exact zL1 HB.o (IsS98.ge HI0.o)); rintro e w14 ⟨rfl, hi, hb, hk⟩; refine ⟨_, rfl, ?_⟩; replace HK := zKK (zK HK.o) hk; replace HB := aM hb; replace HI0 := aM hi; clear hi hb hk))
    go_ret
    exact ⟨zW, zI HI0.o, zL1 HB.o (IsS98.ge HI0.o), zK HK.o⟩

open Go.Proofs.YtggenhomnbnodaaW.PrintWords renaming blk_drewN → bN, blk_drew → bD, blk_alloc → bA, blk_cell → bC, blk_below → bB, below_set → bS
def spec_l1Int.f (s0_0 : List Int) (s0_1 : Int) (s0_2 : Int) (l1 : List Int) : Option (Int × Int × Int) := (spec_l1Below.f s0_0 s0_1 s0_2 (l1.length : Int)).bind fun btR => (if 0 ≤ btR.1 then (if btR.1 < (l1.length : Int) then (some (rd l1 btR.1, btR.2.1, btR.2.2)) else (none)) else (none))
set_option maxHeartbeats 8000000 in
set_option maxRecDepth 100000 in
theorem spec_l1Int.calls (g : Nat) (s0_0 : List Int) (s0_1 : Int) (s0_2 : Int) (A1 : Option Addr) (c1 : Nat) (l1 : List Int) (r1 : Int) (r2 : Int) (r3 : Int) (w0 w : World) (hI : IsS98 w0 w g s0_0 s0_1 s0_2) (hB : Below w0.heap.size w0 w) (hr1 : Kd.C (Kd.int .i64) w A1 l1.length l1) (hc1 : l1.length ≤ c1) (hf1 : ∀ ad, A1 = some ad → 0 < l1.length → ad.block ≠ g) (h : spec_l1Int.f s0_0 s0_1 s0_2 l1 = some (r1, r2, r3)) :
  Calls Try.prog 85 #[.pointer (some ⟨g, 0, none⟩), .slice A1 l1.length c1] w fun e w' => e = .returned (.int .i64 r1) ∧ IsS98 w0 w' g s0_0 r2 r3 ∧ Below w0.heap.size w0 w' ∧ KeepBut w w' g none := by
 have HR1 := aM hr1
 have HC1 := aM hc1
 clear hr1 hc1
 have HI0 := aM hI
 have HK := aM (KeepBut.refl w g none)
 have HL := aM hB.size
 clear hI
 have HW0 := aM hB.size
 have HB := aM hB
 clear hB
 unfold spec_l1Int.f at h; have H := h
 clear h
 obtain ⟨⟨tR, tE6, tE7⟩, A3, H⟩ := zO H; try dsimp only at H
 by_cases c4 : 0 ≤ tR
 ·rw [if_pos c4] at H
  have c4b0 := dT c4
  clear c4
  by_cases c5 : tR < (l1.length : Int)
  ·rw [if_pos c5] at H
   have c5b0 := dT c5
   clear c5
   simp only [Option.some.injEq, Prod.mk.injEq] at H
   obtain ⟨rfl, rfl, rfl⟩ := H
   go_enter Try.func85, Try.ntmps85
   go_wp2_with (first | ((with_reducible refine gC 83 rfl ?_); refine gL 9 Try.func83 #[.pointer (some ⟨g, 0, none⟩), .int .i64 (l1.length : Int)] ?_; (with_reducible refine (spec_l1Below.calls g s0_0 s0_1 s0_2 (l1.length : Int) tR tE6 tE7 w0 _ ?side1 ?side2 A3.o).mono ?_); (case side1 => exact zI HI0.o); (case side2 => exact zL1 HB.o (IsS98.ge HI0.o)); rintro e w6 ⟨rfl, hi, hb, hk⟩; refine ⟨_, rfl, ?_⟩; replace HK := zKK (zK HK.o) hk; replace HB := aM hb; replace HI0 := aM hi; clear hi hb hk; have pP : 0 ≤ (tR : Int) := zD; have qP : tR < (l1.length : Int) := zD; obtain ⟨adP, eP, hxP_0⟩ := Kd.at_int HR1.o tR pP qP; cases eP; replace hxP_0 := keep_cell HK.o hxP_0 (by first | (rw [add_block]; exact hf1 _ rfl (by omega)) | exact hf1 _ rfl (by omega) | exact hf1 adP rfl (by omega)); replace pP := eq_true pP; replace qP := eq_true qP))
   go_ret
   exact ⟨zW, zI HI0.o, zL1 HB.o (IsS98.ge HI0.o), zK HK.o⟩
  ·rw [if_neg c5] at H
   exact absurd H (by simp)
 ·rw [if_neg c4] at H
  exact absurd H (by simp)

open Go.Proofs.YtggenhomnbnodaaW.PrintWords renaming blk_drewN → bN, blk_drew → bD, blk_alloc → bA, blk_cell → bC, blk_below → bB, below_set → bS
def spec_l8Timer.f (s0_0 : List Int) (s0_1 : Int) (s0_2 : Int) (a1 : Int) (a2 : Int) : Option (Int × Int × Int × Int × Int) := (spec_l1Below.f s0_0 s0_1 s0_2 5).bind fun btA9 => ((spec_l1Int.f s0_0 btA9.2.1 btA9.2.2 (([0, 1, 3, 6, 7, 8, 20, 55, 63, 64, 70, 200] : List Int))).bind fun btB0 => (some (a2, wrap64 (1 + btA9.1), wrap64 ((wrap64 (a1 + 1)) + btB0.1), btB0.2.1, btB0.2.2)))
set_option maxHeartbeats 8000000 in
set_option maxRecDepth 100000 in
theorem spec_l8Timer.calls (g : Nat) (s0_0 : List Int) (s0_1 : Int) (s0_2 : Int) (a1 : Int) (a2 : Int) (r1 : Int) (r2 : Int) (r3 : Int) (r4 : Int) (r5 : Int) (w0 w : World) (hI : IsS98 w0 w g s0_0 s0_1 s0_2) (hB : Below w0.heap.size w0 w) (h : spec_l8Timer.f s0_0 s0_1 s0_2 a1 a2 = some (r1, r2, r3, r4, r5)) :
  Calls Try.prog 82 #[.pointer (some ⟨g, 0, none⟩), .int .i64 a1, .int .i64 a2] w fun e w' => e = .returned (.agg #[.int .i64 r1, .int .i64 r2, .int .i64 r3]) ∧ IsS98 w0 w' g s0_0 r4 r5 ∧ Below w0.heap.size w0 w' ∧ KeepBut w w' g none := by
 have hu46 := Try.underlying46
 have HI0 := aM hI
 have HK := aM (KeepBut.refl w g none)
 have HL := aM hB.size
 clear hI
 have HW0 := aM hB.size
 have HB := aM hB
 clear hB
 unfold spec_l8Timer.f at h; have H := h
 clear h
 obtain ⟨⟨tA9, tC4, tC5⟩, A4, H⟩ := zO H; try dsimp only at H
 generalize hyA6 : (([0, 1, 3, 6, 7, 8, 20, 55, 63, 64, 70, 200] : List Int)) = yA6 at H; (try rw [Option.bind_some] at H); have NyA6 := aM hyA6.symm; clear hyA6
 obtain ⟨⟨tB0, tE8, tE9⟩, A5, H⟩ := zO H; try dsimp only at H
 simp only [Option.some.injEq, Prod.mk.injEq] at H
 obtain ⟨rfl, rfl, rfl, rfl, rfl⟩ := H
 go_enter Try.func82, Try.ntmps82
 go_wp2_with (first | ((with_reducible refine gD 6 rfl ?_); refine bE 6 #[.int .i64 0, .int .i64 0, .int .i64 0] 46 ?_; intro gbF hg w6 hbox hb; replace HB := zLB (zL1 HB.o (IsS98.ge HI0.o)) hb; have BKF := aM hbox; have GWF := aM (zgK (g := g) (zK HK.o) hg : w.heap.size ≤ gbF); have GEF := aM ((Nat.le_trans HW0.o (zgK (g := g) (zK HK.o) hg : w.heap.size ≤ gbF) : w0.heap.size ≤ gbF)); replace HK := zKB g (zK HK.o) hb; have NB0_F := aM ((zNI (IsS98.lt (zI HI0.o : IsS98 w0 _ g s0_0 s0_1 s0_2)) hg : g ≠ gbF)); have NBF_0 := aM ((zMI (IsS98.lt (zI HI0.o : IsS98 w0 _ g s0_0 s0_1 s0_2)) hg : gbF ≠ g)); replace HI0 := aM (IsS98.below (zI HI0.o) hb); clear hb hbox hg) | ((with_reducible refine gC 83 rfl ?_); refine gL 9 Try.func83 #[.pointer (some ⟨g, 0, none⟩), .int .i64 5] ?_; (with_reducible refine (spec_l1Below.calls g s0_0 s0_1 s0_2 5 tA9 tC4 tC5 w0 _ ?side1 ?side2 A4.o).mono ?_); (case side1 => exact zI1 HI0.o NB0_F.o); (case side2 => exact zL2 HB.o (IsS98.ge HI0.o) GEF.o); rintro e w7 ⟨rfl, hi, hb, hk⟩; refine ⟨_, rfl, ?_⟩; replace BKF := zBK hk BKF NBF_0; replace HK := zKK (zK1 HK.o GWF.o) hk; replace HB := aM hb; replace HI0 := aM hi; clear hi hb hk) | ((with_reducible refine gD 14 rfl ?_); refine Kd.R_lit (Kd.int .i64) _ 3 ?hg (N := 14) ?hd (xs := ([0, 1, 3, 6, 7, 8, 20, 55, 63, 64, 70, 200] : List Int)) (inner := [.int .i64 0, .int .i64 1, .int .i64 3, .int .i64 6, .int .i64 7, .int .i64 8, .int .i64 20, .int .i64 55, .int .i64 63, .int .i64 64, .int .i64 70, .int .i64 200]) (ok := fun _ => True) (okp := fun _ => True) ?hr ?hp (fun _ hk => hk) trivial (Below.refl _ _) (Nat.le_refl _) (by simp) ?_; (case hd => rfl); (case hg => rfl); (case hr => first | (go_simp; done) | (go_simp; rfl)); (case hp => exact zhp); intro vF1 w8 ho9 hb hg_ hnew_; clear hg_ hnew_; (first | rw [← NyA6.o] at ho9 | (simp only [Int.reduceToNat] at ho9; rw [← NyA6.o] at ho9)); have HOB1 := aM (Kd.R_lower ho9 (keep_size (w := w) (g := g) (row := none) (zK1 HK.o GWF.o))); replace BKF := zBB BKF hb; replace HK := zKB g (zK1 HK.o GWF.o) hb; replace HB := zLB (zL2 HB.o (IsS98.ge HI0.o) GEF.o) hb; replace HI0 := aM (IsS98.below (zI1 HI0.o NB0_F.o) hb); clear hb ho9; obtain ⟨Ao10, co10, eo10⟩ := Kd.R_slice HOB1.o; subst eo10) | ((with_reducible refine gC 85 rfl ?_); refine gL 15 Try.func85 #[.pointer (some ⟨g, 0, none⟩), .slice Ao10 yA6.length co10] ?_; (with_reducible refine (spec_l1Int.calls g s0_0 tC4 tC5 _ _ yA6 tB0 tE8 tE9 w0 _ ?side1 ?side2 ?side3 ?side4 ?side5 A5.o).mono ?_); (case side1 => exact zI1 HI0.o NB0_F.o); (case side2 => exact zL2 HB.o (IsS98.ge HI0.o) GEF.o); (case side3 => exact zC (Kd.R_reads' HOB1.o).2.2); (case side4 => exact (Kd.R_reads' HOB1.o).2.1); (case side5 => exact far_slice (IsS98.own_ne HI0.o HOB1.o (by decide))); rintro e w11 ⟨rfl, hi, hb, hk⟩; refine ⟨_, rfl, ?_⟩; replace BKF := zBK hk BKF NBF_0; replace HOB1 := aM (Kd.R_mono (Kd.R_keep (IsS98.apart (show IsS98 w0 _ g s0_0 tC4 tC5 from zI1 HI0.o NB0_F.o) (zR HOB1.o) (by decide)) hk (fun _ h => h.2)) (fun _ h => h.1)); replace HK := zKK (zK1 HK.o GWF.o) hk; replace HB := aM hb; replace HI0 := aM hi; clear hi hb hk; have hnb12 := NBF_0.o; have hnc12 := NB0_F.o; have hcz13_0 : w11.cell? ⟨gbF, 0, none⟩ = some (.int .i64 0) := (bC BKF.o 0).trans rfl; have hcz13_1 : w11.cell? ⟨gbF, 1, none⟩ = some (.int .i64 0) := (bC BKF.o 1).trans rfl; have hcz13_2 : w11.cell? ⟨gbF, 2, none⟩ = some (.int .i64 0) := (bC BKF.o 2).trans rfl; have hfz13_0 := blk_frozen BKF.o 0; have hfz13_1 := blk_frozen BKF.o 1; have hfz13_2 := blk_frozen BKF.o 2))
 refine bodyPost_ret (results_cell_row rfl _ _ gbF 46 #[.int .i64 a2, .int .i64 (wrap64 (1 + tA9)), .int .i64 (wrap64 ((wrap64 (a1 + 1)) + tB0))] (0, 0) _ rfl (by refine zB ?_; refine blk_put (cs := #[.int .i64 a2, .int .i64 (wrap64 (1 + tA9)), .int .i64 0]) ?_ 2 _ rfl; refine zB ?_; refine blk_put (cs := #[.int .i64 a2, .int .i64 0, .int .i64 0]) ?_ 1 _ rfl; refine zB ?_; refine blk_put (cs := #[.int .i64 0, .int .i64 0, .int .i64 0]) ?_ 0 _ rfl; exact zB BKF.o) Try.underlying46 rfl (by kernel_rfl)) rfl ?_
 exact ⟨zW, zI1 HI0.o NB0_F.o, zL2 HB.o (IsS98.ge HI0.o) GEF.o, zK1 HK.o GWF.o⟩

open Go.Proofs.YtggenhomnbnodaaW.PrintWords renaming blk_drewN → bN, blk_drew → bD, blk_alloc → bA, blk_cell → bC, blk_below → bB, below_set → bS
def spec_WheelNew.l0 : Nat → Int → Int → List (List (S46)) → List (List (S46)) → Option (Int × (List (List (S46))) × (List (List (S46))) × (List (S46)))
 | 0, _, _, _, _ => none
 | k + 1, x2, xD2, xH, xE => if x2 < 8 then (if xH.length < 5864062014805 then (if xE.length < 5864062014805 then (spec_WheelNew.l0 k (wrap64 (x2 + 1)) xD2 (xH ++ [(([] : List (S46)))]) (xE ++ [(([] : List (S46)))])) else (none)) else (none)) else (some (xD2, xH, xE, ([] : List (S46))))
def spec_WheelNew.f (k : Nat)  : Option (Int × (List (List (S46))) × (List (List (S46))) × (List (S46))) := spec_WheelNew.l0 k 0 0 ([] : List (List (S46))) ([] : List (List (S46)))
set_option maxHeartbeats 8000000 in
set_option maxRecDepth 100000 in
theorem spec_WheelNew.calls (k : Nat)  (r1 : Int) (r2 : List (List (S46))) (r3 : List (List (S46))) (r4 : List (S46)) (w : World) (h : spec_WheelNew.f k  = some (r1, r2, r3, r4)) :
  Calls Try.prog 15 #[] w fun e w' => ∃ v1_ v2_ v3_ : Value, e = .returned (.agg #[.int .i64 r1, v1_, v2_, v3_]) ∧ Kd.S (Kd.slice 46 k46) 23 w' w.heap.size (fun k_ => some k_ ≠ (v2_ : Value).ownBlock ∧ some k_ ≠ (v3_ : Value).ownBlock) v1_ r2 ∧ Kd.S (Kd.slice 46 k46) 23 w' w.heap.size (fun k_ => some k_ ≠ (v1_ : Value).ownBlock ∧ some k_ ≠ (v3_ : Value).ownBlock) v2_ r3 ∧ Kd.R k46 46 w' w.heap.size (fun _ => True) v3_ r4 ∧ Below w.heap.size w w' := by
 have hu25 := Try.underlying25
 have HB := aM (Below.refl w.heap.size w)
 unfold spec_WheelNew.f at h; have H := h
 clear h
 have H' := aM H
 clear H
 go_enter Try.func15, Try.ntmps15
 go_wp2_with (first | ((with_reducible refine gD 0 rfl ?_); refine bE 0 #[.int .i64 0, .slice none 0 0, .slice none 0 0, .slice none 0 0] 25 ?_; intro gbD hg w1 hbox hb; have BKD := aM hbox; have GWD := aM (zg (zL HB.o) hg : w.heap.size ≤ gbD); have GED := GWD; replace HB := zLB (zL HB.o) hb; clear hb hbox hg) | ((with_reducible refine gD 1 rfl ?_); refine bE 1 #[.int .i64 0, .slice none 0 0, .slice none 0 0, .slice none 0 0] 25 ?_; intro gbC hg w2 hbox hb; have BKC := aM hbox; have GWC := aM (zg (zL1 HB.o GED.o) hg : w.heap.size ≤ gbC); have GEC := GWC; replace HB := zLB (zL1 HB.o GED.o) hb; have NBD_C := aM (zN BKD.o hg : gbD ≠ gbC); have NBC_D := aM (zM BKD.o hg : gbC ≠ gbD); replace BKD := zBB BKD hb; clear hb hbox hg; have hnb3 := NBC_D.o; have hnc3 := NBD_C.o; have hcz4 := zc4 BKC.o; have hfz4 := zf4 BKC.o))
 go_loopg [2] k (fun kq v2 w' => ∃ (x2_1 : Int) (xH_1 : List (List (S46))) (xE_1 : List (List (S46))) (uH : Value) (uE : Value), v2 = .int .i64 x2_1 ∧ Aside0 (spec_WheelNew.l0 kq x2_1 0 xH_1 xE_1 = some (r1, r2, r3, r4)) ∧ Aside0 (kq ≤ k) ∧ Aside0 (Kd.S (Kd.slice 46 k46) 23 w' w.heap.size (fun k_ => some k_ ≠ (uE : Value).ownBlock) uH xH_1) ∧ Aside0 (Kd.S (Kd.slice 46 k46) 23 w' w.heap.size (fun k_ => some k_ ≠ (uH : Value).ownBlock) uE xE_1) ∧ Aside0 (w'.heap[gbD]? = some (.cells #[.int .i64 0, (.slice none 0 0), (.slice none 0 0), (.slice none 0 0)] 25 (0, 0))) ∧ Aside0 (w'.heap[gbC]? = some (.cells #[.int .i64 0, uH, uE, (.slice none 0 0)] 25 (0, 0))) ∧ Aside0 (Below w.heap.size w w'))
 case atStart => exact ⟨(0), (([] : List (List (S46)))), (([] : List (List (S46)))), (.slice none 0 0), (.slice none 0 0), zV, H', ⟨Nat.le_refl _⟩, ⟨by first | exact Kd.S_nil _ _ _ _ _ | exact Kd.N_nil _ _ _ _ _ | exact Kd.V_nil _ _ _ _ _ | exact Kd.Q_nil _ _ _ _ _ | exact Kd.R_nil _ _ _ _ _⟩, ⟨by first | exact Kd.S_nil _ _ _ _ _ | exact Kd.N_nil _ _ _ _ _ | exact Kd.V_nil _ _ _ _ _ | exact Kd.Q_nil _ _ _ _ _ | exact Kd.R_nil _ _ _ _ _⟩, ⟨by refine zB ?_; refine zr4 ?_ NBD_C.o; exact zB BKD.o⟩, ⟨by refine zB ?_; refine zp4 (cs := #[.int .i64 0, .slice none 0 0, .slice none 0 0, .slice none 0 0]) ?_; exact zB BKC.o⟩, ⟨zL2 HB.o GED.o GEC.o⟩⟩
 case round =>
  clear H'
  try clear c1
  try clear p2
  try clear c3
  try clear hcz4; try clear hfz4
  try clear BKD; try clear BKC
  obtain ⟨x2_1, xH_1, xE_1, uH, uE, rfl, HA, HK1, HO_H, HO_E, BKD, BKC, HB⟩ := hrel
  cases gk with
  | zero => exact absurd HA.o (by simp [spec_WheelNew.l0])
  | succ k1 =>
   have H := HA.o
   clear HA
   simp only [spec_WheelNew.l0] at H
   by_cases c5 : x2_1 < 8
   ·rw [if_pos c5] at H
    have c5b0 := dT c5
    clear c5
    obtain ⟨yN, hyN⟩ : ∃ y_ : List (S46), y_ = (([] : List (S46))) := ⟨_, rfl⟩
    replace H : (if xH_1.length < 5864062014805 then (if xE_1.length < 5864062014805 then (spec_WheelNew.l0 k1 (wrap64 (x2_1 + 1)) 0 (xH_1 ++ [yN]) (xE_1 ++ [(([] : List (S46)))])) else (none)) else (none)) = some (r1, r2, r3, r4) := by first | (rw [hyN]; with_reducible exact H) | (have H2_ := (Option.bind_some _ _).symm.trans H; rw [hyN]; with_reducible exact H2_) | (have H2_ := (Option.bind_some _ _).symm.trans H; with_reducible exact H2_) | with_reducible exact H | (rw [hyN]; exact H) | exact H
    have NyN := aM hyN
    clear hyN
    by_cases c6 : xH_1.length < 5864062014805
    ·rw [if_pos c6] at H
     have LMc6 := aM c6
     clear c6
     generalize hyM : (xH_1 ++ [yN]) = yM at H; (try rw [Option.bind_some] at H); have NyM := aM hyM.symm; clear hyM
     obtain ⟨yO, hyO⟩ : ∃ y_ : List (S46), y_ = (([] : List (S46))) := ⟨_, rfl⟩
     replace H : (if xE_1.length < 5864062014805 then (spec_WheelNew.l0 k1 (wrap64 (x2_1 + 1)) 0 yM (xE_1 ++ [yO])) else (none)) = some (r1, r2, r3, r4) := by first | (rw [hyO]; with_reducible exact H) | (have H2_ := (Option.bind_some _ _).symm.trans H; rw [hyO]; with_reducible exact H2_) | (have H2_ := (Option.bind_some _ _).symm.trans H; with_reducible exact H2_) | with_reducible exact H | (rw [hyO]; exact H) | exact H
     have NyO := aM hyO
     clear hyO
     by_cases c7 : xE_1.length < 5864062014805
     ·rw [if_pos c7] at H
      have LMc7 := aM c7
      clear c7
      generalize hyA3 : (xE_1 ++ [yO]) = yA3 at H; (try rw [Option.bind_some] at H); have NyA3 := aM hyA3.symm; clear hyA3
      have H' := aM H
      clear H
      have hnb8 := NBC_D.o
      have hnc8 := NBD_C.o
      have hcz9 := zc4 BKC.o
      have hfz9 := zf4 BKC.o
      go_wp2_with (first | ((with_reducible refine gD 10 rfl ?_); refine Kd.R_lit k46 _ 46 ?hg (N := 10) ?hd (xs := ([] : List (S46))) (inner := []) (ok := fun _ => True) (okp := fun _ => True) ?hr ?hp (fun _ hk => hk) trivial (Below.refl _ _) (Nat.le_refl _) (by simp) ?_; (case hd => rfl); (case hg => rfl); (case hr => first | (go_simp; done) | (go_simp; rfl)); (case hp => exact (Reps.none _ _)); intro vF2 w10 ho11 hb hg_ hnew_; clear hg_ hnew_; (first | rw [← NyN.o] at ho11 | (simp only [Int.reduceToNat] at ho11; rw [← NyN.o] at ho11)); replace HO_H := aM (Kd.S_elder' (zS HO_H.o) (Kd.R_base ho11) hb); replace HO_E := aM (Kd.S_elder' (zS HO_E.o) (Kd.R_base ho11) hb); have HOC2 := aM (Kd.R_lower ho11 (below_size (zL2 HB.o GED.o GEC.o))); replace BKD := zBB BKD hb; replace BKC := zBB BKC hb; replace HB := zLB (zL2 HB.o GED.o GEC.o) hb; clear hb ho11; obtain ⟨Ao13, co13, eo13⟩ := Kd.R_slice HOC2.o; subst eo13) | ((with_reducible refine gate_builtin (b := .append) (xs := #[.tmp 9, .tmp 11]) rfl ?_); at_builtin; refine Kd.S_append (Kd.slice 46 k46) (w0 := w) w.heap.size rfl (.tmp 9) (.tmp 11) 22 23 (.slice none 0 0) 24 rfl Try.underlying22 info23 rfl (by decide) (by omega) uH xH_1 yN [.slice Ao13 yN.length co13] (fun k_ => some k_ ≠ (uE : Value).ownBlock) (fun k_ => some k_ = (.slice Ao13 yN.length co13 : Value).ownBlock) rfl rfl ?aP (fun k_ hk_ => ((Kd.R_mono (ok' := fun k_ => ((fun k_ => some k_ ≠ (uE : Value).ownBlock)) k_ ∧ some k_ ≠ (uH : Value).ownBlock) (Kd.R_apart' (Kd.R_apart' (HOC2.o) (Kd.S_typed HO_E.o) (by decide)) (Kd.S_typed HO_H.o) (by decide)) (fun k_ hk => ⟨hk.1.2, hk.2⟩))).1 k_ hk_.symm) ?aF ?aO ?aB ?aS ?aL ?_; (case aP => exact Kd.M_row (Kd.R_mono (Kd.R_tight rfl (Kd.R_mono (ok' := fun k_ => ((fun k_ => some k_ ≠ (uE : Value).ownBlock)) k_ ∧ some k_ ≠ (uH : Value).ownBlock) (Kd.R_apart' (Kd.R_apart' (HOC2.o) (Kd.S_typed HO_E.o) (by decide)) (Kd.S_typed HO_H.o) (by decide)) (fun k_ hk => ⟨hk.1.2, hk.2⟩))) (fun _ h_ => h_))); (case aB => exact (zL2 HB.o GED.o GEC.o)); (case aF => exact (fun k_ hk => Kd.fresh' (Kd.S_lt (zS HO_E.o)) k_ hk)); (case aO => exact (zSm HO_H.o (fun k_ hk => ⟨hk.1, fun e_ => hk.2 e_⟩))); (case aS => exact (below_size (zL2 HB.o GED.o GEC.o))); (case aL => have := LMc6.o; omega); intro vF3 w12 ho hb hg hat; rw [← NyM.o] at ho; replace HO_E := aM (Kd.S_after (ok := (fun k_ => some k_ ≠ (.slice Ao13 yN.length co13 : Value).ownBlock)) (zSm HO_E.o (fun _ hk => ⟨hk.2, hk.1⟩)) hg hat); replace BKD := aM (blk_grown (g := gbD) (o := .cells #[.int .i64 0, .slice none 0 0, .slice none 0 0, .slice none 0 0] 25 (0, 0)) (zB BKD.o) hg (Kd.S_ne HO_H.o BKD.o (by decide))); replace BKC := aM (blk_grown (g := gbC) (o := .cells #[.int .i64 0, uH, uE, .slice none 0 0] 25 (0, 0)) (zB BKC.o) hg (Kd.S_ne HO_H.o BKC.o (by decide))); replace HB := aM hb; have HOA4 := aM (ho); clear HO_H HOC2; clear ho hb hg hat; obtain ⟨Ao14, co14, eo14⟩ := Kd.S_slice HOA4.o; subst eo14; have hcz15 := zc4 BKC.o; have hfz15 := zf4 BKC.o) | ((with_reducible refine gD 16 rfl ?_); refine Kd.R_lit k46 _ 46 ?hg (N := 16) ?hd (xs := ([] : List (S46))) (inner := []) (ok := fun _ => True) (okp := fun _ => True) ?hr ?hp (fun _ hk => hk) trivial (Below.refl _ _) (Nat.le_refl _) (by simp) ?_; (case hd => rfl); (case hg => rfl); (case hr => first | (go_simp; done) | (go_simp; rfl)); (case hp => exact (Reps.none _ _)); intro vF4 w16 ho17 hb hg_ hnew_; clear hg_ hnew_; (first | rw [← NyO.o] at ho17 | (simp only [Int.reduceToNat] at ho17; rw [← NyO.o] at ho17)); replace HO_E := aM (Kd.S_elder' (by refine zS ?_; exact (Kd.S_mono (Kd.S_far (p := ⟨gbC, 1, none⟩) (Kd.S_types HO_E.o BKC.o (by decide)) (fun _ hk => hk.2) (.slice Ao14 yM.length co14)) (fun _ h_ => h_.1))) (Kd.R_base ho17) hb); replace HOA4 := aM (Kd.S_elder' (by refine zS ?_; exact (Kd.S_mono (Kd.S_far (p := ⟨gbC, 1, none⟩) (Kd.S_types HOA4.o BKC.o (by decide)) (fun _ hk => hk.2) (.slice Ao14 yM.length co14)) (fun _ h_ => h_.1))) (Kd.R_base ho17) hb); have HOC3 := aM (Kd.R_lower ho17 (below_size (zL2 HB.o GED.o GEC.o))); replace BKD := aM (bB (g := gbD) (o := .cells #[.int .i64 0, .slice none 0 0, .slice none 0 0, .slice none 0 0] 25 (0, 0)) (by refine zB ?_; refine blk_far ?_ NBD_C.o _; exact zB BKD.o) hb); replace BKC := aM (bB (g := gbC) (o := .cells #[.int .i64 0, .slice Ao14 yM.length co14, uE, .slice none 0 0] 25 (0, 0)) (by refine zB ?_; refine blk_put (cs := #[.int .i64 0, uH, uE, .slice none 0 0]) ?_ 1 _ rfl; exact zB BKC.o) hb); replace HB := zLB (zL2 HB.o GED.o GEC.o) hb; clear hb ho17; obtain ⟨Ao19, co19, eo19⟩ := Kd.R_slice HOC3.o; subst eo19) | ((with_reducible refine gate_builtin (b := .append) (xs := #[.tmp 15, .tmp 17]) rfl ?_); at_builtin; refine Kd.S_append (Kd.slice 46 k46) (w0 := w) w.heap.size rfl (.tmp 15) (.tmp 17) 22 23 (.slice none 0 0) 24 rfl Try.underlying22 info23 rfl (by decide) (by omega) uE xE_1 yO [.slice Ao19 yO.length co19] (fun k_ => some k_ ≠ (.slice Ao14 yM.length co14 : Value).ownBlock) (fun k_ => some k_ = (.slice Ao19 yO.length co19 : Value).ownBlock) rfl rfl ?aP (fun k_ hk_ => ((Kd.R_mono (ok' := fun k_ => ((fun k_ => some k_ ≠ (.slice Ao14 yM.length co14 : Value).ownBlock)) k_ ∧ some k_ ≠ (uE : Value).ownBlock) (Kd.R_apart' (Kd.R_apart' (HOC3.o) (Kd.S_typed HOA4.o) (by decide)) (Kd.S_typed HO_E.o) (by decide)) (fun k_ hk => ⟨hk.1.2, hk.2⟩))).1 k_ hk_.symm) ?aF ?aO ?aB ?aS ?aL ?_; (case aP => exact Kd.M_row (Kd.R_mono (Kd.R_tight rfl (Kd.R_mono (ok' := fun k_ => ((fun k_ => some k_ ≠ (.slice Ao14 yM.length co14 : Value).ownBlock)) k_ ∧ some k_ ≠ (uE : Value).ownBlock) (Kd.R_apart' (Kd.R_apart' (HOC3.o) (Kd.S_typed HOA4.o) (by decide)) (Kd.S_typed HO_E.o) (by decide)) (fun k_ hk => ⟨hk.1.2, hk.2⟩))) (fun _ h_ => h_))); (case aB => exact (zL2 HB.o GED.o GEC.o)); (case aF => exact (fun k_ hk => Kd.fresh' (Kd.S_lt (zS HOA4.o)) k_ hk)); (case aO => exact (zSm HO_E.o (fun k_ hk => ⟨hk.1.2, fun e_ => hk.2 e_⟩))); (case aS => exact (below_size (zL2 HB.o GED.o GEC.o))); (case aL => have := LMc7.o; omega); intro vF5 w18 ho hb hg hat; rw [← NyA3.o] at ho; replace BKD := aM (blk_grown (g := gbD) (o := .cells #[.int .i64 0, .slice none 0 0, .slice none 0 0, .slice none 0 0] 25 (0, 0)) (zB BKD.o) hg (Kd.S_ne HO_E.o BKD.o (by decide))); replace BKC := aM (blk_grown (g := gbC) (o := .cells #[.int .i64 0, .slice Ao14 yM.length co14, uE, .slice none 0 0] 25 (0, 0)) (zB BKC.o) hg (Kd.S_ne HO_E.o BKC.o (by decide))); replace HOA4 := aM (Kd.S_after (ok := (fun k_ => some k_ ≠ (.slice Ao19 yO.length co19 : Value).ownBlock)) (zSm HOA4.o (fun _ hk => ⟨hk.2, hk.1⟩)) hg hat); replace HB := aM hb; have HOD3 := aM (ho); clear HO_E HOC3; clear ho hb hg hat; obtain ⟨Ao20, co20, eo20⟩ := Kd.S_slice HOD3.o; subst eo20; have hcz21 := zc4 BKC.o; have hfz21 := zf4 BKC.o))
      go_roundg k1
      case measure => have := HK1.o; omega
      case rel => exact ⟨(wrap64 (x2_1 + 1)), (yM), (yA3), (.slice Ao14 yM.length co14), (.slice Ao20 yA3.length co20), zV, H', ⟨by have := HK1.o; omega⟩, ⟨by refine zS ?_; exact Kd.S_mono (Kd.S_far (p := ⟨gbC, 2, none⟩) (Kd.S_types HOA4.o BKC.o (by decide)) (fun _ hk => hk.2) (.slice Ao20 yA3.length co20)) (fun _ hk => hk.1.2)⟩, ⟨by refine zS ?_; exact Kd.S_mono (Kd.S_far (p := ⟨gbC, 2, none⟩) (Kd.S_types HOD3.o BKC.o (by decide)) (fun _ hk => hk.2) (.slice Ao20 yA3.length co20)) (fun _ hk => hk.1)⟩, ⟨by refine zB ?_; refine blk_far ?_ NBD_C.o _; exact zB BKD.o⟩, ⟨by refine zB ?_; refine blk_put (cs := #[.int .i64 0, .slice Ao14 yM.length co14, uE, .slice none 0 0]) ?_ 2 _ rfl; exact zB BKC.o⟩, ⟨zL2 HB.o GED.o GEC.o⟩⟩
     ·rw [if_neg c7] at H
      exact absurd H (by simp)
    ·rw [if_neg c6] at H
     exact absurd H (by simp)
   ·rw [if_neg c5] at H
    have c5b0 := dF c5
    clear c5
    simp only [Option.some.injEq, Prod.mk.injEq] at H
    obtain ⟨rfl, rfl, rfl, rfl⟩ := H
    have hnb22 := NBC_D.o
    have hnc22 := NBD_C.o
    have hcz23 := zc4 BKC.o
    have hfz23 := zf4 BKC.o
    have hcz24 := zc4 BKD.o
    have hfz24 := zf4 BKD.o
    obtain ⟨Ao25, co25, eo25⟩ := Kd.S_slice HO_H.o
    subst eo25
    obtain ⟨Ao26, co26, eo26⟩ := Kd.S_slice HO_E.o
    subst eo26
    go_wp2
    refine bodyPost_ret (results_cell_row rfl _ _ gbD 25 #[.int .i64 0, .slice Ao25 xH_1.length co25, .slice Ao26 xE_1.length co26, .slice none 0 0] (0, 0) _ rfl (by refine zB ?_; refine zp4 (cs := #[.int .i64 0, .slice none 0 0, .slice none 0 0, .slice none 0 0]) ?_; exact zB BKD.o) Try.underlying25 rfl (by kernel_rfl)) rfl ?_
    exact ⟨_, _, _, zW, by refine zS ?_; exact Kd.S_mono (zSF4 (Kd.S_types HO_H.o BKD.o (by decide)) gbD (fun _ hk => hk.2) (.int .i64 0) (.slice Ao25 xH_1.length co25) (.slice Ao26 xE_1.length co26) (.slice none 0 0)) (fun _ hk => ⟨hk.1, (by simp [Value.ownBlock])⟩), by refine zS ?_; exact Kd.S_mono (zSF4 (Kd.S_types HO_E.o BKD.o (by decide)) gbD (fun _ hk => hk.2) (.int .i64 0) (.slice Ao25 xH_1.length co25) (.slice Ao26 xE_1.length co26) (.slice none 0 0)) (fun _ hk => ⟨hk.1, (by simp [Value.ownBlock])⟩), by first | exact Kd.R_nil _ _ _ _ _ | exact Kd.N_nil _ _ _ _ _ | exact Kd.V_nil _ _ _ _ _ | exact Kd.Q_nil _ _ _ _ _ | exact Kd.S_nil _ _ _ _ _, zL2 HB.o GED.o GEC.o⟩

open Go.Proofs.YtggenhomnbnodaaW.PrintWords renaming blk_drewN → bN, blk_drew → bD, blk_alloc → bA, blk_cell → bC, blk_below → bB, below_set → bS
def spec_l8Draw.l0 : Nat → Int → List Int → Int → Int → Int → List (List (S46)) → List (List (S46)) → List (S46) → Option (Int × (List (List (S46))) × (List (List (S46))) × (List (S46)) × Int × Int)
 | 0, _, _, _, _, _, _, _, _ => none
 | k + 1, x4, xD4, xU, xV, xL, xI, xJ, xG => if x4 > 0 then ((spec_l8Timer.f xD4 xU xV xL x4).bind fun btA5 => ((spec_Put.f k xL xI xJ xG btA5.1 btA5.2.1 btA5.2.2.1).bind fun btW => (spec_l8Draw.l0 k (wrap64 (x4 - 1)) xD4 btA5.2.2.2.1 btA5.2.2.2.2 btW.1 btW.2.1 btW.2.2.1 btW.2.2.2.1))) else (some (xL, xI, xJ, xG, xU, xV))
def spec_l8Draw.f (k : Nat) (s0_0 : List Int) (s0_1 : Int) (s0_2 : Int) : Option (Int × (List (List (S46))) × (List (List (S46))) × (List (S46)) × Int × Int) := (spec_WheelNew.f k).bind fun btS => ((spec_l1Int.f s0_0 s0_1 s0_2 (([0, 0, 5, 7, 8, 63, 64, 1000] : List Int))).bind fun btT => ((spec_l1Below.f s0_0 btT.2.1 btT.2.2 7).bind fun btB2 => (spec_l8Draw.l0 k btB2.1 s0_0 btB2.2.1 btB2.2.2 btT.1 btS.2.1 btS.2.2.1 btS.2.2.2)))
def spec_l8Draw.T6 : Bool × List (List Nat × List Nat) := (true, [([], []), ([], []), ([], []), ([2], [2]), ([], []), ([1, 3, 4], [1, 3, 4]), ([0, 5, 5], [0, 5]), ([6], [6]), ([7], [7]), ([7], [7]), ([8, 6, 0, 1, 2, 3, 4, 5, 6, 7, 8], [8])])
def spec_l8Draw.B6 : List Nat := [0, 0, 0, 4, 0, 30, 63, 127, 255, 255, 511]
theorem spec_l8Draw.tab6 : rtab .any (opsOf Try.f86 6) = spec_l8Draw.T6 := by kernel_rfl
theorem spec_l8Draw.bits6 : waitsOk spec_l8Draw.T6.2 spec_l8Draw.B6 = true := by kernel_rfl
set_option maxHeartbeats 8000000 in
set_option maxRecDepth 100000 in
theorem spec_l8Draw.calls (k : Nat) (g : Nat) (s0_0 : List Int) (s0_1 : Int) (s0_2 : Int) (r1 : Int) (r2 : List (List (S46))) (r3 : List (List (S46))) (r4 : List (S46)) (r5 : Int) (r6 : Int) (w0 w : World) (hI : IsS98 w0 w g s0_0 s0_1 s0_2) (hB : Below w0.heap.size w0 w) (h : spec_l8Draw.f k s0_0 s0_1 s0_2 = some (r1, r2, r3, r4, r5, r6)) :
  Calls Try.prog 86 #[.pointer (some ⟨g, 0, none⟩)] w fun e w' => ∃ v1_ v2_ v3_ : Value, e = .returned (.agg #[.int .i64 r1, v1_, v2_, v3_]) ∧ Kd.S (Kd.slice 46 k46) 23 w' w.heap.size (fun k_ => some k_ ≠ (v2_ : Value).ownBlock ∧ some k_ ≠ (v3_ : Value).ownBlock) v1_ r2 ∧ Kd.S (Kd.slice 46 k46) 23 w' w.heap.size (fun k_ => some k_ ≠ (v1_ : Value).ownBlock ∧ some k_ ≠ (v3_ : Value).ownBlock) v2_ r3 ∧ Kd.R k46 46 w' w.heap.size (fun _ => True) v3_ r4 ∧ IsS98 w0 w' g s0_0 r5 r6 ∧ Below w0.heap.size w0 w' ∧ KeepBut w w' g none := by
 have hu25 := Try.underlying25
 have HI0 := aM hI
 have HK := aM (KeepBut.refl w g none)
 have HL := aM hB.size
 clear hI
 have HW0 := aM hB.size
 have HB := aM hB
 clear hB
 unfold spec_l8Draw.f at h; have H := h
 clear h
 obtain ⟨⟨tS, tX, tZ, tA0⟩, A2, H⟩ := zO H; try dsimp only at H
 generalize hyA7 : (([0, 0, 5, 7, 8, 63, 64, 1000] : List Int)) = yA7 at H; (try rw [Option.bind_some] at H); have NyA7 := aM hyA7.symm; clear hyA7
 obtain ⟨⟨tT, tB3, tB4⟩, A3, H⟩ := zO H; try dsimp only at H
 obtain ⟨⟨tB2, tD5, tD6⟩, A4, H⟩ := zO H; try dsimp only at H
 have H' := aM H
 clear H
 go_enter Try.func86, Try.ntmps86
 go_wp2_with (first | ((with_reducible refine gD 2 rfl ?_); refine bE 2 #[.int .i64 0, .slice none 0 0, .slice none 0 0, .slice none 0 0] 25 ?_; intro gbB hg w5 hbox hb; replace HB := zLB (zL1 HB.o (IsS98.ge HI0.o)) hb; have BKB := aM hbox; have GWB := aM (zgK (g := g) (zK HK.o) hg : w.heap.size ≤ gbB); have GEB := aM ((Nat.le_trans HW0.o (zgK (g := g) (zK HK.o) hg : w.heap.size ≤ gbB) : w0.heap.size ≤ gbB)); replace HK := zKB g (zK HK.o) hb; have NB0_B := aM ((zNI (IsS98.lt (zI HI0.o : IsS98 w0 _ g s0_0 s0_1 s0_2)) hg : g ≠ gbB)); have NBB_0 := aM ((zMI (IsS98.lt (zI HI0.o : IsS98 w0 _ g s0_0 s0_1 s0_2)) hg : gbB ≠ g)); replace HI0 := aM (IsS98.below (zI HI0.o) hb); clear hb hbox hg) | ((with_reducible refine gC 15 rfl ?_); refine gL 5 Try.func15 #[] ?_; (with_reducible refine (spec_WheelNew.calls k  tS tX tZ tA0 _ A2.o).mono ?_); rintro e w6 ⟨vF6, vF7, vF8, rfl, ho0, ho1, ho2, hb⟩; refine ⟨_, rfl, ?_⟩; have HOY := aM (Kd.S_lower ho0 (keep_size (w := w) (g := g) (row := none) (zK1 HK.o GWB.o))); have HOA1 := aM (Kd.S_lower ho1 (keep_size (w := w) (g := g) (row := none) (zK1 HK.o GWB.o))); have HOA2 := aM (Kd.R_lower ho2 (keep_size (w := w) (g := g) (row := none) (zK1 HK.o GWB.o))); replace BKB := zBB BKB hb; replace HK := zKB g (zK1 HK.o GWB.o) hb; replace HB := zLB (zL2 HB.o (IsS98.ge HI0.o) GEB.o) hb; replace HI0 := aM (IsS98.below (zI1 HI0.o NB0_B.o) hb); clear ho0 hb; (try clear ho1); (try clear ho2)) | ((with_reducible refine gD 3 rfl ?_); refine bE 3 #[.int .i64 0, .slice none 0 0, .slice none 0 0, .slice none 0 0] 25 ?_; intro gbA hg w7 hbox hb; replace HOY := zSB HOY hb; replace HOA1 := zSB HOA1 hb; replace HOA2 := zRB HOA2 hb; replace HB := zLB (zL2 HB.o (IsS98.ge HI0.o) GEB.o) hb; have BKA := aM hbox; have GWA := aM (zgK (g := g) (zK1 HK.o GWB.o) hg : w.heap.size ≤ gbA); have GEA := aM ((Nat.le_trans HW0.o (zgK (g := g) (zK1 HK.o GWB.o) hg : w.heap.size ≤ gbA) : w0.heap.size ≤ gbA)); replace HK := zKB g (zK1 HK.o GWB.o) hb; have NBB_A := aM (zN BKB.o hg : gbB ≠ gbA); have NBA_B := aM (zM BKB.o hg : gbA ≠ gbB); replace BKB := zBB BKB hb; have NB0_A := aM ((zNI (IsS98.lt (zI1 HI0.o NB0_B.o : IsS98 w0 _ g s0_0 s0_1 s0_2)) hg : g ≠ gbA)); have NBA_0 := aM ((zMI (IsS98.lt (zI1 HI0.o NB0_B.o : IsS98 w0 _ g s0_0 s0_1 s0_2)) hg : gbA ≠ g)); replace HI0 := aM (IsS98.below (zI1 HI0.o NB0_B.o) hb); clear hb hbox hg; have hnb8 := NBA_B.o; have hnc8 := NBB_A.o; have hnb9 := NBA_0.o; have hnc9 := NB0_A.o; have hcz10 := zc4 BKA.o; have hfz10 := zf4 BKA.o; obtain ⟨Ao11, co11, eo11⟩ := Kd.S_slice HOY.o; subst eo11; obtain ⟨Ao12, co12, eo12⟩ := Kd.S_slice HOA1.o; subst eo12; obtain ⟨Ao13, co13, eo13⟩ := Kd.R_slice HOA2.o; subst eo13) | ((with_reducible refine gD 7 rfl ?_); refine Kd.R_lit (Kd.int .i64) _ 3 ?hg (N := 7) ?hd (xs := ([0, 0, 5, 7, 8, 63, 64, 1000] : List Int)) (inner := [.int .i64 0, .int .i64 0, .int .i64 5, .int .i64 7, .int .i64 8, .int .i64 63, .int .i64 64, .int .i64 1000]) (ok := fun _ => True) (okp := fun _ => True) ?hr ?hp (fun _ hk => hk) trivial (Below.refl _ _) (Nat.le_refl _) (by simp) ?_; (case hd => rfl); (case hg => rfl); (case hr => first | (go_simp; done) | (go_simp; rfl)); (case hp => exact zhp); intro vF9 w14 ho15 hb hg_ hnew_; clear hg_ hnew_; (first | rw [← NyA7.o] at ho15 | (simp only [Int.reduceToNat] at ho15; rw [← NyA7.o] at ho15)); replace HOY := aM (Kd.S_below (by refine zS ?_; exact (Kd.S_mono (zSF4 (Kd.S_types HOY.o BKA.o (by decide)) gbA (fun _ hk => hk.2) (.int .i64 tS) (.slice Ao11 tX.length co11) (.slice Ao12 tZ.length co12) (.slice Ao13 tA0.length co13)) (fun _ h_ => h_.1))) hb); replace HOA1 := aM (Kd.S_below (by refine zS ?_; exact (Kd.S_mono (zSF4 (Kd.S_types HOA1.o BKA.o (by decide)) gbA (fun _ hk => hk.2) (.int .i64 tS) (.slice Ao11 tX.length co11) (.slice Ao12 tZ.length co12) (.slice Ao13 tA0.length co13)) (fun _ h_ => h_.1))) hb); replace HOA2 := aM (Kd.R_below (by refine zR ?_; exact (Kd.R_mono (zRF4 (Kd.R_types HOA2.o BKA.o (by decide)) gbA (fun _ hk => hk.2) (.int .i64 tS) (.slice Ao11 tX.length co11) (.slice Ao12 tZ.length co12) (.slice Ao13 tA0.length co13)) (fun _ h_ => h_.1))) hb); have HOA8 := aM (Kd.R_lower ho15 (keep_size (w := w) (g := g) (row := none) (zK2 HK.o GWB.o GWA.o))); replace BKB := aM (bB (g := gbB) (o := .cells #[.int .i64 0, .slice none 0 0, .slice none 0 0, .slice none 0 0] 25 (0, 0)) (by refine zB ?_; refine zr4 ?_ NBB_A.o; exact zB BKB.o) hb); replace BKA := aM (bB (g := gbA) (o := .cells #[.int .i64 tS, .slice Ao11 tX.length co11, .slice Ao12 tZ.length co12, .slice Ao13 tA0.length co13] 25 (0, 0)) (by refine zB ?_; refine zp4 (cs := #[.int .i64 0, .slice none 0 0, .slice none 0 0, .slice none 0 0]) ?_; exact zB BKA.o) hb); replace HK := zKB g (zK2 HK.o GWB.o GWA.o) hb; replace HB := zLB (zL3 HB.o (IsS98.ge HI0.o) GEB.o GEA.o) hb; replace HI0 := aM (IsS98.below (show IsS98 w0 ((((w7.setCell ⟨gbA, 0, none⟩ (.int .i64 tS)).setCell ⟨gbA, 1, none⟩ (.slice Ao11 tX.length co11)).setCell ⟨gbA, 2, none⟩ (.slice Ao12 tZ.length co12)).setCell ⟨gbA, 3, none⟩ (.slice Ao13 tA0.length co13)) g s0_0 s0_1 s0_2 from zI2 HI0.o NB0_B.o NB0_A.o) hb); clear hb ho15; obtain ⟨Ao16, co16, eo16⟩ := Kd.R_slice HOA8.o; subst eo16) | ((with_reducible refine gC 85 rfl ?_); refine gL 8 Try.func85 #[.pointer (some ⟨g, 0, none⟩), .slice Ao16 yA7.length co16] ?_; (with_reducible refine (spec_l1Int.calls g s0_0 s0_1 s0_2 _ _ yA7 tT tB3 tB4 w0 _ ?side1 ?side2 ?side3 ?side4 ?side5 A3.o).mono ?_); (case side1 => exact zI2 HI0.o NB0_B.o NB0_A.o); (case side2 => exact zL3 HB.o (IsS98.ge HI0.o) GEB.o GEA.o); (case side3 => exact zC (Kd.R_reads' HOA8.o).2.2); (case side4 => exact (Kd.R_reads' HOA8.o).2.1); (case side5 => exact far_slice (IsS98.own_ne HI0.o HOA8.o (by decide))); rintro e w17 ⟨rfl, hi, hb, hk⟩; refine ⟨_, rfl, ?_⟩; replace BKB := zBK hk BKB NBB_0; replace HOY := aM (Kd.S_mono (Kd.S_keep (IsS98.apartS (show IsS98 w0 _ g s0_0 s0_1 s0_2 from zI2 HI0.o NB0_B.o NB0_A.o) (zS HOY.o) (by decide)) hk (fun _ h => h.2)) (fun _ h => h.1)); replace HOA1 := aM (Kd.S_mono (Kd.S_keep (IsS98.apartS (show IsS98 w0 _ g s0_0 s0_1 s0_2 from zI2 HI0.o NB0_B.o NB0_A.o) (zS HOA1.o) (by decide)) hk (fun _ h => h.2)) (fun _ h => h.1)); replace HOA2 := aM (Kd.R_mono (Kd.R_keep (IsS98.apart (show IsS98 w0 _ g s0_0 s0_1 s0_2 from zI2 HI0.o NB0_B.o NB0_A.o) (zR HOA2.o) (by decide)) hk (fun _ h => h.2)) (fun _ h => h.1)); replace BKA := zBK hk BKA NBA_0; replace HOA8 := aM (Kd.R_mono (Kd.R_keep (IsS98.apart (show IsS98 w0 _ g s0_0 s0_1 s0_2 from zI2 HI0.o NB0_B.o NB0_A.o) (zR HOA8.o) (by decide)) hk (fun _ h => h.2)) (fun _ h => h.1)); replace HK := zKK (zK2 HK.o GWB.o GWA.o) hk; replace HB := aM hb; replace HI0 := aM hi; clear hi hb hk; have hcz18 := zc4 BKA.o; have hfz18 := zf4 BKA.o) | ((with_reducible refine gC 83 rfl ?_); refine gL 11 Try.func83 #[.pointer (some ⟨g, 0, none⟩), .int .i64 7] ?_; (with_reducible refine (spec_l1Below.calls g s0_0 tB3 tB4 7 tB2 tD5 tD6 w0 _ ?side1 ?side2 A4.o).mono ?_); (case side1 => exact zI2 HI0.o NB0_B.o NB0_A.o); (case side2 => exact zL3 HB.o (IsS98.ge HI0.o) GEB.o GEA.o); rintro e w19 ⟨rfl, hi, hb, hk⟩; refine ⟨_, rfl, ?_⟩; replace BKB := aM (zQ2 (.cells #[.int .i64 0, .slice none 0 0, .slice none 0 0, .slice none 0 0] 25 (0, 0)) hk (by refine zB ?_; refine blk_far ?_ NBB_A.o _; exact zB BKB.o) NBB_0.o (by simp)); replace HOY := aM (Kd.S_mono (Kd.S_keep (IsS98.apartS (show IsS98 w0 _ g s0_0 tB3 tB4 from zI2 HI0.o NB0_B.o NB0_A.o) (by refine zS ?_; exact (Kd.S_mono (Kd.S_far (p := ⟨gbA, 0, none⟩) (Kd.S_types HOY.o BKA.o (by decide)) (fun _ hk => hk.2) (.int .i64 tT)) (fun _ h_ => h_.1))) (by decide)) hk (fun _ h => h.2)) (fun _ h => h.1)); replace HOA1 := aM (Kd.S_mono (Kd.S_keep (IsS98.apartS (show IsS98 w0 _ g s0_0 tB3 tB4 from zI2 HI0.o NB0_B.o NB0_A.o) (by refine zS ?_; exact (Kd.S_mono (Kd.S_far (p := ⟨gbA, 0, none⟩) (Kd.S_types HOA1.o BKA.o (by decide)) (fun _ hk => hk.2) (.int .i64 tT)) (fun _ h_ => h_.1))) (by decide)) hk (fun _ h => h.2)) (fun _ h => h.1)); replace HOA2 := aM (Kd.R_mono (Kd.R_keep (IsS98.apart (show IsS98 w0 _ g s0_0 tB3 tB4 from zI2 HI0.o NB0_B.o NB0_A.o) (by refine zR ?_; exact (Kd.R_mono (Kd.R_far (p := ⟨gbA, 0, none⟩) (Kd.R_types HOA2.o BKA.o (by decide)) (fun _ hk => hk.2) (.int .i64 tT)) (fun _ h_ => h_.1))) (by decide)) hk (fun _ h => h.2)) (fun _ h => h.1)); replace HOA8 := aM (Kd.R_mono (Kd.R_keep (IsS98.apart (show IsS98 w0 _ g s0_0 tB3 tB4 from zI2 HI0.o NB0_B.o NB0_A.o) (by refine zR ?_; exact (Kd.R_mono (Kd.R_far (p := ⟨gbA, 0, none⟩) (Kd.R_types HOA8.o BKA.o (by decide)) (fun _ hk => hk.2) (.int .i64 tT)) (fun _ h_ => h_.1))) (by decide)) hk (fun _ h => h.2)) (fun _ h => h.1)); replace BKA := aM (zQ2 (.cells #[.int .i64 tT, .slice Ao11 tX.length co11, .slice Ao12 tZ.length co12, .slice Ao13 tA0.length co13] 25 (0, 0)) hk (by refine zB ?_; refine blk_put (cs := #[.int .i64 tS, .slice Ao11 tX.length co11, .slice Ao12 tZ.length co12, .slice Ao13 tA0.length co13]) ?_ 0 _ rfl; exact zB BKA.o) NBA_0.o (by simp)); replace HK := zKK (zK2 HK.o GWB.o GWA.o) hk; replace HB := aM hb; replace HI0 := aM hi; clear hi hb hk))
 go_loopg [4] k (fun kq v4 w' => ∃ (x4_1 : Int) (xU_1 : Int) (xV_1 : Int) (xL_1 : Int) (xI_1 : List (List (S46))) (xJ_1 : List (List (S46))) (xG_1 : List (S46)) (uI : Value) (uJ : Value) (uG : Value), v4 = .int .i64 x4_1 ∧ Aside0 (spec_l8Draw.l0 kq x4_1 s0_0 xU_1 xV_1 xL_1 xI_1 xJ_1 xG_1 = some (r1, r2, r3, r4, r5, r6)) ∧ Aside0 (kq ≤ k) ∧ Aside0 (Kd.S (Kd.slice 46 k46) 23 w' w.heap.size (fun k_ => some k_ ≠ (uJ : Value).ownBlock ∧ some k_ ≠ (uG : Value).ownBlock) uI xI_1) ∧ Aside0 (Kd.S (Kd.slice 46 k46) 23 w' w.heap.size (fun k_ => some k_ ≠ (uI : Value).ownBlock ∧ some k_ ≠ (uG : Value).ownBlock) uJ xJ_1) ∧ Aside0 (Kd.R k46 46 w' w.heap.size (fun _ => True) uG xG_1) ∧ Aside0 (w'.heap[gbB]? = some (.cells #[.int .i64 0, (.slice none 0 0), (.slice none 0 0), (.slice none 0 0)] 25 (0, 0))) ∧ Aside0 (w'.heap[gbA]? = some (.cells #[.int .i64 xL_1, uI, uJ, uG] 25 (0, 0))) ∧ Aside0 (IsS98 w0 w' g s0_0 xU_1 xV_1) ∧ Aside0 (KeepBut w w' g none) ∧ Aside0 (Below w0.heap.size w0 w'))
 case atStart => exact ⟨(tB2), (tD5), (tD6), (tT), (tX), (tZ), (tA0), (.slice Ao11 tX.length co11), (.slice Ao12 tZ.length co12), (.slice Ao13 tA0.length co13), zV, H', ⟨Nat.le_refl _⟩, ⟨zS HOY.o⟩, ⟨zS HOA1.o⟩, ⟨zR HOA2.o⟩, ⟨zB BKB.o⟩, ⟨zB BKA.o⟩, ⟨zI2 HI0.o NB0_B.o NB0_A.o⟩, ⟨zK2 HK.o GWB.o GWA.o⟩, ⟨zL3 HB.o (IsS98.ge HI0.o) GEB.o GEA.o⟩⟩
 case round =>
  clear H'
  try clear c1
  try clear p2
  try clear c8
  try clear c9
  try clear c15
  try clear hcz10; try clear hcz18; try clear hfz10; try clear hfz18
  try clear BKB; try clear BKA
  obtain ⟨x4_1, xU_1, xV_1, xL_1, xI_1, xJ_1, xG_1, uI, uJ, uG, rfl, HA, HK1, HO_I, HO_J, HO_G, BKB, BKA, HI0, HK, HB⟩ := hrel
  cases gk with
  | zero => exact absurd HA.o (by simp [spec_l8Draw.l0])
  | succ k1 =>
   have H := HA.o
   clear HA
   simp only [spec_l8Draw.l0] at H
   by_cases c20 : x4_1 > 0
   ·rw [if_pos c20] at H
    have c20b0 := dT c20
    clear c20
    obtain ⟨⟨tA5, tC6, tC7, tD7, tD8⟩, A21, H⟩ := zO H; try dsimp only at H
    obtain ⟨⟨tW, tB5, tB6, tB7, tF0⟩, A22, H⟩ := zO H; try dsimp only at H
    have H' := aM H
    clear H
    try go_wp2
    replace HO_I := zSD HO_I; replace HO_J := zSD HO_J; replace HO_G := zRD HO_G; replace BKB := zBD BKB; replace BKA := zBD BKA; replace HI0 := aM (IsS98.drew HI0.o); replace HK := aM (keep_drew HK.o); replace HB := zLD HB
    refine start_ (n := 11) (S := fun w' => zs4 w' gbA (.int .i64 xL_1) (uI) (uJ) (uG)) (ds := [10]) (fB 11 0) (by kernel_rfl) rfl rfl (zc4 BKA.o) (fun hHeld => ?_); refine with_tabW spec_l8Draw.tab6 spec_l8Draw.bits6 (fun HT_ HW_ => ?_)
    generalize wr.drew = w23 at HO_I HO_J HO_G BKB BKA HI0 HK HB hHeld ⊢
    refine pY 1 18 (fB 11 2) HT_.o ?_
    refine pY 2 19 (fB 11 6) HT_.o ?_
    refine pY 4 21 (fB 11 22) HT_.o ?_
    refine tY 0 17 (fB 11 23) HT_.o HW_.o hHeld ?_
    refine tY 3 20 (fB 11 31) HT_.o HW_.o hHeld ?_
    refine oN 5 22 (fB 11 63) HT_.o fun K hK => ?_
    refine gS Try.func82 #[.pointer (some ⟨g, 0, none⟩), .int .i64 xL_1, .int .i64 x4_1] ?_
    with_reducible refine (spec_l8Timer.calls g s0_0 xU_1 xV_1 xL_1 x4_1 tA5 tC6 tC7 tD7 tD8 w0 _ ?side1 ?side2 A21.o).mono ?_
    (case side1 => exact zI2 HI0.o NB0_B.o NB0_A.o)
    (case side2 => exact zL3 HB.o (IsS98.ge HI0.o) GEB.o GEA.o)
    rintro e w24 ⟨rfl, hi, hb, hk⟩
    refine ⟨_, rfl, ?_⟩
    replace HO_I := aM (Kd.S_mono (Kd.S_keep (IsS98.apartS (show IsS98 w0 _ g s0_0 xU_1 xV_1 from zI2 HI0.o NB0_B.o NB0_A.o) (zS HO_I.o) (by decide)) hk (fun _ h => h.2)) (fun _ h => h.1)); replace HO_J := aM (Kd.S_mono (Kd.S_keep (IsS98.apartS (show IsS98 w0 _ g s0_0 xU_1 xV_1 from zI2 HI0.o NB0_B.o NB0_A.o) (zS HO_J.o) (by decide)) hk (fun _ h => h.2)) (fun _ h => h.1)); replace HO_G := aM (Kd.R_mono (Kd.R_keep (IsS98.apart (show IsS98 w0 _ g s0_0 xU_1 xV_1 from zI2 HI0.o NB0_B.o NB0_A.o) (zR HO_G.o) (by decide)) hk (fun _ h => h.2)) (fun _ h => h.1)); replace BKB := zBK hk BKB NBB_0; replace BKA := zBK hk BKA NBA_0; replace HK := zKK (zK2 HK.o GWB.o GWA.o) hk; replace HB := aM hb; replace HI0 := aM hi
    clear hi hb hk
    obtain ⟨Ao25, co25, eo25⟩ := Kd.S_slice HO_I.o
    (first | subst eo25 | (injection eo25 with f1_ f2_ f3_; have f4_ := f1_.symm; have f5_ := f3_.symm; clear f1_ f2_ f3_; subst f4_; subst f5_))
    obtain ⟨Ao26, co26, eo26⟩ := Kd.S_slice HO_J.o
    (first | subst eo26 | (injection eo26 with f1_ f2_ f3_; have f4_ := f1_.symm; have f5_ := f3_.symm; clear f1_ f2_ f3_; subst f4_; subst f5_))
    obtain ⟨Ao27, co27, eo27⟩ := Kd.R_slice HO_G.o
    (first | subst eo27 | (injection eo27 with f1_ f2_ f3_; have f4_ := f1_.symm; have f5_ := f3_.symm; clear f1_ f2_ f3_; subst f4_; subst f5_))
    refine hK.out _ _ (zc4 BKA.o) fun hHeld => ?_; clear hK K
    refine nZ 22 ?_
    refine oN 6 23 (fB 11 127) HT_.o fun K hK => ?_
    refine gS Try.func31 #[.agg #[.int .i64 xL_1, .slice Ao25 xI_1.length co25, .slice Ao26 xJ_1.length co26, .slice Ao27 xG_1.length co27], .agg #[.int .i64 tA5, .int .i64 tC6, .int .i64 tC7]] ?_
    with_reducible refine (spec_Put.calls k1 xL_1 _ _ xI_1 _ _ xJ_1 _ _ xG_1 tA5 tC6 tC7 tW tB5 tB6 tB7 tF0 _ ?side1 ?side2 ?side3 ?side4 ?side5 ?side6 A22.o).mono ?_
    (case side1 => exact zC (Kd.S_reads' HO_I.o).2.2)
    (case side2 => exact (Kd.S_reads' HO_I.o).2.1)
    (case side3 => exact zC (Kd.S_reads' HO_J.o).2.2)
    (case side4 => exact (Kd.S_reads' HO_J.o).2.1)
    (case side5 => exact zC (Kd.R_reads' HO_G.o).2.2)
    (case side6 => exact (Kd.R_reads' HO_G.o).2.1)
    rintro e w28 ⟨vG0, vG1, vG2, rfl, ho0, ho1, ho2, hb⟩
    refine ⟨_, rfl, ?_⟩
    have HOD9 := aM (Kd.S_lower (Kd.S_new' (Kd.S_new' (Kd.S_new' ho0 (Kd.S_lt (zS HO_I.o))) (Kd.S_lt (zS HO_J.o))) (Kd.R_lt (zR HO_G.o))) (keep_size (w := w) (g := g) (row := none) (zK2 HK.o GWB.o GWA.o))); have HOE0 := aM (Kd.S_lower (Kd.S_new' (Kd.S_new' (Kd.S_new' ho1 (Kd.S_lt (zS HO_I.o))) (Kd.S_lt (zS HO_J.o))) (Kd.R_lt (zR HO_G.o))) (keep_size (w := w) (g := g) (row := none) (zK2 HK.o GWB.o GWA.o))); replace HO_I := aM (Kd.S_mono (Kd.S_told (Kd.S_told (Kd.S_told (Kd.S_old (zS HO_I.o) hb) (Kd.S_base ho0)) (Kd.S_base ho1)) (Kd.R_base ho2)) (fun _ h_ => h_.1)); replace HO_J := aM (Kd.S_mono (Kd.S_told (Kd.S_told (Kd.S_told (Kd.S_old (zS HO_J.o) hb) (Kd.S_base ho0)) (Kd.S_base ho1)) (Kd.R_base ho2)) (fun _ h_ => h_.1)); have HOE1 := aM (Kd.R_lower (Kd.R_new' ho2 (Kd.R_lt (zR HO_G.o))) (keep_size (w := w) (g := g) (row := none) (zK2 HK.o GWB.o GWA.o))); replace HO_G := aM (Kd.R_elder' (zR HO_G.o) (Kd.R_base ho2) hb); replace BKB := zBB BKB hb; replace BKA := zBB BKA hb; replace HK := zKB g (zK2 HK.o GWB.o GWA.o) hb; replace HB := zLB (zL3 HB.o (IsS98.ge HI0.o) GEB.o GEA.o) hb; replace HI0 := aM (IsS98.below (zI2 HI0.o NB0_B.o NB0_A.o) hb)
    clear ho0 hb
    (try clear ho0)
    (try clear ho1)
    (try clear ho2)
    obtain ⟨Ao30, co30, eo30⟩ := Kd.S_slice HOD9.o
    (first | subst eo30 | (injection eo30 with f1_ f2_ f3_; have f4_ := f1_.symm; have f5_ := f3_.symm; clear f1_ f2_ f3_; subst f4_; subst f5_))
    obtain ⟨Ao32, co32, eo32⟩ := Kd.S_slice HOE0.o
    (first | subst eo32 | (injection eo32 with f1_ f2_ f3_; have f4_ := f1_.symm; have f5_ := f3_.symm; clear f1_ f2_ f3_; subst f4_; subst f5_))
    obtain ⟨Ao34, co34, eo34⟩ := Kd.R_slice HOE1.o
    (first | subst eo34 | (injection eo34 with f1_ f2_ f3_; have f4_ := f1_.symm; have f5_ := f3_.symm; clear f1_ f2_ f3_; subst f4_; subst f5_))
    refine hK.out _ _ (zc4 BKA.o) fun hHeld => ?_; clear hK K
    refine nZ 23 ?_
    refine pY 7 16 (fB 11 255) HT_.o ?_
    refine pY 8 24 (fB 11 511) HT_.o ?_
    refine pY 9 25 (fB 11 1023) HT_.o ?_
    refine last_ (i := 10) (N := none) #[true, true, true, true, true, true, true, true, true, true, true] rfl rfl (one_of HT_.o (by kernel_rfl)) (by decide) (fun K hK => ?_)
    have hs29 : w28.cell? ⟨gbA, 0, none⟩ = some (.int .i64 xL_1) := (bC BKA.o 0).trans rfl
    have hfs29 := blk_frozen BKA.o 0
    have hns29_0 := NBB_A.o
    have hms29_0 := NBA_B.o
    have hs31 : w28.cell? ⟨gbA, 1, none⟩ = some (.slice Ao25 xI_1.length co25) := (bC BKA.o 1).trans rfl
    have hfs31 := blk_frozen BKA.o 1
    have hns31_0 := NBB_A.o
    have hms31_0 := NBA_B.o
    have hs33 : w28.cell? ⟨gbA, 2, none⟩ = some (.slice Ao26 xJ_1.length co26) := (bC BKA.o 2).trans rfl
    have hfs33 := blk_frozen BKA.o 2
    have hns33_0 := NBB_A.o
    have hms33_0 := NBA_B.o
    have hs35 : w28.cell? ⟨gbA, 3, none⟩ = some (.slice Ao27 xG_1.length co27) := (bC BKA.o 3).trans rfl
    have hfs35 := blk_frozen BKA.o 3
    have hns35_0 := NBB_A.o
    have hms35_0 := NBA_B.o
    refine skip_ (w1 := ?_) (by rfl) rfl ?_ ?_
    rotate_left
    ·go_simp
     rfl
    refine hK.out _ _ ?_
    clear hK K
    refine done_ (done_of HT_.o (by kernel_rfl)) ?_
    try go_wp2
    go_roundg k1
    case measure => have := HK1.o; omega
    case rel => exact ⟨(wrap64 (x4_1 - 1)), (tD7), (tD8), (tW), (tB5), (tB6), (tB7), (.slice Ao30 tB5.length co30), (.slice Ao32 tB6.length co32), (.slice Ao34 tB7.length co34), zV, H', ⟨by have := HK1.o; omega⟩, ⟨by refine zS ?_; exact Kd.S_mono (zSF4 (Kd.S_types HOD9.o BKA.o (by decide)) gbA (fun _ hk => hk.2) (.int .i64 tW) (.slice Ao30 tB5.length co30) (.slice Ao32 tB6.length co32) (.slice Ao34 tB7.length co34)) (fun _ hk => ⟨hk.1.1.1.1.1, hk.1.1.1.1.2⟩)⟩, ⟨by refine zS ?_; exact Kd.S_mono (zSF4 (Kd.S_types HOE0.o BKA.o (by decide)) gbA (fun _ hk => hk.2) (.int .i64 tW) (.slice Ao30 tB5.length co30) (.slice Ao32 tB6.length co32) (.slice Ao34 tB7.length co34)) (fun _ hk => ⟨hk.1.1.1.1.1, hk.1.1.1.1.2⟩)⟩, ⟨by refine zR ?_; exact Kd.R_mono (zRF4 (Kd.R_types HOE1.o BKA.o (by decide)) gbA (fun _ hk => hk.2) (.int .i64 tW) (.slice Ao30 tB5.length co30) (.slice Ao32 tB6.length co32) (.slice Ao34 tB7.length co34)) (fun _ hk => trivial)⟩, ⟨by refine zB ?_; refine zr4 ?_ NBB_A.o; exact zB BKB.o⟩, ⟨by refine zB ?_; refine zp4 (cs := #[.int .i64 xL_1, .slice Ao25 xI_1.length co25, .slice Ao26 xJ_1.length co26, .slice Ao27 xG_1.length co27]) ?_; exact zB BKA.o⟩, ⟨zI2 HI0.o NB0_B.o NB0_A.o⟩, ⟨zK2 HK.o GWB.o GWA.o⟩, ⟨zL3 HB.o (IsS98.ge HI0.o) GEB.o GEA.o⟩⟩
   ·rw [if_neg c20] at H
    have c20b0 := dF c20
    clear c20
    simp only [Option.some.injEq, Prod.mk.injEq] at H
    obtain ⟨rfl, rfl, rfl, rfl, rfl, rfl⟩ := H
    have hnb36 := NBA_B.o
    have hnc36 := NBB_A.o
    have hnb37 := NBA_0.o
    have hnc37 := NB0_A.o
    have hcz38 := zc4 BKA.o
    have hfz38 := zf4 BKA.o
    have hnb39 := NBB_0.o
    have hnc39 := NB0_B.o
    have hcz40 := zc4 BKB.o
    have hfz40 := zf4 BKB.o
    obtain ⟨Ao41, co41, eo41⟩ := Kd.S_slice HO_I.o
    subst eo41
    obtain ⟨Ao42, co42, eo42⟩ := Kd.S_slice HO_J.o
    subst eo42
    obtain ⟨Ao43, co43, eo43⟩ := Kd.R_slice HO_G.o
    subst eo43
    go_wp2
    refine bodyPost_ret (results_cell_row rfl _ _ gbB 25 #[.int .i64 xL_1, .slice Ao41 xI_1.length co41, .slice Ao42 xJ_1.length co42, .slice Ao43 xG_1.length co43] (0, 0) _ rfl (by refine zB ?_; refine zp4 (cs := #[.int .i64 0, .slice none 0 0, .slice none 0 0, .slice none 0 0]) ?_; exact zB BKB.o) Try.underlying25 rfl (by kernel_rfl)) rfl ?_
    exact ⟨_, _, _, zW, by refine zS ?_; exact Kd.S_mono (zSF4 (Kd.S_types HO_I.o BKB.o (by decide)) gbB (fun _ hk => hk.2) (.int .i64 xL_1) (.slice Ao41 xI_1.length co41) (.slice Ao42 xJ_1.length co42) (.slice Ao43 xG_1.length co43)) (fun _ hk => ⟨hk.1.1, hk.1.2⟩), by refine zS ?_; exact Kd.S_mono (zSF4 (Kd.S_types HO_J.o BKB.o (by decide)) gbB (fun _ hk => hk.2) (.int .i64 xL_1) (.slice Ao41 xI_1.length co41) (.slice Ao42 xJ_1.length co42) (.slice Ao43 xG_1.length co43)) (fun _ hk => ⟨hk.1.1, hk.1.2⟩), by refine zR ?_; exact Kd.R_mono (zRF4 (Kd.R_types HO_G.o BKB.o (by decide)) gbB (fun _ hk => hk.2) (.int .i64 xL_1) (.slice Ao41 xI_1.length co41) (.slice Ao42 xJ_1.length co42) (.slice Ao43 xG_1.length co43)) (fun _ hk => trivial), zI2 HI0.o NB0_B.o NB0_A.o, zL3 HB.o (IsS98.ge HI0.o) GEB.o GEA.o, zK2 HK.o GWB.o GWA.o⟩

end Go.Proofs.Ytggenhomnbnodaa.QFnWheels
