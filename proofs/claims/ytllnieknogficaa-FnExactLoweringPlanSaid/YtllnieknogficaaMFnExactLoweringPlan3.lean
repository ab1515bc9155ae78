/-
Part 3 of the proof of the law FnExactLoweringPlan: what the Go functions that it reaches come to, each proved of the given program; no condition beside those that each theorem names.
-/
import Derived.Deep.Matrix
import Derived.ProofKit
import Derived.Lib.SmallJoins
import Derived.Test.YtllnieknogficaaMFnExactLoweringPlan1
import Derived.Test.YtllnieknogficaaMFnExactLoweringPlan2
namespace Go.Proofs.Ytllnieknogficaa.K
open Go.RowKit Go.Proofs.YtllnieknogficaaW.PrintWords Go.Proofs.YtllnieknogficaaW.PrintLast Go.Proofs.YtllnieknogficaaW.PrintMore
attribute [local go_sem] max2_int min2_int max_two min_two max_three min_three max_four min_four   -- for this text's walks alone
set_option linter.unusedVariables false
set_option linter.unusedSimpArgs false

/-! ### laws_heldIntS: function 47 -/
def laws_heldIntS.l0 : Nat → List Int → Int → Int → Option (Int)
  | 0, _, _, _ => none
  | k + 1, x0, x1, x5 => if x5 < (x0.length : Int) then (if 0 ≤ x5 then (if (rd x0 x5) = x1 then (laws_heldIntS.l0 k x0 (wrap64 (x1 + 1)) (wrap64 (x5 + 1))) else (some (-1))) else (none)) else (some x1)
def laws_heldIntS.f (k : Nat) (l0 : List Int) (a1 : Int) : Option (Int) := laws_heldIntS.l0 k l0 a1 0
theorem laws_heldIntS.mono_l : ∀ k, (∀ y0 y1 y2, LeO (laws_heldIntS.l0 k y0 y1 y2) (laws_heldIntS.l0 (k + 1) y0 y1 y2))
  | 0 => fun _ _ _ r h => by simp [laws_heldIntS.l0] at h
  | k + 1 => by
    have ih0 := laws_heldIntS.mono_l k
    · intro y0 y1 y2
      unfold laws_heldIntS.l0
      repeat' first
      | (with_reducible exact ih0 _ _ _)
      | (with_reducible exact LeO.refl _)
      | (with_reducible exact LeO.none _)
      | (with_reducible refine LeO.ite ?_ ?_)
      | (with_reducible refine LeO.bind ?_ (fun _ => ?_))
      | exact ih0 _ _ _
      | exact LeO.none _
      | refine LeO.ite ?_ ?_
      | refine LeO.bind ?_ (fun _ => ?_)
theorem laws_heldIntS.mono : ∀ a0 a1 k, LeO (laws_heldIntS.f k a0 a1) (laws_heldIntS.f (k + 1) a0 a1) := by
  intro a0 a1 k
  have ih0 := laws_heldIntS.mono_l k
  unfold laws_heldIntS.f
  repeat' first
      | (with_reducible exact ih0 _ _ _)
      | (with_reducible exact LeO.refl _)
      | (with_reducible exact LeO.none _)
      | (with_reducible refine LeO.ite ?_ ?_)
      | (with_reducible refine LeO.bind ?_ (fun _ => ?_))
      | exact ih0 _ _ _
      | exact LeO.none _
      | refine LeO.ite ?_ ?_
      | refine LeO.bind ?_ (fun _ => ?_)
set_option maxHeartbeats 8000000 in
set_option maxRecDepth 100000 in
theorem laws_heldIntS.calls (k : Nat) (A0 : Option Addr) (c0 : Nat) (l0 : List Int) (a1 : Int) (r : Int) (w : World) (hr0 : Kd.C (Kd.int .i64) w A0 l0.length l0) (hc0 : l0.length ≤ c0) (h : laws_heldIntS.f k l0 a1 = some r) :
    Calls Try.prog 47 #[.slice A0 l0.length c0, .int .i64 a1] w fun e w' => e = .returned (.int .i64 r) ∧ Drawn0 w w' := by
  have HR0 := Aside0.mk hr0
  have HC0 := Aside0.mk hc0
  clear hr0 hc0
  have H : (laws_heldIntS.l0 k l0 a1 0) = some r := h
  clear h
  have H' := Aside0.mk H
  clear H
  go_enter Try.func47, Try.ntmps47
  go_wp2
  go_loopg [1, 5] k (fun kq v1 v5 w' => ∃ (x1_1 : Int) (x5_1 : Int), v1 = .int .i64 x1_1 ∧ v5 = .int .i64 x5_1 ∧ Aside0 (laws_heldIntS.l0 kq l0 x1_1 x5_1 = some r) ∧ Aside0 (kq ≤ k) ∧ Drawn0 w w')
  case atStart => exact ⟨(a1), (0), (by first | rfl | (simp; done) | (simp [*]; done)), (by first | rfl | (simp; done) | (simp [*]; done)), H', ⟨Nat.le_refl _⟩, by repeat (first | exact Drawn0.refl _ | apply Drawn0.step)⟩
  case round =>
    clear H'
    try clear p2
    obtain ⟨x1_1, x5_1, rfl, rfl, HA, HK1, ⟨m1, rfl⟩⟩ := hrel
    cases gk with
    | zero => exact absurd HA.out (by simp [laws_heldIntS.l0])
    | succ k1 =>
      have H := HA.out
      clear HA
      simp only [laws_heldIntS.l0] at H
      by_cases c3 : x5_1 < (l0.length : Int)
      · rw [if_pos c3] at H
        have c3b0 : decide (x5_1 < (l0.length : Int)) = true := decide_eq_true c3
        clear c3
        by_cases c4 : 0 ≤ x5_1
        · rw [if_pos c4] at H
          have c4b0 : decide (0 ≤ x5_1) = true := decide_eq_true c4
          clear c4
          by_cases c5 : (rd l0 x5_1) = x1_1
          · rw [if_pos c5] at H
            have c5b0 : ((rd l0 x5_1) == x1_1) = true := beq_iff_eq.mpr c5
            have c5b1 : ((rd l0 x5_1) != x1_1) = false := bne_eq_false_iff_eq.mpr c5
            clear c5
            have H' := Aside0.mk H
            clear H
            have p431 : 0 ≤ (x5_1 : Int) := of_decide_eq_true (by first | (with_reducible assumption) | assumption)
            have q431 : x5_1 < (l0.length : Int) := of_decide_eq_true (by first | (with_reducible assumption) | assumption)
            obtain ⟨ad431, e431, hx431_0⟩ := Kd.at_int HR0.out x5_1 p431 q431
            cases e431
            replace p431 := eq_true p431
            replace q431 := eq_true q431
            go_wp2
            go_roundg k1
            case measure => have := HK1.out; omega
            case rel => exact ⟨(wrap64 (x1_1 + 1)), (wrap64 (x5_1 + 1)), (by first | rfl | (simp; done) | (simp [*]; done)), (by first | rfl | (simp; done) | (simp [*]; done)), H', ⟨by have := HK1.out; omega⟩, by repeat (first | exact Drawn0.refl _ | apply Drawn0.step)⟩
          · rw [if_neg c5] at H
            have c5b0 : ((rd l0 x5_1) == x1_1) = false := beq_eq_false_iff_ne.mpr c5
            have c5b1 : ((rd l0 x5_1) != x1_1) = true := bne_iff_ne.mpr c5
            obtain rfl := Option.some.inj H
            have p431 : 0 ≤ (x5_1 : Int) := of_decide_eq_true (by first | (with_reducible assumption) | assumption)
            have q431 : x5_1 < (l0.length : Int) := of_decide_eq_true (by first | (with_reducible assumption) | assumption)
            obtain ⟨ad431, e431, hx431_0⟩ := Kd.at_int HR0.out x5_1 p431 q431
            cases e431
            replace p431 := eq_true p431
            replace q431 := eq_true q431
            go_wp2
            go_ret
            exact ⟨by first | rfl | (simp; done) | (simp [*]; done), by repeat (first | exact Drawn0.refl _ | apply Drawn0.step)⟩
        · rw [if_neg c4] at H
          exact absurd H (by simp)
      · rw [if_neg c3] at H
        have c3b0 : decide (x5_1 < (l0.length : Int)) = false := decide_eq_false c3
        clear c3
        obtain rfl := Option.some.inj H
        go_wp2
        go_ret
        exact ⟨by first | rfl | (simp; done) | (simp [*]; done), by repeat (first | exact Drawn0.refl _ | apply Drawn0.step)⟩

end Go.Proofs.Ytllnieknogficaa.K
namespace Go.Proofs.Ytllnieknogficaa.K
open Go.RowKit Go.Proofs.YtllnieknogficaaW.PrintWords Go.Proofs.YtllnieknogficaaW.PrintLast Go.Proofs.YtllnieknogficaaW.PrintMore
attribute [local go_sem] max2_int min2_int max_two min_two max_three min_three max_four min_four   -- for this text's walks alone
set_option linter.unusedVariables false
set_option linter.unusedSimpArgs false

/-! ### laws_heldIntSS: function 40 -/
def laws_heldIntSS.l0 : Nat → List (List Int) → Int → Int → Option (Int)
  | 0, _, _, _ => none
  | k + 1, x0, x1, x5 => if x5 < (x0.length : Int) then (if 0 ≤ x5 then ((laws_heldIntS.f k (rd_L2 x0 x5) x1).bind fun t433 => (if t433 < 0 then (some (-1)) else (laws_heldIntSS.l0 k x0 t433 (wrap64 (x5 + 1))))) else (none)) else (some x1)
def laws_heldIntSS.f (k : Nat) (l0 : List (List Int)) (a1 : Int) : Option (Int) := laws_heldIntSS.l0 k l0 a1 0
theorem laws_heldIntSS.mono_l : ∀ k, (∀ y0 y1 y2, LeO (laws_heldIntSS.l0 k y0 y1 y2) (laws_heldIntSS.l0 (k + 1) y0 y1 y2))
  | 0 => fun _ _ _ r h => by simp [laws_heldIntSS.l0] at h
  | k + 1 => by
    have ih0 := laws_heldIntSS.mono_l k
    · intro y0 y1 y2
      unfold laws_heldIntSS.l0
      repeat' first
      | (with_reducible exact ih0 _ _ _)
      | (with_reducible exact laws_heldIntS.mono _ _ _)
      | (with_reducible exact LeO.refl _)
      | (with_reducible exact LeO.none _)
      | (with_reducible refine LeO.ite ?_ ?_)
      | (with_reducible refine LeO.bind ?_ (fun _ => ?_))
      | exact ih0 _ _ _
      | exact laws_heldIntS.mono _ _ _
      | exact LeO.none _
      | refine LeO.ite ?_ ?_
      | refine LeO.bind ?_ (fun _ => ?_)
theorem laws_heldIntSS.mono : ∀ a0 a1 k, LeO (laws_heldIntSS.f k a0 a1) (laws_heldIntSS.f (k + 1) a0 a1) := by
  intro a0 a1 k
  have ih0 := laws_heldIntSS.mono_l k
  unfold laws_heldIntSS.f
  repeat' first
      | (with_reducible exact ih0 _ _ _)
      | (with_reducible exact laws_heldIntS.mono _ _ _)
      | (with_reducible exact LeO.refl _)
      | (with_reducible exact LeO.none _)
      | (with_reducible refine LeO.ite ?_ ?_)
      | (with_reducible refine LeO.bind ?_ (fun _ => ?_))
      | exact ih0 _ _ _
      | exact laws_heldIntS.mono _ _ _
      | exact LeO.none _
      | refine LeO.ite ?_ ?_
      | refine LeO.bind ?_ (fun _ => ?_)
set_option maxHeartbeats 8000000 in
set_option maxRecDepth 100000 in
theorem laws_heldIntSS.calls (k : Nat) (A0 : Option Addr) (c0 : Nat) (l0 : List (List Int)) (a1 : Int) (r : Int) (w : World) (hr0 : Kd.C (Kd.slice 3 (Kd.int .i64)) w A0 l0.length l0) (hc0 : l0.length ≤ c0) (h : laws_heldIntSS.f k l0 a1 = some r) :
    Calls Try.prog 40 #[.slice A0 l0.length c0, .int .i64 a1] w fun e w' => e = .returned (.int .i64 r) ∧ Drawn0 w w' := by
  have HR0 := Aside0.mk hr0
  have HC0 := Aside0.mk hc0
  clear hr0 hc0
  have H : (laws_heldIntSS.l0 k l0 a1 0) = some r := h
  clear h
  have H' := Aside0.mk H
  clear H
  go_enter Try.func40, Try.ntmps40
  go_wp2
  go_loopg [1, 5] k (fun kq v1 v5 w' => ∃ (x1_1 : Int) (x5_1 : Int), v1 = .int .i64 x1_1 ∧ v5 = .int .i64 x5_1 ∧ Aside0 (laws_heldIntSS.l0 kq l0 x1_1 x5_1 = some r) ∧ Aside0 (kq ≤ k) ∧ Drawn0 w w')
  case atStart => exact ⟨(a1), (0), (by first | rfl | (simp; done) | (simp [*]; done)), (by first | rfl | (simp; done) | (simp [*]; done)), H', ⟨Nat.le_refl _⟩, by repeat (first | exact Drawn0.refl _ | apply Drawn0.step)⟩
  case round =>
    clear H'
    try clear p2
    obtain ⟨x1_1, x5_1, rfl, rfl, HA, HK1, ⟨m1, rfl⟩⟩ := hrel
    cases gk with
    | zero => exact absurd HA.out (by simp [laws_heldIntSS.l0])
    | succ k1 =>
      have H := HA.out
      clear HA
      simp only [laws_heldIntSS.l0] at H
      by_cases c3 : x5_1 < (l0.length : Int)
      · rw [if_pos c3] at H
        have c3b0 : decide (x5_1 < (l0.length : Int)) = true := decide_eq_true c3
        clear c3
        by_cases c4 : 0 ≤ x5_1
        · rw [if_pos c4] at H
          have c4b0 : decide (0 ≤ x5_1) = true := decide_eq_true c4
          clear c4
          replace H := Option.bind_eq_some_iff.mp H
          obtain ⟨t433, A50, H⟩ := H
          replace H : (if t433 < 0 then (some (-1)) else (laws_heldIntSS.l0 k1 l0 t433 (wrap64 (x5_1 + 1)))) = some r := H
          have A5 := Aside0.mk A50
          clear A50
          by_cases c6 : t433 < 0
          · rw [if_pos c6] at H
            have c6b0 : decide (t433 < 0) = true := decide_eq_true c6
            clear c6
            obtain rfl := Option.some.inj H
            have p432 : 0 ≤ (x5_1 : Int) := of_decide_eq_true (by first | (with_reducible assumption) | assumption)
            have q432 : x5_1 < (l0.length : Int) := of_decide_eq_true (by first | (with_reducible assumption) | assumption)
            obtain ⟨ad432, A432_0, c432_0, e432, hx432_0, hl432_0, hi432_0⟩ := at_L2 HR0.out x5_1 p432 q432
            cases e432
            have HR432_0 := Aside0.mk hi432_0
            have HC432_0 := Aside0.mk hl432_0
            clear hi432_0 hl432_0
            replace p432 := eq_true p432
            replace q432 := eq_true q432
            go_wp2_with (first | ((with_reducible refine gate_callee (f := 47) rfl ?_); refine goesL_ (some 17) rfl rfl Try.func47 (by kernel_rfl) rfl #[.slice A432_0 (rd_L2 l0 x5_1).length c432_0, .int .i64 x1_1] rfl (by (try simp only [List.map_toArray, List.map_cons, List.map_nil]); first | done | rfl | (simp only [List.length_drop, List.length_take]; rfl)) ?_; (with_reducible refine (laws_heldIntS.calls k1 _ _ (rd_L2 l0 x5_1) x1_1 t433 _ ?side1 ?side2 A5.out).mono ?_); (case side1 => repeat (first | exact HR432_0.out | (with_reducible refine Kd.C_alloc ?_ _) | (with_reducible refine Kd.C_drewN ?_ _) | (with_reducible refine Kd.C_drew ?_))); (case side2 => exact HC432_0.out); rintro e w' ⟨rfl, ⟨nd, rfl⟩⟩; refine ⟨_, rfl, ?_⟩))
            go_ret
            exact ⟨by first | rfl | (simp; done) | (simp [*]; done), by repeat (first | exact Drawn0.refl _ | apply Drawn0.step)⟩
          · rw [if_neg c6] at H
            have c6b0 : decide (t433 < 0) = false := decide_eq_false c6
            clear c6
            have H' := Aside0.mk H
            clear H
            have p432 : 0 ≤ (x5_1 : Int) := of_decide_eq_true (by first | (with_reducible assumption) | assumption)
            have q432 : x5_1 < (l0.length : Int) := of_decide_eq_true (by first | (with_reducible assumption) | assumption)
            obtain ⟨ad432, A432_0, c432_0, e432, hx432_0, hl432_0, hi432_0⟩ := at_L2 HR0.out x5_1 p432 q432
            cases e432
            have HR432_0 := Aside0.mk hi432_0
            have HC432_0 := Aside0.mk hl432_0
            clear hi432_0 hl432_0
            replace p432 := eq_true p432
            replace q432 := eq_true q432
            go_wp2_with (first | ((with_reducible refine gate_callee (f := 47) rfl ?_); refine goesL_ (some 17) rfl rfl Try.func47 (by kernel_rfl) rfl #[.slice A432_0 (rd_L2 l0 x5_1).length c432_0, .int .i64 x1_1] rfl (by (try simp only [List.map_toArray, List.map_cons, List.map_nil]); first | done | rfl | (simp only [List.length_drop, List.length_take]; rfl)) ?_; (with_reducible refine (laws_heldIntS.calls k1 _ _ (rd_L2 l0 x5_1) x1_1 t433 _ ?side1 ?side2 A5.out).mono ?_); (case side1 => repeat (first | exact HR432_0.out | (with_reducible refine Kd.C_alloc ?_ _) | (with_reducible refine Kd.C_drewN ?_ _) | (with_reducible refine Kd.C_drew ?_))); (case side2 => exact HC432_0.out); rintro e w' ⟨rfl, ⟨nd, rfl⟩⟩; refine ⟨_, rfl, ?_⟩))
            go_roundg k1
            case measure => have := HK1.out; omega
            case rel => exact ⟨(t433), (wrap64 (x5_1 + 1)), (by first | rfl | (simp; done) | (simp [*]; done)), (by first | rfl | (simp; done) | (simp [*]; done)), H', ⟨by have := HK1.out; omega⟩, by repeat (first | exact Drawn0.refl _ | apply Drawn0.step)⟩
        · rw [if_neg c4] at H
          exact absurd H (by simp)
      · rw [if_neg c3] at H
        have c3b0 : decide (x5_1 < (l0.length : Int)) = false := decide_eq_false c3
        clear c3
        obtain rfl := Option.some.inj H
        go_wp2
        go_ret
        exact ⟨by first | rfl | (simp; done) | (simp [*]; done), by repeat (first | exact Drawn0.refl _ | apply Drawn0.step)⟩

end Go.Proofs.Ytllnieknogficaa.K
namespace Go.Proofs.Ytllnieknogficaa.K
open Go.RowKit Go.Proofs.YtllnieknogficaaW.PrintWords Go.Proofs.YtllnieknogficaaW.PrintLast Go.Proofs.YtllnieknogficaaW.PrintMore
attribute [local go_sem] max2_int min2_int max_two min_two max_three min_three max_four min_four   -- for this text's walks alone
set_option linter.unusedVariables false
set_option linter.unusedSimpArgs false

/-! ### laws_toIntS: function 42 -/
def laws_toIntS.l0 : Nat → List Int → List Int → Int → Option (List Int)
  | 0, _, _, _ => none
  | k + 1, x0, x3, x4 => if x4 < (x0.length : Int) then (if 0 ≤ x4 then (if x4 < (x3.length : Int) then (laws_toIntS.l0 k x0 (x3.set (x4 : Int).toNat (rd x0 x4)) (wrap64 (x4 + 1))) else (none)) else (none)) else (some x3)
def laws_toIntS.f (k : Nat) (l0 : List Int) : Option (List Int) := if 0 ≤ (l0.length : Int) then (if ((l0.length : Int) : Int).toNat ≤ 35184372088832 then (laws_toIntS.l0 k l0 (List.replicate ((l0.length : Int) : Int).toNat 0) 0) else (none)) else (none)
theorem laws_toIntS.mono_l : ∀ k, (∀ y0 y1 y2, LeO (laws_toIntS.l0 k y0 y1 y2) (laws_toIntS.l0 (k + 1) y0 y1 y2))
  | 0 => fun _ _ _ r h => by simp [laws_toIntS.l0] at h
  | k + 1 => by
    have ih0 := laws_toIntS.mono_l k
    · intro y0 y1 y2
      unfold laws_toIntS.l0
      repeat' first
      | (with_reducible exact ih0 _ _ _)
      | (with_reducible exact LeO.refl _)
      | (with_reducible exact LeO.none _)
      | (with_reducible refine LeO.ite ?_ ?_)
      | (with_reducible refine LeO.bind ?_ (fun _ => ?_))
      | exact ih0 _ _ _
      | exact LeO.none _
      | refine LeO.ite ?_ ?_
      | refine LeO.bind ?_ (fun _ => ?_)
theorem laws_toIntS.mono : ∀ a0 k, LeO (laws_toIntS.f k a0) (laws_toIntS.f (k + 1) a0) := by
  intro a0 k
  have ih0 := laws_toIntS.mono_l k
  unfold laws_toIntS.f
  repeat' first
      | (with_reducible exact ih0 _ _ _)
      | (with_reducible exact LeO.refl _)
      | (with_reducible exact LeO.none _)
      | (with_reducible refine LeO.ite ?_ ?_)
      | (with_reducible refine LeO.bind ?_ (fun _ => ?_))
      | exact ih0 _ _ _
      | exact LeO.none _
      | refine LeO.ite ?_ ?_
      | refine LeO.bind ?_ (fun _ => ?_)
set_option maxHeartbeats 8000000 in
set_option maxRecDepth 100000 in
theorem laws_toIntS.calls (k : Nat) (A0 : Option Addr) (c0 : Nat) (l0 : List Int) (r : List Int) (w : World) (hr0 : Kd.C (Kd.int .i64) w A0 l0.length l0) (hc0 : l0.length ≤ c0) (h : laws_toIntS.f k l0 = some r) :
    Calls Try.prog 42 #[.slice A0 l0.length c0] w fun e w' => ∃ v0_ : Value, e = .returned (v0_) ∧ Kd.R (Kd.int .i64) 3 w' w.heap.size (fun _ => True) v0_ r ∧ Below w.heap.size w w' := by
  have HR0 := Aside0.mk hr0
  have HC0 := Aside0.mk hc0
  clear hr0 hc0
  have HB := Aside0.mk (Below.refl w.heap.size w)
  have H : (if 0 ≤ (l0.length : Int) then (if ((l0.length : Int) : Int).toNat ≤ 35184372088832 then (laws_toIntS.l0 k l0 (List.replicate ((l0.length : Int) : Int).toNat 0) 0) else (none)) else (none)) = some r := h
  clear h
  by_cases c2 : 0 ≤ (l0.length : Int)
  · rw [if_pos c2] at H
    have c2b0 := eq_true c2
    have c2b1 : decide (0 ≤ (l0.length : Int)) = true := decide_eq_true c2
    clear c2
    by_cases c3 : ((l0.length : Int) : Int).toNat ≤ 35184372088832
    · rw [if_pos c3] at H
      have c3b0 := eq_true c3
      have c3b1 : decide (((l0.length : Int) : Int).toNat ≤ 35184372088832) = true := decide_eq_true c3
      clear c3
      obtain ⟨y397, hy397⟩ : ∃ y_ : List Int, y_ = (List.replicate ((l0.length : Int) : Int).toNat 0) := ⟨_, rfl⟩
      replace H : (laws_toIntS.l0 k l0 y397 0) = some r := by first | (rw [hy397]; with_reducible exact H) | (have H2_ := (Option.bind_some _ _).symm.trans H; rw [hy397]; with_reducible exact H2_) | (have H2_ := (Option.bind_some _ _).symm.trans H; with_reducible exact H2_) | with_reducible exact H | (rw [hy397]; exact H) | exact H
      have Ny397 := Aside0.mk hy397
      clear hy397
      have H' := Aside0.mk H
      clear H
      go_enter Try.func42, Try.ntmps42
      go_wp2_with (first | ((with_reducible refine gate_dst (N := 7) rfl ?_); refine Kd.R_make (Kd.int .i64) _ 3 rfl (N := 7) rfl 24 _ _ rfl (l0.length : Int) rfl rfl Try.underlying24 (.int .i64 0) 8 info3 rfl (by decide) (by omega) 0 (ok := fun _ => True) (okp := fun _ => True) rfl (fun _ hk => hk) trivial (of_decide_eq_true (by first | (with_reducible assumption) | assumption)) (Nat.le_trans (Nat.mul_le_mul_right _ (of_decide_eq_true (by first | (with_reducible assumption) | assumption) : (l0.length : Int).toNat ≤ 35184372088832)) (by omega)) (Below.refl _ _) (Nat.le_refl _) ?_; intro v398 w4 ho5 hb hg_ hnew_; clear hg_ hnew_; (first | rw [← Ny397.out] at ho5 | (simp only [Int.reduceToNat] at ho5; rw [← Ny397.out] at ho5)); have n0_ := Aside0.mk (Kd.R_lower ho5 (below_size (by repeat (first | (with_reducible first | exact HB.out | apply below_alloc | apply pw_below_drewN | apply below_drew1) | exact HB.out)))); have n1_ := Aside0.mk (below_step (by repeat (first | (with_reducible first | exact HB.out | apply below_alloc | apply pw_below_drewN | apply below_drew1) | exact HB.out)) hb); clear HB; have HO399 := n0_; have HB := n1_; clear n0_ n1_; clear hb ho5))
      go_loopg [4] k (fun kq v4 w' => ∃ (x3_1 : List Int) (x4_1 : Int), v4 = .int .i64 x4_1 ∧ Aside0 (laws_toIntS.l0 kq l0 x3_1 x4_1 = some r) ∧ Aside0 (kq ≤ k) ∧ Aside0 (Kd.R (Kd.int .i64) 3 w' w.heap.size (fun _ => True) v398 x3_1) ∧ Aside0 (Below w.heap.size w w'))
      case atStart => exact ⟨(y397), (0), (by first | rfl | (simp; done) | (simp [*]; done)), H', ⟨Nat.le_refl _⟩, ⟨by (with_reducible repeat (first | apply Kd.R_alloc | apply Kd.R_drewN | apply Kd.R_drew)); exact HO399.out⟩, ⟨by repeat (first | (with_reducible first | exact HB.out | apply below_alloc | apply pw_below_drewN | apply below_drew1) | exact HB.out)⟩⟩
      case round =>
        clear H'
        try clear c2
        try clear c2b0
        try clear c2b1
        try clear p2
        try clear c3
        try clear c3b0
        try clear c3b1
        try clear c4
        obtain ⟨x3_1, x4_1, rfl, HA, HK1, HO_3, HB⟩ := hrel
        cases gk with
        | zero => exact absurd HA.out (by simp [laws_toIntS.l0])
        | succ k1 =>
          have H := HA.out
          clear HA
          simp only [laws_toIntS.l0] at H
          by_cases c6 : x4_1 < (l0.length : Int)
          · rw [if_pos c6] at H
            have c6b0 : decide (x4_1 < (l0.length : Int)) = true := decide_eq_true c6
            clear c6
            by_cases c7 : 0 ≤ x4_1
            · rw [if_pos c7] at H
              have c7b0 : decide (0 ≤ x4_1) = true := decide_eq_true c7
              clear c7
              by_cases c8 : x4_1 < (x3_1.length : Int)
              · rw [if_pos c8] at H
                have c8b0 : decide (x4_1 < (x3_1.length : Int)) = true := decide_eq_true c8
                clear c8
                obtain ⟨y401, hy401⟩ : ∃ y_ : List Int, y_ = (x3_1.set (x4_1 : Int).toNat (rd l0 x4_1)) := ⟨_, rfl⟩
                replace H : (laws_toIntS.l0 k1 l0 y401 (wrap64 (x4_1 + 1))) = some r := by first | (rw [hy401]; with_reducible exact H) | (have H2_ := (Option.bind_some _ _).symm.trans H; rw [hy401]; with_reducible exact H2_) | (have H2_ := (Option.bind_some _ _).symm.trans H; with_reducible exact H2_) | with_reducible exact H | (rw [hy401]; exact H) | exact H
                have Ny401 := Aside0.mk hy401
                clear hy401
                have H' := Aside0.mk H
                clear H
                have p400 : 0 ≤ (x4_1 : Int) := of_decide_eq_true (by first | (with_reducible assumption) | assumption)
                have q400 : x4_1 < (l0.length : Int) := of_decide_eq_true (by first | (with_reducible assumption) | assumption)
                obtain ⟨ad400, e400, hx400_0⟩ := Kd.at_int HR0.out x4_1 p400 q400
                cases e400
                replace hx400_0 := (HB.out.cell (World.block_lt_of_cell? w _ hx400_0)).trans hx400_0
                replace p400 := eq_true p400
                replace q400 := eq_true q400
                have p9 : 0 ≤ (x4_1 : Int) := of_decide_eq_true (by first | (with_reducible assumption) | assumption)
                have q9 : (x4_1 : Int) < ((x3_1.length : Int) : Int) := of_decide_eq_true (by first | (with_reducible assumption) | assumption)
                obtain ⟨go9, co9, eo9, gb9, gl9, cl9, HG9⟩ := Kd.R_form HO_3.out (by omega)
                (first | cases eo9 | (injection eo9 with ea_ en_ ec_; (first | subst ea_ | (injection ea_ with ea_; subst ea_)); subst ec_; clear en_))
                have GB9 := Aside0.mk gb9
                have GG9 := Aside0.mk HG9
                clear gb9 gl9 HG9
                obtain ⟨hx9_0, hf9_0⟩ := Kd.R_celln 0 HO_3.out (x4_1 : Int) p9 q9
                replace p9 := eq_true p9
                replace q9 := eq_true q9
                have HP10 := Kd.R_putg HO_3.out (x4_1 : Int) (rd l0 x4_1)
                go_wp2_with (first | ((with_reducible refine gate_store (t := 3) (p := 20) rfl ?_); refine store_event (t := 3) (p := 20) (v := ?vo_w11) (w1 := (wr.setCell ⟨go9, (x4_1 : Int).toNat, none⟩ (.int .i64 (rd l0 x4_1)))) ?hg ?ho ?hn ?hr ?_; (case ho => rfl); (case hg => rfl); (case hn => rfl); (case hr => first | (go_simp; done) | (go_simp; rfl)); intro w11 hw; have hg : wr.grownBy w11 (some go9) := (by rw [hw]; exact HP10.2); have hp_ : Kd.R (Kd.int .i64) 3 w11 w.heap.size (fun _ => True) (.slice (some ⟨go9, 0, none⟩) x3_1.length co9) y401 := (by rw [hw, Ny401.out]; exact HP10.1); clear HP10; have n0_ := Aside0.mk (hp_); have n1_ := Aside0.mk ((by rw [hw]; exact below_set (HB.out) GB9.out : Below w.heap.size w w11)); clear HO_3; clear HB; have HO_3 := n0_; have HB := n1_; clear n0_ n1_; clear hg hw hp_))
                go_roundg k1
                case measure => have := HK1.out; omega
                case rel => exact ⟨(y401), (wrap64 (x4_1 + 1)), (by first | rfl | (simp; done) | (simp [*]; done)), H', ⟨by have := HK1.out; omega⟩, ⟨by (with_reducible repeat (first | apply Kd.R_alloc | apply Kd.R_drewN | apply Kd.R_drew)); exact HO_3.out⟩, ⟨by repeat (first | (with_reducible first | exact HB.out | apply below_alloc | apply pw_below_drewN | apply below_drew1) | exact HB.out)⟩⟩
              · rw [if_neg c8] at H
                exact absurd H (by simp)
            · rw [if_neg c7] at H
              exact absurd H (by simp)
          · rw [if_neg c6] at H
            have c6b0 : decide (x4_1 < (l0.length : Int)) = false := decide_eq_false c6
            clear c6
            obtain rfl := Option.some.inj H
            go_wp2
            go_ret
            exact ⟨_, by first | rfl | (simp [errW_none, errW_some] <;> rfl) | (simp [*, errW_none, errW_some] <;> rfl), by (with_reducible repeat (first | apply Kd.R_alloc | apply Kd.R_drewN | apply Kd.R_drew)); exact HO_3.out, by repeat (first | (with_reducible first | exact HB.out | apply below_alloc | apply pw_below_drewN | apply below_drew1) | exact HB.out)⟩
    · rw [if_neg c3] at H
      exact absurd H (by simp)
  · rw [if_neg c2] at H
    exact absurd H (by simp)

end Go.Proofs.Ytllnieknogficaa.K
namespace Go.Proofs.Ytllnieknogficaa.K
open Go.RowKit Go.Proofs.YtllnieknogficaaW.PrintWords Go.Proofs.YtllnieknogficaaW.PrintLast Go.Proofs.YtllnieknogficaaW.PrintMore
attribute [local go_sem] max2_int min2_int max_two min_two max_three min_three max_four min_four   -- for this text's walks alone
set_option linter.unusedVariables false
set_option linter.unusedSimpArgs false

/-! ### laws_toIntSS: function 36 -/
def laws_toIntSS.l0 : Nat → List (List Int) → List (List Int) → Int → Option ((List (List Int)))
  | 0, _, _, _ => none
  | k + 1, x0, x3, x4 => if x4 < (x0.length : Int) then (if 0 ≤ x4 then ((laws_toIntS.f k (rd_L2 x0 x4)).bind fun t406 => (if x4 < (x3.length : Int) then (laws_toIntSS.l0 k x0 (x3.set (x4 : Int).toNat t406) (wrap64 (x4 + 1))) else (none))) else (none)) else (some x3)
def laws_toIntSS.f (k : Nat) (l0 : List (List Int)) : Option ((List (List Int))) := if 0 ≤ (l0.length : Int) then (if ((l0.length : Int) : Int).toNat ≤ 11728124029610 then (laws_toIntSS.l0 k l0 (List.replicate ((l0.length : Int) : Int).toNat []) 0) else (none)) else (none)
theorem laws_toIntSS.mono_l : ∀ k, (∀ y0 y1 y2, LeO (laws_toIntSS.l0 k y0 y1 y2) (laws_toIntSS.l0 (k + 1) y0 y1 y2))
  | 0 => fun _ _ _ r h => by simp [laws_toIntSS.l0] at h
  | k + 1 => by
    have ih0 := laws_toIntSS.mono_l k
    · intro y0 y1 y2
      unfold laws_toIntSS.l0
      repeat' first
      | (with_reducible exact ih0 _ _ _)
      | (with_reducible exact laws_toIntS.mono _ _)
      | (with_reducible exact LeO.refl _)
      | (with_reducible exact LeO.none _)
      | (with_reducible refine LeO.ite ?_ ?_)
      | (with_reducible refine LeO.bind ?_ (fun _ => ?_))
      | exact ih0 _ _ _
      | exact laws_toIntS.mono _ _
      | exact LeO.none _
      | refine LeO.ite ?_ ?_
      | refine LeO.bind ?_ (fun _ => ?_)
theorem laws_toIntSS.mono : ∀ a0 k, LeO (laws_toIntSS.f k a0) (laws_toIntSS.f (k + 1) a0) := by
  intro a0 k
  have ih0 := laws_toIntSS.mono_l k
  unfold laws_toIntSS.f
  repeat' first
      | (with_reducible exact ih0 _ _ _)
      | (with_reducible exact laws_toIntS.mono _ _)
      | (with_reducible exact LeO.refl _)
      | (with_reducible exact LeO.none _)
      | (with_reducible refine LeO.ite ?_ ?_)
      | (with_reducible refine LeO.bind ?_ (fun _ => ?_))
      | exact ih0 _ _ _
      | exact laws_toIntS.mono _ _
      | exact LeO.none _
      | refine LeO.ite ?_ ?_
      | refine LeO.bind ?_ (fun _ => ?_)
set_option maxHeartbeats 8000000 in
set_option maxRecDepth 100000 in
theorem laws_toIntSS.calls (k : Nat) (A0 : Option Addr) (c0 : Nat) (l0 : List (List Int)) (r : List (List Int)) (w : World) (hr0 : Kd.C (Kd.slice 3 (Kd.int .i64)) w A0 l0.length l0) (hc0 : l0.length ≤ c0) (h : laws_toIntSS.f k l0 = some r) :
    Calls Try.prog 36 #[.slice A0 l0.length c0] w fun e w' => ∃ v0_ : Value, e = .returned (v0_) ∧ Kd.S (Kd.slice 3 (Kd.int .i64)) 24 w' w.heap.size (fun _ => True) v0_ r ∧ Below w.heap.size w w' := by
  have HR0 := Aside0.mk hr0
  have HC0 := Aside0.mk hc0
  clear hr0 hc0
  have HB := Aside0.mk (Below.refl w.heap.size w)
  have H : (if 0 ≤ (l0.length : Int) then (if ((l0.length : Int) : Int).toNat ≤ 11728124029610 then (laws_toIntSS.l0 k l0 (List.replicate ((l0.length : Int) : Int).toNat []) 0) else (none)) else (none)) = some r := h
  clear h
  by_cases c2 : 0 ≤ (l0.length : Int)
  · rw [if_pos c2] at H
    have c2b0 := eq_true c2
    have c2b1 : decide (0 ≤ (l0.length : Int)) = true := decide_eq_true c2
    clear c2
    by_cases c3 : ((l0.length : Int) : Int).toNat ≤ 11728124029610
    · rw [if_pos c3] at H
      have c3b0 := eq_true c3
      have c3b1 : decide (((l0.length : Int) : Int).toNat ≤ 11728124029610) = true := decide_eq_true c3
      clear c3
      obtain ⟨y402, hy402⟩ : ∃ y_ : List (List Int), y_ = (List.replicate ((l0.length : Int) : Int).toNat []) := ⟨_, rfl⟩
      replace H : (laws_toIntSS.l0 k l0 y402 0) = some r := by first | (rw [hy402]; with_reducible exact H) | (have H2_ := (Option.bind_some _ _).symm.trans H; rw [hy402]; with_reducible exact H2_) | (have H2_ := (Option.bind_some _ _).symm.trans H; with_reducible exact H2_) | with_reducible exact H | (rw [hy402]; exact H) | exact H
      have Ny402 := Aside0.mk hy402
      clear hy402
      have H' := Aside0.mk H
      clear H
      go_enter Try.func36, Try.ntmps36
      go_wp2_with (first | ((with_reducible refine gate_dst (N := 7) rfl ?_); refine Kd.S_make (Kd.slice 3 (Kd.int .i64)) _ 24 rfl (N := 7) rfl 37 _ _ rfl (l0.length : Int) rfl rfl Try.underlying37 (.slice none 0 0) 24 info24 rfl (by decide) (by omega) [] (ok := fun _ => True) (okp := fun _ => True) ⟨_, rfl, Kd.R_nil _ _ _ _ _⟩ (fun _ hk => hk) trivial (of_decide_eq_true (by first | (with_reducible assumption) | assumption)) (Nat.le_trans (Nat.mul_le_mul_right _ (of_decide_eq_true (by first | (with_reducible assumption) | assumption) : (l0.length : Int).toNat ≤ 11728124029610)) (by omega)) (Below.refl _ _) (Nat.le_refl _) ?_; intro v403 w4 ho5 hb hg_ hnew_; clear hg_ hnew_; (first | rw [← Ny402.out] at ho5 | (simp only [Int.reduceToNat] at ho5; rw [← Ny402.out] at ho5)); have n0_ := Aside0.mk (Kd.S_lower ho5 (below_size (by repeat (first | (with_reducible first | exact HB.out | apply below_alloc | apply pw_below_drewN | apply below_drew1) | exact HB.out)))); have n1_ := Aside0.mk (below_step (by repeat (first | (with_reducible first | exact HB.out | apply below_alloc | apply pw_below_drewN | apply below_drew1) | exact HB.out)) hb); clear HB; have HO404 := n0_; have HB := n1_; clear n0_ n1_; clear hb ho5))
      go_loopg [4] k (fun kq v4 w' => ∃ (x3_1 : List (List Int)) (x4_1 : Int), v4 = .int .i64 x4_1 ∧ Aside0 (laws_toIntSS.l0 kq l0 x3_1 x4_1 = some r) ∧ Aside0 (kq ≤ k) ∧ Aside0 (Kd.S (Kd.slice 3 (Kd.int .i64)) 24 w' w.heap.size (fun _ => True) v403 x3_1) ∧ Aside0 (Below w.heap.size w w'))
      case atStart => exact ⟨(y402), (0), (by first | rfl | (simp; done) | (simp [*]; done)), H', ⟨Nat.le_refl _⟩, ⟨by (with_reducible repeat (first | apply Kd.S_alloc | apply Kd.S_drewN | apply Kd.S_drew)); exact HO404.out⟩, ⟨by repeat (first | (with_reducible first | exact HB.out | apply below_alloc | apply pw_below_drewN | apply below_drew1) | exact HB.out)⟩⟩
      case round =>
        clear H'
        try clear c2
        try clear c2b0
        try clear c2b1
        try clear p2
        try clear c3
        try clear c3b0
        try clear c3b1
        obtain ⟨x3_1, x4_1, rfl, HA, HK1, HO_3, HB⟩ := hrel
        cases gk with
        | zero => exact absurd HA.out (by simp [laws_toIntSS.l0])
        | succ k1 =>
          have H := HA.out
          clear HA
          simp only [laws_toIntSS.l0] at H
          by_cases c6 : x4_1 < (l0.length : Int)
          · rw [if_pos c6] at H
            have c6b0 : decide (x4_1 < (l0.length : Int)) = true := decide_eq_true c6
            clear c6
            by_cases c7 : 0 ≤ x4_1
            · rw [if_pos c7] at H
              have c7b0 : decide (0 ≤ x4_1) = true := decide_eq_true c7
              clear c7
              replace H := Option.bind_eq_some_iff.mp H
              obtain ⟨t406, A80, H⟩ := H
              replace H : (if x4_1 < (x3_1.length : Int) then (laws_toIntSS.l0 k1 l0 (x3_1.set (x4_1 : Int).toNat t406) (wrap64 (x4_1 + 1))) else (none)) = some r := H
              have A8 := Aside0.mk A80
              clear A80
              by_cases c9 : x4_1 < (x3_1.length : Int)
              · rw [if_pos c9] at H
                have c9b0 : decide (x4_1 < (x3_1.length : Int)) = true := decide_eq_true c9
                clear c9
                obtain ⟨y409, hy409⟩ : ∃ y_ : List (List Int), y_ = (x3_1.set (x4_1 : Int).toNat t406) := ⟨_, rfl⟩
                replace H : (laws_toIntSS.l0 k1 l0 y409 (wrap64 (x4_1 + 1))) = some r := by first | (rw [hy409]; with_reducible exact H) | (have H2_ := (Option.bind_some _ _).symm.trans H; rw [hy409]; with_reducible exact H2_) | (have H2_ := (Option.bind_some _ _).symm.trans H; with_reducible exact H2_) | with_reducible exact H | (rw [hy409]; exact H) | exact H
                have Ny409 := Aside0.mk hy409
                clear hy409
                have H' := Aside0.mk H
                clear H
                have p405 : 0 ≤ (x4_1 : Int) := of_decide_eq_true (by first | (with_reducible assumption) | assumption)
                have q405 : x4_1 < (l0.length : Int) := of_decide_eq_true (by first | (with_reducible assumption) | assumption)
                obtain ⟨ad405, A405_0, c405_0, e405, hx405_0, hl405_0, hi405_0⟩ := at_L2 HR0.out x4_1 p405 q405
                cases e405
                replace hx405_0 := (HB.out.cell (World.block_lt_of_cell? w _ hx405_0)).trans hx405_0
                have HR405_0 := Aside0.mk hi405_0
                have HC405_0 := Aside0.mk hl405_0
                clear hi405_0 hl405_0
                replace p405 := eq_true p405
                replace q405 := eq_true q405
                go_wp2_with (first | ((with_reducible refine gate_callee (f := 42) rfl ?_); refine goesL_ (some 20) rfl rfl Try.func42 (by kernel_rfl) rfl #[.slice A405_0 (rd_L2 l0 x4_1).length c405_0] rfl (by (try simp only [List.map_toArray, List.map_cons, List.map_nil]); first | done | rfl | (simp only [List.length_drop, List.length_take]; rfl)) ?_; (with_reducible refine (laws_toIntS.calls k1 _ _ (rd_L2 l0 x4_1) t406 _ ?side1 ?side2 A8.out).mono ?_); (case side1 => repeat (first | exact (Kd.C_below HR405_0.out HB.out) | (with_reducible refine Kd.C_alloc ?_ _) | (with_reducible refine Kd.C_drewN ?_ _) | (with_reducible refine Kd.C_drew ?_))); (case side2 => exact HC405_0.out); rintro e w11 ⟨v407, rfl, ho0, hb⟩; refine ⟨_, rfl, ?_⟩; have n0_ := Aside0.mk (Kd.S_elder' (by (with_reducible repeat (first | apply Kd.S_alloc | apply Kd.S_drewN | apply Kd.S_drew)); exact HO_3.out) (Kd.R_base ho0) hb); have n1_ := Aside0.mk (Kd.R_lower ho0 (below_size (by repeat (first | (with_reducible first | exact HB.out | apply below_alloc | apply pw_below_drewN | apply below_drew1) | exact HB.out)))); have n2_ := Aside0.mk (below_step (by repeat (first | (with_reducible first | exact HB.out | apply below_alloc | apply pw_below_drewN | apply below_drew1) | exact HB.out)) hb); clear HO_3; clear HB; have HO_3 := n0_; have HO408 := n1_; have HB := n2_; clear n0_ n1_ n2_; (try clear hb); (try clear hb2); (try clear hk); (try clear hi); (try clear ho0); have p10 : 0 ≤ (x4_1 : Int) := of_decide_eq_true (by first | (with_reducible assumption) | assumption); have q10 : (x4_1 : Int) < ((x3_1.length : Int) : Int) := of_decide_eq_true (by first | (with_reducible assumption) | assumption); obtain ⟨go10, co10, eo10, gb10, gl10, cl10, HG10⟩ := Kd.S_form HO_3.out (by omega); (first | cases eo10 | (injection eo10 with ea_ en_ ec_; (first | subst ea_ | (injection ea_ with ea_; subst ea_)); subst ec_; clear en_)); have GB10 := Aside0.mk gb10; have GG10 := Aside0.mk HG10; clear gb10 gl10 HG10; obtain ⟨_, ce10, hcl10, hM10, hcc10, hfr10, _, _⟩ := Kd.S_elem HO_3.out [] (x4_1 : Int) p10 q10; obtain ⟨ve10_0, rfl, ge10_0⟩ := hM10; have hx10_0 := hcc10 0 _ rfl; have hf10_0 := hfr10 0; (try simp only [show ((Kd.slice 3 (Kd.int .i64))).sz = 1 from rfl, Nat.mul_one, Nat.add_zero] at hx10_0); (try simp only [show ((Kd.slice 3 (Kd.int .i64))).sz = 1 from rfl, Nat.mul_one, Nat.add_zero] at hf10_0); (try clear hcl10); (try clear hcc10); (try clear hfr10); (try clear hM10); replace p10 := eq_true p10; replace q10 := eq_true q10; have n_ := Aside0.mk (Kd.S_mono (ok' := (fun k_ => some k_ ≠ (v407 : Value).ownBlock)) HO_3.out (fun k_ hk => hk.2)); clear HO_3; have HO_3 := n_; clear n_; have HX12 := Aside0.mk (show Kd.S (Kd.slice 3 (Kd.int .i64)) 24 w11 w.heap.size (fun k_ => ((fun _ => True)) k_ ∧ ¬ ((fun k_ => some k_ = (v407 : Value).ownBlock)) k_) (.slice (some ⟨go10, 0, none⟩) x3_1.length co10) x3_1 from (by (with_reducible repeat (first | apply Kd.S_alloc | apply Kd.S_drewN | apply Kd.S_drew)); exact Kd.S_mono HO_3.out (fun k_ hk => ⟨trivial, fun e_ => hk e_⟩))); obtain ⟨oki12, ce12, hcl12, hM12, hcc12, hfr12, hoki12, hH12⟩ := Kd.S_elem HX12.out [] (x4_1 : Int) (of_decide_eq_true (by first | (with_reducible assumption) | assumption)) (by have h_ : (x4_1 : Int) < ((x3_1.length : Int) : Int) := of_decide_eq_true (by first | (with_reducible assumption) | assumption); first | exact h_ | (have e_ := (Kd.S_reads' HO_3.out).1; omega) | simpa using h_); obtain ⟨ve12_0, rfl, ge12_0⟩ := hM12; have HP12 := Kd.S_seg hH12 (of_decide_eq_true (by first | (with_reducible assumption) | assumption)) (by have h_ : (x4_1 : Int) < ((x3_1.length : Int) : Int) := of_decide_eq_true (by first | (with_reducible assumption) | assumption); first | exact h_ | (have e_ := (Kd.S_reads' HO_3.out).1; omega) | simpa using h_) (seg := [v407]) (j := 0) (show 1 ≤ 1 from by decide) (x' := t406) (Kd.M_row (Kd.R_mono (Kd.R_tight rfl (Kd.R_mono (ok' := fun k_ => ((fun _ => True)) k_ ∧ k_ ≠ go10) (Kd.R_apart' (HO408.out) (Kd.S_typed HO_3.out) (by decide)) (fun k_ hk => ⟨trivial, fun e_ => (hk.2) (by rw [e_]; rfl)⟩))) (fun _ h_ => Or.inr (h_)))) (fun _ hk => hk) (fun k_ hk_ => ((Kd.R_mono (ok' := fun k_ => ((fun _ => True)) k_ ∧ k_ ≠ go10) (Kd.R_apart' (HO408.out) (Kd.S_typed HO_3.out) (by decide)) (fun k_ hk => ⟨trivial, fun e_ => (hk.2) (by rw [e_]; rfl)⟩))).1 k_ hk_.symm); have hx12_0 := hcc12 0 _ rfl; (try simp only [show ((Kd.slice 3 (Kd.int .i64))).sz = 1 from rfl, Nat.mul_one, Nat.add_zero] at hx12_0); have hf12_0 := hfr12 0; (try simp only [show ((Kd.slice 3 (Kd.int .i64))).sz = 1 from rfl, Nat.mul_one, Nat.add_zero] at hf12_0); (try clear hcl12); (try clear hcc12); (try clear hfr12); (try clear hM12); (try clear hoki12); (try clear hH12); (try simp only [show ((Kd.slice 3 (Kd.int .i64))).sz = 1 from rfl, Nat.mul_one, Nat.add_zero] at HP12)) | ((with_reducible refine gate_store (t := 24) (p := 21) rfl ?_); refine store_event (t := 24) (p := 21) (v := ?vo_w13) (w1 := (w11.setCell ⟨go10, (x4_1 : Int).toNat, none⟩ (v407))) ?hg ?ho ?hn ?hr ?_; (case ho => rfl); (case hg => rfl); (case hn => rfl); (case hr => obtain ⟨A_, c_, e_, _, _⟩ := Kd.R_reads HO408.out; rw [e_]; (first | (go_simp; done) | (go_simp; rfl))); intro w13 hw; have hg : w11.grownBy w13 (some go10) := (by rw [hw]; exact HP12.2); have hp_ : Kd.S (Kd.slice 3 (Kd.int .i64)) 24 w13 w.heap.size (fun _ => True) (.slice (some ⟨go10, 0, none⟩) x3_1.length co10) y409 := (by rw [hw, Ny409.out]; exact HP12.1); clear HP12; have n0_ := Aside0.mk (hp_); have n1_ := Aside0.mk ((by rw [hw]; exact below_set (HB.out) GB10.out : Below w.heap.size w w13)); clear HO_3; clear HB; clear HO408; have HO_3 := n0_; have HB := n1_; clear n0_ n1_; clear hg hw hp_))
                go_roundg k1
                case measure => have := HK1.out; omega
                case rel => exact ⟨(y409), (wrap64 (x4_1 + 1)), (by first | rfl | (simp; done) | (simp [*]; done)), H', ⟨by have := HK1.out; omega⟩, ⟨by (with_reducible repeat (first | apply Kd.S_alloc | apply Kd.S_drewN | apply Kd.S_drew)); exact HO_3.out⟩, ⟨by repeat (first | (with_reducible first | exact HB.out | apply below_alloc | apply pw_below_drewN | apply below_drew1) | exact HB.out)⟩⟩
              · rw [if_neg c9] at H
                exact absurd H (by simp)
            · rw [if_neg c7] at H
              exact absurd H (by simp)
          · rw [if_neg c6] at H
            have c6b0 : decide (x4_1 < (l0.length : Int)) = false := decide_eq_false c6
            clear c6
            obtain rfl := Option.some.inj H
            go_wp2
            go_ret
            exact ⟨_, by first | rfl | (simp [errW_none, errW_some] <;> rfl) | (simp [*, errW_none, errW_some] <;> rfl), by (with_reducible repeat (first | apply Kd.S_alloc | apply Kd.S_drewN | apply Kd.S_drew)); exact HO_3.out, by repeat (first | (with_reducible first | exact HB.out | apply below_alloc | apply pw_below_drewN | apply below_drew1) | exact HB.out)⟩
    · rw [if_neg c3] at H
      exact absurd H (by simp)
  · rw [if_neg c2] at H
    exact absurd H (by simp)

end Go.Proofs.Ytllnieknogficaa.K
namespace Go.Proofs.Ytllnieknogficaa.K
open Go.RowKit Go.Proofs.YtllnieknogficaaW.PrintWords Go.Proofs.YtllnieknogficaaW.PrintLast Go.Proofs.YtllnieknogficaaW.PrintMore
attribute [local go_sem] max2_int min2_int max_two min_two max_three min_three max_four min_four   -- for this text's walks alone
set_option linter.unusedVariables false
set_option linter.unusedSimpArgs false

/-! ### laws_szIntS: function 124 -/
def laws_szIntS.f (l0 : List Int) (a1 : Int) : Option (Int) := if (wrap64 (a1 - (l0.length : Int))) < 0 then (some (-1)) else (some (wrap64 (a1 - (l0.length : Int))))
set_option maxHeartbeats 8000000 in
set_option maxRecDepth 100000 in
theorem laws_szIntS.calls (A0 : Option Addr) (c0 : Nat) (l0 : List Int) (a1 : Int) (r : Int) (w : World) (hr0 : Kd.C (Kd.int .i64) w A0 l0.length l0) (hc0 : l0.length ≤ c0) (h : laws_szIntS.f l0 a1 = some r) :
    Calls Try.prog 124 #[.slice A0 l0.length c0, .int .i64 a1] w fun e w' => e = .returned (.int .i64 r) ∧ Drawn0 w w' := by
  have HR0 := Aside0.mk hr0
  have HC0 := Aside0.mk hc0
  clear hr0 hc0
  have H : (if (wrap64 (a1 - (l0.length : Int))) < 0 then (some (-1)) else (some (wrap64 (a1 - (l0.length : Int))))) = some r := h
  clear h
  by_cases c3 : (wrap64 (a1 - (l0.length : Int))) < 0
  · rw [if_pos c3] at H
    have c3b0 : decide ((wrap64 (a1 - (l0.length : Int))) < 0) = true := decide_eq_true c3
    clear c3
    obtain rfl := Option.some.inj H
    go_enter Try.func124, Try.ntmps124
    go_wp2
    go_ret
    exact ⟨by first | rfl | (simp; done) | (simp [*]; done), by repeat (first | exact Drawn0.refl _ | apply Drawn0.step)⟩
  · rw [if_neg c3] at H
    have c3b0 : decide ((wrap64 (a1 - (l0.length : Int))) < 0) = false := decide_eq_false c3
    clear c3
    obtain rfl := Option.some.inj H
    go_enter Try.func124, Try.ntmps124
    go_wp2
    go_ret
    exact ⟨by first | rfl | (simp; done) | (simp [*]; done), by repeat (first | exact Drawn0.refl _ | apply Drawn0.step)⟩

end Go.Proofs.Ytllnieknogficaa.K
namespace Go.Proofs.Ytllnieknogficaa.K
open Go.RowKit Go.Proofs.YtllnieknogficaaW.PrintWords Go.Proofs.YtllnieknogficaaW.PrintLast Go.Proofs.YtllnieknogficaaW.PrintMore
attribute [local go_sem] max2_int min2_int max_two min_two max_three min_three max_four min_four   -- for this text's walks alone
set_option linter.unusedVariables false
set_option linter.unusedSimpArgs false

/-! ### laws_szIntSS: function 34 -/
def laws_szIntSS.l0 : Nat → List (List Int) → Int → Int → Option (Int)
  | 0, _, _, _ => none
  | k + 1, x0, x1, x5 => if x5 < (x0.length : Int) then (if 0 ≤ x5 then ((laws_szIntS.f (rd_L2 x0 x5) x1).bind fun t381 => (if t381 < 0 then (some (-1)) else (laws_szIntSS.l0 k x0 t381 (wrap64 (x5 + 1))))) else (none)) else (some x1)
def laws_szIntSS.f (k : Nat) (l0 : List (List Int)) (a1 : Int) : Option (Int) := if (wrap64 (a1 - (l0.length : Int))) < 0 then (some (-1)) else (laws_szIntSS.l0 k l0 (wrap64 (a1 - (l0.length : Int))) 0)
theorem laws_szIntSS.mono_l : ∀ k, (∀ y0 y1 y2, LeO (laws_szIntSS.l0 k y0 y1 y2) (laws_szIntSS.l0 (k + 1) y0 y1 y2))
  | 0 => fun _ _ _ r h => by simp [laws_szIntSS.l0] at h
  | k + 1 => by
    have ih0 := laws_szIntSS.mono_l k
    · intro y0 y1 y2
      unfold laws_szIntSS.l0
      repeat' first
      | (with_reducible exact ih0 _ _ _)
      | (with_reducible exact LeO.refl _)
      | (with_reducible exact LeO.none _)
      | (with_reducible refine LeO.ite ?_ ?_)
      | (with_reducible refine LeO.bind ?_ (fun _ => ?_))
      | exact ih0 _ _ _
      | exact LeO.none _
      | refine LeO.ite ?_ ?_
      | refine LeO.bind ?_ (fun _ => ?_)
theorem laws_szIntSS.mono : ∀ a0 a1 k, LeO (laws_szIntSS.f k a0 a1) (laws_szIntSS.f (k + 1) a0 a1) := by
  intro a0 a1 k
  have ih0 := laws_szIntSS.mono_l k
  unfold laws_szIntSS.f
  repeat' first
      | (with_reducible exact ih0 _ _ _)
      | (with_reducible exact LeO.refl _)
      | (with_reducible exact LeO.none _)
      | (with_reducible refine LeO.ite ?_ ?_)
      | (with_reducible refine LeO.bind ?_ (fun _ => ?_))
      | exact ih0 _ _ _
      | exact LeO.none _
      | refine LeO.ite ?_ ?_
      | refine LeO.bind ?_ (fun _ => ?_)
set_option maxHeartbeats 8000000 in
set_option maxRecDepth 100000 in
theorem laws_szIntSS.calls (k : Nat) (A0 : Option Addr) (c0 : Nat) (l0 : List (List Int)) (a1 : Int) (r : Int) (w : World) (hr0 : Kd.C (Kd.slice 3 (Kd.int .i64)) w A0 l0.length l0) (hc0 : l0.length ≤ c0) (h : laws_szIntSS.f k l0 a1 = some r) :
    Calls Try.prog 34 #[.slice A0 l0.length c0, .int .i64 a1] w fun e w' => e = .returned (.int .i64 r) ∧ Drawn0 w w' := by
  have HR0 := Aside0.mk hr0
  have HC0 := Aside0.mk hc0
  clear hr0 hc0
  have H : (if (wrap64 (a1 - (l0.length : Int))) < 0 then (some (-1)) else (laws_szIntSS.l0 k l0 (wrap64 (a1 - (l0.length : Int))) 0)) = some r := h
  clear h
  by_cases c3 : (wrap64 (a1 - (l0.length : Int))) < 0
  · rw [if_pos c3] at H
    have c3b0 : decide ((wrap64 (a1 - (l0.length : Int))) < 0) = true := decide_eq_true c3
    clear c3
    obtain rfl := Option.some.inj H
    go_enter Try.func34, Try.ntmps34
    go_wp2
    go_ret
    exact ⟨by first | rfl | (simp; done) | (simp [*]; done), by repeat (first | exact Drawn0.refl _ | apply Drawn0.step)⟩
  · rw [if_neg c3] at H
    have c3b0 : decide ((wrap64 (a1 - (l0.length : Int))) < 0) = false := decide_eq_false c3
    clear c3
    have H' := Aside0.mk H
    clear H
    go_enter Try.func34, Try.ntmps34
    go_wp2
    go_loopg [1, 5] k (fun kq v1 v5 w' => ∃ (x1_1 : Int) (x5_1 : Int), v1 = .int .i64 x1_1 ∧ v5 = .int .i64 x5_1 ∧ Aside0 (laws_szIntSS.l0 kq l0 x1_1 x5_1 = some r) ∧ Aside0 (kq ≤ k) ∧ Drawn0 w w')
    case atStart => exact ⟨(wrap64 (a1 - (l0.length : Int))), (0), (by first | rfl | (simp; done) | (simp [*]; done)), (by first | rfl | (simp; done) | (simp [*]; done)), H', ⟨Nat.le_refl _⟩, by repeat (first | exact Drawn0.refl _ | apply Drawn0.step)⟩
    case round =>
      clear H'
      try clear p2
      try clear c3
      try clear c3b0
      obtain ⟨x1_1, x5_1, rfl, rfl, HA, HK1, ⟨m1, rfl⟩⟩ := hrel
      cases gk with
      | zero => exact absurd HA.out (by simp [laws_szIntSS.l0])
      | succ k1 =>
        have H := HA.out
        clear HA
        simp only [laws_szIntSS.l0] at H
        by_cases c4 : x5_1 < (l0.length : Int)
        · rw [if_pos c4] at H
          have c4b0 : decide (x5_1 < (l0.length : Int)) = true := decide_eq_true c4
          clear c4
          by_cases c5 : 0 ≤ x5_1
          · rw [if_pos c5] at H
            have c5b0 : decide (0 ≤ x5_1) = true := decide_eq_true c5
            clear c5
            replace H := Option.bind_eq_some_iff.mp H
            obtain ⟨t381, A60, H⟩ := H
            replace H : (if t381 < 0 then (some (-1)) else (laws_szIntSS.l0 k1 l0 t381 (wrap64 (x5_1 + 1)))) = some r := H
            have A6 := Aside0.mk A60
            clear A60
            by_cases c7 : t381 < 0
            · rw [if_pos c7] at H
              have c7b0 : decide (t381 < 0) = true := decide_eq_true c7
              clear c7
              obtain rfl := Option.some.inj H
              have p380 : 0 ≤ (x5_1 : Int) := of_decide_eq_true (by first | (with_reducible assumption) | assumption)
              have q380 : x5_1 < (l0.length : Int) := of_decide_eq_true (by first | (with_reducible assumption) | assumption)
              obtain ⟨ad380, A380_0, c380_0, e380, hx380_0, hl380_0, hi380_0⟩ := at_L2 HR0.out x5_1 p380 q380
              cases e380
              have HR380_0 := Aside0.mk hi380_0
              have HC380_0 := Aside0.mk hl380_0
              clear hi380_0 hl380_0
              replace p380 := eq_true p380
              replace q380 := eq_true q380
              go_wp2_with (first | ((with_reducible refine gate_callee (f := 124) rfl ?_); refine goesL_ (some 23) rfl rfl Try.func124 (by kernel_rfl) rfl #[.slice A380_0 (rd_L2 l0 x5_1).length c380_0, .int .i64 x1_1] rfl (by (try simp only [List.map_toArray, List.map_cons, List.map_nil]); first | done | rfl | (simp only [List.length_drop, List.length_take]; rfl)) ?_; (with_reducible refine (laws_szIntS.calls _ _ (rd_L2 l0 x5_1) x1_1 t381 _ ?side1 ?side2 A6.out).mono ?_); (case side1 => repeat (first | exact HR380_0.out | (with_reducible refine Kd.C_alloc ?_ _) | (with_reducible refine Kd.C_drewN ?_ _) | (with_reducible refine Kd.C_drew ?_))); (case side2 => exact HC380_0.out); rintro e w' ⟨rfl, ⟨nd, rfl⟩⟩; refine ⟨_, rfl, ?_⟩))
              go_ret
              exact ⟨by first | rfl | (simp; done) | (simp [*]; done), by repeat (first | exact Drawn0.refl _ | apply Drawn0.step)⟩
            · rw [if_neg c7] at H
              have c7b0 : decide (t381 < 0) = false := decide_eq_false c7
              clear c7
              have H' := Aside0.mk H
              clear H
              have p380 : 0 ≤ (x5_1 : Int) := of_decide_eq_true (by first | (with_reducible assumption) | assumption)
              have q380 : x5_1 < (l0.length : Int) := of_decide_eq_true (by first | (with_reducible assumption) | assumption)
              obtain ⟨ad380, A380_0, c380_0, e380, hx380_0, hl380_0, hi380_0⟩ := at_L2 HR0.out x5_1 p380 q380
              cases e380
              have HR380_0 := Aside0.mk hi380_0
              have HC380_0 := Aside0.mk hl380_0
              clear hi380_0 hl380_0
              replace p380 := eq_true p380
              replace q380 := eq_true q380
              go_wp2_with (first | ((with_reducible refine gate_callee (f := 124) rfl ?_); refine goesL_ (some 23) rfl rfl Try.func124 (by kernel_rfl) rfl #[.slice A380_0 (rd_L2 l0 x5_1).length c380_0, .int .i64 x1_1] rfl (by (try simp only [List.map_toArray, List.map_cons, List.map_nil]); first | done | rfl | (simp only [List.length_drop, List.length_take]; rfl)) ?_; (with_reducible refine (laws_szIntS.calls _ _ (rd_L2 l0 x5_1) x1_1 t381 _ ?side1 ?side2 A6.out).mono ?_); (case side1 => repeat (first | exact HR380_0.out | (with_reducible refine Kd.C_alloc ?_ _) | (with_reducible refine Kd.C_drewN ?_ _) | (with_reducible refine Kd.C_drew ?_))); (case side2 => exact HC380_0.out); rintro e w' ⟨rfl, ⟨nd, rfl⟩⟩; refine ⟨_, rfl, ?_⟩))
              go_roundg k1
              case measure => have := HK1.out; omega
              case rel => exact ⟨(t381), (wrap64 (x5_1 + 1)), (by first | rfl | (simp; done) | (simp [*]; done)), (by first | rfl | (simp; done) | (simp [*]; done)), H', ⟨by have := HK1.out; omega⟩, by repeat (first | exact Drawn0.refl _ | apply Drawn0.step)⟩
          · rw [if_neg c5] at H
            exact absurd H (by simp)
        · rw [if_neg c4] at H
          have c4b0 : decide (x5_1 < (l0.length : Int)) = false := decide_eq_false c4
          clear c4
          obtain rfl := Option.some.inj H
          go_wp2
          go_ret
          exact ⟨by first | rfl | (simp; done) | (simp [*]; done), by repeat (first | exact Drawn0.refl _ | apply Drawn0.step)⟩

end Go.Proofs.Ytllnieknogficaa.K
namespace Go.Proofs.Ytllnieknogficaa.K
open Go.RowKit Go.Proofs.YtllnieknogficaaW.PrintWords Go.Proofs.YtllnieknogficaaW.PrintLast Go.Proofs.YtllnieknogficaaW.PrintMore
attribute [local go_sem] max2_int min2_int max_two min_two max_three min_three max_four min_four   -- for this text's walks alone
set_option linter.unusedVariables false
set_option linter.unusedSimpArgs false
/-! ### copies -/
theorem toIntS_l0 (l : List Int) (hl : l.length ≤ 4611686018427387904) : ∀ d (i : Nat) (x : List Int), i ≤ l.length → l.length - i = d → x.length = l.length → x.take i = l.take i → Ev (fun k => laws_toIntS.l0 k l x (i : Int)) l := by
  intro d
  induction d with
  | zero =>
    intro i x hi hd hx ht
    have : i = l.length := by omega
    subst this
    refine ev_succ ?_
    simp only [laws_toIntS.l0, if_neg (Int.lt_irrefl _)]
    refine ev_now _ _ ?_
    rw [List.take_of_length_le (by omega), List.take_length] at ht
    exact ht
  | succ d ih =>
    intro i x hi hd hx ht
    have hlt : i < l.length := by omega
    have h1 : (i : Int) < (l.length : Int) := by omega
    have h2 : (0 : Int) ≤ (i : Int) := by omega
    have h3 : (i : Int) < (x.length : Int) := by omega
    refine ev_succ ?_
    simp only [laws_toIntS.l0, if_pos h1, if_pos h2, if_pos h3, wrap64_nat_succ (show i < 9223372036854775807 by omega), Int.toNat_natCast, rd_nat l i hlt]
    refine ih (i + 1) _ (by omega) (by omega) (by simpa using hx) ?_
    rw [List.take_succ_eq_append_getElem (by simpa [hx] using hlt), List.take_succ_eq_append_getElem hlt, List.take_set_of_le (Nat.le_refl _), ht, List.getElem_set_self]
theorem toIntS_ev (l : List Int) (hl : l.length ≤ 1099511627776) : Ev (fun k => laws_toIntS.f k l) l := by
  unfold laws_toIntS.f
  have h1 : (0 : Int) ≤ (l.length : Int) := by omega
  have h2 : l.length ≤ 35184372088832 := by omega
  simp only [if_pos h1, if_pos h2, Int.toNat_natCast]
  exact toIntS_l0 l (by omega) l.length 0 (List.replicate l.length 0) (by omega) (by omega) (by simp) (by simp)
theorem toIntSS_l0 (l : List (List Int)) (hl : l.length ≤ 4611686018427387904) (hr : ∀ r ∈ l, r.length ≤ 1099511627776) : ∀ d (i : Nat) (x : List (List Int)), i ≤ l.length → l.length - i = d → x.length = l.length → x.take i = l.take i → Ev (fun k => laws_toIntSS.l0 k l x (i : Int)) l := by
  intro d
  induction d with
  | zero =>
    intro i x hi hd hx ht
    have : i = l.length := by omega
    subst this
    refine ev_succ ?_
    simp only [laws_toIntSS.l0, if_neg (Int.lt_irrefl _)]
    refine ev_now _ _ ?_
    rw [List.take_of_length_le (by omega), List.take_length] at ht
    exact ht
  | succ d ih =>
    intro i x hi hd hx ht
    have hlt : i < l.length := by omega
    have h1 : (i : Int) < (l.length : Int) := by omega
    have h2 : (0 : Int) ≤ (i : Int) := by omega
    have h3 : (i : Int) < (x.length : Int) := by omega
    refine ev_succ ?_
    simp only [laws_toIntSS.l0, if_pos h1, if_pos h2, if_pos h3, wrap64_nat_succ (show i < 9223372036854775807 by omega), Int.toNat_natCast, rdL_nat l i hlt]
    refine Ev.bind (toIntS_ev l[i] (hr _ (List.getElem_mem hlt))) ?_
    refine ih (i + 1) _ (by omega) (by omega) (by simpa using hx) ?_
    rw [List.take_succ_eq_append_getElem (by simpa [hx] using hlt), List.take_succ_eq_append_getElem hlt, List.take_set_of_le (Nat.le_refl _), ht, List.getElem_set_self]
theorem toIntSS_ev (l : List (List Int)) (hl : l.length ≤ 1099511627776) (hr : ∀ r ∈ l, r.length ≤ 1099511627776) : Ev (fun k => laws_toIntSS.f k l) l := by
  unfold laws_toIntSS.f
  have h1 : (0 : Int) ≤ (l.length : Int) := by omega
  have h2 : l.length ≤ 11728124029610 := by omega
  simp only [if_pos h1, if_pos h2, Int.toNat_natCast]
  exact toIntSS_l0 l (by omega) hr l.length 0 (List.replicate l.length []) (by omega) (by omega) (by simp) (by simp)
/-! ### equality -/
theorem eqIntS_l0 (l : List Int) (hl : l.length ≤ 4611686018427387904) : ∀ d (i : Nat), i ≤ l.length → l.length - i = d → Ev (fun k => laws_eqIntS.l0 k l l (i : Int)) true := by
  intro d
  induction d with
  | zero =>
    intro i hi hd
    have : i = l.length := by omega
    subst this
    refine ev_succ ?_
    simp only [laws_eqIntS.l0, if_neg (Int.lt_irrefl _)]
    exact ev_now _ _ rfl
  | succ d ih =>
    intro i hi hd
    have h1 : (i : Int) < (l.length : Int) := by omega
    have h2 : (0 : Int) ≤ (i : Int) := by omega
    refine ev_succ ?_
    simp only [laws_eqIntS.l0, if_pos h1, if_pos h2, if_true, wrap64_nat_succ (show i < 9223372036854775807 by omega)]
    exact ih (i + 1) (by omega) (by omega)
theorem eqIntS_ev (l : List Int) (hl : l.length ≤ 1099511627776) : Ev (fun k => laws_eqIntS.f k l l) true := by
  unfold laws_eqIntS.f
  simp only [if_true]
  exact eqIntS_l0 l (by omega) l.length 0 (by omega) (by omega)
theorem eqIntSS_l0 (l : List (List Int)) (hl : l.length ≤ 4611686018427387904) (hr : ∀ r ∈ l, r.length ≤ 1099511627776) : ∀ d (i : Nat), i ≤ l.length → l.length - i = d → Ev (fun k => laws_eqIntSS.l0 k l l (i : Int)) true := by
  intro d
  induction d with
  | zero =>
    intro i hi hd
    have : i = l.length := by omega
    subst this
    refine ev_succ ?_
    simp only [laws_eqIntSS.l0, if_neg (Int.lt_irrefl _)]
    exact ev_now _ _ rfl
  | succ d ih =>
    intro i hi hd
    have hlt : i < l.length := by omega
    have h1 : (i : Int) < (l.length : Int) := by omega
    have h2 : (0 : Int) ≤ (i : Int) := by omega
    refine ev_succ ?_
    simp only [laws_eqIntSS.l0, if_pos h1, if_pos h2, rdL_nat l i hlt, wrap64_nat_succ (show i < 9223372036854775807 by omega)]
    refine Ev.bind (eqIntS_ev l[i] (hr _ (List.getElem_mem hlt))) ?_
    simp only [if_true]
    exact ih (i + 1) (by omega) (by omega)
theorem eqIntSS_ev (l : List (List Int)) (hl : l.length ≤ 1099511627776) (hr : ∀ r ∈ l, r.length ≤ 1099511627776) : Ev (fun k => laws_eqIntSS.f k l l) true := by
  unfold laws_eqIntSS.f
  simp only [if_true]
  exact eqIntSS_l0 l (by omega) hr l.length 0 (by omega) (by omega)
/-! ### marks that are held -/
theorem heldIntS_l0 (a : Int) (n : Nat) (h0 : 0 ≤ a) (hl : a + (n : Int) ≤ 4611686018427387904) : ∀ d (i : Nat), i ≤ n → n - i = d → Ev (fun k => laws_heldIntS.l0 k (laws_markIntSS.row a n) (a + (i : Int)) (i : Int)) (a + (n : Int)) := by
  intro d
  induction d with
  | zero =>
    intro i hi hd
    have : i = n := by omega
    subst this
    refine ev_succ ?_
    simp only [laws_heldIntS.l0, laws_markIntSS.row_length, if_neg (Int.lt_irrefl _)]
    exact ev_now _ _ rfl
  | succ d ih =>
    intro i hi hd
    have h1 : (i : Int) < ((laws_markIntSS.row a n).length : Int) := by rw [laws_markIntSS.row_length]; omega
    have h2 : (0 : Int) ≤ (i : Int) := by omega
    have h3 : rd (laws_markIntSS.row a n) (i : Int) = a + (i : Int) := by rw [rd_nat _ i (by rw [laws_markIntSS.row_length]; omega)]; simp [laws_markIntSS.row]
    have h4 : wrap64 (a + (i : Int) + 1) = a + ((i + 1 : Nat) : Int) := by unfold wrap64; omega
    refine ev_succ ?_
    simp only [laws_heldIntS.l0, if_pos h1, if_pos h2, if_pos h3, h4, wrap64_nat_succ (show i < 9223372036854775807 by omega)]
    exact ih (i + 1) (by omega) (by omega)
theorem heldIntS_ev (a : Int) (n : Nat) (h0 : 0 ≤ a) (hl : a + (n : Int) ≤ 4611686018427387904) : Ev (fun k => laws_heldIntS.f k (laws_markIntSS.row a n) a) (a + (n : Int)) := by
  unfold laws_heldIntS.f
  have := heldIntS_l0 a n h0 hl n 0 (by omega) (by omega)
  simpa using this
theorem rows_at (a : Int) (l : List (List Int)) (i : Nat) (h : i < l.length) : (laws_markIntSS.rows a l)[i]'(by rw [laws_markIntSS.rows_length]; exact h) = laws_markIntSS.row (a + (laws_markIntSS.tot (l.take i) : Int)) l[i].length := by
  induction l generalizing a i with
  | nil => simp at h
  | cons r t ih =>
    cases i with
    | zero => simp [laws_markIntSS.rows, laws_markIntSS.tot]
    | succ i =>
      have h' : i < t.length := by simpa using h
      have := ih (a + (r.length : Int)) i h'
      simp only [laws_markIntSS.rows, List.getElem_cons_succ, List.take_succ_cons, laws_markIntSS.tot]
      rw [this]
      congr 1
      push_cast
      omega
theorem heldIntSS_l0 (a : Int) (l : List (List Int)) (h0 : 0 ≤ a) (hl : a + (laws_markIntSS.tot l : Int) ≤ 4611686018427387904) (hn : l.length ≤ 4611686018427387904) : ∀ d (i : Nat), i ≤ l.length → l.length - i = d →
    Ev (fun k => laws_heldIntSS.l0 k (laws_markIntSS.rows a l) (a + (laws_markIntSS.tot (l.take i) : Int)) (i : Int)) (a + (laws_markIntSS.tot l : Int)) := by
  intro d
  induction d with
  | zero =>
    intro i hi hd
    have : i = l.length := by omega
    subst this
    refine ev_succ ?_
    simp only [laws_heldIntSS.l0, laws_markIntSS.rows_length, if_neg (Int.lt_irrefl _), List.take_length]
    exact ev_now _ _ rfl
  | succ d ih =>
    intro i hi hd
    have hlt : i < l.length := by omega
    have h1 : (i : Int) < ((laws_markIntSS.rows a l).length : Int) := by rw [laws_markIntSS.rows_length]; omega
    have h2 : (0 : Int) ≤ (i : Int) := by omega
    have ht := laws_markIntSS.tot_take l i hlt
    have hle := laws_markIntSS.tot_le l (i + 1)
    have h3 : rd_L2 (laws_markIntSS.rows a l) (i : Int) = laws_markIntSS.row (a + (laws_markIntSS.tot (l.take i) : Int)) l[i].length := by rw [rdL_nat _ i (by rw [laws_markIntSS.rows_length]; exact hlt), rows_at a l i hlt]
    refine ev_succ ?_
    simp only [laws_heldIntSS.l0, if_pos h1, if_pos h2, h3, wrap64_nat_succ (show i < 9223372036854775807 by omega)]
    refine Ev.bind (heldIntS_ev _ _ (by omega) (by omega)) ?_
    have h5 : ¬ (a + (laws_markIntSS.tot (l.take i) : Int) + (l[i].length : Int) < 0) := by omega
    have h6 : a + (laws_markIntSS.tot (l.take i) : Int) + (l[i].length : Int) = a + (laws_markIntSS.tot (l.take (i + 1)) : Int) := by rw [ht]; push_cast; omega
    simp only [if_neg h5]
    rw [h6]
    exact ih (i + 1) (by omega) (by omega)
theorem heldIntSS_ev (a : Int) (l : List (List Int)) (h0 : 0 ≤ a) (hl : a + (laws_markIntSS.tot l : Int) ≤ 4611686018427387904) (hn : l.length ≤ 4611686018427387904) : Ev (fun k => laws_heldIntSS.f k (laws_markIntSS.rows a l) a) (a + (laws_markIntSS.tot l : Int)) := by
  unfold laws_heldIntSS.f
  have := heldIntSS_l0 a l h0 hl hn l.length 0 (by omega) (by omega)
  simpa [laws_markIntSS.tot] using this
/-! ### sizes -/
theorem szIntS_eq (l : List Int) (a : Int) (ha : -1 ≤ a) (ha2 : a ≤ 1048576) (hl : l.length ≤ 9223372036854775807) : laws_szIntS.f l a = some (if a - (l.length : Int) < 0 then -1 else a - (l.length : Int)) := by
  unfold laws_szIntS.f
  rw [wrap64_id (by omega) (by omega)]
  split <;> rfl
/-- It comes to something; if that is not negative, there is little. -/
theorem szIntSS_l0 (l : List (List Int)) (hl : l.length ≤ 9223372036854775807) (hr : ∀ r ∈ l, r.length ≤ 9223372036854775807) : ∀ d (i : Nat) (a : Int), i ≤ l.length → l.length - i = d → 0 ≤ a → a ≤ 1048576 →
    ∃ r, Ev (fun k => laws_szIntSS.l0 k l a (i : Int)) r ∧ (0 ≤ r → (laws_markIntSS.tot (l.drop i) : Int) ≤ a) ∧ (¬ 0 ≤ r → r = -1) := by
  intro d
  induction d with
  | zero =>
    intro i a hi hd h0 ha
    have : i = l.length := by omega
    subst this
    refine ⟨a, ev_succ ?_, fun _ => ?_, fun h => absurd h0 h⟩
    · simp only [laws_szIntSS.l0, if_neg (Int.lt_irrefl _)]
      exact ev_now _ _ rfl
    · rw [List.drop_length]; simpa [laws_markIntSS.tot] using h0
  | succ d ih =>
    intro i a hi hd h0 ha
    have hlt : i < l.length := by omega
    have h1 : (i : Int) < (l.length : Int) := by omega
    have h2 : (0 : Int) ≤ (i : Int) := by omega
    have hs := szIntS_eq l[i] a (by omega) ha (hr _ (List.getElem_mem hlt))
    by_cases hc : a - (l[i].length : Int) < 0
    · refine ⟨-1, ev_succ ?_, fun h => by omega, fun _ => rfl⟩
      simp only [laws_szIntSS.l0, if_pos h1, if_pos h2, rdL_nat l i hlt, hs, if_pos hc, Option.bind_some, if_pos (show (-1 : Int) < 0 by omega)]
      exact ev_now _ _ rfl
    · obtain ⟨r, hE, hp, hq⟩ := ih (i + 1) (a - (l[i].length : Int)) (by omega) (by omega) (by omega) (by omega)
      refine ⟨r, ev_succ ?_, fun h => ?_, hq⟩
      · simp only [laws_szIntSS.l0, if_pos h1, if_pos h2, rdL_nat l i hlt, hs, if_neg hc, Option.bind_some, wrap64_nat_succ (show i < 9223372036854775807 by omega)]
        exact hE
      · rw [List.drop_eq_getElem_cons hlt]
        have := hp h
        simp only [laws_markIntSS.tot]
        push_cast
        omega
theorem szIntSS_ev (l : List (List Int)) (a : Int) (h0 : 0 ≤ a) (ha : a ≤ 1048576) (hl : l.length ≤ 9223372036854775807) (hr : ∀ r ∈ l, r.length ≤ 9223372036854775807) :
    ∃ r, Ev (fun k => laws_szIntSS.f k l a) r ∧ (0 ≤ r → (laws_markIntSS.tot l : Int) + (l.length : Int) ≤ a) ∧ (¬ 0 ≤ r → r = -1) := by
  unfold laws_szIntSS.f
  rw [wrap64_id (by omega) (by omega)]
  by_cases hc : a - (l.length : Int) < 0
  · exact ⟨-1, by simp only [if_pos hc]; exact ev_now _ _ rfl, fun h => by omega, fun _ => rfl⟩
  · obtain ⟨r, hE, hp, hq⟩ := szIntSS_l0 l hl hr l.length 0 (a - (l.length : Int)) (by omega) (by omega) (by omega) (by omega)
    refine ⟨r, ?_, fun h => ?_, hq⟩
    · simp only [if_neg hc]; exact hE
    · have := hp h
      rw [List.drop_zero] at this
      omega
theorem row_le_tot (l : List (List Int)) (r : List Int) (h : r ∈ l) : r.length ≤ laws_markIntSS.tot l := by
  induction l with
  | nil => simp at h
  | cons x t ih =>
    rcases List.mem_cons.1 h with h | h
    · subst h; simp [laws_markIntSS.tot]
    · have := ih h; simp [laws_markIntSS.tot]; omega
/-- heldIntSS over what was marked, its length as the walk has it. -/
theorem held_at (k : Nat) (A : Option Addr) (c : Nat) (R : List (List Int)) (q : Int) (w : World) (h : laws_heldIntSS.f k (laws_markIntSS.rows 1 R) 1 = some q) (hc : R.length ≤ c) (hr : Kd.C (Kd.slice 3 (Kd.int .i64)) w A (laws_markIntSS.rows 1 R).length (laws_markIntSS.rows 1 R)) :
    Calls Try.prog 40 #[.slice A R.length c, .int .i64 1] w fun e w' => e = .returned (.int .i64 q) ∧ Drawn0 w w' := by
  have := laws_heldIntSS.calls k A c (laws_markIntSS.rows 1 R) 1 q w hr (by rw [laws_markIntSS.rows_length]; exact hc) h
  rwa [laws_markIntSS.rows_length] at this
end Go.Proofs.Ytllnieknogficaa.K
namespace Go.Proofs.Ytllnieknogficaa.K
open Go.RowKit Go.Proofs.YtllnieknogficaaW.PrintWords Go.Proofs.YtllnieknogficaaW.PrintLast Go.Proofs.YtllnieknogficaaW.PrintMore
attribute [local go_sem] max2_int min2_int max_two min_two max_three min_three max_four min_four   -- for this text's walks alone
set_option linter.unusedVariables false
set_option linter.unusedSimpArgs false
theorem toIntS_evS (l : List Int) (hl : l.length ≤ 1099511627776) : Ev (fun k => laws_toIntS.f k l) l := toIntS_ev l hl
theorem eqIntS_evS (l : List Int) (hl : l.length ≤ 1099511627776) : Ev (fun k => laws_eqIntS.f k l l) true := eqIntS_ev l hl
theorem markIntS_ev (l : List Int) (a : Int) (h0 : 0 ≤ a) (hl : a + (l.length : Int) ≤ 4611686018427387904) : Ev (fun k => laws_markIntS.f k l a) (a + (l.length : Int), laws_markIntSS.row a l.length) := by
  refine ⟨l.length + 1, fun k hk => ?_⟩
  have h := laws_markIntSS.marks l a h0 hl l.length k 0 (by omega) (by omega) (by omega)
  simpa [laws_markIntS.f, laws_markIntSS.row] using h
theorem heldIntS_evS (a : Int) (n : Nat) (h0 : 0 ≤ a) (hl : a + (n : Int) ≤ 4611686018427387904) : Ev (fun k => laws_heldIntS.f k (laws_markIntSS.row a n) a) (a + (n : Int)) := heldIntS_ev a n h0 hl
/-- heldIntS over what was marked, its length as the walk has it. -/
theorem heldS_at (k : Nat) (A : Option Addr) (c : Nat) (R : List Int) (q : Int) (w : World) (h : laws_heldIntS.f k (laws_markIntSS.row 1 R.length) 1 = some q) (hc : R.length ≤ c) (hr : Kd.C (Kd.int .i64) w A (laws_markIntSS.row 1 R.length).length (laws_markIntSS.row 1 R.length)) :
    Calls Try.prog 47 #[.slice A R.length c, .int .i64 1] w fun e w' => e = .returned (.int .i64 q) ∧ Drawn0 w w' := by
  have := laws_heldIntS.calls k A c (laws_markIntSS.row 1 R.length) 1 q w hr (by rw [laws_markIntSS.row_length]; exact hc) h
  rwa [laws_markIntSS.row_length] at this
end Go.Proofs.Ytllnieknogficaa.K
namespace Go.Proofs.Ytllnieknogficaa.K
open Go.RowKit Go.Proofs.YtllnieknogficaaW.PrintWords Go.Proofs.YtllnieknogficaaW.PrintLast Go.Proofs.YtllnieknogficaaW.PrintMore
attribute [local go_sem] max2_int min2_int max_two min_two max_three min_three max_four min_four   -- for this text's walks alone
set_option linter.unusedVariables false
set_option linter.unusedSimpArgs false
set_option maxHeartbeats 4000000 in
set_option maxRecDepth 100000 in
theorem FnExactLoweringPlan_walk (A0 : Option Addr) (c0 : Nat) (l0 : List Int) (A1 : Option Addr) (c1 : Nat) (l1 : List Int) (w : World) (hr0 : Kd.C (Kd.int .i64) w A0 l0.length l0) (hc0 : l0.length ≤ c0) (hw0 : ∀ x ∈ l0, (Lit.int .i64 x).wf = true) (hr1 : Kd.C (Kd.int .i64) w A1 l1.length l1) (hc1 : l1.length ≤ c1) (hw1 : ∀ x ∈ l1, (Lit.int .i64 x).wf = true) :
    Calls Try.prog 8 #[.slice A0 l0.length c0, .slice A1 l1.length c1] w fun e w' => e = .returned (.bool true) ∧ Below w.heap.size w w' := by
  have HR0 := Aside0.mk hr0
  have HC0 := Aside0.mk hc0
  have HR1 := Aside0.mk hr1
  have HC1 := Aside0.mk hc1
  by_cases hs0 : l0.length ≤ 1048576
  rotate_left
  · have hs0' : decide (1048576 < l0.length) = true := decide_eq_true (by omega)
    have HB := Aside0.mk (Below.refl w.heap.size w)
    go_enter Try.func8, Try.ntmps8
    go_wp2
    go_ret
    exact ⟨rfl, HB.out⟩
  by_cases hs1 : l1.length ≤ 1048576
  rotate_left
  · have hs1' : decide (1048576 < l1.length) = true := decide_eq_true (by omega)
    have HB := Aside0.mk (Below.refl w.heap.size w)
    go_enter Try.func8, Try.ntmps8
    go_wp2
    go_ret
    exact ⟨rfl, HB.out⟩
  obtain ⟨R, b1, hPW, hPG, ⟨hR1, hR2, hR3⟩⟩ := LoweringPlan_pure l0 l1 hs0 hw0 hs1 hw1
  obtain ⟨kw, hW⟩ := hPW.rounds
  obtain ⟨kg, hG⟩ := hPG.rounds
  have HW := Aside0.mk hW
  have HG := Aside0.mk hG
  clear hW hG hPW hPG
  obtain ⟨kt0, hT0⟩ := (toIntS_evS l0 (by omega)).rounds
  obtain ⟨kx0, hX0⟩ := (eqIntS_evS l0 (by omega)).rounds
  have HT0 := Aside0.mk hT0
  have HX0 := Aside0.mk hX0
  clear hT0 hX0
  obtain ⟨kt1, hT1⟩ := (toIntS_evS l1 (by omega)).rounds
  obtain ⟨kx1, hX1⟩ := (eqIntS_evS l1 (by omega)).rounds
  have HT1 := Aside0.mk hT1
  have HX1 := Aside0.mk hX1
  clear hT1 hX1
  have hk0 : 1 + (l0.length : Int) ≤ 4611686018427387904 := by omega
  have hl0 : 0 ≤ 1 + (l0.length : Int) := by omega
  obtain ⟨km0, hM0⟩ := (markIntS_ev l0 (1) (by omega) (by omega)).rounds
  have Mx0 := Aside0.mk hM0
  clear hM0
  clear hk0
  have hk1 : 1 + (l0.length : Int) + (l1.length : Int) ≤ 4611686018427387904 := by omega
  have hl1 : 0 ≤ 1 + (l0.length : Int) + (l1.length : Int) := by omega
  obtain ⟨km1, hM1⟩ := (markIntS_ev l1 (1 + (l0.length : Int)) (by omega) (by omega)).rounds
  have Mx1 := Aside0.mk hM1
  clear hM1
  clear hk1
  have hkR : 1 + (laws_markIntSS.tot R : Int) ≤ 4611686018427387904 := by omega
  have hlR : 0 ≤ 1 + (laws_markIntSS.tot R : Int) := by omega
  have Tg := Aside0.mk hkR
  obtain ⟨kh, hH⟩ := (heldIntSS_ev 1 R (by omega) (by omega) (by omega)).rounds
  obtain ⟨ke, hE⟩ := (eqIntSS_ev R (by omega) (fun r hr => by have := hR2 r hr; omega)).rounds
  have HH := Aside0.mk hH
  have HE := Aside0.mk hE
  clear hH hE hkR
  clear hR1 hR2 hR3 hw0 hr0 hc0 hw1 hr1 hc1
  have hs0' : decide (1048576 < l0.length) = false := decide_eq_false (by omega)
  have hs1' : decide (1048576 < l1.length) = false := decide_eq_false (by omega)
  have HB := Aside0.mk (Below.refl w.heap.size w)
  go_enter Try.func8, Try.ntmps8
  go_wp2_with fail
  refine (laws_toIntS.calls kt0 _ _ l0 l0 _ (Kd.C_below HR0.out HB.out) HC0.out HT0.out).mono ?_
  rintro e w1 ⟨y0, rfl, ho0, hb⟩
  have OY0 := Aside0.mk (OwnR.new ho0 HB.out); clear ho0
  have n_ := Aside0.mk (below_step HB.out hb); have z_ := Aside0.mk hb.size; clear HB; have HB := n_; clear n_; have HZ1 := z_; clear z_
  clear hb
  obtain ⟨Ay0, cy0, e_, l_y0⟩ := OY0.out.reads; subst e_; have Ly0 := Aside0.mk l_y0; clear l_y0
  go_wp2_with fail
  refine (laws_toIntS.calls kt1 _ _ l1 l1 _ (Kd.C_below HR1.out HB.out) HC1.out HT1.out).mono ?_
  rintro e w2 ⟨y1, rfl, ho0, hb⟩
  have n_ := Aside0.mk (OY0.out.step hb); clear OY0; have OY0 := n_; clear n_
  have OY1 := Aside0.mk (OwnR.new ho0 HB.out); clear ho0
  have n_ := Aside0.mk (below_step HB.out hb); have z_ := Aside0.mk hb.size; clear HB; have HB := n_; clear n_; have HZ2 := z_; clear z_
  clear hb
  obtain ⟨Ay1, cy1, e_, l_y1⟩ := OY1.out.reads; subst e_; have Ly1 := Aside0.mk l_y1; clear l_y1
  go_wp2_with fail
  refine (spec_LoweringPlan.calls kw _ _ l0 _ _ l1 R b1 _ OY0.out.c Ly0.out OY1.out.c Ly1.out HW.out).mono ?_
  rintro e w3 ⟨vw, rfl, ho0, hb⟩
  have n_ := Aside0.mk (OY0.out.step hb); clear OY0; have OY0 := n_; clear n_
  have n_ := Aside0.mk (OY1.out.step hb); clear OY1; have OY1 := n_; clear n_
  have OW := Aside0.mk (OwnSS.new ho0 HB.out); clear ho0
  have n_ := Aside0.mk (below_step HB.out hb); have z_ := Aside0.mk hb.size; clear HB; have HB := n_; clear n_; have HZ3 := z_; clear z_
  clear hb
  obtain ⟨Avw, cvw, e_, l_vw⟩ := OW.out.reads; subst e_; have Lvw := Aside0.mk l_vw; clear l_vw
  go_wp2_with fail
  refine (laws_toIntS.calls kt0 _ _ l0 l0 _ (Kd.C_below HR0.out HB.out) HC0.out HT0.out).mono ?_
  rintro e w4 ⟨x0, rfl, ho0, hb⟩
  have n_ := Aside0.mk (OY0.out.step hb); clear OY0; have OY0 := n_; clear n_
  have n_ := Aside0.mk (OY1.out.step hb); clear OY1; have OY1 := n_; clear n_
  have n_ := Aside0.mk (OW.out.step hb); clear OW; have OW := n_; clear n_
  have OX0 := Aside0.mk (OwnR.new ho0 HB.out); clear ho0
  have n_ := Aside0.mk (below_step HB.out hb); have z_ := Aside0.mk hb.size; clear HB; have HB := n_; clear n_; have HZ4 := z_; clear z_
  clear hb
  obtain ⟨Ax0, cx0, e_, l_x0⟩ := OX0.out.reads; subst e_; have Lx0 := Aside0.mk l_x0; clear l_x0
  go_wp2_with fail
  refine (laws_toIntS.calls kt1 _ _ l1 l1 _ (Kd.C_below HR1.out HB.out) HC1.out HT1.out).mono ?_
  rintro e w5 ⟨x1, rfl, ho0, hb⟩
  have n_ := Aside0.mk (OY0.out.step hb); clear OY0; have OY0 := n_; clear n_
  have n_ := Aside0.mk (OY1.out.step hb); clear OY1; have OY1 := n_; clear n_
  have n_ := Aside0.mk (OW.out.step hb); clear OW; have OW := n_; clear n_
  have n_ := Aside0.mk (OX0.out.step hb); clear OX0; have OX0 := n_; clear n_
  have OX1 := Aside0.mk (OwnR.new ho0 HB.out); clear ho0
  have n_ := Aside0.mk (below_step HB.out hb); have z_ := Aside0.mk hb.size; clear HB; have HB := n_; clear n_; have HZ5 := z_; clear z_
  clear hb
  obtain ⟨Ax1, cx1, e_, l_x1⟩ := OX1.out.reads; subst e_; have Lx1 := Aside0.mk l_x1; clear l_x1
  go_wp2_with fail
  refine (impl_LoweringPlan.calls kg _ _ l0 _ _ l1 R b1 _ OX0.out.c Lx0.out OX1.out.c Lx1.out HG.out).mono ?_
  rintro e w6 ⟨vg, rfl, ho0, hb⟩
  have n_ := Aside0.mk (OY0.out.step hb); clear OY0; have OY0 := n_; clear n_
  have n_ := Aside0.mk (OY1.out.step hb); clear OY1; have OY1 := n_; clear n_
  have n_ := Aside0.mk (OW.out.step hb); clear OW; have OW := n_; clear n_
  have n_ := Aside0.mk (OX0.out.step hb); clear OX0; have OX0 := n_; clear n_
  have n_ := Aside0.mk (OX1.out.step hb); clear OX1; have OX1 := n_; clear n_
  have OG := Aside0.mk (OwnSS.new ho0 HB.out); clear ho0
  have n_ := Aside0.mk (below_step HB.out hb); have z_ := Aside0.mk hb.size; clear HB; have HB := n_; clear n_; have HZ6 := z_; clear z_
  clear hb
  obtain ⟨Avg, cvg, e_, l_vg⟩ := OG.out.reads; subst e_; have Lvg := Aside0.mk l_vg; clear l_vg
  go_wp2_with fail
  refine (laws_eqIntSS.calls ke _ _ R _ _ R true _ OG.out.c Lvg.out OW.out.c Lvw.out HE.out).mono ?_
  rintro e w7 ⟨rfl, hd⟩
  have hb := hd.below; clear hd
  have n_ := Aside0.mk (OY0.out.step hb); clear OY0; have OY0 := n_; clear n_
  have n_ := Aside0.mk (OY1.out.step hb); clear OY1; have OY1 := n_; clear n_
  have n_ := Aside0.mk (OW.out.step hb); clear OW; have OW := n_; clear n_
  have n_ := Aside0.mk (OX0.out.step hb); clear OX0; have OX0 := n_; clear n_
  have n_ := Aside0.mk (OX1.out.step hb); clear OX1; have OX1 := n_; clear n_
  have n_ := Aside0.mk (OG.out.step hb); clear OG; have OG := n_; clear n_
  have n_ := Aside0.mk (below_step HB.out hb); have z_ := Aside0.mk hb.size; clear HB; have HB := n_; clear n_; have HZ7 := z_; clear z_
  clear hb
  go_wp2_with fail
  refine (laws_toIntS.calls kt0 _ _ l0 l0 _ (Kd.C_below HR0.out HB.out) HC0.out HT0.out).mono ?_
  rintro e w8 ⟨z0, rfl, ho0, hb⟩
  have n_ := Aside0.mk (OY0.out.step hb); clear OY0; have OY0 := n_; clear n_
  have n_ := Aside0.mk (OY1.out.step hb); clear OY1; have OY1 := n_; clear n_
  have n_ := Aside0.mk (OW.out.step hb); clear OW; have OW := n_; clear n_
  have n_ := Aside0.mk (OX0.out.step hb); clear OX0; have OX0 := n_; clear n_
  have n_ := Aside0.mk (OX1.out.step hb); clear OX1; have OX1 := n_; clear n_
  have n_ := Aside0.mk (OG.out.step hb); clear OG; have OG := n_; clear n_
  have OZ0 := Aside0.mk (OwnR.new ho0 HB.out); clear ho0
  have n_ := Aside0.mk (below_step HB.out hb); have z_ := Aside0.mk hb.size; clear HB; have HB := n_; clear n_; have HZ8 := z_; clear z_
  clear hb
  obtain ⟨Az0, cz0, e_, l_z0⟩ := OZ0.out.reads; subst e_; have Lz0 := Aside0.mk l_z0; clear l_z0
  go_wp2_with fail
  refine (laws_eqIntS.calls kx0 _ _ l0 _ _ l0 true _ OX0.out.c Lx0.out OZ0.out.c Lz0.out HX0.out).mono ?_
  rintro e w9 ⟨rfl, hd⟩
  have hb := hd.below; clear hd
  have n_ := Aside0.mk (OY0.out.step hb); clear OY0; have OY0 := n_; clear n_
  have n_ := Aside0.mk (OY1.out.step hb); clear OY1; have OY1 := n_; clear n_
  have n_ := Aside0.mk (OW.out.step hb); clear OW; have OW := n_; clear n_
  have n_ := Aside0.mk (OX0.out.step hb); clear OX0; have OX0 := n_; clear n_
  have n_ := Aside0.mk (OX1.out.step hb); clear OX1; have OX1 := n_; clear n_
  have n_ := Aside0.mk (OG.out.step hb); clear OG; have OG := n_; clear n_
  have n_ := Aside0.mk (OZ0.out.step hb); clear OZ0; have OZ0 := n_; clear n_
  have n_ := Aside0.mk (below_step HB.out hb); have z_ := Aside0.mk hb.size; clear HB; have HB := n_; clear n_; have HZ9 := z_; clear z_
  clear hb
  go_wp2_with fail
  refine (laws_toIntS.calls kt1 _ _ l1 l1 _ (Kd.C_below HR1.out HB.out) HC1.out HT1.out).mono ?_
  rintro e w10 ⟨z1, rfl, ho0, hb⟩
  have n_ := Aside0.mk (OY0.out.step hb); clear OY0; have OY0 := n_; clear n_
  have n_ := Aside0.mk (OY1.out.step hb); clear OY1; have OY1 := n_; clear n_
  have n_ := Aside0.mk (OW.out.step hb); clear OW; have OW := n_; clear n_
  have n_ := Aside0.mk (OX0.out.step hb); clear OX0; have OX0 := n_; clear n_
  have n_ := Aside0.mk (OX1.out.step hb); clear OX1; have OX1 := n_; clear n_
  have n_ := Aside0.mk (OG.out.step hb); clear OG; have OG := n_; clear n_
  have n_ := Aside0.mk (OZ0.out.step hb); clear OZ0; have OZ0 := n_; clear n_
  have OZ1 := Aside0.mk (OwnR.new ho0 HB.out); clear ho0
  have n_ := Aside0.mk (below_step HB.out hb); have z_ := Aside0.mk hb.size; clear HB; have HB := n_; clear n_; have HZ10 := z_; clear z_
  clear hb
  obtain ⟨Az1, cz1, e_, l_z1⟩ := OZ1.out.reads; subst e_; have Lz1 := Aside0.mk l_z1; clear l_z1
  go_wp2_with fail
  refine (laws_eqIntS.calls kx1 _ _ l1 _ _ l1 true _ OX1.out.c Lx1.out OZ1.out.c Lz1.out HX1.out).mono ?_
  rintro e w11 ⟨rfl, hd⟩
  have hb := hd.below; clear hd
  have n_ := Aside0.mk (OY0.out.step hb); clear OY0; have OY0 := n_; clear n_
  have n_ := Aside0.mk (OY1.out.step hb); clear OY1; have OY1 := n_; clear n_
  have n_ := Aside0.mk (OW.out.step hb); clear OW; have OW := n_; clear n_
  have n_ := Aside0.mk (OX0.out.step hb); clear OX0; have OX0 := n_; clear n_
  have n_ := Aside0.mk (OX1.out.step hb); clear OX1; have OX1 := n_; clear n_
  have n_ := Aside0.mk (OG.out.step hb); clear OG; have OG := n_; clear n_
  have n_ := Aside0.mk (OZ0.out.step hb); clear OZ0; have OZ0 := n_; clear n_
  have n_ := Aside0.mk (OZ1.out.step hb); clear OZ1; have OZ1 := n_; clear n_
  have n_ := Aside0.mk (below_step HB.out hb); have z_ := Aside0.mk hb.size; clear HB; have HB := n_; clear n_; have HZ11 := z_; clear z_
  clear hb
  go_wp2_with fail
  refine (laws_markIntS.calls _ _ _ l0 (1) _ _ w _ HB.out OX0.out.s Mx0.out).mono ?_
  rintro e w12 ⟨rfl, hs, hb, hk⟩
  have n_ := Aside0.mk (OY0.out.kept hk (fun k h1 h2 h3 => by have := HZ1.out; have := HZ2.out; have := HZ3.out; have := HZ4.out; have := HZ5.out; have := HZ6.out; have := HZ7.out; have := HZ8.out; have := HZ9.out; have := HZ10.out; have := HZ11.out; omega)); clear OY0; have OY0 := n_; clear n_
  have n_ := Aside0.mk (OY1.out.kept hk (fun k h1 h2 h3 => by have := HZ1.out; have := HZ2.out; have := HZ3.out; have := HZ4.out; have := HZ5.out; have := HZ6.out; have := HZ7.out; have := HZ8.out; have := HZ9.out; have := HZ10.out; have := HZ11.out; omega)); clear OY1; have OY1 := n_; clear n_
  have n_ := Aside0.mk (OW.out.kept hk (fun k h1 h2 h3 => by have := HZ1.out; have := HZ2.out; have := HZ3.out; have := HZ4.out; have := HZ5.out; have := HZ6.out; have := HZ7.out; have := HZ8.out; have := HZ9.out; have := HZ10.out; have := HZ11.out; omega)); clear OW; have OW := n_; clear n_
  have n_ := Aside0.mk (OX1.out.kept hk (fun k h1 h2 h3 => by have := HZ1.out; have := HZ2.out; have := HZ3.out; have := HZ4.out; have := HZ5.out; have := HZ6.out; have := HZ7.out; have := HZ8.out; have := HZ9.out; have := HZ10.out; have := HZ11.out; omega)); clear OX1; have OX1 := n_; clear n_
  have n_ := Aside0.mk (OG.out.kept hk (fun k h1 h2 h3 => by have := HZ1.out; have := HZ2.out; have := HZ3.out; have := HZ4.out; have := HZ5.out; have := HZ6.out; have := HZ7.out; have := HZ8.out; have := HZ9.out; have := HZ10.out; have := HZ11.out; omega)); clear OG; have OG := n_; clear n_
  have n_ := Aside0.mk (OZ0.out.kept hk (fun k h1 h2 h3 => by have := HZ1.out; have := HZ2.out; have := HZ3.out; have := HZ4.out; have := HZ5.out; have := HZ6.out; have := HZ7.out; have := HZ8.out; have := HZ9.out; have := HZ10.out; have := HZ11.out; omega)); clear OZ0; have OZ0 := n_; clear n_
  have n_ := Aside0.mk (OZ1.out.kept hk (fun k h1 h2 h3 => by have := HZ1.out; have := HZ2.out; have := HZ3.out; have := HZ4.out; have := HZ5.out; have := HZ6.out; have := HZ7.out; have := HZ8.out; have := HZ9.out; have := HZ10.out; have := HZ11.out; omega)); clear OZ1; have OZ1 := n_; clear n_
  have n_ := Aside0.mk (OX0.out.done rfl hs hk.1); clear OX0; have OX0 := n_; clear n_
  have z_ := Aside0.mk hk.1; clear HB; have HB := Aside0.mk hb; have HZ12 := z_; clear z_ hs hb hk
  go_wp2_with fail
  refine (laws_markIntS.calls _ _ _ l1 (1 + (l0.length : Int)) _ _ w _ HB.out OX1.out.s Mx1.out).mono ?_
  rintro e w13 ⟨rfl, hs, hb, hk⟩
  have n_ := Aside0.mk (OY0.out.kept hk (fun k h1 h2 h3 => by have := HZ1.out; have := HZ2.out; have := HZ3.out; have := HZ4.out; have := HZ5.out; have := HZ6.out; have := HZ7.out; have := HZ8.out; have := HZ9.out; have := HZ10.out; have := HZ11.out; have := HZ12.out; omega)); clear OY0; have OY0 := n_; clear n_
  have n_ := Aside0.mk (OY1.out.kept hk (fun k h1 h2 h3 => by have := HZ1.out; have := HZ2.out; have := HZ3.out; have := HZ4.out; have := HZ5.out; have := HZ6.out; have := HZ7.out; have := HZ8.out; have := HZ9.out; have := HZ10.out; have := HZ11.out; have := HZ12.out; omega)); clear OY1; have OY1 := n_; clear n_
  have n_ := Aside0.mk (OW.out.kept hk (fun k h1 h2 h3 => by have := HZ1.out; have := HZ2.out; have := HZ3.out; have := HZ4.out; have := HZ5.out; have := HZ6.out; have := HZ7.out; have := HZ8.out; have := HZ9.out; have := HZ10.out; have := HZ11.out; have := HZ12.out; omega)); clear OW; have OW := n_; clear n_
  have n_ := Aside0.mk (OX0.out.kept hk (fun k h1 h2 h3 => by have := HZ1.out; have := HZ2.out; have := HZ3.out; have := HZ4.out; have := HZ5.out; have := HZ6.out; have := HZ7.out; have := HZ8.out; have := HZ9.out; have := HZ10.out; have := HZ11.out; have := HZ12.out; omega)); clear OX0; have OX0 := n_; clear n_
  have n_ := Aside0.mk (OG.out.kept hk (fun k h1 h2 h3 => by have := HZ1.out; have := HZ2.out; have := HZ3.out; have := HZ4.out; have := HZ5.out; have := HZ6.out; have := HZ7.out; have := HZ8.out; have := HZ9.out; have := HZ10.out; have := HZ11.out; have := HZ12.out; omega)); clear OG; have OG := n_; clear n_
  have n_ := Aside0.mk (OZ0.out.kept hk (fun k h1 h2 h3 => by have := HZ1.out; have := HZ2.out; have := HZ3.out; have := HZ4.out; have := HZ5.out; have := HZ6.out; have := HZ7.out; have := HZ8.out; have := HZ9.out; have := HZ10.out; have := HZ11.out; have := HZ12.out; omega)); clear OZ0; have OZ0 := n_; clear n_
  have n_ := Aside0.mk (OZ1.out.kept hk (fun k h1 h2 h3 => by have := HZ1.out; have := HZ2.out; have := HZ3.out; have := HZ4.out; have := HZ5.out; have := HZ6.out; have := HZ7.out; have := HZ8.out; have := HZ9.out; have := HZ10.out; have := HZ11.out; have := HZ12.out; omega)); clear OZ1; have OZ1 := n_; clear n_
  have n_ := Aside0.mk (OX1.out.done rfl hs hk.1); clear OX1; have OX1 := n_; clear n_
  have z_ := Aside0.mk hk.1; clear HB; have HB := Aside0.mk hb; have HZ13 := z_; clear z_ hs hb hk
  go_wp2_with fail
  refine (laws_eqIntSS.calls ke _ _ R _ _ R true _ OG.out.c Lvg.out OW.out.c Lvw.out HE.out).mono ?_
  rintro e w14 ⟨rfl, hd⟩
  have hb := hd.below; clear hd
  have n_ := Aside0.mk (OY0.out.step hb); clear OY0; have OY0 := n_; clear n_
  have n_ := Aside0.mk (OY1.out.step hb); clear OY1; have OY1 := n_; clear n_
  have n_ := Aside0.mk (OW.out.step hb); clear OW; have OW := n_; clear n_
  have n_ := Aside0.mk (OX0.out.step hb); clear OX0; have OX0 := n_; clear n_
  have n_ := Aside0.mk (OX1.out.step hb); clear OX1; have OX1 := n_; clear n_
  have n_ := Aside0.mk (OG.out.step hb); clear OG; have OG := n_; clear n_
  have n_ := Aside0.mk (OZ0.out.step hb); clear OZ0; have OZ0 := n_; clear n_
  have n_ := Aside0.mk (OZ1.out.step hb); clear OZ1; have OZ1 := n_; clear n_
  have n_ := Aside0.mk (below_step HB.out hb); have z_ := Aside0.mk hb.size; clear HB; have HB := n_; clear n_; have HZ14 := z_; clear z_
  clear hb
  go_wp2_with fail
  refine (laws_markIntSS.calls _ _ R (1) w _ (by omega) (by have := Tg.out; omega) HB.out OG.out.s).mono ?_
  rintro e w15 ⟨rfl, hs, hb, hk⟩
  have n_ := Aside0.mk (OY0.out.kept hk (fun k h1 h2 h3 => by have := HZ1.out; have := HZ2.out; have := HZ3.out; have := HZ4.out; have := HZ5.out; have := HZ6.out; have := HZ7.out; have := HZ8.out; have := HZ9.out; have := HZ10.out; have := HZ11.out; have := HZ12.out; have := HZ13.out; have := HZ14.out; omega)); clear OY0; have OY0 := n_; clear n_
  have n_ := Aside0.mk (OY1.out.kept hk (fun k h1 h2 h3 => by have := HZ1.out; have := HZ2.out; have := HZ3.out; have := HZ4.out; have := HZ5.out; have := HZ6.out; have := HZ7.out; have := HZ8.out; have := HZ9.out; have := HZ10.out; have := HZ11.out; have := HZ12.out; have := HZ13.out; have := HZ14.out; omega)); clear OY1; have OY1 := n_; clear n_
  have n_ := Aside0.mk (OW.out.kept hk (fun k h1 h2 h3 => by have := HZ1.out; have := HZ2.out; have := HZ3.out; have := HZ4.out; have := HZ5.out; have := HZ6.out; have := HZ7.out; have := HZ8.out; have := HZ9.out; have := HZ10.out; have := HZ11.out; have := HZ12.out; have := HZ13.out; have := HZ14.out; omega)); clear OW; have OW := n_; clear n_
  have n_ := Aside0.mk (OX0.out.kept hk (fun k h1 h2 h3 => by have := HZ1.out; have := HZ2.out; have := HZ3.out; have := HZ4.out; have := HZ5.out; have := HZ6.out; have := HZ7.out; have := HZ8.out; have := HZ9.out; have := HZ10.out; have := HZ11.out; have := HZ12.out; have := HZ13.out; have := HZ14.out; omega)); clear OX0; have OX0 := n_; clear n_
  have n_ := Aside0.mk (OX1.out.kept hk (fun k h1 h2 h3 => by have := HZ1.out; have := HZ2.out; have := HZ3.out; have := HZ4.out; have := HZ5.out; have := HZ6.out; have := HZ7.out; have := HZ8.out; have := HZ9.out; have := HZ10.out; have := HZ11.out; have := HZ12.out; have := HZ13.out; have := HZ14.out; omega)); clear OX1; have OX1 := n_; clear n_
  have n_ := Aside0.mk (OZ0.out.kept hk (fun k h1 h2 h3 => by have := HZ1.out; have := HZ2.out; have := HZ3.out; have := HZ4.out; have := HZ5.out; have := HZ6.out; have := HZ7.out; have := HZ8.out; have := HZ9.out; have := HZ10.out; have := HZ11.out; have := HZ12.out; have := HZ13.out; have := HZ14.out; omega)); clear OZ0; have OZ0 := n_; clear n_
  have n_ := Aside0.mk (OZ1.out.kept hk (fun k h1 h2 h3 => by have := HZ1.out; have := HZ2.out; have := HZ3.out; have := HZ4.out; have := HZ5.out; have := HZ6.out; have := HZ7.out; have := HZ8.out; have := HZ9.out; have := HZ10.out; have := HZ11.out; have := HZ12.out; have := HZ13.out; have := HZ14.out; omega)); clear OZ1; have OZ1 := n_; clear n_
  have n_ := Aside0.mk (OG.out.done hs hk.1); clear OG; have OG := n_; clear n_
  have z_ := Aside0.mk hk.1; clear HB; have HB := Aside0.mk hb; have HZ15 := z_; clear z_ hs hb hk
  go_wp2_with fail
  refine (held_at kh _ _ R _ _ HH.out Lvg.out OG.out.c).mono ?_
  rintro e w16 ⟨rfl, hd⟩
  have hb := hd.below; clear hd
  have n_ := Aside0.mk (OY0.out.step hb); clear OY0; have OY0 := n_; clear n_
  have n_ := Aside0.mk (OY1.out.step hb); clear OY1; have OY1 := n_; clear n_
  have n_ := Aside0.mk (OW.out.step hb); clear OW; have OW := n_; clear n_
  have n_ := Aside0.mk (OX0.out.step hb); clear OX0; have OX0 := n_; clear n_
  have n_ := Aside0.mk (OX1.out.step hb); clear OX1; have OX1 := n_; clear n_
  have n_ := Aside0.mk (OG.out.step hb); clear OG; have OG := n_; clear n_
  have n_ := Aside0.mk (OZ0.out.step hb); clear OZ0; have OZ0 := n_; clear n_
  have n_ := Aside0.mk (OZ1.out.step hb); clear OZ1; have OZ1 := n_; clear n_
  have n_ := Aside0.mk (below_step HB.out hb); have z_ := Aside0.mk hb.size; clear HB; have HB := n_; clear n_; have HZ16 := z_; clear z_
  clear hb
  go_wp2_with fail
  refine (laws_toIntS.calls kt0 _ _ l0 l0 _ (Kd.C_below HR0.out HB.out) HC0.out HT0.out).mono ?_
  rintro e w17 ⟨u0, rfl, ho0, hb⟩
  have n_ := Aside0.mk (OY0.out.step hb); clear OY0; have OY0 := n_; clear n_
  have n_ := Aside0.mk (OY1.out.step hb); clear OY1; have OY1 := n_; clear n_
  have n_ := Aside0.mk (OW.out.step hb); clear OW; have OW := n_; clear n_
  have n_ := Aside0.mk (OX0.out.step hb); clear OX0; have OX0 := n_; clear n_
  have n_ := Aside0.mk (OX1.out.step hb); clear OX1; have OX1 := n_; clear n_
  have n_ := Aside0.mk (OG.out.step hb); clear OG; have OG := n_; clear n_
  have n_ := Aside0.mk (OZ0.out.step hb); clear OZ0; have OZ0 := n_; clear n_
  have n_ := Aside0.mk (OZ1.out.step hb); clear OZ1; have OZ1 := n_; clear n_
  have OU0 := Aside0.mk (OwnR.new ho0 HB.out); clear ho0
  have n_ := Aside0.mk (below_step HB.out hb); have z_ := Aside0.mk hb.size; clear HB; have HB := n_; clear n_; have HZ17 := z_; clear z_
  clear hb
  obtain ⟨Au0, cu0, e_, l_u0⟩ := OU0.out.reads; subst e_; have Lu0 := Aside0.mk l_u0; clear l_u0
  go_wp2_with fail
  refine (laws_toIntS.calls kt1 _ _ l1 l1 _ (Kd.C_below HR1.out HB.out) HC1.out HT1.out).mono ?_
  rintro e w18 ⟨u1, rfl, ho0, hb⟩
  have n_ := Aside0.mk (OY0.out.step hb); clear OY0; have OY0 := n_; clear n_
  have n_ := Aside0.mk (OY1.out.step hb); clear OY1; have OY1 := n_; clear n_
  have n_ := Aside0.mk (OW.out.step hb); clear OW; have OW := n_; clear n_
  have n_ := Aside0.mk (OX0.out.step hb); clear OX0; have OX0 := n_; clear n_
  have n_ := Aside0.mk (OX1.out.step hb); clear OX1; have OX1 := n_; clear n_
  have n_ := Aside0.mk (OG.out.step hb); clear OG; have OG := n_; clear n_
  have n_ := Aside0.mk (OZ0.out.step hb); clear OZ0; have OZ0 := n_; clear n_
  have n_ := Aside0.mk (OZ1.out.step hb); clear OZ1; have OZ1 := n_; clear n_
  have n_ := Aside0.mk (OU0.out.step hb); clear OU0; have OU0 := n_; clear n_
  have OU1 := Aside0.mk (OwnR.new ho0 HB.out); clear ho0
  have n_ := Aside0.mk (below_step HB.out hb); have z_ := Aside0.mk hb.size; clear HB; have HB := n_; clear n_; have HZ18 := z_; clear z_
  clear hb
  obtain ⟨Au1, cu1, e_, l_u1⟩ := OU1.out.reads; subst e_; have Lu1 := Aside0.mk l_u1; clear l_u1
  go_wp2_with fail
  refine (impl_LoweringPlan.calls kg _ _ l0 _ _ l1 R b1 _ OU0.out.c Lu0.out OU1.out.c Lu1.out HG.out).mono ?_
  rintro e w19 ⟨vh, rfl, ho0, hb⟩
  have n_ := Aside0.mk (OY0.out.step hb); clear OY0; have OY0 := n_; clear n_
  have n_ := Aside0.mk (OY1.out.step hb); clear OY1; have OY1 := n_; clear n_
  have n_ := Aside0.mk (OW.out.step hb); clear OW; have OW := n_; clear n_
  have n_ := Aside0.mk (OX0.out.step hb); clear OX0; have OX0 := n_; clear n_
  have n_ := Aside0.mk (OX1.out.step hb); clear OX1; have OX1 := n_; clear n_
  have n_ := Aside0.mk (OG.out.step hb); clear OG; have OG := n_; clear n_
  have n_ := Aside0.mk (OZ0.out.step hb); clear OZ0; have OZ0 := n_; clear n_
  have n_ := Aside0.mk (OZ1.out.step hb); clear OZ1; have OZ1 := n_; clear n_
  have n_ := Aside0.mk (OU0.out.step hb); clear OU0; have OU0 := n_; clear n_
  have n_ := Aside0.mk (OU1.out.step hb); clear OU1; have OU1 := n_; clear n_
  have OH := Aside0.mk (OwnSS.new ho0 HB.out); clear ho0
  have n_ := Aside0.mk (below_step HB.out hb); have z_ := Aside0.mk hb.size; clear HB; have HB := n_; clear n_; have HZ19 := z_; clear z_
  clear hb
  obtain ⟨Avh, cvh, e_, l_vh⟩ := OH.out.reads; subst e_; have Lvh := Aside0.mk l_vh; clear l_vh
  go_wp2_with fail
  refine (laws_eqIntSS.calls ke _ _ R _ _ R true _ OH.out.c Lvh.out OW.out.c Lvw.out HE.out).mono ?_
  rintro e w20 ⟨rfl, hd⟩
  have hb := hd.below; clear hd
  have n_ := Aside0.mk (OY0.out.step hb); clear OY0; have OY0 := n_; clear n_
  have n_ := Aside0.mk (OY1.out.step hb); clear OY1; have OY1 := n_; clear n_
  have n_ := Aside0.mk (OW.out.step hb); clear OW; have OW := n_; clear n_
  have n_ := Aside0.mk (OX0.out.step hb); clear OX0; have OX0 := n_; clear n_
  have n_ := Aside0.mk (OX1.out.step hb); clear OX1; have OX1 := n_; clear n_
  have n_ := Aside0.mk (OG.out.step hb); clear OG; have OG := n_; clear n_
  have n_ := Aside0.mk (OZ0.out.step hb); clear OZ0; have OZ0 := n_; clear n_
  have n_ := Aside0.mk (OZ1.out.step hb); clear OZ1; have OZ1 := n_; clear n_
  have n_ := Aside0.mk (OU0.out.step hb); clear OU0; have OU0 := n_; clear n_
  have n_ := Aside0.mk (OU1.out.step hb); clear OU1; have OU1 := n_; clear n_
  have n_ := Aside0.mk (OH.out.step hb); clear OH; have OH := n_; clear n_
  have n_ := Aside0.mk (below_step HB.out hb); have z_ := Aside0.mk hb.size; clear HB; have HB := n_; clear n_; have HZ20 := z_; clear z_
  clear hb
  go_wp2_with fail
  refine (held_at kh _ _ R _ _ HH.out Lvg.out OG.out.c).mono ?_
  rintro e w21 ⟨rfl, hd⟩
  have hb := hd.below; clear hd
  have n_ := Aside0.mk (OY0.out.step hb); clear OY0; have OY0 := n_; clear n_
  have n_ := Aside0.mk (OY1.out.step hb); clear OY1; have OY1 := n_; clear n_
  have n_ := Aside0.mk (OW.out.step hb); clear OW; have OW := n_; clear n_
  have n_ := Aside0.mk (OX0.out.step hb); clear OX0; have OX0 := n_; clear n_
  have n_ := Aside0.mk (OX1.out.step hb); clear OX1; have OX1 := n_; clear n_
  have n_ := Aside0.mk (OG.out.step hb); clear OG; have OG := n_; clear n_
  have n_ := Aside0.mk (OZ0.out.step hb); clear OZ0; have OZ0 := n_; clear n_
  have n_ := Aside0.mk (OZ1.out.step hb); clear OZ1; have OZ1 := n_; clear n_
  have n_ := Aside0.mk (OU0.out.step hb); clear OU0; have OU0 := n_; clear n_
  have n_ := Aside0.mk (OU1.out.step hb); clear OU1; have OU1 := n_; clear n_
  have n_ := Aside0.mk (OH.out.step hb); clear OH; have OH := n_; clear n_
  have n_ := Aside0.mk (below_step HB.out hb); have z_ := Aside0.mk hb.size; clear HB; have HB := n_; clear n_; have HZ21 := z_; clear z_
  clear hb
  go_wp2
  go_ret
  exact ⟨rfl, HB.out⟩
end Go.Proofs.Ytllnieknogficaa.K
namespace Go.Proofs.Ytllnieknogficaa.K
open Go.RowKit Go.Proofs.YtllnieknogficaaW.PrintWords Go.Proofs.YtllnieknogficaaW.PrintLast Go.Proofs.YtllnieknogficaaW.PrintMore
attribute [local go_sem] max2_int min2_int max_two min_two max_three min_three max_four min_four   -- for this text's walks alone
set_option linter.unusedVariables false
set_option linter.unusedSimpArgs false
open Go.ChangeShapes Go.WideShapes Go.ChangeAt Go.Deep
theorem read_int_rows {H : Type} {enc : TypeId × Value → H} {P : Program} {W : World} {t e q : TypeId} {a : Option Addr} {len cap : Nat} {d : DataW H} {ps : List MemPlace} (ht : P.underlying t = some (.slice e)) (he : P.underlying e = some (.slice q)) (hq : P.underlying q = some (.int .i64))
    (ce : P.cellsOf e = 1) (cq : P.cellsOf q = 1) (h : DataW.Trod enc P W 0 (fun _ => true) true t (.slice a len cap) d ps) :
    ∃ l : List (List Int), len = l.length ∧ Kd.C (Kd.slice 3 (Kd.int .i64)) W a l.length l ∧ l.length ≤ cap ∧ ∀ r ∈ l, r.length ≤ 9223372036854775807 := by
  obtain ⟨fuel, hf⟩ := h
  rcases open_int_rows ht he hq ce cq hf with ⟨hcs, _⟩ | ⟨x, l, c, A, L, C, Z, hcs, _, hl, hm, _, hrows⟩
  · simp [Value.cells] at hcs
    obtain ⟨rfl, rfl, rfl⟩ := hcs
    exact ⟨[], rfl, Kd.C_nil _ _, Nat.le_refl _, fun r hr => by simp at hr⟩
  · simp [Value.cells] at hcs
    obtain ⟨rfl, rfl, rfl⟩ := hcs
    have hmx : maxLen = 9223372036854775807 := rfl
    have hlen : ((List.range len).map fun r => (Z r).take (L r)).length = len := by simp
    have hzl : ∀ r, r < cap → ((Z r).take (L r)).length = L r := fun r hr => by
      obtain ⟨_, h1, _, h2, _⟩ := hrows r hr
      rw [List.length_take]
      omega
    refine ⟨(List.range len).map fun r => (Z r).take (L r), hlen.symm, ⟨rfl, by rw [hlen]; omega, fun hp => ⟨x, rfl, fun j p hj => ?_⟩⟩, by rw [hlen]; exact hl, fun r hr => ?_⟩
    · obtain ⟨hjl, hp2⟩ := List.getElem?_eq_some_iff.1 hj
      rw [hlen] at hjl
      obtain ⟨hcell, h1, h2, h3, _, h5, h6⟩ := hrows j (by omega)
      have hp3 : p = (Z j).take (L j) := by rw [← hp2]; simp
      subst hp3
      have hzj := hzl j (by omega)
      refine ⟨[.slice (A j) (L j) (C j)], rfl, ⟨A j, C j, by rw [hzj], by rw [hzj]; exact h1, ⟨rfl, by rw [hzj]; omega, fun hp => ?_⟩⟩, fun i u hu => ?_⟩
      · cases hA : A j with
        | none => rw [hzj] at hp; have := h5 hA; omega
        | some a' =>
          refine ⟨a', rfl, fun i p hi => ⟨[.int .i64 p], rfl, rfl, fun i2 u hu => ?_⟩⟩
          obtain ⟨hil, hpi⟩ := List.getElem?_eq_some_iff.1 hi
          rw [hzj] at hil
          have hcc := (h6 a' hA).2 i (by omega)
          have hi2 : i2 = 0 := by
            have := (List.getElem?_eq_some_iff.1 hu).1
            simpa using this
          subst hi2
          simp at hu
          subst hu
          show W.cell? (a'.add (i * 1 + 0)) = _
          rw [Nat.mul_one, Nat.add_zero, hcc, ← hpi]
          rw [List.getD_eq_getElem?_getD, List.getElem?_eq_getElem (by omega)]
          simp
      · have hi2 : i = 0 := by
          have := (List.getElem?_eq_some_iff.1 hu).1
          simpa using this
        subst hi2
        simp at hu
        subst hu
        show W.cell? (x.add (j * 1 + 0)) = _
        rw [Nat.mul_one, Nat.add_zero, hcell]
    · simp only [List.mem_map, List.mem_range] at hr
      obtain ⟨j, hj, rfl⟩ := hr
      obtain ⟨_, h1, h2, _⟩ := hrows j (by omega)
      rw [hzl j (by omega)]
      omega
end Go.Proofs.Ytllnieknogficaa.K
