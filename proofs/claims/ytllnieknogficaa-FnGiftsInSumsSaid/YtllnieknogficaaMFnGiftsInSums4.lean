/-
Part 4 of the proof of the law FnGiftsInSums: what the Go functions that it reaches come to, each proved of the given program; no condition beside those that each theorem names.
-/
import Derived.Laws.BitsLemmas
import Derived.Deep.Matrix
import Derived.ProofKit
import Derived.Lib.SmallJoins
import Derived.Test.YtllnieknogficaaMFnGiftsInSums1
import Derived.Test.YtllnieknogficaaMFnGiftsInSums2
import Derived.Test.YtllnieknogficaaMFnGiftsInSums3
namespace Go.Proofs.Ytllnieknogficaa.K
open Go.RowKit Go.Proofs.YtllnieknogficaaW.PrintWords Go.Proofs.YtllnieknogficaaW.PrintLast Go.Proofs.YtllnieknogficaaW.PrintMore
attribute [local go_sem] max2_int min2_int max_two min_two max_three min_three max_four min_four   -- for this text's walks alone
set_option linter.unusedVariables false
set_option linter.unusedSimpArgs false

def spec_plGood.l0 : Nat → List (List Int) → List (List Int) → Int → Int → Option (Bool)
 | 0, _, _, _, _ => none
 | k + 1, x0, x9, x10, x11 => if x11 < x10 then (if 0 ≤ x11 then (if x11 < (x9.length : Int) then (if ((rd_L2 x9 x11).length : Int) = (x0.length : Int) then ((spec_l1All.f k (rd_L2 x9 x11) 0 60).bind fun t384 => (if t384 = true then (spec_plGood.l0 k x0 x9 x10 (wrap64 (x11 + 1))) else (some false))) else (some false)) else (none)) else (none)) else (some true)
def spec_plGood.f (k : Nat) (l0 : List (List Int)) : Option (Bool) := (spec_l1In.f (l0.length : Int) 1 8).bind fun t382 => (if t382 = true then (spec_plGood.l0 k l0 l0 (l0.length : Int) 0) else (some false))
theorem spec_plGood.mono_l : ∀ k, (∀ y0 y1 y2 y3, LeO (spec_plGood.l0 k y0 y1 y2 y3) (spec_plGood.l0 (k + 1) y0 y1 y2 y3))
 | 0 => fun _ _ _ _ r h => by simp [spec_plGood.l0] at h
 | k + 1 => by
  have ih0 := spec_plGood.mono_l k
  ·intro y0 y1 y2 y3
   unfold spec_plGood.l0
   repeat' first
   | (with_reducible exact ih0 _ _ _ _)
   | (with_reducible exact spec_l1All.mono _ _ _ _)
   | (with_reducible exact LeO.refl _)
   | (with_reducible exact LeO.none _)
   | (with_reducible refine LeO.ite ?_ ?_)
   | (with_reducible refine LeO.bind ?_ (fun _ => ?_))
   | exact ih0 _ _ _ _
   | exact spec_l1All.mono _ _ _ _
   | exact LeO.none _
   | refine LeO.ite ?_ ?_
   | refine LeO.bind ?_ (fun _ => ?_)
theorem spec_plGood.mono : ∀ a0 k, LeO (spec_plGood.f k a0) (spec_plGood.f (k + 1) a0) := by
 intro a0 k
 have ih0 := spec_plGood.mono_l k
 unfold spec_plGood.f
 repeat' first
   | (with_reducible exact ih0 _ _ _ _)
   | (with_reducible exact spec_l1All.mono _ _ _ _)
   | (with_reducible exact LeO.refl _)
   | (with_reducible exact LeO.none _)
   | (with_reducible refine LeO.ite ?_ ?_)
   | (with_reducible refine LeO.bind ?_ (fun _ => ?_))
   | exact ih0 _ _ _ _
   | exact spec_l1All.mono _ _ _ _
   | exact LeO.none _
   | refine LeO.ite ?_ ?_
   | refine LeO.bind ?_ (fun _ => ?_)
set_option maxHeartbeats 8000000 in
set_option maxRecDepth 100000 in
theorem spec_plGood.calls (k : Nat) (A0 : Option Addr) (c0 : Nat) (l0 : List (List Int)) (r : Bool) (w : World) (hr0 : Kd.C (Kd.slice 3 (Kd.int .i64)) w A0 l0.length l0) (hc0 : l0.length ≤ c0) (h : spec_plGood.f k l0 = some r) :
  Calls Try.prog 125 #[.slice A0 l0.length c0] w fun e w' => e = .returned (.bool r) ∧ Drawn0 w w' := by
 have HR0 := Aside0.mk hr0
 have HC0 := Aside0.mk hc0
 clear hr0 hc0
 have H : ((spec_l1In.f (l0.length : Int) 1 8).bind fun t382 => (if t382 = true then (spec_plGood.l0 k l0 l0 (l0.length : Int) 0) else (some false))) = some r := h
 clear h
 replace H := Option.bind_eq_some_iff.mp H
 obtain ⟨t382, A20, H⟩ := H
 replace H : (if t382 = true then (spec_plGood.l0 k l0 l0 (l0.length : Int) 0) else (some false)) = some r := H
 have A2 := Aside0.mk A20
 clear A20
 by_cases c3 : t382 = true
 ·subst c3
  have H1 : (spec_plGood.l0 k l0 l0 (l0.length : Int) 0) = some r := by rw [if_pos rfl] at H; exact H
  clear H
  have H := H1
  clear H1
  have H' := Aside0.mk H
  clear H
  go_enter Try.func125, Try.ntmps125
  go_wp2_with (first | ((with_reducible refine gate_callee (f := 195) rfl ?_); refine goesL_ (some 7) rfl rfl Try.func195 (by kernel_rfl) rfl #[.int .i64 (l0.length : Int), .int .i64 1, .int .i64 8] rfl (by (try simp only [List.map_toArray, List.map_cons, List.map_nil]); first | done | rfl | (simp only [List.length_drop, List.length_take]; rfl)) ?_; (with_reducible refine (spec_l1In.calls (l0.length : Int) 1 8 true _ A2.out).mono ?_); rintro e w' ⟨rfl, ⟨nd, rfl⟩⟩; refine ⟨_, rfl, ?_⟩))
  go_loopg [11] k (fun kq v11 w' => ∃ (x11_1 : Int), v11 = .int .i64 x11_1 ∧ Aside0 (spec_plGood.l0 kq l0 l0 (l0.length : Int) x11_1 = some r) ∧ Aside0 (kq ≤ k) ∧ Drawn0 w w')
  case atStart => exact ⟨(0), (by first | rfl | (simp; done) | (simp [*]; done)), H', ⟨Nat.le_refl _⟩, by repeat (first | exact Drawn0.refl _ | apply Drawn0.step)⟩
  case round =>
   clear H'
   try clear c1
   try clear p2
   try clear c3
   obtain ⟨x11_1, rfl, HA, HK1, ⟨m1, rfl⟩⟩ := hrel
   cases gk with
   | zero => exact absurd HA.out (by simp [spec_plGood.l0])
   | succ k1 =>
    have H := HA.out
    clear HA
    simp only [spec_plGood.l0] at H
    by_cases c4 : x11_1 < (l0.length : Int)
    ·rw [if_pos c4] at H
     have c4b0 : decide (x11_1 < (l0.length : Int)) = true := decide_eq_true c4
     clear c4
     by_cases c5 : 0 ≤ x11_1
     ·rw [if_pos c5] at H
      have c5b0 : decide (0 ≤ x11_1) = true := decide_eq_true c5
      clear c5
      by_cases c6 : x11_1 < (l0.length : Int)
      ·rw [if_pos c6] at H
       have c6b0 : decide (x11_1 < (l0.length : Int)) = true := decide_eq_true c6
       clear c6
       by_cases c7 : ((rd_L2 l0 x11_1).length : Int) = (l0.length : Int)
       ·rw [if_pos c7] at H
        have c7b0 : (((rd_L2 l0 x11_1).length : Int) == (l0.length : Int)) = true := beq_iff_eq.mpr c7
        have c7b1 : (((rd_L2 l0 x11_1).length : Int) != (l0.length : Int)) = false := bne_eq_false_iff_eq.mpr c7
        have c7b2 : ((rd_L2 l0 x11_1).length == l0.length) = true := by first | simpa using c7 | (simp at c7 ⊢; omega)
        clear c7
        replace H := Option.bind_eq_some_iff.mp H
        obtain ⟨t384, A80, H⟩ := H
        replace H : (if t384 = true then (spec_plGood.l0 k1 l0 l0 (l0.length : Int) (wrap64 (x11_1 + 1))) else (some false)) = some r := H
        have A8 := Aside0.mk A80
        clear A80
        by_cases c9 : t384 = true
        ·subst c9
         have H1 : (spec_plGood.l0 k1 l0 l0 (l0.length : Int) (wrap64 (x11_1 + 1))) = some r := by rw [if_pos rfl] at H; exact H
         clear H
         have H := H1
         clear H1
         have H' := Aside0.mk H
         clear H
         have p383 : 0 ≤ (x11_1 : Int) := of_decide_eq_true (by first | (with_reducible assumption) | assumption)
         have q383 : x11_1 < (l0.length : Int) := of_decide_eq_true (by first | (with_reducible assumption) | assumption)
         obtain ⟨ad383, A383_0, c383_0, e383, hx383_0, hl383_0, hi383_0⟩ := at_L2 HR0.out x11_1 p383 q383
         cases e383
         have HR383_0 := Aside0.mk hi383_0
         have HC383_0 := Aside0.mk hl383_0
         clear hi383_0 hl383_0
         replace p383 := eq_true p383
         replace q383 := eq_true q383
         go_wp2_with (first | (go_at_call 196; (with_reducible refine (spec_l1All.calls k1 _ _ (rd_L2 l0 x11_1) 0 60 true _ ?side1 ?side2 A8.out).mono ?_); (case side1 => repeat (first | exact HR383_0.out | (with_reducible refine Kd.C_alloc ?_ _) | (with_reducible refine Kd.C_drewN ?_ _) | (with_reducible refine Kd.C_drew ?_))); (case side2 => exact HC383_0.out); rintro e w' ⟨rfl, ⟨nd, rfl⟩⟩))
         go_roundg k1
         case measure => have := HK1.out; omega
         case rel => exact ⟨(wrap64 (x11_1 + 1)), (by first | rfl | (simp; done) | (simp [*]; done)), H', ⟨by have := HK1.out; omega⟩, by repeat (first | exact Drawn0.refl _ | apply Drawn0.step)⟩
        ·replace c9 := Bool.eq_false_iff.mpr c9
         subst c9
         have H1 : (some false) = some r := by rw [if_neg (show ¬ (false = true) by decide)] at H; exact H
         clear H
         have H := H1
         clear H1
         obtain rfl := Option.some.inj H
         have p383 : 0 ≤ (x11_1 : Int) := of_decide_eq_true (by first | (with_reducible assumption) | assumption)
         have q383 : x11_1 < (l0.length : Int) := of_decide_eq_true (by first | (with_reducible assumption) | assumption)
         obtain ⟨ad383, A383_0, c383_0, e383, hx383_0, hl383_0, hi383_0⟩ := at_L2 HR0.out x11_1 p383 q383
         cases e383
         have HR383_0 := Aside0.mk hi383_0
         have HC383_0 := Aside0.mk hl383_0
         clear hi383_0 hl383_0
         replace p383 := eq_true p383
         replace q383 := eq_true q383
         go_wp2_with (first | (go_at_call 196; (with_reducible refine (spec_l1All.calls k1 _ _ (rd_L2 l0 x11_1) 0 60 false _ ?side1 ?side2 A8.out).mono ?_); (case side1 => repeat (first | exact HR383_0.out | (with_reducible refine Kd.C_alloc ?_ _) | (with_reducible refine Kd.C_drewN ?_ _) | (with_reducible refine Kd.C_drew ?_))); (case side2 => exact HC383_0.out); rintro e w' ⟨rfl, ⟨nd, rfl⟩⟩))
         go_ret
         exact ⟨by first | rfl | (simp; done) | (simp [*]; done), by repeat (first | exact Drawn0.refl _ | apply Drawn0.step)⟩
       ·rw [if_neg c7] at H
        have c7b0 : (((rd_L2 l0 x11_1).length : Int) == (l0.length : Int)) = false := beq_eq_false_iff_ne.mpr c7
        have c7b1 : (((rd_L2 l0 x11_1).length : Int) != (l0.length : Int)) = true := bne_iff_ne.mpr c7
        have c7b2 : ((rd_L2 l0 x11_1).length == l0.length) = false := by first | simpa using c7 | (simp at c7 ⊢; omega)
        obtain rfl := Option.some.inj H
        have p383 : 0 ≤ (x11_1 : Int) := of_decide_eq_true (by first | (with_reducible assumption) | assumption)
        have q383 : x11_1 < (l0.length : Int) := of_decide_eq_true (by first | (with_reducible assumption) | assumption)
        obtain ⟨ad383, A383_0, c383_0, e383, hx383_0, hl383_0, hi383_0⟩ := at_L2 HR0.out x11_1 p383 q383
        cases e383
        have HR383_0 := Aside0.mk hi383_0
        have HC383_0 := Aside0.mk hl383_0
        clear hi383_0 hl383_0
        replace p383 := eq_true p383
        replace q383 := eq_true q383
        go_wp2
        go_ret
        exact ⟨by first | rfl | (simp; done) | (simp [*]; done), by repeat (first | exact Drawn0.refl _ | apply Drawn0.step)⟩
      ·rw [if_neg c6] at H
       exact absurd H (by simp)
     ·rw [if_neg c5] at H
      exact absurd H (by simp)
    ·rw [if_neg c4] at H
     have c4b0 : decide (x11_1 < (l0.length : Int)) = false := decide_eq_false c4
     clear c4
     obtain rfl := Option.some.inj H
     go_wp2
     go_ret
     exact ⟨by first | rfl | (simp; done) | (simp [*]; done), by repeat (first | exact Drawn0.refl _ | apply Drawn0.step)⟩
 ·replace c3 := Bool.eq_false_iff.mpr c3
  subst c3
  have H1 : (some false) = some r := by rw [if_neg (show ¬ (false = true) by decide)] at H; exact H
  clear H
  have H := H1
  clear H1
  obtain rfl := Option.some.inj H
  go_enter Try.func125, Try.ntmps125
  go_wp2_with (first | ((with_reducible refine gate_callee (f := 195) rfl ?_); refine goesL_ (some 7) rfl rfl Try.func195 (by kernel_rfl) rfl #[.int .i64 (l0.length : Int), .int .i64 1, .int .i64 8] rfl (by (try simp only [List.map_toArray, List.map_cons, List.map_nil]); first | done | rfl | (simp only [List.length_drop, List.length_take]; rfl)) ?_; (with_reducible refine (spec_l1In.calls (l0.length : Int) 1 8 false _ A2.out).mono ?_); rintro e w' ⟨rfl, ⟨nd, rfl⟩⟩; refine ⟨_, rfl, ?_⟩))
  go_ret
  exact ⟨by first | rfl | (simp; done) | (simp [*]; done), by repeat (first | exact Drawn0.refl _ | apply Drawn0.step)⟩

/-- A plan: from 1 to 8 rows, each with as many numbers from 0 to 60. -/
def planB (l : List (List Int)) : Bool := decide (1 ≤ l.length) && decide (l.length ≤ 8) && l.all (impl_isPlan.p l.length)
theorem isPlan_f (l : List (List Int)) : impl_isPlan.f l = some (planB l) := rfl
theorem planB_iff (l : List (List Int)) : planB l = true ↔ 1 ≤ l.length ∧ l.length ≤ 8 ∧ ∀ r ∈ l, r.length = l.length ∧ ∀ x ∈ r, 0 ≤ x ∧ x ≤ 60 := by
  simp [planB, impl_isPlan.p, List.all_eq_true, and_assoc]
theorem l1All_l0 (l : List Int) (a b : Int) (hl : l.length ≤ 4611686018427387904) : ∀ d (i : Nat), i ≤ l.length → l.length - i = d →
    Ev (fun k => spec_l1All.l0 k a b l (l.length : Int) (i : Int)) ((l.drop i).all fun x => decide (a ≤ x) && decide (x ≤ b)) := by
  intro d
  induction d with
  | zero =>
    intro i hi hd
    have : i = l.length := by omega
    subst this
    refine ev_succ ?_
    simp only [spec_l1All.l0, if_neg (Int.lt_irrefl _), List.drop_length]
    exact ev_now _ _ rfl
  | succ d ih =>
    intro i hi hd
    have hlt : i < l.length := by omega
    have h1 : (i : Int) < (l.length : Int) := by omega
    have h2 : (0 : Int) ≤ (i : Int) := by omega
    refine ev_succ ?_
    simp only [spec_l1All.l0, if_pos h1, if_pos h2, rd_nat l i hlt, wrap64_nat_succ (show i < 9223372036854775807 by omega)]
    rw [List.drop_eq_getElem_cons hlt, List.all_cons]
    unfold spec_l1In.f
    by_cases h3 : a ≤ l[i]
    · by_cases h4 : l[i] ≤ b
      · simp only [ge_iff_le, if_pos h3, decide_eq_true h3, decide_eq_true h4, Option.bind_some, if_true, Bool.and_self, Bool.true_and]
        exact ih (i + 1) (by omega) (by omega)
      · simp only [ge_iff_le, if_pos h3, decide_eq_false h4, Option.bind_some, Bool.and_false, Bool.false_and]
        exact ev_now _ _ rfl
    · simp only [ge_iff_le, if_neg h3, decide_eq_false h3, Option.bind_some, Bool.false_and]
      exact ev_now _ _ rfl
theorem l1All_ev (l : List Int) (a b : Int) (hl : l.length ≤ 4611686018427387904) : Ev (fun k => spec_l1All.f k l a b) (l.all fun x => decide (a ≤ x) && decide (x ≤ b)) := by
  unfold spec_l1All.f
  have := l1All_l0 l a b hl l.length 0 (by omega) (by omega)
  simpa using this
theorem plGood_l0 (l : List (List Int)) (hl : l.length ≤ 8) : ∀ d (i : Nat), i ≤ l.length → l.length - i = d →
    Ev (fun k => spec_plGood.l0 k l l (l.length : Int) (i : Int)) ((l.drop i).all (impl_isPlan.p l.length)) := by
  intro d
  induction d with
  | zero =>
    intro i hi hd
    have : i = l.length := by omega
    subst this
    refine ev_succ ?_
    simp only [spec_plGood.l0, if_neg (Int.lt_irrefl _), List.drop_length]
    exact ev_now _ _ rfl
  | succ d ih =>
    intro i hi hd
    have hlt : i < l.length := by omega
    have h1 : (i : Int) < (l.length : Int) := by omega
    have h2 : (0 : Int) ≤ (i : Int) := by omega
    refine ev_succ ?_
    simp only [spec_plGood.l0, if_pos h1, if_pos h2, rdL_nat l i hlt, wrap64_nat_succ (show i < 9223372036854775807 by omega)]
    rw [List.drop_eq_getElem_cons hlt, List.all_cons]
    by_cases h3 : l[i].length = l.length
    · have h4 : ((l[i].length : Nat) : Int) = (l.length : Int) := by omega
      have hp : impl_isPlan.p l.length l[i] = l[i].all fun x => decide (0 ≤ x) && decide (x ≤ 60) := by simp [impl_isPlan.p, h3]
      simp only [if_pos h4]
      refine Ev.bind (l1All_ev l[i] 0 60 (by omega)) ?_
      rw [hp]
      cases hq : l[i].all fun x => decide (0 ≤ x) && decide (x ≤ 60) with
      | true => simp only [if_true, Bool.true_and]; exact ih (i + 1) (by omega) (by omega)
      | false => exact ev_now _ _ rfl
    · have h4 : ¬ (((l[i].length : Nat) : Int) = (l.length : Int)) := by omega
      have hp : impl_isPlan.p l.length l[i] = false := by simp [impl_isPlan.p, h3]
      simp only [if_neg h4, hp, Bool.false_and]
      exact ev_now _ _ rfl
theorem plGood_ev (l : List (List Int)) : Ev (fun k => spec_plGood.f k l) (planB l) := by
  unfold spec_plGood.f spec_l1In.f planB
  by_cases h1 : 1 ≤ l.length
  · have h1' : (l.length : Int) ≥ 1 := by omega
    by_cases h2 : l.length ≤ 8
    · have h2' : (l.length : Int) ≤ 8 := by omega
      simp only [if_pos h1', decide_eq_true h2', Option.bind_some, if_true, decide_eq_true h1, decide_eq_true h2, Bool.true_and]
      have := plGood_l0 l h2 l.length 0 (by omega) (by omega)
      simpa using this
    · have h2' : ¬ (l.length : Int) ≤ 8 := by omega
      simp only [if_pos h1', decide_eq_false h2', Option.bind_some, decide_eq_false h2, Bool.and_false, Bool.false_and]
      exact ev_now _ _ rfl
  · have h1' : ¬ (l.length : Int) ≥ 1 := by omega
    simp only [if_neg h1', Option.bind_some, decide_eq_false h1, Bool.false_and]
    exact ev_now _ _ rfl
/-! ### rows and columns exchanged -/
def colOf (l : List (List Int)) (j : Nat) : List Int := l.map fun r => r.getD j 0
def turned (l : List (List Int)) : List (List Int) := (List.range l.length).map (colOf l)
theorem colOf_length (l : List (List Int)) (j : Nat) : (colOf l j).length = l.length := by simp [colOf]
theorem turned_length (l : List (List Int)) : (turned l).length = l.length := by simp [turned]
theorem turned_at (l : List (List Int)) (j : Nat) (h : j < l.length) : (turned l)[j]'(by rw [turned_length]; exact h) = colOf l j := by simp [turned]
theorem turned_getD (l : List (List Int)) (j : Nat) (h : j < l.length) : (turned l).getD j [] = colOf l j := by
  rw [List.getD_eq_getElem?_getD, List.getElem?_eq_getElem (by rw [turned_length]; exact h), turned_at l j h]; rfl
theorem colOf_getD (l : List (List Int)) (i j : Nat) : (colOf l j).getD i 0 = (l.getD i []).getD j 0 := by
  simp only [colOf, List.getD_eq_getElem?_getD, List.getElem?_map]
  cases l[i]? <;> simp
theorem colOf_mem (l : List (List Int)) (j : Nat) (h : ∀ r ∈ l, j < r.length) (x : Int) (hx : x ∈ colOf l j) : ∃ r ∈ l, x ∈ r := by
  simp only [colOf, List.mem_map] at hx
  obtain ⟨r, hr, rfl⟩ := hx
  refine ⟨r, hr, ?_⟩
  rw [List.getD_eq_getElem?_getD, List.getElem?_eq_getElem (h r hr)]
  exact List.getElem_mem _
theorem turned_plan (l : List (List Int)) (h : planB l = true) : planB (turned l) = true := by
  obtain ⟨h1, h2, h3⟩ := (planB_iff l).1 h
  refine (planB_iff _).2 ⟨by rw [turned_length]; exact h1, by rw [turned_length]; exact h2, fun r hr => ?_⟩
  simp only [turned, List.mem_map, List.mem_range] at hr
  obtain ⟨j, hj, rfl⟩ := hr
  refine ⟨by rw [colOf_length, turned_length], fun x hx => ?_⟩
  obtain ⟨r, hr, hx⟩ := colOf_mem l j (fun r hr => by rw [(h3 r hr).1]; exact hj) x hx
  exact (h3 r hr).2 x hx
theorem ext_getD {α : Type} (d : α) {a b : List α} (hl : a.length = b.length) (h : ∀ i, i < a.length → a.getD i d = b.getD i d) : a = b := by
  refine List.ext_getElem hl fun i h1 h2 => ?_
  have := h i h1
  rw [List.getD_eq_getElem?_getD, List.getD_eq_getElem?_getD, List.getElem?_eq_getElem h1, List.getElem?_eq_getElem h2] at this
  simpa using this
theorem turned_turned (l : List (List Int)) (h : ∀ r ∈ l, r.length = l.length) : turned (turned l) = l := by
  refine ext_getD [] (by rw [turned_length, turned_length]) fun i hi => ?_
  rw [turned_length, turned_length] at hi
  rw [turned_getD _ _ (by rw [turned_length]; exact hi)]
  have hm : l.getD i [] ∈ l := by rw [List.getD_eq_getElem?_getD, List.getElem?_eq_getElem hi]; exact List.getElem_mem _
  refine ext_getD 0 (by rw [colOf_length, turned_length, h _ hm]) fun j hj => ?_
  rw [colOf_length, turned_length] at hj
  rw [colOf_getD, turned_getD _ _ hj, colOf_getD]

def impl_areLists.f (k : Nat) (l0 : List Int) (l1 : List Int) : Option (Bool) := (impl_IsList.f k l0).bind fun t211 => (if t211 = true then ((impl_IsList.f k l1).bind fun t212 => (some t212)) else (some false))
theorem impl_areLists.mono : ∀ a0 a1 k, LeO (impl_areLists.f k a0 a1) (impl_areLists.f (k + 1) a0 a1) := by
 intro a0 a1 k
 unfold impl_areLists.f
 repeat' first
   | (with_reducible exact impl_IsList.mono _ _)
   | (with_reducible exact LeO.refl _)
   | (with_reducible exact LeO.none _)
   | (with_reducible refine LeO.ite ?_ ?_)
   | (with_reducible refine LeO.bind ?_ (fun _ => ?_))
   | exact impl_IsList.mono _ _
   | exact LeO.none _
   | refine LeO.ite ?_ ?_
   | refine LeO.bind ?_ (fun _ => ?_)
set_option maxHeartbeats 8000000 in
set_option maxRecDepth 100000 in
theorem impl_areLists.calls (k : Nat) (A0 : Option Addr) (c0 : Nat) (l0 : List Int) (A1 : Option Addr) (c1 : Nat) (l1 : List Int) (r : Bool) (w : World) (hr0 : Kd.C (Kd.int .i64) w A0 l0.length l0) (hc0 : l0.length ≤ c0) (hr1 : Kd.C (Kd.int .i64) w A1 l1.length l1) (hc1 : l1.length ≤ c1) (h : impl_areLists.f k l0 l1 = some r) :
  Calls Try.prog 104 #[.slice A0 l0.length c0, .slice A1 l1.length c1] w fun e w' => e = .returned (.bool r) ∧ Drawn0 w w' := by
 have HR0 := Aside0.mk hr0
 have HC0 := Aside0.mk hc0
 clear hr0 hc0
 have HR1 := Aside0.mk hr1
 have HC1 := Aside0.mk hc1
 clear hr1 hc1
 have H : ((impl_IsList.f k l0).bind fun t211 => (if t211 = true then ((impl_IsList.f k l1).bind fun t212 => (some t212)) else (some false))) = some r := h
 clear h
 replace H := Option.bind_eq_some_iff.mp H
 obtain ⟨t211, A30, H⟩ := H
 replace H : (if t211 = true then ((impl_IsList.f k l1).bind fun t212 => (some t212)) else (some false)) = some r := H
 have A3 := Aside0.mk A30
 clear A30
 by_cases c4 : t211 = true
 ·subst c4
  have H1 : ((impl_IsList.f k l1).bind fun t212 => (some t212)) = some r := by rw [if_pos rfl] at H; exact H
  clear H
  have H := H1
  clear H1
  replace H := Option.bind_eq_some_iff.mp H
  obtain ⟨t212, A50, H⟩ := H
  replace H : (some t212) = some r := H
  have A5 := Aside0.mk A50
  clear A50
  obtain rfl := Option.some.inj H
  go_enter Try.func104, Try.ntmps104
  go_wp2_with (first | ((with_reducible refine gate_callee (f := 81) rfl ?_); refine goesL_ (some 6) rfl rfl Try.func81 (by kernel_rfl) rfl #[.slice A0 l0.length c0] rfl (by (try simp only [List.map_toArray, List.map_cons, List.map_nil]); first | done | rfl | (simp only [List.length_drop, List.length_take]; rfl)) ?_; (with_reducible refine (impl_IsList.calls k _ _ l0 true _ ?side1 ?side2 A3.out).mono ?_); (case side1 => repeat (first | exact HR0.out | (with_reducible refine Kd.C_alloc ?_ _) | (with_reducible refine Kd.C_drewN ?_ _) | (with_reducible refine Kd.C_drew ?_))); (case side2 => exact HC0.out); rintro e w' ⟨rfl, ⟨nd, rfl⟩⟩; refine ⟨_, rfl, ?_⟩) | (go_at_call 81; (with_reducible refine (impl_IsList.calls k _ _ l1 t212 _ ?side1 ?side2 A5.out).mono ?_); (case side1 => repeat (first | exact HR1.out | (with_reducible refine Kd.C_alloc ?_ _) | (with_reducible refine Kd.C_drewN ?_ _) | (with_reducible refine Kd.C_drew ?_))); (case side2 => exact HC1.out); rintro e w' ⟨rfl, ⟨nd, rfl⟩⟩))
  go_ret
  exact ⟨by first | rfl | (simp; done) | (simp [*]; done), by repeat (first | exact Drawn0.refl _ | apply Drawn0.step)⟩
 ·replace c4 := Bool.eq_false_iff.mpr c4
  subst c4
  have H1 : (some false) = some r := by rw [if_neg (show ¬ (false = true) by decide)] at H; exact H
  clear H
  have H := H1
  clear H1
  obtain rfl := Option.some.inj H
  go_enter Try.func104, Try.ntmps104
  go_wp2_with (first | ((with_reducible refine gate_callee (f := 81) rfl ?_); refine goesL_ (some 6) rfl rfl Try.func81 (by kernel_rfl) rfl #[.slice A0 l0.length c0] rfl (by (try simp only [List.map_toArray, List.map_cons, List.map_nil]); first | done | rfl | (simp only [List.length_drop, List.length_take]; rfl)) ?_; (with_reducible refine (impl_IsList.calls k _ _ l0 false _ ?side1 ?side2 A3.out).mono ?_); (case side1 => repeat (first | exact HR0.out | (with_reducible refine Kd.C_alloc ?_ _) | (with_reducible refine Kd.C_drewN ?_ _) | (with_reducible refine Kd.C_drew ?_))); (case side2 => exact HC0.out); rintro e w' ⟨rfl, ⟨nd, rfl⟩⟩; refine ⟨_, rfl, ?_⟩))
  go_ret
  exact ⟨by first | rfl | (simp; done) | (simp [*]; done), by repeat (first | exact Drawn0.refl _ | apply Drawn0.step)⟩


def impl_total.l0 : Nat → Int → List Int → Int → Int → Option (Int)
 | 0, _, _, _, _ => none
 | k + 1, x3, x6, x7, x8 => if x8 < x7 then (if 0 ≤ x8 then (if x8 < (x6.length : Int) then (impl_total.l0 k (wrap64 (x3 + (rd x6 x8))) x6 x7 (wrap64 (x8 + 1))) else (none)) else (none)) else (some x3)
def impl_total.f (k : Nat) (l0 : List Int) : Option (Int) := impl_total.l0 k 0 l0 (l0.length : Int) 0
theorem impl_total.mono_l : ∀ k, (∀ y0 y1 y2 y3, LeO (impl_total.l0 k y0 y1 y2 y3) (impl_total.l0 (k + 1) y0 y1 y2 y3))
 | 0 => fun _ _ _ _ r h => by simp [impl_total.l0] at h
 | k + 1 => by
  have ih0 := impl_total.mono_l k
  ·intro y0 y1 y2 y3
   unfold impl_total.l0
   repeat' first
   | (with_reducible exact ih0 _ _ _ _)
   | (with_reducible exact LeO.refl _)
   | (with_reducible exact LeO.none _)
   | (with_reducible refine LeO.ite ?_ ?_)
   | (with_reducible refine LeO.bind ?_ (fun _ => ?_))
   | exact ih0 _ _ _ _
   | exact LeO.none _
   | refine LeO.ite ?_ ?_
   | refine LeO.bind ?_ (fun _ => ?_)
theorem impl_total.mono : ∀ a0 k, LeO (impl_total.f k a0) (impl_total.f (k + 1) a0) := by
 intro a0 k
 have ih0 := impl_total.mono_l k
 unfold impl_total.f
 repeat' first
   | (with_reducible exact ih0 _ _ _ _)
   | (with_reducible exact LeO.refl _)
   | (with_reducible exact LeO.none _)
   | (with_reducible refine LeO.ite ?_ ?_)
   | (with_reducible refine LeO.bind ?_ (fun _ => ?_))
   | exact ih0 _ _ _ _
   | exact LeO.none _
   | refine LeO.ite ?_ ?_
   | refine LeO.bind ?_ (fun _ => ?_)
set_option maxHeartbeats 8000000 in
set_option maxRecDepth 100000 in
theorem impl_total.calls (k : Nat) (A0 : Option Addr) (c0 : Nat) (l0 : List Int) (r : Int) (w : World) (hr0 : Kd.C (Kd.int .i64) w A0 l0.length l0) (hc0 : l0.length ≤ c0) (h : impl_total.f k l0 = some r) :
  Calls Try.prog 187 #[.slice A0 l0.length c0] w fun e w' => e = .returned (.int .i64 r) ∧ Drawn0 w w' := by
 have HR0 := Aside0.mk hr0
 have HC0 := Aside0.mk hc0
 clear hr0 hc0
 have H : (impl_total.l0 k 0 l0 (l0.length : Int) 0) = some r := h
 clear h
 have H' := Aside0.mk H
 clear H
 go_enter Try.func187, Try.ntmps187
 go_wp2
 go_loopg [3, 8] k (fun kq v3 v8 w' => ∃ (x3_1 : Int) (x8_1 : Int), v3 = .int .i64 x3_1 ∧ v8 = .int .i64 x8_1 ∧ Aside0 (impl_total.l0 kq x3_1 l0 (l0.length : Int) x8_1 = some r) ∧ Aside0 (kq ≤ k) ∧ Drawn0 w w')
 case atStart => exact ⟨(0), (0), (by first | rfl | (simp; done) | (simp [*]; done)), (by first | rfl | (simp; done) | (simp [*]; done)), H', ⟨Nat.le_refl _⟩, by repeat (first | exact Drawn0.refl _ | apply Drawn0.step)⟩
 case round =>
  clear H'
  try clear c1
  obtain ⟨x3_1, x8_1, rfl, rfl, HA, HK1, ⟨m1, rfl⟩⟩ := hrel
  cases gk with
  | zero => exact absurd HA.out (by simp [impl_total.l0])
  | succ k1 =>
   have H := HA.out
   clear HA
   simp only [impl_total.l0] at H
   by_cases c2 : x8_1 < (l0.length : Int)
   ·rw [if_pos c2] at H
    have c2b0 : decide (x8_1 < (l0.length : Int)) = true := decide_eq_true c2
    clear c2
    by_cases c3 : 0 ≤ x8_1
    ·rw [if_pos c3] at H
     have c3b0 : decide (0 ≤ x8_1) = true := decide_eq_true c3
     clear c3
     by_cases c4 : x8_1 < (l0.length : Int)
     ·rw [if_pos c4] at H
      have c4b0 : decide (x8_1 < (l0.length : Int)) = true := decide_eq_true c4
      clear c4
      have H' := Aside0.mk H
      clear H
      have p213 : 0 ≤ (x8_1 : Int) := of_decide_eq_true (by first | (with_reducible assumption) | assumption)
      have q213 : x8_1 < (l0.length : Int) := of_decide_eq_true (by first | (with_reducible assumption) | assumption)
      obtain ⟨ad213, e213, hx213_0⟩ := Kd.at_int HR0.out x8_1 p213 q213
      cases e213
      replace p213 := eq_true p213
      replace q213 := eq_true q213
      go_wp2
      go_roundg k1
      case measure => have := HK1.out; omega
      case rel => exact ⟨(wrap64 (x3_1 + (rd l0 x8_1))), (wrap64 (x8_1 + 1)), (by first | rfl | (simp; done) | (simp [*]; done)), (by first | rfl | (simp; done) | (simp [*]; done)), H', ⟨by have := HK1.out; omega⟩, by repeat (first | exact Drawn0.refl _ | apply Drawn0.step)⟩
     ·rw [if_neg c4] at H
      exact absurd H (by simp)
    ·rw [if_neg c3] at H
     exact absurd H (by simp)
   ·rw [if_neg c2] at H
    have c2b0 : decide (x8_1 < (l0.length : Int)) = false := decide_eq_false c2
    clear c2
    obtain rfl := Option.some.inj H
    go_wp2
    go_ret
    exact ⟨by first | rfl | (simp; done) | (simp [*]; done), by repeat (first | exact Drawn0.refl _ | apply Drawn0.step)⟩


def impl_doFit.f (k : Nat) (l0 : List Int) (l1 : List Int) : Option (Bool) := if (l0.length : Int) = (l1.length : Int) then ((impl_total.f k l0).bind fun t214 => ((impl_total.f k l1).bind fun t215 => (some (t214 == t215)))) else (some false)
theorem impl_doFit.mono : ∀ a0 a1 k, LeO (impl_doFit.f k a0 a1) (impl_doFit.f (k + 1) a0 a1) := by
 intro a0 a1 k
 unfold impl_doFit.f
 repeat' first
   | (with_reducible exact impl_total.mono _ _)
   | (with_reducible exact LeO.refl _)
   | (with_reducible exact LeO.none _)
   | (with_reducible refine LeO.ite ?_ ?_)
   | (with_reducible refine LeO.bind ?_ (fun _ => ?_))
   | exact impl_total.mono _ _
   | exact LeO.none _
   | refine LeO.ite ?_ ?_
   | refine LeO.bind ?_ (fun _ => ?_)
set_option maxHeartbeats 8000000 in
set_option maxRecDepth 100000 in
theorem impl_doFit.calls (k : Nat) (A0 : Option Addr) (c0 : Nat) (l0 : List Int) (A1 : Option Addr) (c1 : Nat) (l1 : List Int) (r : Bool) (w : World) (hr0 : Kd.C (Kd.int .i64) w A0 l0.length l0) (hc0 : l0.length ≤ c0) (hr1 : Kd.C (Kd.int .i64) w A1 l1.length l1) (hc1 : l1.length ≤ c1) (h : impl_doFit.f k l0 l1 = some r) :
  Calls Try.prog 108 #[.slice A0 l0.length c0, .slice A1 l1.length c1] w fun e w' => e = .returned (.bool r) ∧ Drawn0 w w' := by
 have HR0 := Aside0.mk hr0
 have HC0 := Aside0.mk hc0
 clear hr0 hc0
 have HR1 := Aside0.mk hr1
 have HC1 := Aside0.mk hc1
 clear hr1 hc1
 have H : (if (l0.length : Int) = (l1.length : Int) then ((impl_total.f k l0).bind fun t214 => ((impl_total.f k l1).bind fun t215 => (some (t214 == t215)))) else (some false)) = some r := h
 clear h
 by_cases c3 : (l0.length : Int) = (l1.length : Int)
 ·rw [if_pos c3] at H
  have c3b0 : ((l0.length : Int) == (l1.length : Int)) = true := beq_iff_eq.mpr c3
  have c3b1 : ((l0.length : Int) != (l1.length : Int)) = false := bne_eq_false_iff_eq.mpr c3
  have c3b2 : (l0.length == l1.length) = true := by first | simpa using c3 | (simp at c3 ⊢; omega)
  clear c3
  replace H := Option.bind_eq_some_iff.mp H
  obtain ⟨t214, A40, H⟩ := H
  replace H : ((impl_total.f k l1).bind fun t215 => (some (t214 == t215))) = some r := H
  have A4 := Aside0.mk A40
  clear A40
  replace H := Option.bind_eq_some_iff.mp H
  obtain ⟨t215, A50, H⟩ := H
  replace H : (some (t214 == t215)) = some r := H
  have A5 := Aside0.mk A50
  clear A50
  obtain rfl := Option.some.inj H
  go_enter Try.func108, Try.ntmps108
  go_wp2_with (first | (go_at_call 187; (with_reducible refine (impl_total.calls k _ _ l0 t214 _ ?side1 ?side2 A4.out).mono ?_); (case side1 => repeat (first | exact HR0.out | (with_reducible refine Kd.C_alloc ?_ _) | (with_reducible refine Kd.C_drewN ?_ _) | (with_reducible refine Kd.C_drew ?_))); (case side2 => exact HC0.out); rintro e w' ⟨rfl, ⟨nd, rfl⟩⟩) | (go_at_call 187; (with_reducible refine (impl_total.calls k _ _ l1 t215 _ ?side1 ?side2 A5.out).mono ?_); (case side1 => repeat (first | exact HR1.out | (with_reducible refine Kd.C_alloc ?_ _) | (with_reducible refine Kd.C_drewN ?_ _) | (with_reducible refine Kd.C_drew ?_))); (case side2 => exact HC1.out); rintro e w' ⟨rfl, ⟨nd, rfl⟩⟩))
  go_ret
  exact ⟨by first | rfl | (simp; done) | (simp [*]; done), by repeat (first | exact Drawn0.refl _ | apply Drawn0.step)⟩
 ·rw [if_neg c3] at H
  have c3b0 : ((l0.length : Int) == (l1.length : Int)) = false := beq_eq_false_iff_ne.mpr c3
  have c3b1 : ((l0.length : Int) != (l1.length : Int)) = true := bne_iff_ne.mpr c3
  have c3b2 : (l0.length == l1.length) = false := by first | simpa using c3 | (simp at c3 ⊢; omega)
  obtain rfl := Option.some.inj H
  go_enter Try.func108, Try.ntmps108
  go_wp2
  go_ret
  exact ⟨by first | rfl | (simp; done) | (simp [*]; done), by repeat (first | exact Drawn0.refl _ | apply Drawn0.step)⟩


def impl_areFitting.f (k : Nat) (l0 : List Int) (l1 : List Int) : Option (Bool) := (impl_areLists.f k l0 l1).bind fun t319 => (if t319 = true then ((impl_doFit.f k l0 l1).bind fun t320 => (some t320)) else (some false))
theorem impl_areFitting.mono : ∀ a0 a1 k, LeO (impl_areFitting.f k a0 a1) (impl_areFitting.f (k + 1) a0 a1) := by
 intro a0 a1 k
 unfold impl_areFitting.f
 repeat' first
   | (with_reducible exact impl_areLists.mono _ _ _)
   | (with_reducible exact impl_doFit.mono _ _ _)
   | (with_reducible exact LeO.refl _)
   | (with_reducible exact LeO.none _)
   | (with_reducible refine LeO.ite ?_ ?_)
   | (with_reducible refine LeO.bind ?_ (fun _ => ?_))
   | exact impl_areLists.mono _ _ _
   | exact impl_doFit.mono _ _ _
   | exact LeO.none _
   | refine LeO.ite ?_ ?_
   | refine LeO.bind ?_ (fun _ => ?_)
set_option maxHeartbeats 8000000 in
set_option maxRecDepth 100000 in
theorem impl_areFitting.calls (k : Nat) (A0 : Option Addr) (c0 : Nat) (l0 : List Int) (A1 : Option Addr) (c1 : Nat) (l1 : List Int) (r : Bool) (w : World) (hr0 : Kd.C (Kd.int .i64) w A0 l0.length l0) (hc0 : l0.length ≤ c0) (hr1 : Kd.C (Kd.int .i64) w A1 l1.length l1) (hc1 : l1.length ≤ c1) (h : impl_areFitting.f k l0 l1 = some r) :
  Calls Try.prog 114 #[.slice A0 l0.length c0, .slice A1 l1.length c1] w fun e w' => e = .returned (.bool r) ∧ Drawn0 w w' := by
 have HR0 := Aside0.mk hr0
 have HC0 := Aside0.mk hc0
 clear hr0 hc0
 have HR1 := Aside0.mk hr1
 have HC1 := Aside0.mk hc1
 clear hr1 hc1
 have H : ((impl_areLists.f k l0 l1).bind fun t319 => (if t319 = true then ((impl_doFit.f k l0 l1).bind fun t320 => (some t320)) else (some false))) = some r := h
 clear h
 replace H := Option.bind_eq_some_iff.mp H
 obtain ⟨t319, A30, H⟩ := H
 replace H : (if t319 = true then ((impl_doFit.f k l0 l1).bind fun t320 => (some t320)) else (some false)) = some r := H
 have A3 := Aside0.mk A30
 clear A30
 by_cases c4 : t319 = true
 ·subst c4
  have H1 : ((impl_doFit.f k l0 l1).bind fun t320 => (some t320)) = some r := by rw [if_pos rfl] at H; exact H
  clear H
  have H := H1
  clear H1
  replace H := Option.bind_eq_some_iff.mp H
  obtain ⟨t320, A50, H⟩ := H
  replace H : (some t320) = some r := H
  have A5 := Aside0.mk A50
  clear A50
  obtain rfl := Option.some.inj H
  go_enter Try.func114, Try.ntmps114
  go_wp2_with (first | ((with_reducible refine gate_callee (f := 104) rfl ?_); refine goesL_ (some 7) rfl rfl Try.func104 (by kernel_rfl) rfl #[.slice A0 l0.length c0, .slice A1 l1.length c1] rfl (by (try simp only [List.map_toArray, List.map_cons, List.map_nil]); first | done | rfl | (simp only [List.length_drop, List.length_take]; rfl)) ?_; (with_reducible refine (impl_areLists.calls k _ _ l0 _ _ l1 true _ ?side1 ?side2 ?side3 ?side4 A3.out).mono ?_); (case side1 => repeat (first | exact HR0.out | (with_reducible refine Kd.C_alloc ?_ _) | (with_reducible refine Kd.C_drewN ?_ _) | (with_reducible refine Kd.C_drew ?_))); (case side2 => exact HC0.out); (case side3 => repeat (first | exact HR1.out | (with_reducible refine Kd.C_alloc ?_ _) | (with_reducible refine Kd.C_drewN ?_ _) | (with_reducible refine Kd.C_drew ?_))); (case side4 => exact HC1.out); rintro e w' ⟨rfl, ⟨nd, rfl⟩⟩; refine ⟨_, rfl, ?_⟩) | (go_at_call 108; (with_reducible refine (impl_doFit.calls k _ _ l0 _ _ l1 t320 _ ?side1 ?side2 ?side3 ?side4 A5.out).mono ?_); (case side1 => repeat (first | exact HR0.out | (with_reducible refine Kd.C_alloc ?_ _) | (with_reducible refine Kd.C_drewN ?_ _) | (with_reducible refine Kd.C_drew ?_))); (case side2 => exact HC0.out); (case side3 => repeat (first | exact HR1.out | (with_reducible refine Kd.C_alloc ?_ _) | (with_reducible refine Kd.C_drewN ?_ _) | (with_reducible refine Kd.C_drew ?_))); (case side4 => exact HC1.out); rintro e w' ⟨rfl, ⟨nd, rfl⟩⟩))
  go_ret
  exact ⟨by first | rfl | (simp; done) | (simp [*]; done), by repeat (first | exact Drawn0.refl _ | apply Drawn0.step)⟩
 ·replace c4 := Bool.eq_false_iff.mpr c4
  subst c4
  have H1 : (some false) = some r := by rw [if_neg (show ¬ (false = true) by decide)] at H; exact H
  clear H
  have H := H1
  clear H1
  obtain rfl := Option.some.inj H
  go_enter Try.func114, Try.ntmps114
  go_wp2_with (first | ((with_reducible refine gate_callee (f := 104) rfl ?_); refine goesL_ (some 7) rfl rfl Try.func104 (by kernel_rfl) rfl #[.slice A0 l0.length c0, .slice A1 l1.length c1] rfl (by (try simp only [List.map_toArray, List.map_cons, List.map_nil]); first | done | rfl | (simp only [List.length_drop, List.length_take]; rfl)) ?_; (with_reducible refine (impl_areLists.calls k _ _ l0 _ _ l1 false _ ?side1 ?side2 ?side3 ?side4 A3.out).mono ?_); (case side1 => repeat (first | exact HR0.out | (with_reducible refine Kd.C_alloc ?_ _) | (with_reducible refine Kd.C_drewN ?_ _) | (with_reducible refine Kd.C_drew ?_))); (case side2 => exact HC0.out); (case side3 => repeat (first | exact HR1.out | (with_reducible refine Kd.C_alloc ?_ _) | (with_reducible refine Kd.C_drewN ?_ _) | (with_reducible refine Kd.C_drew ?_))); (case side4 => exact HC1.out); rintro e w' ⟨rfl, ⟨nd, rfl⟩⟩; refine ⟨_, rfl, ?_⟩))
  go_ret
  exact ⟨by first | rfl | (simp; done) | (simp [*]; done), by repeat (first | exact Drawn0.refl _ | apply Drawn0.step)⟩


def spec_liGood.f (k : Nat) (l0 : List Int) : Option (Bool) := (spec_l1In.f (l0.length : Int) 1 8).bind fun t228 => (if t228 = true then ((spec_l1All.f k l0 0 60).bind fun t229 => (some t229)) else (some false))
theorem spec_liGood.mono : ∀ a0 k, LeO (spec_liGood.f k a0) (spec_liGood.f (k + 1) a0) := by
 intro a0 k
 unfold spec_liGood.f
 repeat' first
   | (with_reducible exact spec_l1All.mono _ _ _ _)
   | (with_reducible exact LeO.refl _)
   | (with_reducible exact LeO.none _)
   | (with_reducible refine LeO.ite ?_ ?_)
   | (with_reducible refine LeO.bind ?_ (fun _ => ?_))
   | exact spec_l1All.mono _ _ _ _
   | exact LeO.none _
   | refine LeO.ite ?_ ?_
   | refine LeO.bind ?_ (fun _ => ?_)
set_option maxHeartbeats 8000000 in
set_option maxRecDepth 100000 in
theorem spec_liGood.calls (k : Nat) (A0 : Option Addr) (c0 : Nat) (l0 : List Int) (r : Bool) (w : World) (hr0 : Kd.C (Kd.int .i64) w A0 l0.length l0) (hc0 : l0.length ≤ c0) (h : spec_liGood.f k l0 = some r) :
  Calls Try.prog 106 #[.slice A0 l0.length c0] w fun e w' => e = .returned (.bool r) ∧ Drawn0 w w' := by
 have HR0 := Aside0.mk hr0
 have HC0 := Aside0.mk hc0
 clear hr0 hc0
 have H : ((spec_l1In.f (l0.length : Int) 1 8).bind fun t228 => (if t228 = true then ((spec_l1All.f k l0 0 60).bind fun t229 => (some t229)) else (some false))) = some r := h
 clear h
 replace H := Option.bind_eq_some_iff.mp H
 obtain ⟨t228, A20, H⟩ := H
 replace H : (if t228 = true then ((spec_l1All.f k l0 0 60).bind fun t229 => (some t229)) else (some false)) = some r := H
 have A2 := Aside0.mk A20
 clear A20
 by_cases c3 : t228 = true
 ·subst c3
  have H1 : ((spec_l1All.f k l0 0 60).bind fun t229 => (some t229)) = some r := by rw [if_pos rfl] at H; exact H
  clear H
  have H := H1
  clear H1
  replace H := Option.bind_eq_some_iff.mp H
  obtain ⟨t229, A40, H⟩ := H
  replace H : (some t229) = some r := H
  have A4 := Aside0.mk A40
  clear A40
  obtain rfl := Option.some.inj H
  go_enter Try.func106, Try.ntmps106
  go_wp2_with (first | ((with_reducible refine gate_callee (f := 195) rfl ?_); refine goesL_ (some 5) rfl rfl Try.func195 (by kernel_rfl) rfl #[.int .i64 (l0.length : Int), .int .i64 1, .int .i64 8] rfl (by (try simp only [List.map_toArray, List.map_cons, List.map_nil]); first | done | rfl | (simp only [List.length_drop, List.length_take]; rfl)) ?_; (with_reducible refine (spec_l1In.calls (l0.length : Int) 1 8 true _ A2.out).mono ?_); rintro e w' ⟨rfl, ⟨nd, rfl⟩⟩; refine ⟨_, rfl, ?_⟩) | (go_at_call 196; (with_reducible refine (spec_l1All.calls k _ _ l0 0 60 t229 _ ?side1 ?side2 A4.out).mono ?_); (case side1 => repeat (first | exact HR0.out | (with_reducible refine Kd.C_alloc ?_ _) | (with_reducible refine Kd.C_drewN ?_ _) | (with_reducible refine Kd.C_drew ?_))); (case side2 => exact HC0.out); rintro e w' ⟨rfl, ⟨nd, rfl⟩⟩))
  go_ret
  exact ⟨by first | rfl | (simp; done) | (simp [*]; done), by repeat (first | exact Drawn0.refl _ | apply Drawn0.step)⟩
 ·replace c3 := Bool.eq_false_iff.mpr c3
  subst c3
  have H1 : (some false) = some r := by rw [if_neg (show ¬ (false = true) by decide)] at H; exact H
  clear H
  have H := H1
  clear H1
  obtain rfl := Option.some.inj H
  go_enter Try.func106, Try.ntmps106
  go_wp2_with (first | ((with_reducible refine gate_callee (f := 195) rfl ?_); refine goesL_ (some 5) rfl rfl Try.func195 (by kernel_rfl) rfl #[.int .i64 (l0.length : Int), .int .i64 1, .int .i64 8] rfl (by (try simp only [List.map_toArray, List.map_cons, List.map_nil]); first | done | rfl | (simp only [List.length_drop, List.length_take]; rfl)) ?_; (with_reducible refine (spec_l1In.calls (l0.length : Int) 1 8 false _ A2.out).mono ?_); rintro e w' ⟨rfl, ⟨nd, rfl⟩⟩; refine ⟨_, rfl, ?_⟩))
  go_ret
  exact ⟨by first | rfl | (simp; done) | (simp [*]; done), by repeat (first | exact Drawn0.refl _ | apply Drawn0.step)⟩


def spec_liSum.l0 : Nat → Int → List Int → Int → Int → Option (Int)
 | 0, _, _, _, _ => none
 | k + 1, x3, x6, x7, x8 => if x8 < x7 then (if 0 ≤ x8 then (if x8 < (x6.length : Int) then (spec_liSum.l0 k (wrap64 (x3 + (rd x6 x8))) x6 x7 (wrap64 (x8 + 1))) else (none)) else (none)) else (some x3)
def spec_liSum.f (k : Nat) (l0 : List Int) : Option (Int) := spec_liSum.l0 k 0 l0 (l0.length : Int) 0
theorem spec_liSum.mono_l : ∀ k, (∀ y0 y1 y2 y3, LeO (spec_liSum.l0 k y0 y1 y2 y3) (spec_liSum.l0 (k + 1) y0 y1 y2 y3))
 | 0 => fun _ _ _ _ r h => by simp [spec_liSum.l0] at h
 | k + 1 => by
  have ih0 := spec_liSum.mono_l k
  ·intro y0 y1 y2 y3
   unfold spec_liSum.l0
   repeat' first
   | (with_reducible exact ih0 _ _ _ _)
   | (with_reducible exact LeO.refl _)
   | (with_reducible exact LeO.none _)
   | (with_reducible refine LeO.ite ?_ ?_)
   | (with_reducible refine LeO.bind ?_ (fun _ => ?_))
   | exact ih0 _ _ _ _
   | exact LeO.none _
   | refine LeO.ite ?_ ?_
   | refine LeO.bind ?_ (fun _ => ?_)
theorem spec_liSum.mono : ∀ a0 k, LeO (spec_liSum.f k a0) (spec_liSum.f (k + 1) a0) := by
 intro a0 k
 have ih0 := spec_liSum.mono_l k
 unfold spec_liSum.f
 repeat' first
   | (with_reducible exact ih0 _ _ _ _)
   | (with_reducible exact LeO.refl _)
   | (with_reducible exact LeO.none _)
   | (with_reducible refine LeO.ite ?_ ?_)
   | (with_reducible refine LeO.bind ?_ (fun _ => ?_))
   | exact ih0 _ _ _ _
   | exact LeO.none _
   | refine LeO.ite ?_ ?_
   | refine LeO.bind ?_ (fun _ => ?_)
set_option maxHeartbeats 8000000 in
set_option maxRecDepth 100000 in
theorem spec_liSum.calls (k : Nat) (A0 : Option Addr) (c0 : Nat) (l0 : List Int) (r : Int) (w : World) (hr0 : Kd.C (Kd.int .i64) w A0 l0.length l0) (hc0 : l0.length ≤ c0) (h : spec_liSum.f k l0 = some r) :
  Calls Try.prog 215 #[.slice A0 l0.length c0] w fun e w' => e = .returned (.int .i64 r) ∧ Drawn0 w w' := by
 have HR0 := Aside0.mk hr0
 have HC0 := Aside0.mk hc0
 clear hr0 hc0
 have H : (spec_liSum.l0 k 0 l0 (l0.length : Int) 0) = some r := h
 clear h
 have H' := Aside0.mk H
 clear H
 go_enter Try.func215, Try.ntmps215
 go_wp2
 go_loopg [3, 8] k (fun kq v3 v8 w' => ∃ (x3_1 : Int) (x8_1 : Int), v3 = .int .i64 x3_1 ∧ v8 = .int .i64 x8_1 ∧ Aside0 (spec_liSum.l0 kq x3_1 l0 (l0.length : Int) x8_1 = some r) ∧ Aside0 (kq ≤ k) ∧ Drawn0 w w')
 case atStart => exact ⟨(0), (0), (by first | rfl | (simp; done) | (simp [*]; done)), (by first | rfl | (simp; done) | (simp [*]; done)), H', ⟨Nat.le_refl _⟩, by repeat (first | exact Drawn0.refl _ | apply Drawn0.step)⟩
 case round =>
  clear H'
  obtain ⟨x3_1, x8_1, rfl, rfl, HA, HK1, ⟨m1, rfl⟩⟩ := hrel
  cases gk with
  | zero => exact absurd HA.out (by simp [spec_liSum.l0])
  | succ k1 =>
   have H := HA.out
   clear HA
   simp only [spec_liSum.l0] at H
   by_cases c2 : x8_1 < (l0.length : Int)
   ·rw [if_pos c2] at H
    have c2b0 : decide (x8_1 < (l0.length : Int)) = true := decide_eq_true c2
    clear c2
    by_cases c3 : 0 ≤ x8_1
    ·rw [if_pos c3] at H
     have c3b0 : decide (0 ≤ x8_1) = true := decide_eq_true c3
     clear c3
     by_cases c4 : x8_1 < (l0.length : Int)
     ·rw [if_pos c4] at H
      have c4b0 : decide (x8_1 < (l0.length : Int)) = true := decide_eq_true c4
      clear c4
      have H' := Aside0.mk H
      clear H
      have p230 : 0 ≤ (x8_1 : Int) := of_decide_eq_true (by first | (with_reducible assumption) | assumption)
      have q230 : x8_1 < (l0.length : Int) := of_decide_eq_true (by first | (with_reducible assumption) | assumption)
      obtain ⟨ad230, e230, hx230_0⟩ := Kd.at_int HR0.out x8_1 p230 q230
      cases e230
      replace p230 := eq_true p230
      replace q230 := eq_true q230
      go_wp2
      go_roundg k1
      case measure => have := HK1.out; omega
      case rel => exact ⟨(wrap64 (x3_1 + (rd l0 x8_1))), (wrap64 (x8_1 + 1)), (by first | rfl | (simp; done) | (simp [*]; done)), (by first | rfl | (simp; done) | (simp [*]; done)), H', ⟨by have := HK1.out; omega⟩, by repeat (first | exact Drawn0.refl _ | apply Drawn0.step)⟩
     ·rw [if_neg c4] at H
      exact absurd H (by simp)
    ·rw [if_neg c3] at H
     exact absurd H (by simp)
   ·rw [if_neg c2] at H
    have c2b0 : decide (x8_1 < (l0.length : Int)) = false := decide_eq_false c2
    clear c2
    obtain rfl := Option.some.inj H
    go_wp2
    go_ret
    exact ⟨by first | rfl | (simp; done) | (simp [*]; done), by repeat (first | exact Drawn0.refl _ | apply Drawn0.step)⟩


def spec_liFit.f (k : Nat) (l0 : List Int) (l1 : List Int) : Option (Bool) := if (l0.length : Int) = (l1.length : Int) then ((spec_liSum.f k l0).bind fun t231 => ((spec_liSum.f k l1).bind fun t232 => (some (t231 == t232)))) else (some false)
theorem spec_liFit.mono : ∀ a0 a1 k, LeO (spec_liFit.f k a0 a1) (spec_liFit.f (k + 1) a0 a1) := by
 intro a0 a1 k
 unfold spec_liFit.f
 repeat' first
   | (with_reducible exact spec_liSum.mono _ _)
   | (with_reducible exact LeO.refl _)
   | (with_reducible exact LeO.none _)
   | (with_reducible refine LeO.ite ?_ ?_)
   | (with_reducible refine LeO.bind ?_ (fun _ => ?_))
   | exact spec_liSum.mono _ _
   | exact LeO.none _
   | refine LeO.ite ?_ ?_
   | refine LeO.bind ?_ (fun _ => ?_)
set_option maxHeartbeats 8000000 in
set_option maxRecDepth 100000 in
theorem spec_liFit.calls (k : Nat) (A0 : Option Addr) (c0 : Nat) (l0 : List Int) (A1 : Option Addr) (c1 : Nat) (l1 : List Int) (r : Bool) (w : World) (hr0 : Kd.C (Kd.int .i64) w A0 l0.length l0) (hc0 : l0.length ≤ c0) (hr1 : Kd.C (Kd.int .i64) w A1 l1.length l1) (hc1 : l1.length ≤ c1) (h : spec_liFit.f k l0 l1 = some r) :
  Calls Try.prog 192 #[.slice A0 l0.length c0, .slice A1 l1.length c1] w fun e w' => e = .returned (.bool r) ∧ Drawn0 w w' := by
 have HR0 := Aside0.mk hr0
 have HC0 := Aside0.mk hc0
 clear hr0 hc0
 have HR1 := Aside0.mk hr1
 have HC1 := Aside0.mk hc1
 clear hr1 hc1
 have H : (if (l0.length : Int) = (l1.length : Int) then ((spec_liSum.f k l0).bind fun t231 => ((spec_liSum.f k l1).bind fun t232 => (some (t231 == t232)))) else (some false)) = some r := h
 clear h
 by_cases c3 : (l0.length : Int) = (l1.length : Int)
 ·rw [if_pos c3] at H
  have c3b0 : ((l0.length : Int) == (l1.length : Int)) = true := beq_iff_eq.mpr c3
  have c3b1 : ((l0.length : Int) != (l1.length : Int)) = false := bne_eq_false_iff_eq.mpr c3
  have c3b2 : (l0.length == l1.length) = true := by first | simpa using c3 | (simp at c3 ⊢; omega)
  clear c3
  replace H := Option.bind_eq_some_iff.mp H
  obtain ⟨t231, A40, H⟩ := H
  replace H : ((spec_liSum.f k l1).bind fun t232 => (some (t231 == t232))) = some r := H
  have A4 := Aside0.mk A40
  clear A40
  replace H := Option.bind_eq_some_iff.mp H
  obtain ⟨t232, A50, H⟩ := H
  replace H : (some (t231 == t232)) = some r := H
  have A5 := Aside0.mk A50
  clear A50
  obtain rfl := Option.some.inj H
  go_enter Try.func192, Try.ntmps192
  go_wp2_with (first | (go_at_call 215; (with_reducible refine (spec_liSum.calls k _ _ l0 t231 _ ?side1 ?side2 A4.out).mono ?_); (case side1 => repeat (first | exact HR0.out | (with_reducible refine Kd.C_alloc ?_ _) | (with_reducible refine Kd.C_drewN ?_ _) | (with_reducible refine Kd.C_drew ?_))); (case side2 => exact HC0.out); rintro e w' ⟨rfl, ⟨nd, rfl⟩⟩) | (go_at_call 215; (with_reducible refine (spec_liSum.calls k _ _ l1 t232 _ ?side1 ?side2 A5.out).mono ?_); (case side1 => repeat (first | exact HR1.out | (with_reducible refine Kd.C_alloc ?_ _) | (with_reducible refine Kd.C_drewN ?_ _) | (with_reducible refine Kd.C_drew ?_))); (case side2 => exact HC1.out); rintro e w' ⟨rfl, ⟨nd, rfl⟩⟩))
  go_ret
  exact ⟨by first | rfl | (simp; done) | (simp [*]; done), by repeat (first | exact Drawn0.refl _ | apply Drawn0.step)⟩
 ·rw [if_neg c3] at H
  have c3b0 : ((l0.length : Int) == (l1.length : Int)) = false := beq_eq_false_iff_ne.mpr c3
  have c3b1 : ((l0.length : Int) != (l1.length : Int)) = true := bne_iff_ne.mpr c3
  have c3b2 : (l0.length == l1.length) = false := by first | simpa using c3 | (simp at c3 ⊢; omega)
  obtain rfl := Option.some.inj H
  go_enter Try.func192, Try.ntmps192
  go_wp2
  go_ret
  exact ⟨by first | rfl | (simp; done) | (simp [*]; done), by repeat (first | exact Drawn0.refl _ | apply Drawn0.step)⟩


def spec_plBoth.f (k : Nat) (l0 : List Int) (l1 : List Int) : Option (Bool) := (spec_liGood.f k l0).bind fun t573 => (if t573 = true then ((spec_liGood.f k l1).bind fun t574 => (if t574 = true then ((spec_liFit.f k l0 l1).bind fun t575 => (some t575)) else (some false))) else (some false))
theorem spec_plBoth.mono : ∀ a0 a1 k, LeO (spec_plBoth.f k a0 a1) (spec_plBoth.f (k + 1) a0 a1) := by
 intro a0 a1 k
 unfold spec_plBoth.f
 repeat' first
   | (with_reducible exact spec_liFit.mono _ _ _)
   | (with_reducible exact spec_liGood.mono _ _)
   | (with_reducible exact LeO.refl _)
   | (with_reducible exact LeO.none _)
   | (with_reducible refine LeO.ite ?_ ?_)
   | (with_reducible refine LeO.bind ?_ (fun _ => ?_))
   | exact spec_liFit.mono _ _ _
   | exact spec_liGood.mono _ _
   | exact LeO.none _
   | refine LeO.ite ?_ ?_
   | refine LeO.bind ?_ (fun _ => ?_)
set_option maxHeartbeats 8000000 in
set_option maxRecDepth 100000 in
theorem spec_plBoth.calls (k : Nat) (A0 : Option Addr) (c0 : Nat) (l0 : List Int) (A1 : Option Addr) (c1 : Nat) (l1 : List Int) (r : Bool) (w : World) (hr0 : Kd.C (Kd.int .i64) w A0 l0.length l0) (hc0 : l0.length ≤ c0) (hr1 : Kd.C (Kd.int .i64) w A1 l1.length l1) (hc1 : l1.length ≤ c1) (h : spec_plBoth.f k l0 l1 = some r) :
  Calls Try.prog 138 #[.slice A0 l0.length c0, .slice A1 l1.length c1] w fun e w' => e = .returned (.bool r) ∧ Drawn0 w w' := by
 have HR0 := Aside0.mk hr0
 have HC0 := Aside0.mk hc0
 clear hr0 hc0
 have HR1 := Aside0.mk hr1
 have HC1 := Aside0.mk hc1
 clear hr1 hc1
 have H : ((spec_liGood.f k l0).bind fun t573 => (if t573 = true then ((spec_liGood.f k l1).bind fun t574 => (if t574 = true then ((spec_liFit.f k l0 l1).bind fun t575 => (some t575)) else (some false))) else (some false))) = some r := h
 clear h
 replace H := Option.bind_eq_some_iff.mp H
 obtain ⟨t573, A30, H⟩ := H
 replace H : (if t573 = true then ((spec_liGood.f k l1).bind fun t574 => (if t574 = true then ((spec_liFit.f k l0 l1).bind fun t575 => (some t575)) else (some false))) else (some false)) = some r := H
 have A3 := Aside0.mk A30
 clear A30
 by_cases c4 : t573 = true
 ·subst c4
  have H1 : ((spec_liGood.f k l1).bind fun t574 => (if t574 = true then ((spec_liFit.f k l0 l1).bind fun t575 => (some t575)) else (some false))) = some r := by rw [if_pos rfl] at H; exact H
  clear H
  have H := H1
  clear H1
  replace H := Option.bind_eq_some_iff.mp H
  obtain ⟨t574, A50, H⟩ := H
  replace H : (if t574 = true then ((spec_liFit.f k l0 l1).bind fun t575 => (some t575)) else (some false)) = some r := H
  have A5 := Aside0.mk A50
  clear A50
  by_cases c6 : t574 = true
  ·subst c6
   have H1 : ((spec_liFit.f k l0 l1).bind fun t575 => (some t575)) = some r := by rw [if_pos rfl] at H; exact H
   clear H
   have H := H1
   clear H1
   replace H := Option.bind_eq_some_iff.mp H
   obtain ⟨t575, A70, H⟩ := H
   replace H : (some t575) = some r := H
   have A7 := Aside0.mk A70
   clear A70
   obtain rfl := Option.some.inj H
   go_enter Try.func138, Try.ntmps138
   go_wp2_with (first | ((with_reducible refine gate_callee (f := 106) rfl ?_); refine goesL_ (some 6) rfl rfl Try.func106 (by kernel_rfl) rfl #[.slice A0 l0.length c0] rfl (by (try simp only [List.map_toArray, List.map_cons, List.map_nil]); first | done | rfl | (simp only [List.length_drop, List.length_take]; rfl)) ?_; (with_reducible refine (spec_liGood.calls k _ _ l0 true _ ?side1 ?side2 A3.out).mono ?_); (case side1 => repeat (first | exact HR0.out | (with_reducible refine Kd.C_alloc ?_ _) | (with_reducible refine Kd.C_drewN ?_ _) | (with_reducible refine Kd.C_drew ?_))); (case side2 => exact HC0.out); rintro e w' ⟨rfl, ⟨nd, rfl⟩⟩; refine ⟨_, rfl, ?_⟩) | (go_at_call 106; (with_reducible refine (spec_liGood.calls k _ _ l1 true _ ?side1 ?side2 A5.out).mono ?_); (case side1 => repeat (first | exact HR1.out | (with_reducible refine Kd.C_alloc ?_ _) | (with_reducible refine Kd.C_drewN ?_ _) | (with_reducible refine Kd.C_drew ?_))); (case side2 => exact HC1.out); rintro e w' ⟨rfl, ⟨nd, rfl⟩⟩) | (go_at_call 192; (with_reducible refine (spec_liFit.calls k _ _ l0 _ _ l1 t575 _ ?side1 ?side2 ?side3 ?side4 A7.out).mono ?_); (case side1 => repeat (first | exact HR0.out | (with_reducible refine Kd.C_alloc ?_ _) | (with_reducible refine Kd.C_drewN ?_ _) | (with_reducible refine Kd.C_drew ?_))); (case side2 => exact HC0.out); (case side3 => repeat (first | exact HR1.out | (with_reducible refine Kd.C_alloc ?_ _) | (with_reducible refine Kd.C_drewN ?_ _) | (with_reducible refine Kd.C_drew ?_))); (case side4 => exact HC1.out); rintro e w' ⟨rfl, ⟨nd, rfl⟩⟩))
   go_ret
   exact ⟨by first | rfl | (simp; done) | (simp [*]; done), by repeat (first | exact Drawn0.refl _ | apply Drawn0.step)⟩
  ·replace c6 := Bool.eq_false_iff.mpr c6
   subst c6
   have H1 : (some false) = some r := by rw [if_neg (show ¬ (false = true) by decide)] at H; exact H
   clear H
   have H := H1
   clear H1
   obtain rfl := Option.some.inj H
   go_enter Try.func138, Try.ntmps138
   go_wp2_with (first | ((with_reducible refine gate_callee (f := 106) rfl ?_); refine goesL_ (some 6) rfl rfl Try.func106 (by kernel_rfl) rfl #[.slice A0 l0.length c0] rfl (by (try simp only [List.map_toArray, List.map_cons, List.map_nil]); first | done | rfl | (simp only [List.length_drop, List.length_take]; rfl)) ?_; (with_reducible refine (spec_liGood.calls k _ _ l0 true _ ?side1 ?side2 A3.out).mono ?_); (case side1 => repeat (first | exact HR0.out | (with_reducible refine Kd.C_alloc ?_ _) | (with_reducible refine Kd.C_drewN ?_ _) | (with_reducible refine Kd.C_drew ?_))); (case side2 => exact HC0.out); rintro e w' ⟨rfl, ⟨nd, rfl⟩⟩; refine ⟨_, rfl, ?_⟩) | (go_at_call 106; (with_reducible refine (spec_liGood.calls k _ _ l1 false _ ?side1 ?side2 A5.out).mono ?_); (case side1 => repeat (first | exact HR1.out | (with_reducible refine Kd.C_alloc ?_ _) | (with_reducible refine Kd.C_drewN ?_ _) | (with_reducible refine Kd.C_drew ?_))); (case side2 => exact HC1.out); rintro e w' ⟨rfl, ⟨nd, rfl⟩⟩))
   go_ret
   exact ⟨by first | rfl | (simp; done) | (simp [*]; done), by repeat (first | exact Drawn0.refl _ | apply Drawn0.step)⟩
 ·replace c4 := Bool.eq_false_iff.mpr c4
  subst c4
  have H1 : (some false) = some r := by rw [if_neg (show ¬ (false = true) by decide)] at H; exact H
  clear H
  have H := H1
  clear H1
  obtain rfl := Option.some.inj H
  go_enter Try.func138, Try.ntmps138
  go_wp2_with (first | ((with_reducible refine gate_callee (f := 106) rfl ?_); refine goesL_ (some 6) rfl rfl Try.func106 (by kernel_rfl) rfl #[.slice A0 l0.length c0] rfl (by (try simp only [List.map_toArray, List.map_cons, List.map_nil]); first | done | rfl | (simp only [List.length_drop, List.length_take]; rfl)) ?_; (with_reducible refine (spec_liGood.calls k _ _ l0 false _ ?side1 ?side2 A3.out).mono ?_); (case side1 => repeat (first | exact HR0.out | (with_reducible refine Kd.C_alloc ?_ _) | (with_reducible refine Kd.C_drewN ?_ _) | (with_reducible refine Kd.C_drew ?_))); (case side2 => exact HC0.out); rintro e w' ⟨rfl, ⟨nd, rfl⟩⟩; refine ⟨_, rfl, ?_⟩))
  go_ret
  exact ⟨by first | rfl | (simp; done) | (simp [*]; done), by repeat (first | exact Drawn0.refl _ | apply Drawn0.step)⟩

def listB (l : List Int) : Bool := decide (1 ≤ l.length) && decide (l.length ≤ 8) && l.all fun x => decide (0 ≤ x) && decide (x ≤ 60)
def isum (l : List Int) : Int := l.foldl (fun s x => wrap64 (s + x)) 0
def fitB (a b : List Int) : Bool := listB a && listB b && (decide (a.length = b.length) && (isum a == isum b))
theorem listB_iff (l : List Int) : listB l = true ↔ 1 ≤ l.length ∧ l.length ≤ 8 ∧ ∀ x ∈ l, 0 ≤ x ∧ x ≤ 60 := by
  simp [listB, List.all_eq_true, and_assoc]
theorem fitB_iff (a b : List Int) : fitB a b = true ↔ listB a = true ∧ listB b = true ∧ a.length = b.length ∧ isum a = isum b := by
  simp [fitB, and_assoc]
theorem allWithin_ev (l : List Int) (a b : Int) (hl : l.length ≤ 4611686018427387904) : Ev (fun k => impl_allWithin.f k l a b) (l.all fun x => decide (a ≤ x) && decide (x ≤ b)) := by
  refine ⟨l.length + 1, fun k hk => ?_⟩
  have h := impl_isPlan.all l a b (by omega) l.length k 0 (by omega) (by omega) (by omega)
  simpa [impl_allWithin.f] using h
theorem total_l0 (l : List Int) (hl : l.length ≤ 4611686018427387904) : ∀ d (i : Nat) (s : Int), i ≤ l.length → l.length - i = d →
    Ev (fun k => impl_total.l0 k s l (l.length : Int) (i : Int)) ((l.drop i).foldl (fun s x => wrap64 (s + x)) s) ∧ Ev (fun k => spec_liSum.l0 k s l (l.length : Int) (i : Int)) ((l.drop i).foldl (fun s x => wrap64 (s + x)) s) := by
  intro d
  induction d with
  | zero =>
    intro i s hi hd
    have : i = l.length := by omega
    subst this
    refine ⟨ev_succ ?_, ev_succ ?_⟩
    · simp only [impl_total.l0, if_neg (Int.lt_irrefl _), List.drop_length, List.foldl_nil]
      exact ev_now _ _ rfl
    · simp only [spec_liSum.l0, if_neg (Int.lt_irrefl _), List.drop_length, List.foldl_nil]
      exact ev_now _ _ rfl
  | succ d ih =>
    intro i s hi hd
    have hlt : i < l.length := by omega
    have h1 : (i : Int) < (l.length : Int) := by omega
    have h2 : (0 : Int) ≤ (i : Int) := by omega
    obtain ⟨g1, g2⟩ := ih (i + 1) (wrap64 (s + l[i])) (by omega) (by omega)
    rw [List.drop_eq_getElem_cons hlt, List.foldl_cons]
    refine ⟨ev_succ ?_, ev_succ ?_⟩
    · simp only [impl_total.l0, if_pos h1, if_pos h2, rd_nat l i hlt, wrap64_nat_succ (show i < 9223372036854775807 by omega)]
      exact g1
    · simp only [spec_liSum.l0, if_pos h1, if_pos h2, rd_nat l i hlt, wrap64_nat_succ (show i < 9223372036854775807 by omega)]
      exact g2
theorem total_ev (l : List Int) (hl : l.length ≤ 4611686018427387904) : Ev (fun k => impl_total.f k l) (isum l) := (total_l0 l hl l.length 0 0 (by omega) (by omega)).1
theorem liSum_ev (l : List Int) (hl : l.length ≤ 4611686018427387904) : Ev (fun k => spec_liSum.f k l) (isum l) := (total_l0 l hl l.length 0 0 (by omega) (by omega)).2
theorem isList_ev (l : List Int) (hl : l.length ≤ 4611686018427387904) : Ev (fun k => impl_IsList.f k l) (listB l) := by
  unfold impl_IsList.f impl_within.f listB
  by_cases h1 : 1 ≤ l.length
  · by_cases h2 : l.length ≤ 8
    · simp only [ge_iff_le, if_pos (show (1 : Int) ≤ (l.length : Int) by omega), decide_eq_true (show (l.length : Int) ≤ 8 by omega), decide_eq_true h1, decide_eq_true h2, Option.bind_some, if_true, Bool.true_and]
      exact Ev.bind (allWithin_ev l 0 60 hl) (ev_now _ _ rfl)
    · simp only [ge_iff_le, if_pos (show (1 : Int) ≤ (l.length : Int) by omega), decide_eq_false (show ¬ (l.length : Int) ≤ 8 by omega), decide_eq_false h2, Option.bind_some, Bool.and_false, Bool.false_and]
      exact ev_now _ _ rfl
  · simp only [ge_iff_le, if_neg (show ¬ (1 : Int) ≤ (l.length : Int) by omega), decide_eq_false h1, Option.bind_some, Bool.false_and]
    exact ev_now _ _ rfl
theorem liGood_ev (l : List Int) (hl : l.length ≤ 4611686018427387904) : Ev (fun k => spec_liGood.f k l) (listB l) := by
  unfold spec_liGood.f spec_l1In.f listB
  by_cases h1 : 1 ≤ l.length
  · by_cases h2 : l.length ≤ 8
    · simp only [ge_iff_le, if_pos (show (1 : Int) ≤ (l.length : Int) by omega), decide_eq_true (show (l.length : Int) ≤ 8 by omega), decide_eq_true h1, decide_eq_true h2, Option.bind_some, if_true, Bool.true_and]
      exact Ev.bind (l1All_ev l 0 60 hl) (ev_now _ _ rfl)
    · simp only [ge_iff_le, if_pos (show (1 : Int) ≤ (l.length : Int) by omega), decide_eq_false (show ¬ (l.length : Int) ≤ 8 by omega), decide_eq_false h2, Option.bind_some, Bool.and_false, Bool.false_and]
      exact ev_now _ _ rfl
  · simp only [ge_iff_le, if_neg (show ¬ (1 : Int) ≤ (l.length : Int) by omega), decide_eq_false h1, Option.bind_some, Bool.false_and]
    exact ev_now _ _ rfl
theorem doFit_ev (a b : List Int) (ha : a.length ≤ 4611686018427387904) (hb : b.length ≤ 4611686018427387904) : Ev (fun k => impl_doFit.f k a b) (decide (a.length = b.length) && (isum a == isum b)) := by
  unfold impl_doFit.f
  by_cases h : a.length = b.length
  · simp only [if_pos (show (a.length : Int) = (b.length : Int) by omega), decide_eq_true h, Bool.true_and]
    exact Ev.bind (total_ev a ha) (Ev.bind (total_ev b hb) (ev_now _ _ rfl))
  · simp only [if_neg (show ¬ (a.length : Int) = (b.length : Int) by omega), decide_eq_false h, Bool.false_and]
    exact ev_now _ _ rfl
theorem liFit_ev (a b : List Int) (ha : a.length ≤ 4611686018427387904) (hb : b.length ≤ 4611686018427387904) : Ev (fun k => spec_liFit.f k a b) (decide (a.length = b.length) && (isum a == isum b)) := by
  unfold spec_liFit.f
  by_cases h : a.length = b.length
  · simp only [if_pos (show (a.length : Int) = (b.length : Int) by omega), decide_eq_true h, Bool.true_and]
    exact Ev.bind (liSum_ev a ha) (Ev.bind (liSum_ev b hb) (ev_now _ _ rfl))
  · simp only [if_neg (show ¬ (a.length : Int) = (b.length : Int) by omega), decide_eq_false h, Bool.false_and]
    exact ev_now _ _ rfl
theorem areFitting_ev (a b : List Int) (ha : a.length ≤ 4611686018427387904) (hb : b.length ≤ 4611686018427387904) : Ev (fun k => impl_areFitting.f k a b) (fitB a b) := by
  unfold impl_areFitting.f impl_areLists.f fitB
  cases h1 : listB a with
  | false =>
    have g1 := isList_ev a ha
    rw [h1] at g1
    refine Ev.bind (a := false) (Ev.bind g1 ?_) ?_
    · simp only [Bool.false_eq_true, if_false]; exact ev_now _ _ rfl
    · simp only [Bool.false_eq_true, if_false, Bool.false_and]; exact ev_now _ _ rfl
  | true =>
    have g1 := isList_ev a ha
    rw [h1] at g1
    refine Ev.bind (a := listB b) (Ev.bind g1 ?_) ?_
    · simp only [if_true]; exact Ev.bind (isList_ev b hb) (ev_now _ _ rfl)
    · cases h2 : listB b with
      | false => simp only [Bool.false_eq_true, if_false, Bool.true_and, Bool.false_and]; exact ev_now _ _ rfl
      | true => simp only [if_true, Bool.true_and]; exact Ev.bind (doFit_ev a b ha hb) (ev_now _ _ rfl)
theorem plBoth_ev (a b : List Int) (ha : a.length ≤ 4611686018427387904) (hb : b.length ≤ 4611686018427387904) : Ev (fun k => spec_plBoth.f k a b) (fitB a b) := by
  unfold spec_plBoth.f fitB
  cases h1 : listB a with
  | false =>
    have g1 := liGood_ev a ha
    rw [h1] at g1
    refine Ev.bind g1 ?_
    simp only [Bool.false_eq_true, if_false, Bool.false_and]; exact ev_now _ _ rfl
  | true =>
    have g1 := liGood_ev a ha
    rw [h1] at g1
    refine Ev.bind g1 ?_
    simp only [if_true]
    refine Ev.bind (liGood_ev b hb) ?_
    cases h2 : listB b with
    | false => simp only [Bool.false_eq_true, if_false, Bool.true_and, Bool.false_and]; exact ev_now _ _ rfl
    | true => simp only [if_true, Bool.true_and]; exact Ev.bind (liFit_ev a b ha hb) (ev_now _ _ rfl)
def powB (l : List Int) : Bool := decide (1 ≤ l.length) && decide (l.length ≤ 4) && l.all fun x => decide (0 ≤ x) && decide (x ≤ 4)
def argB (l : List Int) : Bool := decide (1 ≤ l.length) && decide (l.length ≤ 4) && l.all fun x => decide (1 ≤ x) && decide (x ≤ 9)
/-- Powers and as many arguments. -/
def givB (a x : List Int) : Bool := powB a && (argB x && decide (a.length = x.length))
theorem powB_iff (l : List Int) : powB l = true ↔ 1 ≤ l.length ∧ l.length ≤ 4 ∧ ∀ x ∈ l, 0 ≤ x ∧ x ≤ 4 := by
  simp [powB, List.all_eq_true, and_assoc]
theorem argB_iff (l : List Int) : argB l = true ↔ 1 ≤ l.length ∧ l.length ≤ 4 ∧ ∀ x ∈ l, 1 ≤ x ∧ x ≤ 9 := by
  simp [argB, List.all_eq_true, and_assoc]
theorem givB_iff (a x : List Int) : givB a x = true ↔ powB a = true ∧ argB x = true ∧ a.length = x.length := by
  simp [givB]
theorem arePowers_ev (l : List Int) (hl : l.length ≤ 4611686018427387904) : Ev (fun k => impl_arePowers.f k l) (powB l) := by
  unfold impl_arePowers.f impl_within.f powB
  by_cases h1 : 1 ≤ l.length
  · by_cases h2 : l.length ≤ 4
    · simp only [ge_iff_le, if_pos (show (1 : Int) ≤ (l.length : Int) by omega), decide_eq_true (show (l.length : Int) ≤ 4 by omega), decide_eq_true h1, decide_eq_true h2, Option.bind_some, if_true, Bool.true_and]
      exact Ev.bind (allWithin_ev l 0 4 hl) (ev_now _ _ rfl)
    · simp only [ge_iff_le, if_pos (show (1 : Int) ≤ (l.length : Int) by omega), decide_eq_false (show ¬ (l.length : Int) ≤ 4 by omega), decide_eq_false h2, Option.bind_some, Bool.and_false, Bool.false_and]
      exact ev_now _ _ rfl
  · simp only [ge_iff_le, if_neg (show ¬ (1 : Int) ≤ (l.length : Int) by omega), decide_eq_false h1, Option.bind_some, Bool.false_and]
    exact ev_now _ _ rfl
theorem areArguments_ev (l : List Int) (hl : l.length ≤ 4611686018427387904) : Ev (fun k => impl_areArguments.f k l) (argB l) := by
  unfold impl_areArguments.f impl_within.f argB
  by_cases h1 : 1 ≤ l.length
  · by_cases h2 : l.length ≤ 4
    · simp only [ge_iff_le, if_pos (show (1 : Int) ≤ (l.length : Int) by omega), decide_eq_true (show (l.length : Int) ≤ 4 by omega), decide_eq_true h1, decide_eq_true h2, Option.bind_some, if_true, Bool.true_and]
      exact Ev.bind (allWithin_ev l 1 9 hl) (ev_now _ _ rfl)
    · simp only [ge_iff_le, if_pos (show (1 : Int) ≤ (l.length : Int) by omega), decide_eq_false (show ¬ (l.length : Int) ≤ 4 by omega), decide_eq_false h2, Option.bind_some, Bool.and_false, Bool.false_and]
      exact ev_now _ _ rfl
  · simp only [ge_iff_le, if_neg (show ¬ (1 : Int) ≤ (l.length : Int) by omega), decide_eq_false h1, Option.bind_some, Bool.false_and]
    exact ev_now _ _ rfl
theorem syGiven_ev (a x : List Int) (ha : a.length ≤ 4611686018427387904) (hx : x.length ≤ 4611686018427387904) : Ev (fun k => spec_syGiven.f k a x) (givB a x) := by
  unfold spec_syGiven.f spec_l1In.f givB powB argB
  by_cases h1 : 1 ≤ a.length
  · by_cases h2 : a.length ≤ 4
    · simp only [ge_iff_le, if_pos (show (1 : Int) ≤ (a.length : Int) by omega), decide_eq_true (show (a.length : Int) ≤ 4 by omega), decide_eq_true h1, decide_eq_true h2, Option.bind_some, if_true, Bool.true_and]
      refine Ev.bind (l1All_ev a 0 4 ha) ?_
      cases h3 : a.all fun x => decide (0 ≤ x) && decide (x ≤ 4) with
      | false => simp only [Bool.false_eq_true, if_false, Bool.false_and]; exact ev_now _ _ rfl
      | true =>
        simp only [if_true, Bool.true_and]
        by_cases h4 : a.length = x.length
        · simp only [if_pos (show (x.length : Int) = (a.length : Int) by omega)]
          refine Ev.bind (l1All_ev x 1 9 hx) ?_
          refine ev_now _ _ ?_
          rw [decide_eq_true (show 1 ≤ x.length by omega), decide_eq_true (show x.length ≤ 4 by omega), decide_eq_true h4]
          simp
        · simp only [if_neg (show ¬ (x.length : Int) = (a.length : Int) by omega)]
          rw [decide_eq_false h4, Bool.and_false]
          exact ev_now _ _ rfl
    · simp only [ge_iff_le, if_pos (show (1 : Int) ≤ (a.length : Int) by omega), decide_eq_false (show ¬ (a.length : Int) ≤ 4 by omega), decide_eq_false h2, Option.bind_some, Bool.and_false, Bool.false_and]
      exact ev_now _ _ rfl
  · simp only [ge_iff_le, if_neg (show ¬ (1 : Int) ≤ (a.length : Int) by omega), decide_eq_false h1, Option.bind_some, Bool.false_and]
    exact ev_now _ _ rfl
/-! ### all orders -/
def rng (n : Nat) : List Int := (List.range n).map fun (i : Nat) => (i : Int)
theorem rng_length (n : Nat) : (rng n).length = n := by simp [rng]
theorem rng_getD (n i : Nat) (h : i < n) : (rng n).getD i 0 = (i : Int) := by
  simp [rng, List.getD_eq_getElem?_getD, List.getElem?_map, h]
/-- The orders of places. -/
def idxs (n : Nat) : List (List Int) := exts (rng n) n 0 []
def pick (x : List Int) (i : Int) : Int := x.getD i.toNat 0
theorem exts_map (x : List Int) : ∀ (d : Nat) (u : Int) (o : List Int), exts x d u (o.map (pick x)) = (exts (rng x.length) d u o).map (List.map (pick x)) := by
  intro d
  induction d with
  | zero => intro u o; rfl
  | succ d ih =>
    intro u o
    simp only [exts, rng_length]
    rw [List.map_flatMap]
    have hc : ∀ (l : List Nat) (f g : Nat → List (List Int)), (∀ i ∈ l, f i = g i) → l.flatMap f = l.flatMap g := by
      intro l f g h
      induction l with
      | nil => rfl
      | cons a t iht =>
        rw [List.flatMap_cons, List.flatMap_cons, h a (List.mem_cons_self), iht (fun i hi => h i (List.mem_cons_of_mem _ hi))]
    refine hc _ _ _ (fun i hi => ?_)
    have hi2 : i < x.length := List.mem_range.1 hi
    by_cases hb : hasB u (i : Int) = true
    · rw [if_pos hb, if_pos hb]; rfl
    · rw [if_neg hb, if_neg hb, ← ih, List.map_append, rng_getD _ _ hi2]
      rfl
theorem exts_idxs (x : List Int) : exts x x.length 0 [] = (idxs x.length).map (List.map (pick x)) := exts_map x x.length 0 []
theorem syOrders_ev (n : Nat) (h0 : 1 ≤ n) (h4 : n ≤ 4) : Ev (fun k => spec_syOrders.f k (n : Int)) (idxs n) := by
  refine Ev.of (k := 40) (fun k => spec_syOrders.mono _ _) ?_
  have h : n = 1 ∨ n = 2 ∨ n = 3 ∨ n = 4 := by omega
  rcases h with rfl | rfl | rfl | rfl <;> decide +kernel
theorem idxs_facts (n : Nat) (h0 : 1 ≤ n) (h4 : n ≤ 4) : (idxs n).length ≤ 24 ∧ ∀ o ∈ idxs n, o.length = n ∧ ∀ i ∈ o, 0 ≤ i ∧ i < (n : Int) := by
  have h : n = 1 ∨ n = 2 ∨ n = 3 ∨ n = 4 := by omega
  rcases h with rfl | rfl | rfl | rfl <;> decide +kernel
/-- A kind unit gift of powers. -/
def kindB (l : List Int) (f t : Int) : Bool := decide (0 ≤ f) && decide (f < (l.length : Int)) && decide (0 ≤ t) && decide (t < (l.length : Int)) && decide (f ≠ t) && decide (rd l t + 2 ≤ rd l f)
theorem kindB_iff (l : List Int) (f t : Int) : kindB l f t = true ↔ 0 ≤ f ∧ f < (l.length : Int) ∧ 0 ≤ t ∧ t < (l.length : Int) ∧ f ≠ t ∧ rd l t + 2 ≤ rd l f := by
  simp [kindB, and_assoc]
theorem pow_rd (l : List Int) (h : powB l = true) (i : Int) : 0 ≤ rd l i ∧ rd l i ≤ 4 := by
  obtain ⟨_, _, h3⟩ := (powB_iff l).1 h
  unfold rd
  rw [List.getD_eq_getElem?_getD]
  by_cases hi : i.toNat < l.length
  · rw [List.getElem?_eq_getElem hi]; exact h3 _ (List.getElem_mem hi)
  · rw [List.getElem?_eq_none (by omega)]; simp
theorem within_eq (n lo hi : Int) : impl_within.f n lo hi = some (decide (lo ≤ n) && decide (n ≤ hi)) := by
  unfold impl_within.f
  by_cases h : lo ≤ n <;> simp [h]
theorem l1In_eq (n lo hi : Int) : spec_l1In.f n lo hi = some (decide (lo ≤ n) && decide (n ≤ hi)) := by
  unfold spec_l1In.f
  by_cases h : lo ≤ n <;> simp [h]
def isB (l : List Int) (f t a : Int) : Bool := decide (0 ≤ f) && decide (f < (l.length : Int)) && decide (0 ≤ t) && decide (t < (l.length : Int)) && decide (f ≠ t) && decide (1 ≤ a)
theorem isB_iff (l : List Int) (f t a : Int) : isB l f t a = true ↔ 0 ≤ f ∧ f < (l.length : Int) ∧ 0 ≤ t ∧ t < (l.length : Int) ∧ f ≠ t ∧ 1 ≤ a := by
  simp [isB, and_assoc]
theorem bool_or (a : Bool) (b c : Bool) (h : b = true ↔ c = true) : b = c := Bool.eq_iff_iff.2 h
theorem isGift_eq (l : List Int) (f t a : Int) (hl : l.length ≤ 1048576) : impl_isGift.f l f t a = some (isB l f t a) := by
  unfold impl_isGift.f
  simp only [within_eq]
  rw [wrap64_id (by omega) (by omega)]
  by_cases c1 : 0 ≤ f ∧ f ≤ (l.length : Int) - 1
  · by_cases c2 : 0 ≤ t ∧ t ≤ (l.length : Int) - 1
    · by_cases c3 : f = t
      · have e : isB l f t a = false := by rw [Bool.eq_false_iff]; intro h; exact ((isB_iff l f t a).1 h).2.2.2.2.1 c3
        rw [e]; simp [c1, c2, c3]
      · have e : isB l f t a = decide (1 ≤ a) := by rw [Bool.eq_iff_iff, isB_iff, decide_eq_true_eq]; exact ⟨fun h => h.2.2.2.2.2, fun h => ⟨c1.1, by omega, c2.1, by omega, c3, h⟩⟩
        rw [e]; simp [c1, c2, c3]
    · have e : isB l f t a = false := by rw [Bool.eq_false_iff]; intro h; have := (isB_iff l f t a).1 h; omega
      have e2 : (decide (0 ≤ t) && decide (t ≤ (l.length : Int) - 1)) = false := by rw [Bool.eq_false_iff]; intro h; rw [Bool.and_eq_true, decide_eq_true_eq, decide_eq_true_eq] at h; exact c2 h
      rw [e, e2]; simp [c1]
  · have e : isB l f t a = false := by rw [Bool.eq_false_iff]; intro h; have := (isB_iff l f t a).1 h; omega
    have e2 : (decide (0 ≤ f) && decide (f ≤ (l.length : Int) - 1)) = false := by rw [Bool.eq_false_iff]; intro h; rw [Bool.and_eq_true, decide_eq_true_eq, decide_eq_true_eq] at h; exact c1 h
    rw [e, e2]; simp
theorem giIs_eq (l : List Int) (f t a : Int) (hl : l.length ≤ 1048576) : spec_giIs.f l f t a = some (isB l f t a) := by
  rw [← isGift_eq l f t a hl]
  unfold spec_giIs.f impl_isGift.f
  simp only [within_eq, l1In_eq]
/-- A kind gift. -/
def kinB (l : List Int) (f t a : Int) : Bool := isB l f t a && (decide (a ≤ rd l f) && (decide (a ≤ 60 - rd l t) && decide (rd l t + a ≤ rd l f - a)))
theorem isKind_of (l : List Int) (f t a : Int) (hl : l.length ≤ 1048576) (hf : 0 ≤ rd l f ∧ rd l f ≤ 60) (ht : 0 ≤ rd l t ∧ rd l t ≤ 60) : impl_isKind.f l f t a = some (kinB l f t a) := by
  unfold impl_isKind.f impl_canGive.f kinB
  rw [isGift_eq l f t a hl]
  cases h : isB l f t a with
  | false => simp
  | true =>
    obtain ⟨h1, h2, h3, h4, h5, h6⟩ := (isB_iff l f t a).1 h
    rw [wrap64_id (x := 60 - rd l t) (by omega) (by omega)]
    simp only [Option.bind_some, if_true, if_pos h1, if_pos h2, if_pos h3, if_pos h4, Bool.true_and]
    by_cases c1 : a ≤ rd l f
    · rw [wrap64_id (x := rd l f - a) (by omega) (by omega), wrap64_id (x := rd l t + a) (by omega) (by omega)]
      by_cases c2 : a ≤ 60 - rd l t <;> simp [c1, c2]
    · simp [c1]
theorem giKind_of (l : List Int) (f t a : Int) (hl : l.length ≤ 1048576) (hf : 0 ≤ rd l f ∧ rd l f ≤ 60) (ht : 0 ≤ rd l t ∧ rd l t ≤ 60) : spec_giKind.f l f t a = some (kinB l f t a) := by
  unfold spec_giKind.f kinB
  rw [giIs_eq l f t a hl]
  cases h : isB l f t a with
  | false => simp
  | true =>
    obtain ⟨h1, h2, h3, h4, h5, h6⟩ := (isB_iff l f t a).1 h
    simp only [Option.bind_some, if_true, if_pos h1, if_pos h2, if_pos h3, if_pos h4, Bool.true_and]
    by_cases c1 : a ≤ 60
    · rw [wrap64_id (x := rd l f - a) (by omega) (by omega), wrap64_id (x := rd l t + a) (by omega) (by omega)]
      rw [if_pos c1]
      congr 1
      rw [Bool.eq_iff_iff]
      simp only [Bool.and_eq_true, decide_eq_true_eq]
      omega
    · rw [if_neg c1]
      have : decide (a ≤ rd l f) = false := decide_eq_false (by omega)
      rw [this, Bool.false_and]
theorem powsm (l : List Int) (h : powB l = true) (i : Nat) : l.getD i 0 ≤ 4 := by
  have := pow_rd l h (i : Int)
  rw [rd_nat_getD] at this
  exact this.2
theorem giftS_l1 (ps x : List Int) (hp : powB ps = true) (p q : Int) (ts : List Int) (O : List (List Int)) (m z : Int) (f t : Nat) (a : Int) (o : List Int) (ho : o.length = ps.length) (hoi : ∀ i ∈ o, 0 ≤ i ∧ i < (x.length : Int)) (b : Int) (hts : ts.length < 17592186044416) (r : List Int × Bool)
    (hnext : Ev (fun k => spec_GiftTerms.l0 k ps x p q (ts ++ [gfrom ps (o.map (pick x)) f t b o.length]) O m (wrap64 (z + 1)) (f : Int) (t : Int) a) r) : ∀ d (j : Nat), j ≤ o.length → o.length - j = d →
    Ev (fun k => spec_GiftTerms.l1 k ps x p q ts (gfrom ps (o.map (pick x)) f t b j) O m z o (o.length : Int) (j : Int) (f : Int) (t : Int) a) r := by
  have hl4 := ((powB_iff ps).1 hp).2.1
  intro d
  induction d with
  | zero =>
    intro j hj hd
    have : j = o.length := by omega
    subst this
    refine ev_succ ?_
    simp only [spec_GiftTerms.l1, if_neg (Int.lt_irrefl _), if_pos hts]
    exact hnext
  | succ d ih =>
    intro j hj hd
    have hlt : j < o.length := by omega
    have ih' := ih (j + 1) (by omega) (by omega)
    have h1 : (j : Int) < (o.length : Int) := by omega
    have h2 : (0 : Int) ≤ (j : Int) := by omega
    have h3 : (j : Int) < (ps.length : Int) := by omega
    have h4 := hoi o[j] (List.getElem_mem hlt)
    refine ev_succ ?_
    simp only [spec_GiftTerms.l1, if_pos h1, if_pos h2, wrap64_nat_succ (show j < 9223372036854775807 by omega), rd_nat o j hlt, if_pos h3, if_pos h4.1, if_pos h4.2]
    rw [gfrom_succ] at ih'
    by_cases c1 : j = f
    · simp only [if_pos (show (j : Int) = (f : Int) by omega)]
      rw [if_neg (fun h => h.1 c1)] at ih'
      exact ih'
    · simp only [if_neg (show ¬ (j : Int) = (f : Int) by omega)]
      by_cases c2 : j = t
      · simp only [if_pos (show (j : Int) = (t : Int) by omega)]
        rw [if_neg (fun h => h.2 c2)] at ih'
        exact ih'
      · simp only [if_neg (show ¬ (j : Int) = (t : Int) by omega)]
        rw [if_pos ⟨c1, c2⟩] at ih'
        have e1 : (o.map (pick x)).getD j 0 = rd x o[j] := by
          rw [List.getD_eq_getElem?_getD, List.getElem?_map, List.getElem?_eq_getElem hlt]; rfl
        rw [e1] at ih'
        rw [rd_nat_getD]
        exact Ev.bind (syPower_ev _ _ (by have := powsm ps hp j; omega)) ih'
theorem giftS_l0 (ps x : List Int) (hp : powB ps = true) (hx : ps.length = x.length) (f t : Nat) (hf : f < ps.length) (ht : t < ps.length) (a : Int) (O : List (List Int)) (hO : O.length ≤ 24) (hOo : ∀ o ∈ O, o.length = x.length ∧ ∀ i ∈ o, 0 ≤ i ∧ i < (x.length : Int)) : ∀ d (i : Nat), i ≤ O.length → O.length - i = d →
    Ev (fun k => spec_GiftTerms.l0 k ps x (ps.getD f 0) (ps.getD t 0) ((O.take i).map fun o => gterm ps f t (o.map (pick x))) O (O.length : Int) (i : Int) (f : Int) (t : Int) a) (O.map (fun o => gterm ps f t (o.map (pick x))), true) := by
  intro d
  induction d with
  | zero =>
    intro i hi hd
    have : i = O.length := by omega
    subst this
    refine ev_succ ?_
    simp only [spec_GiftTerms.l0, if_neg (Int.lt_irrefl _), List.take_length]
    exact ev_now _ _ rfl
  | succ d ih =>
    intro i hi hd
    have hlt : i < O.length := by omega
    have h1 : (i : Int) < (O.length : Int) := by omega
    have h2 : (0 : Int) ≤ (i : Int) := by omega
    obtain ⟨ho, hoi⟩ := hOo O[i] (List.getElem_mem hlt)
    have hfo : f < O[i].length := by omega
    have hto : t < O[i].length := by omega
    have b1 := hoi O[i][f] (List.getElem_mem hfo)
    have b2 := hoi O[i][t] (List.getElem_mem hto)
    have sf := powsm ps hp f
    have st := powsm ps hp t
    have pf : 0 ≤ ps.getD f 0 := by have := (pow_rd ps hp (f : Int)).1; rwa [rd_nat_getD] at this
    have pt : 0 ≤ ps.getD t 0 := by have := (pow_rd ps hp (t : Int)).1; rwa [rd_nat_getD] at this
    have hd1 : wrap64 (wrap64 (ps.getD f 0 - ps.getD t 0) - 1) ≤ 4611686018427387904 := by rw [wrap64_id (x := ps.getD f 0 - ps.getD t 0) (by omega) (by omega), wrap64_id (by omega) (by omega)]; omega
    have e1 : ∀ j (hj : j < O[i].length), (O[i].map (pick x)).getD j 0 = rd x O[i][j] := fun j hj => by
      rw [List.getD_eq_getElem?_getD, List.getElem?_map, List.getElem?_eq_getElem hj]; rfl
    have ih' := ih (i + 1) (by omega) (by omega)
    rw [List.take_succ_eq_append_getElem hlt, List.map_append] at ih'
    refine ev_succ ?_
    simp only [spec_GiftTerms.l0, if_pos h1, if_pos h2, rdL_nat O i hlt, if_pos (show (0 : Int) ≤ (f : Int) by omega), if_pos (show (0 : Int) ≤ (t : Int) by omega), if_pos (show (f : Int) < (O[i].length : Int) by omega), if_pos (show (t : Int) < (O[i].length : Int) by omega), rd_nat _ f hfo, rd_nat _ t hto, if_pos b1.1, if_pos b1.2, if_pos b2.1, if_pos b2.2]
    refine Ev.bind (syPower_ev _ _ (by omega)) ?_
    refine Ev.bind (syPower_ev _ _ hd1) ?_
    refine Ev.bind (syPower_ev _ _ hd1) ?_
    refine giftS_l1 ps x hp _ _ _ O _ _ f t a O[i] (by omega) hoi (gbase (ps.getD f 0) (ps.getD t 0) (rd x O[i][f]) (rd x O[i][t])) (by rw [List.length_map, List.length_take]; omega) _ ?_ O[i].length 0 (by omega) (by omega)
    rw [wrap64_nat_succ (show i < 9223372036854775807 by omega)]
    have e2 : gfrom ps (O[i].map (pick x)) f t (gbase (ps.getD f 0) (ps.getD t 0) (rd x O[i][f]) (rd x O[i][t])) O[i].length = gterm ps f t (O[i].map (pick x)) := by
      unfold gterm
      rw [e1 f hfo, e1 t hto, List.length_map]
    rw [e2]
    exact ih'
/-- What a gift's terms come to. -/
def giftR (ps : List Int) (g0 g1 g2 : Int) (x : List Int) : List Int × Bool :=
  if givB ps x = true ∧ g2 = 1 ∧ kinB ps g0 g1 g2 = true then ((idxs x.length).map (fun o => gterm ps g0.toNat g1.toNat (o.map (pick x))), true) else ([], false)
theorem pow60 (ps : List Int) (hp : powB ps = true) (i : Int) : 0 ≤ rd ps i ∧ rd ps i ≤ 60 := by have := pow_rd ps hp i; omega
theorem kin_facts (ps : List Int) (g0 g1 g2 : Int) (h : kinB ps g0 g1 g2 = true) : ∃ f t : Nat, g0 = f ∧ g1 = t ∧ f < ps.length ∧ t < ps.length ∧ f ≠ t ∧ 1 ≤ g2 ∧ rd ps g1 + g2 ≤ rd ps g0 - g2 ∧ g2 ≤ 60 - rd ps g1 := by
  unfold kinB at h
  simp only [Bool.and_eq_true, decide_eq_true_eq] at h
  obtain ⟨h1, h2, h3, h4⟩ := h
  obtain ⟨k1, k2, k3, k4, k5, k6⟩ := (isB_iff ps g0 g1 g2).1 h1
  exact ⟨g0.toNat, g1.toNat, by omega, by omega, by omega, by omega, by omega, k6, h4, h3⟩
theorem specGift_ev (ps : List Int) (g0 g1 g2 : Int) (x : List Int) (hps : ps.length ≤ 1048576) (hx : x.length ≤ 1048576) : Ev (fun k => spec_GiftTerms.f k ps g0 g1 g2 x) (giftR ps g0 g1 g2 x) := by
  unfold spec_GiftTerms.f
  refine Ev.bind (syGiven_ev ps x (by omega) (by omega)) ?_
  cases hg : givB ps x with
  | false =>
    have e : giftR ps g0 g1 g2 x = ([], false) := by unfold giftR; rw [if_neg (by rw [hg]; simp)]
    rw [e]
    simp only [Bool.false_eq_true, if_false]
    refine ev_succ ?_
    simp only [spec_GiftTerms.j0, if_true]
    exact ev_now _ _ rfl
  | true =>
    obtain ⟨hp, ha, hl⟩ := (givB_iff ps x).1 hg
    obtain ⟨p1, p4, _⟩ := (powB_iff ps).1 hp
    simp only [if_true]
    rw [giKind_of ps g0 g1 g2 hps (pow60 ps hp g0) (pow60 ps hp g1)]
    simp only [Option.bind_some]
    cases hk : kinB ps g0 g1 g2 with
    | false =>
      have e : giftR ps g0 g1 g2 x = ([], false) := by unfold giftR; rw [if_neg (by rw [hk]; simp)]
      rw [e]
      simp only [Bool.false_eq_true, if_false]
      refine ev_succ ?_
      simp only [spec_GiftTerms.j0, if_true]
      exact ev_now _ _ rfl
    | true =>
      simp only [if_true]
      by_cases h2 : g2 = 1
      · subst h2
        obtain ⟨f, t, rfl, rfl, hf, ht, hne, _, _⟩ := kin_facts ps g0 g1 1 hk
        have e : giftR ps f t 1 x = ((idxs x.length).map (fun o => gterm ps f t (o.map (pick x))), true) := by unfold giftR; rw [if_pos ⟨hg, rfl, hk⟩, Int.toNat_natCast, Int.toNat_natCast]
        rw [e]
        have n1 : ((1 : Int) != 1) = false := by decide
        rw [n1]
        obtain ⟨o1, o2⟩ := idxs_facts x.length (by omega) (by omega)
        refine ev_succ ?_
        simp only [spec_GiftTerms.j0, Bool.false_eq_true, if_false, if_pos (show (0 : Int) ≤ (f : Int) by omega), if_pos (show (0 : Int) ≤ (t : Int) by omega), if_pos (show (f : Int) < (ps.length : Int) by omega), if_pos (show (t : Int) < (ps.length : Int) by omega), rd_nat_getD]
        refine Ev.bind (syOrders_ev x.length (by omega) (by omega)) ?_
        have h := giftS_l0 ps x hp hl f t hf ht 1 (idxs x.length) o1 o2 (idxs x.length).length 0 (by omega) (by omega)
        rw [List.take_zero, List.map_nil] at h
        exact h
      · have e : giftR ps g0 g1 g2 x = ([], false) := by unfold giftR; rw [if_neg (by simp [h2])]
        rw [e]
        have n1 : (g2 != 1) = true := by simp; exact h2
        rw [n1]
        refine ev_succ ?_
        simp only [spec_GiftTerms.j0, if_true]
        exact ev_now _ _ rfl
theorem implGift_ev (ps : List Int) (g0 g1 g2 : Int) (x : List Int) (hps : ps.length ≤ 1048576) (hx : x.length ≤ 1048576) : Ev (fun k => impl_GiftTerms.f k ps g0 g1 g2 x) (giftR ps g0 g1 g2 x) := by
  unfold impl_GiftTerms.f
  have hbad : Ev (fun k => impl_GiftTerms.bad k ps g0 g1 g2 x) (!decide (givB ps x = true ∧ g2 = 1 ∧ kinB ps g0 g1 g2 = true)) := by
    unfold impl_GiftTerms.bad
    refine Ev.bind (arePowers_ev ps (by omega)) ?_
    cases hp : powB ps with
    | false =>
      simp only [Bool.false_eq_true, if_false]
      refine ev_now _ _ ?_
      rw [decide_eq_false (fun h => by have := ((givB_iff ps x).1 h.1).1; rw [hp] at this; cases this)]; rfl
    | true =>
      simp only [if_true]
      refine Ev.bind (areArguments_ev x (by omega)) ?_
      cases ha : argB x with
      | false =>
        simp only [Bool.false_eq_true, if_false]
        refine ev_now _ _ ?_
        rw [decide_eq_false (fun h => by have := ((givB_iff ps x).1 h.1).2.1; rw [ha] at this; cases this)]; rfl
      | true =>
        simp only [if_true]
        by_cases hl : ps.length = x.length
        · simp only [if_pos hl]
          have hg : givB ps x = true := (givB_iff ps x).2 ⟨hp, ha, hl⟩
          by_cases h2 : g2 = 1
          · simp only [if_pos h2]
            rw [isKind_of ps g0 g1 g2 hps (pow60 ps hp g0) (pow60 ps hp g1)]
            refine ev_now _ _ ?_
            congr 1
            rw [Bool.eq_iff_iff]; simp [hg, h2]
          · simp only [if_neg h2]
            refine ev_now _ _ ?_
            rw [decide_eq_false (fun h => h2 h.2.1)]; rfl
        · simp only [if_neg hl]
          refine ev_now _ _ ?_
          rw [decide_eq_false (fun h => hl ((givB_iff ps x).1 h.1).2.2)]; rfl
  refine Ev.bind hbad ?_
  by_cases hc : givB ps x = true ∧ g2 = 1 ∧ kinB ps g0 g1 g2 = true
  · rw [decide_eq_true hc]
    obtain ⟨hg, h2, hk⟩ := hc
    subst h2
    obtain ⟨hp, ha, hl⟩ := (givB_iff ps x).1 hg
    obtain ⟨p1, p4, p5⟩ := (powB_iff ps).1 hp
    obtain ⟨f, t, rfl, rfl, hf, ht, hne, _, _⟩ := kin_facts ps g0 g1 1 hk
    obtain ⟨o1, o2⟩ := idxs_facts x.length (by omega) (by omega)
    have hok : impl_GiftTerms.ok ps f t x := ⟨by omega, by omega, by omega, by omega, hl, by omega, fun y hy => by have := p5 y hy; omega, by rw [exts_idxs, List.length_map]; omega⟩
    have e : giftR ps f t 1 x = ((idxs x.length).map (fun o => gterm ps f t (o.map (pick x))), true) := by unfold giftR; rw [if_pos ⟨hg, rfl, hk⟩, Int.toNat_natCast, Int.toNat_natCast]
    simp only [Bool.not_true, Bool.false_eq_true, if_false, if_pos hok]
    refine ev_now _ _ ?_
    rw [e, exts_idxs, Int.toNat_natCast, Int.toNat_natCast, List.map_map]; rfl
  · rw [decide_eq_false hc]
    simp only [Bool.not_false, if_true]
    refine ev_now _ _ ?_
    unfold giftR
    rw [if_neg hc]
theorem giftR_small (ps : List Int) (g0 g1 g2 : Int) (x : List Int) : (giftR ps g0 g1 g2 x).1.length ≤ 24 := by
  unfold giftR
  split
  · rename_i h
    obtain ⟨hp, ha, hl⟩ := (givB_iff ps x).1 h.1
    obtain ⟨p1, p4, p5⟩ := (powB_iff ps).1 hp
    rw [List.length_map]
    exact (idxs_facts x.length (by omega) (by omega)).1
  · simp
theorem GiftTerms_pure (ps : List Int) (g0 g1 g2 : Int) (x : List Int) (h0 : ps.length ≤ 1048576) (_ : ∀ y ∈ ps, (Lit.int .i64 y).wf = true) (_ : (Lit.int .i64 g0).wf = true) (_ : (Lit.int .i64 g1).wf = true) (_ : (Lit.int .i64 g2).wf = true) (h1 : x.length ≤ 1048576) (_ : ∀ y ∈ x, (Lit.int .i64 y).wf = true) :
    ∃ (R : List Int) (b : Bool), Ev (fun k => spec_GiftTerms.f k ps g0 g1 g2 x) (R, b) ∧ Ev (fun k => impl_GiftTerms.f k ps g0 g1 g2 x) (R, b) ∧ R.length ≤ 1048576 :=
  ⟨(giftR ps g0 g1 g2 x).1, (giftR ps g0 g1 g2 x).2, specGift_ev ps g0 g1 g2 x h0 h1, implGift_ev ps g0 g1 g2 x h0 h1, by have := giftR_small ps g0 g1 g2 x; omega⟩
/-- The factors of an order's product. -/
def fac (ps o : List Int) (i : Nat) : Int := o.getD i 0 ^ (ps.getD i 0).toNat
def mon (ps o : List Int) : Int := pr (fac ps o) ps.length
/-- An order of arguments: as many numbers, from 1 to 9. -/
def ordB (n : Nat) (o : List Int) : Prop := o.length = n ∧ ∀ i, i < n → 1 ≤ o.getD i 0 ∧ o.getD i 0 ≤ 9
theorem powW_eq (x : Int) (h1 : 1 ≤ x) (h2 : x ≤ 81) : ∀ n : Nat, n ≤ 4 → powW x n = x ^ n
  | 0, _ => by simp [powW]
  | n + 1, hn => by
    have ih := powW_eq x h1 h2 n (by omega)
    have h3 := pow_pos' x h1 (n + 1)
    have h4 := pow_mono' x 81 h1 h2 (n + 1)
    have h5 : (81 : Int) ^ (n + 1) ≤ 43046721 := by
      have : n + 1 = 1 ∨ n + 1 = 2 ∨ n + 1 = 3 ∨ n + 1 = 4 := by omega
      rcases this with e | e | e | e <;> rw [e] <;> decide
    show wrap64 (powW x n * x) = x ^ (n + 1)
    rw [ih, ← Int.pow_succ]
    have h6 := Int.le_trans h4 h5
    clear h4 h5 ih
    generalize x ^ (n + 1) = z at *
    exact wrap64_id (by omega) (by omega)
theorem pow_getD (ps : List Int) (hp : powB ps = true) (i : Nat) : 0 ≤ ps.getD i 0 ∧ ps.getD i 0 ≤ 4 := by
  have := pow_rd ps hp (i : Int)
  rwa [rd_nat_getD] at this
theorem pow9 (x : Int) (h1 : 1 ≤ x) (h2 : x ≤ 9) (n : Nat) (hn : n ≤ 4) : 1 ≤ x ^ n ∧ x ^ n ≤ 6561 := by
  refine ⟨pow_pos' x h1 n, ?_⟩
  have h4 := pow_mono' x 9 h1 h2 n
  have h5 : (9 : Int) ^ n ≤ 6561 := by
    have : n = 0 ∨ n = 1 ∨ n = 2 ∨ n = 3 ∨ n = 4 := by omega
    rcases this with e | e | e | e | e <;> rw [e] <;> decide
  exact Int.le_trans h4 h5
theorem fac_bound (ps o : List Int) (hp : powB ps = true) (ho : ordB ps.length o) (i : Nat) (hi : i < ps.length) : 1 ≤ fac ps o i ∧ fac ps o i ≤ 6561 := by
  have h1 := ho.2 i hi
  have h2 := pow_getD ps hp i
  exact pow9 _ h1.1 h1.2 _ (by omega)
theorem powW_fac (ps o : List Int) (hp : powB ps = true) (ho : ordB ps.length o) (i : Nat) (hi : i < ps.length) : powW (o.getD i 0) (ps.getD i 0).toNat = fac ps o i := by
  have h1 := ho.2 i hi
  have h2 := pow_getD ps hp i
  exact powW_eq _ h1.1 (by omega) _ (by omega)
theorem mon_bound (ps o : List Int) (hp : powB ps = true) (ho : ordB ps.length o) (n : Nat) (hn : n ≤ ps.length) : 1 ≤ pr (fac ps o) n ∧ pr (fac ps o) n ≤ 1853020188851841 := by
  have h4 := ((powB_iff ps).1 hp).2.1
  refine ⟨pr_pos _ n (fun i hi => (fac_bound ps o hp ho i (by omega)).1), ?_⟩
  have h1 := pr_le (fac ps o) 6561 (by decide) n (fun i hi => fac_bound ps o hp ho i (by omega))
  have h5 : (6561 : Int) ^ n ≤ 1853020188851841 := by
    have : n = 0 ∨ n = 1 ∨ n = 2 ∨ n = 3 ∨ n = 4 := by omega
    rcases this with e | e | e | e | e <;> rw [e] <;> decide
  omega
theorem sprod_eq (ps o : List Int) (hp : powB ps = true) (ho : ordB ps.length o) : ∀ n, n ≤ ps.length → sprod ps o n = pr (fac ps o) n
  | 0, _ => rfl
  | n + 1, hn => by
    have hb := mon_bound ps o hp ho (n + 1) hn
    rw [sprod_succ, sprod_eq ps o hp ho n (by omega), powW_fac ps o hp ho n (by omega)]
    exact wrap64_id (by have : pr (fac ps o) (n + 1) = pr (fac ps o) n * fac ps o n := rfl; omega) (by have : pr (fac ps o) (n + 1) = pr (fac ps o) n * fac ps o n := rfl; omega)
/-- The orders of arguments. -/
def ords (x : List Int) : List (List Int) := (idxs x.length).map (List.map (pick x))
theorem ords_ord (x : List Int) (hx : argB x = true) (o : List Int) (ho : o ∈ ords x) : ordB x.length o := by
  obtain ⟨h1, h4, h9⟩ := (argB_iff x).1 hx
  obtain ⟨q, hq, rfl⟩ := List.mem_map.1 ho
  obtain ⟨k1, k2⟩ := (idxs_facts x.length h1 h4).2 q hq
  refine ⟨by rw [List.length_map, k1], fun i hi => ?_⟩
  have hi2 : i < q.length := by omega
  have hq2 := k2 q[i] (List.getElem_mem hi2)
  have e : (q.map (pick x)).getD i 0 = x[q[i].toNat]'(by omega) := by
    rw [List.getD_eq_getElem?_getD, List.getElem?_map, List.getElem?_eq_getElem hi2]
    simp [pick, List.getD_eq_getElem?_getD, show q[i].toNat < x.length by omega]
  rw [e]
  exact h9 _ (List.getElem_mem _)
theorem ords_len (x : List Int) (hx : argB x = true) : (ords x).length ≤ 24 := by
  obtain ⟨h1, h4, _⟩ := (argB_iff x).1 hx
  unfold ords
  rw [List.length_map]
  exact (idxs_facts x.length h1 h4).1
/-- A symmetric sum, without wraps. -/
def symZ (ps x : List Int) : Int := lsum ((ords x).map (mon ps))
theorem symZ_bound (ps x : List Int) (hg : givB ps x = true) : 0 ≤ symZ ps x ∧ symZ ps x ≤ 44472484532444184 := by
  obtain ⟨hp, hx, hl⟩ := (givB_iff ps x).1 hg
  have hb : ∀ y ∈ (ords x).map (mon ps), -1853020188851841 ≤ y ∧ y ≤ 1853020188851841 := fun y hy => by
    obtain ⟨o, ho, rfl⟩ := List.mem_map.1 hy
    have := mon_bound ps o hp (by rw [hl]; exact ords_ord x hx o ho) ps.length (Nat.le_refl _)
    show _ ≤ pr (fac ps o) ps.length ∧ pr (fac ps o) ps.length ≤ _
    omega
  refine ⟨lsum_nonneg _ (fun y hy => ?_), ?_⟩
  · obtain ⟨o, ho, rfl⟩ := List.mem_map.1 hy
    have := mon_bound ps o hp (by rw [hl]; exact ords_ord x hx o ho) ps.length (Nat.le_refl _)
    show 0 ≤ pr (fac ps o) ps.length
    omega
  · have := (lsum_bound 1853020188851841 _ hb).2
    have h2 := ords_len x hx
    rw [List.length_map] at this
    unfold symZ
    omega
theorem foldl_map' {α β γ : Type} (f : γ → β → γ) (g : α → β) : ∀ (l : List α) (s : γ), l.foldl (fun s a => f s (g a)) s = (l.map g).foldl f s
  | [], _ => rfl
  | a :: l, s => foldl_map' f g l (f s (g a))
theorem ssum_eq (ps x : List Int) (hg : givB ps x = true) : ssum ps (exts x x.length 0 []) = symZ ps x := by
  obtain ⟨hp, hx, hl⟩ := (givB_iff ps x).1 hg
  unfold ssum
  rw [exts_idxs]
  show (ords x).foldl (fun s o => wrap64 (s + sprod ps o o.length)) 0 = symZ ps x
  rw [foldl_map' (fun s y => wrap64 (s + y)) (fun o => sprod ps o o.length) (ords x) 0]
  have e : (ords x).map (fun o => sprod ps o o.length) = (ords x).map (mon ps) := List.map_congr_left (fun o ho => by
    have h1 := ords_ord x hx o ho
    rw [h1.1, ← hl]
    exact sprod_eq ps o hp (by rw [hl]; exact h1) ps.length (Nat.le_refl _))
  rw [e, fold_wrap 1853020188851841 (by decide) _ 0 (fun y hy => by
    obtain ⟨o, ho, rfl⟩ := List.mem_map.1 hy
    have := mon_bound ps o hp (by rw [hl]; exact ords_ord x hx o ho) ps.length (Nat.le_refl _)
    show _ ≤ pr (fac ps o) ps.length ∧ pr (fac ps o) ps.length ≤ _
    omega) (by have := ords_len x hx; rw [List.length_map]; omega) (by have := ords_len x hx; rw [List.length_map]; omega)]
  unfold symZ
  omega
/-- What the symmetric sum comes to. -/
def symR (ps x : List Int) : Int × Bool := if givB ps x = true then (symZ ps x, true) else (0, false)
theorem symmetricSum_ev (ps x : List Int) (hps : ps.length ≤ 1048576) (hx : x.length ≤ 1048576) : Ev (fun k => impl_SymmetricSum.f k ps x) (symR ps x) := by
  unfold impl_SymmetricSum.f
  have no : givB ps x ≠ true → symR ps x = (0, false) := fun h => by unfold symR; rw [if_neg h]
  refine Ev.bind (arePowers_ev ps (by omega)) ?_
  cases hp : powB ps with
  | false =>
    rw [no (fun h => by have := ((givB_iff ps x).1 h).1; rw [hp] at this; cases this)]
    simp only [Bool.false_eq_true, if_false]; exact ev_now _ _ rfl
  | true =>
    simp only [if_true]
    refine Ev.bind (areArguments_ev x (by omega)) ?_
    cases ha : argB x with
    | false =>
      rw [no (fun h => by have := ((givB_iff ps x).1 h).2.1; rw [ha] at this; cases this)]
      simp only [Bool.false_eq_true, if_false]; exact ev_now _ _ rfl
    | true =>
      simp only [if_true]
      by_cases hl : ps.length = x.length
      · have hg : givB ps x = true := (givB_iff ps x).2 ⟨hp, ha, hl⟩
        obtain ⟨p1, p4, p5⟩ := (powB_iff ps).1 hp
        have yes : symR ps x = (symZ ps x, true) := by unfold symR; rw [if_pos hg]
        rw [yes]
        simp only [if_pos (show (ps.length : Int) = (x.length : Int) by omega)]
        have hok : impl_symmetricSum.ok ps x := ⟨p1, hl, by omega, fun y hy => by have := p5 y hy; omega, by rw [exts_idxs, List.length_map]; have := (idxs_facts x.length (by omega) (by omega)).1; omega⟩
        have hf : impl_symmetricSum.f ps x = some (symZ ps x) := by unfold impl_symmetricSum.f; rw [if_pos hok, ssum_eq ps x hg]
        simp only [hf, Option.bind_some]
        exact ev_now _ _ rfl
      · rw [no (fun h => hl ((givB_iff ps x).1 h).2.2)]
        simp only [if_neg (show ¬ (ps.length : Int) = (x.length : Int) by omega)]
        exact ev_now _ _ rfl
/-! ### the terms of a gift -/
/-- The powers behind a unit gift. -/
def gave (ps : List Int) (f t : Nat) : List Int := (ps.set f (ps.getD f 0 - 1)).set t (ps.getD t 0 + 1)
theorem gave_getD (ps : List Int) (f t : Nat) (hf : f < ps.length) (ht : t < ps.length) (hne : f ≠ t) (i : Nat) : (gave ps f t).getD i 0 = if i = t then ps.getD t 0 + 1 else if i = f then ps.getD f 0 - 1 else ps.getD i 0 := by
  unfold gave
  rw [List.getD_eq_getElem?_getD]
  by_cases h1 : i = t
  · subst h1
    rw [if_pos rfl, List.getElem?_set_self (by rw [List.length_set]; exact ht)]; rfl
  · rw [if_neg h1, List.getElem?_set_ne (fun e => h1 e.symm)]
    by_cases h2 : i = f
    · subst h2
      rw [if_pos rfl, List.getElem?_set_self hf]; rfl
    · rw [if_neg h2, List.getElem?_set_ne (fun e => h2 e.symm), ← List.getD_eq_getElem?_getD]
theorem gave_length (ps : List Int) (f t : Nat) : (gave ps f t).length = ps.length := by simp [gave]
def swp (f t : Nat) (o : List Int) : List Int := (o.set f (o.getD t 0)).set t (o.getD f 0)
theorem swp_getD (o : List Int) (f t : Nat) (hf : f < o.length) (ht : t < o.length) (hne : f ≠ t) (i : Nat) : (swp f t o).getD i 0 = if i = t then o.getD f 0 else if i = f then o.getD t 0 else o.getD i 0 := by
  unfold swp
  rw [List.getD_eq_getElem?_getD]
  by_cases h1 : i = t
  · subst h1
    rw [if_pos rfl, List.getElem?_set_self (by rw [List.length_set]; exact ht)]; rfl
  · rw [if_neg h1, List.getElem?_set_ne (fun e => h1 e.symm)]
    by_cases h2 : i = f
    · subst h2
      rw [if_pos rfl, List.getElem?_set_self hf]; rfl
    · rw [if_neg h2, List.getElem?_set_ne (fun e => h2 e.symm), ← List.getD_eq_getElem?_getD]
theorem swp_perm0 : ∀ n, n ≤ 4 → ∀ f, f < n → ∀ t, t < n → ((idxs n).map (swp f t)).isPerm (idxs n) = true := by
  intro n hn
  have h : n = 0 ∨ n = 1 ∨ n = 2 ∨ n = 3 ∨ n = 4 := by omega
  rcases h with rfl | rfl | rfl | rfl | rfl <;> decide +kernel
theorem swp_map (g : Int → Int) (f t : Nat) (o : List Int) (hf : f < o.length) (ht : t < o.length) : (swp f t o).map g = swp f t (o.map g) := by
  unfold swp
  rw [List.map_set, List.map_set]
  congr 1
  · congr 1
    simp [List.getD_eq_getElem?_getD, ht]
  · simp [List.getD_eq_getElem?_getD, hf]
theorem ords_swp (x : List Int) (hx : argB x = true) (f t : Nat) (hf : f < x.length) (ht : t < x.length) : ((ords x).map (swp f t)).Perm (ords x) := by
  obtain ⟨h1, h4, _⟩ := (argB_iff x).1 hx
  have hp := List.isPerm_iff.1 (swp_perm0 x.length h4 f hf t ht)
  have e : (ords x).map (swp f t) = ((idxs x.length).map (swp f t)).map (List.map (pick x)) := by
    unfold ords
    rw [List.map_map, List.map_map]
    apply List.map_congr_left
    intro o ho
    have hl := ((idxs_facts x.length h1 h4).2 o ho).1
    show swp f t (o.map (pick x)) = (swp f t o).map (pick x)
    rw [swp_map _ f t o (by omega) (by omega)]
  rw [e]
  exact hp.map _
/-- The product of all but two places. -/
def rst (ps o : List Int) (f t : Nat) : Int := rest (fac ps o) f t ps.length
theorem mon_split (ps o : List Int) (f t : Nat) (hf : f < ps.length) (ht : t < ps.length) (hne : f ≠ t) : mon ps o = fac ps o f * fac ps o t * rst ps o f t := pr_pull2 (fac ps o) f t ps.length hf ht hne
theorem rst_congr (ps qs o u : List Int) (f t : Nat) (hl : ps.length = qs.length) (h : ∀ i, i < ps.length → i ≠ f → i ≠ t → ps.getD i 0 = qs.getD i 0 ∧ o.getD i 0 = u.getD i 0) : rst ps o f t = rst qs u f t := by
  unfold rst rest
  rw [← hl]
  refine pr_congr _ _ _ (fun i hi => ?_)
  by_cases h1 : i ≠ f ∧ i ≠ t
  · rw [if_pos h1, if_pos h1]
    unfold fac
    rw [(h i hi h1.1 h1.2).1, (h i hi h1.1 h1.2).2]
  · rw [if_neg h1, if_neg h1]
/-- A term, as four products. -/
theorem term_four (ps o : List Int) (f t : Nat) (q d : Nat) (hf : f < ps.length) (ht : t < ps.length) (hne : f ≠ t) (hol : o.length = ps.length) (hp : ps.getD f 0 = ((q + d + 1 : Nat) : Int)) (hq : ps.getD t 0 = (q : Int)) :
    T (o.getD f 0) (o.getD t 0) q d (rst ps o f t) = (mon ps o - mon (gave ps f t) o) + (mon ps (swp f t o) - mon (gave ps f t) (swp f t o)) := by
  have hgl := gave_length ps f t
  have g1 : (gave ps f t).getD f 0 = ((q + d : Nat) : Int) := by rw [gave_getD ps f t hf ht hne, if_neg hne, if_pos rfl, hp]; push_cast; omega
  have g2 : (gave ps f t).getD t 0 = ((q + 1 : Nat) : Int) := by rw [gave_getD ps f t hf ht hne, if_pos rfl, hq]; push_cast; omega
  have s1 : (swp f t o).getD f 0 = o.getD t 0 := by rw [swp_getD o f t (by omega) (by omega) hne, if_neg hne, if_pos rfl]
  have s2 : (swp f t o).getD t 0 = o.getD f 0 := by rw [swp_getD o f t (by omega) (by omega) hne, if_pos rfl]
  have r1 : rst (gave ps f t) o f t = rst ps o f t := rst_congr _ _ _ _ f t hgl (fun i _ h1 h2 => ⟨by rw [gave_getD ps f t hf ht hne, if_neg h2, if_neg h1], rfl⟩)
  have r2 : rst ps (swp f t o) f t = rst ps o f t := rst_congr _ _ _ _ f t rfl (fun i _ h1 h2 => ⟨rfl, by rw [swp_getD o f t (by omega) (by omega) hne, if_neg h2, if_neg h1]⟩)
  have r3 : rst (gave ps f t) (swp f t o) f t = rst ps o f t := rst_congr _ _ _ _ f t hgl (fun i _ h1 h2 => ⟨by rw [gave_getD ps f t hf ht hne, if_neg h2, if_neg h1], by rw [swp_getD o f t (by omega) (by omega) hne, if_neg h2, if_neg h1]⟩)
  rw [mon_split ps o f t hf ht hne, mon_split (gave ps f t) o f t (by omega) (by omega) hne, mon_split ps (swp f t o) f t hf ht hne, mon_split (gave ps f t) (swp f t o) f t (by omega) (by omega) hne, r1, r2, r3, T_eq]
  unfold fac
  rw [hp, hq, g1, g2, s1, s2]
  simp only [Int.toNat_natCast]
/-- The first factor of a term. -/
theorem gbase_eq (u v : Int) (q d : Nat) (hu : 1 ≤ u ∧ u ≤ 9) (hv : 1 ≤ v ∧ v ≤ 9) (hq : q ≤ 2) (hd : d ≤ 3) :
    gbase ((q + d + 1 : Nat) : Int) (q : Int) u v = (u * v) ^ q * (u ^ d - v ^ d) * (u - v) ∧ -38263752 ≤ (u * v) ^ q * (u ^ d - v ^ d) * (u - v) ∧ (u * v) ^ q * (u ^ d - v ^ d) * (u - v) ≤ 38263752 := by
  have huv : 1 ≤ u * v ∧ u * v ≤ 81 := by
    have h1 := Int.mul_le_mul hu.1 hv.1 (by omega) (by omega)
    have h2 := Int.mul_le_mul hu.2 hv.2 (by omega) (by omega)
    omega
  have e1 : wrap64 (((q + d + 1 : Nat) : Int) - (q : Int)) = ((d + 1 : Nat) : Int) := by rw [wrap64_id (by omega) (by omega)]; push_cast; omega
  have e2 : wrap64 (((d + 1 : Nat) : Int) - 1) = (d : Int) := by rw [wrap64_id (by omega) (by omega)]; push_cast; omega
  have p1 := pow_pos' (u * v) huv.1 q
  have p2 : (u * v) ^ q ≤ 6561 := by
    have h4 := pow_mono' (u * v) 81 huv.1 huv.2 q
    have h5 : (81 : Int) ^ q ≤ 6561 := by
      have : q = 0 ∨ q = 1 ∨ q = 2 := by omega
      rcases this with e | e | e <;> rw [e] <;> decide
    exact Int.le_trans h4 h5
  have pd : ∀ z : Int, 1 ≤ z → z ≤ 9 → 1 ≤ z ^ d ∧ z ^ d ≤ 729 := fun z h1 h2 => by
    have h4 := pow_mono' z 9 h1 h2 d
    have h5 : (9 : Int) ^ d ≤ 729 := by
      have : d = 0 ∨ d = 1 ∨ d = 2 ∨ d = 3 := by omega
      rcases this with e | e | e | e <;> rw [e] <;> decide
    exact ⟨pow_pos' z h1 d, Int.le_trans h4 h5⟩
  have pu := pd u hu.1 hu.2
  have pv := pd v hv.1 hv.2
  unfold gbase
  rw [e1, e2, wrap64_id (x := u * v) (by omega) (by omega), wrap64_id (x := u - v) (by omega) (by omega), Int.toNat_natCast, Int.toNat_natCast, powW_eq (u * v) huv.1 huv.2 q (by omega), powW_eq u hu.1 (by omega) d (by omega), powW_eq v hv.1 (by omega) d (by omega)]
  generalize u ^ d = a at *
  generalize v ^ d = b at *
  generalize (u * v) ^ q = c at *
  have w1 : wrap64 (a - b) = a - b := wrap64_id (by omega) (by omega)
  have k1 := absmul (a - b) 728 c 6561 (by omega) (by omega) (by omega) p2 (by omega)
  rw [Int.mul_comm (a - b) c] at k1
  have w2 : wrap64 (c * (a - b)) = c * (a - b) := wrap64_id (by omega) (by omega)
  have k2 : -38263752 ≤ c * (a - b) * (u - v) ∧ c * (a - b) * (u - v) ≤ 38263752 := by
    generalize c * (a - b) = z at *
    by_cases h : 0 ≤ u - v
    · have := absmul z (728 * 6561) (u - v) 8 k1.1 k1.2 h (by omega) (by decide)
      omega
    · have := absmul z (728 * 6561) (v - u) 8 k1.1 k1.2 (by omega) (by omega) (by decide)
      have e : z * (u - v) = -(z * (v - u)) := by rw [← Int.mul_neg]; congr 1; omega
      rw [e]
      omega
  rw [w1, w2, wrap64_id (by omega) (by omega)]
  exact ⟨rfl, k2⟩
theorem gfrom_eq (ps o : List Int) (hp : powB ps = true) (ho : ordB ps.length o) (f t : Nat) (hf : f < ps.length) (ht : t < ps.length) (hne : f ≠ t) (B : Int) (h1 : -38263752 ≤ B) (h2 : B ≤ 38263752) : ∀ n, n ≤ ps.length →
    gfrom ps o f t B n = B * pr (fun i => if i ≠ f ∧ i ≠ t then fac ps o i else 1) n
  | 0, _ => by show B = B * 1; omega
  | n + 1, hn => by
    have h4 := ((powB_iff ps).1 hp).2.1
    have hone : ∀ i, i < ps.length → 1 ≤ (if i ≠ f ∧ i ≠ t then fac ps o i else 1) := fun i hi => by
      by_cases c : i ≠ f ∧ i ≠ t
      · rw [if_pos c]; exact (fac_bound ps o hp ho i hi).1
      · rw [if_neg c]; exact Int.le_refl _
    have hr := rest_le (fac ps o) f t ps.length h4 hf ht hne (fun i hi => fac_bound ps o hp ho i hi)
    have hm := pr_mono (fun i => if i ≠ f ∧ i ≠ t then fac ps o i else 1) (n + 1) ps.length hn hone
    have hp1 := pr_pos (fun i => if i ≠ f ∧ i ≠ t then fac ps o i else 1) (n + 1) (fun i hi => hone i (by omega))
    have hb := absmul B 38263752 (pr (fun i => if i ≠ f ∧ i ≠ t then fac ps o i else 1) (n + 1)) 43046721 h1 h2 (by omega) (Int.le_trans hm hr) (by decide)
    rw [gfrom_succ, gfrom_eq ps o hp ho f t hf ht hne B h1 h2 n (by omega)]
    have e : pr (fun i => if i ≠ f ∧ i ≠ t then fac ps o i else 1) (n + 1) = pr (fun i => if i ≠ f ∧ i ≠ t then fac ps o i else 1) n * (if n ≠ f ∧ n ≠ t then fac ps o n else 1) := rfl
    by_cases c : n ≠ f ∧ n ≠ t
    · rw [if_pos c, powW_fac ps o hp ho n (by omega)]
      rw [e, if_pos c, ← Int.mul_assoc] at hb
      rw [e, if_pos c, ← Int.mul_assoc]
      exact wrap64_id (by omega) (by omega)
    · rw [if_neg c, e, if_neg c, Int.mul_one]
theorem gterm_eq (ps o : List Int) (hp : powB ps = true) (ho : ordB ps.length o) (f t : Nat) (hf : f < ps.length) (ht : t < ps.length) (hne : f ≠ t) (q d : Nat) (hpf : ps.getD f 0 = ((q + d + 1 : Nat) : Int)) (hpt : ps.getD t 0 = (q : Int)) (hd : 1 ≤ d) :
    gterm ps f t o = T (o.getD f 0) (o.getD t 0) q d (rst ps o f t) ∧ -1647129056757192 ≤ gterm ps f t o ∧ gterm ps f t o ≤ 1647129056757192 := by
  have hf4 := pow_getD ps hp f
  have hu := ho.2 f hf
  have hv := ho.2 t ht
  have h4 := ((powB_iff ps).1 hp).2.1
  obtain ⟨g1, g2, g3⟩ := gbase_eq (o.getD f 0) (o.getD t 0) q d hu hv (by omega) (by omega)
  have e : gterm ps f t o = T (o.getD f 0) (o.getD t 0) q d (rst ps o f t) := by
    unfold gterm T
    rw [hpf, hpt, ho.1, g1, gfrom_eq ps o hp ho f t hf ht hne _ g2 g3 ps.length (Nat.le_refl _)]
    rfl
  refine ⟨e, ?_⟩
  rw [e]
  unfold T
  have hr := rest_le (fac ps o) f t ps.length h4 hf ht hne (fun i hi => fac_bound ps o hp ho i hi)
  have hp1 : 1 ≤ rst ps o f t := pr_pos _ ps.length (fun i hi => by
    by_cases c : i ≠ f ∧ i ≠ t
    · simp only [if_pos c]; exact (fac_bound ps o hp ho i hi).1
    · simp only [if_neg c]; exact Int.le_refl _)
  have hb := absmul _ 38263752 (rst ps o f t) 43046721 g2 g3 (by omega) hr (by decide)
  omega
theorem rst_pos (ps o : List Int) (hp : powB ps = true) (ho : ordB ps.length o) (f t : Nat) : 1 ≤ rst ps o f t := pr_pos _ ps.length (fun i hi => by
    by_cases c : i ≠ f ∧ i ≠ t
    · simp only [if_pos c]; exact (fac_bound ps o hp ho i hi).1
    · simp only [if_neg c]; exact Int.le_refl _)
/-- The terms of a kind unit gift of powers. -/
def terms (ps x : List Int) (f t : Nat) : List Int := (ords x).map (gterm ps f t)
theorem terms_facts (ps x : List Int) (hg : givB ps x = true) (f t : Nat) (hf : f < ps.length) (ht : t < ps.length) (hne : f ≠ t) (hk : ps.getD t 0 + 2 ≤ ps.getD f 0) :
    (∀ y ∈ terms ps x f t, 0 ≤ y ∧ y ≤ 1647129056757192) ∧ lsum (terms ps x f t) = 2 * (symZ ps x - symZ (gave ps f t) x) := by
  obtain ⟨hp, hx, hl⟩ := (givB_iff ps x).1 hg
  have hf4 := pow_getD ps hp f
  have ht4 := pow_getD ps hp t
  obtain ⟨q, hq⟩ : ∃ q : Nat, ps.getD t 0 = (q : Int) := ⟨(ps.getD t 0).toNat, by omega⟩
  obtain ⟨d, hd⟩ : ∃ d : Nat, ps.getD f 0 = ((q + d + 1 : Nat) : Int) := ⟨(ps.getD f 0).toNat - q - 1, by push_cast; omega⟩
  have hd1 : 1 ≤ d := by push_cast at hd; omega
  have hO : ∀ o ∈ ords x, ordB ps.length o := fun o ho => by rw [hl]; exact ords_ord x hx o ho
  refine ⟨fun y hy => ?_, ?_⟩
  · obtain ⟨o, ho, rfl⟩ := List.mem_map.1 hy
    obtain ⟨e1, e2, e3⟩ := gterm_eq ps o hp (hO o ho) f t hf ht hne q d hd hq hd1
    refine ⟨?_, e3⟩
    rw [e1]
    exact T_nonneg _ _ q d _ ((hO o ho).2 f hf).1 ((hO o ho).2 t ht).1 (rst_pos ps o hp (hO o ho) f t)
  · have e1 : lsum (terms ps x f t) = lsum ((ords x).map fun o => (mon ps o - mon (gave ps f t) o) + (mon ps (swp f t o) - mon (gave ps f t) (swp f t o))) := by
      refine lsum_map_congr _ _ _ (fun o ho => ?_)
      rw [(gterm_eq ps o hp (hO o ho) f t hf ht hne q d hd hq hd1).1, term_four ps o f t q d hf ht hne (hO o ho).1 hd hq]
    have hsw : ∀ g : List Int → Int, lsum ((ords x).map fun o => g (swp f t o)) = lsum ((ords x).map g) := fun g => by
      have h1 := lsum_perm ((ords_swp x hx f t (by omega) (by omega)).map g)
      rw [List.map_map] at h1
      exact h1
    rw [e1, lsum_map_add, lsum_map_sub, lsum_map_sub, hsw (mon ps), hsw (mon (gave ps f t))]
    unfold symZ
    omega

def spec_l1Cur_list.l0 : Nat → Int → List Int → Int → List Int → Int → Int → Option (List Int × Int × Int)
 | 0, _, _, _, _, _, _ => none
 | k + 1, x1, x5, x6, x1000, x1001, x1002 => if x6 > 0 then ((spec_l1Cur_pick.f x1000 x1001 x1002 (wrap64 (x1 + 1))).bind fun bt124 => (if x5.length < 17592186044416 then (spec_l1Cur_list.l0 k x1 (x5 ++ [bt124.1]) (wrap64 (x6 - 1)) x1000 bt124.2.1 bt124.2.2) else (none))) else (some (x5, x1001, x1002))
def spec_l1Cur_list.f (k : Nat) (s0_0 : List Int) (s0_1 : Int) (s0_2 : Int) (a1 : Int) : Option (List Int × Int × Int) := (spec_l1Cur_pick.f s0_0 s0_1 s0_2 6).bind fun bt121 => (spec_l1Cur_list.l0 k a1 ([] : List Int) (wrap64 (1 + bt121.1)) s0_0 bt121.2.1 bt121.2.2)
theorem spec_l1Cur_list.mono_l : ∀ k, (∀ y0 y1 y2 y3 y4 y5, LeO (spec_l1Cur_list.l0 k y0 y1 y2 y3 y4 y5) (spec_l1Cur_list.l0 (k + 1) y0 y1 y2 y3 y4 y5))
 | 0 => fun _ _ _ _ _ _ r h => by simp [spec_l1Cur_list.l0] at h
 | k + 1 => by
  have ih0 := spec_l1Cur_list.mono_l k
  ·intro y0 y1 y2 y3 y4 y5
   unfold spec_l1Cur_list.l0
   repeat' first
   | (with_reducible exact ih0 _ _ _ _ _ _)
   | (with_reducible exact LeO.refl _)
   | (with_reducible exact LeO.none _)
   | (with_reducible refine LeO.ite ?_ ?_)
   | (with_reducible refine LeO.bind ?_ (fun _ => ?_))
   | exact ih0 _ _ _ _ _ _
   | exact LeO.none _
   | refine LeO.ite ?_ ?_
   | refine LeO.bind ?_ (fun _ => ?_)
theorem spec_l1Cur_list.mono : ∀ a0 a1 a2 a3 k, LeO (spec_l1Cur_list.f k a0 a1 a2 a3) (spec_l1Cur_list.f (k + 1) a0 a1 a2 a3) := by
 intro a0 a1 a2 a3 k
 have ih0 := spec_l1Cur_list.mono_l k
 unfold spec_l1Cur_list.f
 repeat' first
   | (with_reducible exact ih0 _ _ _ _ _ _)
   | (with_reducible exact LeO.refl _)
   | (with_reducible exact LeO.none _)
   | (with_reducible refine LeO.ite ?_ ?_)
   | (with_reducible refine LeO.bind ?_ (fun _ => ?_))
   | exact ih0 _ _ _ _ _ _
   | exact LeO.none _
   | refine LeO.ite ?_ ?_
   | refine LeO.bind ?_ (fun _ => ?_)
set_option maxHeartbeats 8000000 in
set_option maxRecDepth 100000 in
theorem spec_l1Cur_list.calls (k : Nat) (g : Nat) (s0_0 : List Int) (s0_1 : Int) (s0_2 : Int) (a1 : Int) (r1 : List Int) (r2 : Int) (r3 : Int) (w0 w : World) (hI : IsS87 w0 w g s0_0 s0_1 s0_2) (hB : Below w0.heap.size w0 w) (h : spec_l1Cur_list.f k s0_0 s0_1 s0_2 a1 = some (r1, r2, r3)) :
  Calls Try.prog 216 #[.pointer (some ⟨g, 0, none⟩), .int .i64 a1] w fun e w' => ∃ v0_ : Value, e = .returned (v0_) ∧ Kd.R (Kd.int .i64) 3 w' w.heap.size (fun _ => True) v0_ r1 ∧ IsS87 w0 w' g s0_0 r2 r3 ∧ Below w0.heap.size w0 w' ∧ KeepBut w w' g none := by
 have HI0 := Aside0.mk hI
 have HK := Aside0.mk (KeepBut.refl w g none)
 have HL := Aside0.mk hB.size
 clear hI
 have HW0 := Aside0.mk hB.size
 have HB := Aside0.mk hB
 clear hB
 have H : ((spec_l1Cur_pick.f s0_0 s0_1 s0_2 6).bind fun bt121 => (spec_l1Cur_list.l0 k a1 ([] : List Int) (wrap64 (1 + bt121.1)) s0_0 bt121.2.1 bt121.2.2)) = some (r1, r2, r3) := h
 clear h
 replace H := Option.bind_eq_some_iff.mp H
 obtain ⟨⟨t121, t122, t123⟩, A30, H⟩ := H
 replace H : (spec_l1Cur_list.l0 k a1 ([] : List Int) (wrap64 (1 + t121)) s0_0 t122 t123) = some (r1, r2, r3) := H
 have A3 := Aside0.mk A30
 clear A30
 have H' := Aside0.mk H
 clear H
 go_enter Try.func216, Try.ntmps216
 go_wp2_with (first | ((with_reducible refine gate_callee (f := 146) rfl ?_); refine goesL_ (some 8) rfl rfl Try.func146 (by kernel_rfl) rfl #[.pointer (some ⟨g, 0, none⟩), .int .i64 6] rfl (by (try simp only [List.map_toArray, List.map_cons, List.map_nil]); first | done | rfl | (simp only [List.length_drop, List.length_take]; rfl)) ?_; (with_reducible refine (spec_l1Cur_pick.calls g s0_0 s0_1 s0_2 6 t121 t122 t123 w0 _ ?side1 ?side2 A3.out).mono ?_); (case side1 => repeat (first | (with_reducible first | exact HI0.out | apply IsS87.alloc | apply IsS87.drewN | apply IsS87.drew | apply IsS87.set_1 | apply IsS87.set_2) | exact HI0.out)); (case side2 => repeat (first | (with_reducible first | exact HB.out | apply below_alloc | apply pw_below_drewN | apply below_drew1 | refine below_set ?_ (IsS87.ge HI0.out)) | exact HB.out)); rintro e w4 ⟨rfl, hi, hb, hk⟩; refine ⟨_, rfl, ?_⟩; have n0_ := Aside0.mk (KeepBut.trans (by repeat (first | (with_reducible first | exact HK.out | apply KeepBut.set_ | apply keep_drewN | apply keep_drew | apply keep_alloc) | exact HK.out)) hk (.inl rfl)); have n1_ := Aside0.mk (hb); have n2_ := Aside0.mk (hi); clear HK; clear HB; clear HI0; have HK := n0_; have HB := n1_; have HI0 := n2_; clear n0_ n1_ n2_; (try clear hb); (try clear hb2); (try clear hk); (try clear hi)))
 go_loopg [5, 6] k (fun kq v5 v6 w' => ∃ (x5_1 : List Int) (x6_1 : Int) (x1001_1 : Int) (x1002_1 : Int), v6 = .int .i64 x6_1 ∧ Aside0 (spec_l1Cur_list.l0 kq a1 x5_1 x6_1 s0_0 x1001_1 x1002_1 = some (r1, r2, r3)) ∧ Aside0 (kq ≤ k) ∧ Aside0 (Kd.R (Kd.int .i64) 3 w' w.heap.size (fun _ => True) v5 x5_1) ∧ Aside0 (IsS87 w0 w' g s0_0 x1001_1 x1002_1) ∧ Aside0 (KeepBut w w' g none) ∧ Aside0 (Below w0.heap.size w0 w'))
 case atStart => exact ⟨(([] : List Int)), (wrap64 (1 + t121)), (t122), (t123), (by first | rfl | (simp; done) | (simp [*]; done)), H', ⟨Nat.le_refl _⟩, ⟨by first | exact Kd.R_nil _ _ _ _ _ | exact Kd.N_nil _ _ _ _ _ | exact Kd.V_nil _ _ _ _ _ | exact Kd.Q_nil _ _ _ _ _ | exact Kd.S_nil _ _ _ _ _⟩, ⟨by repeat (first | (with_reducible first | exact HI0.out | apply IsS87.alloc | apply IsS87.drewN | apply IsS87.drew | apply IsS87.set_1 | apply IsS87.set_2) | exact HI0.out)⟩, ⟨by repeat (first | (with_reducible first | exact HK.out | apply KeepBut.set_ | apply keep_drewN | apply keep_drew | apply keep_alloc) | exact HK.out)⟩, ⟨by repeat (first | (with_reducible first | exact HB.out | apply below_alloc | apply pw_below_drewN | apply below_drew1 | refine below_set ?_ (IsS87.ge HI0.out)) | exact HB.out)⟩⟩
 case round =>
  clear H'
  try clear c1
  try clear c2
  try clear p2
  obtain ⟨x5_1, x6_1, x1001_1, x1002_1, rfl, HA, HK1, HO_5, HI0, HK, HB⟩ := hrel
  cases gk with
  | zero => exact absurd HA.out (by simp [spec_l1Cur_list.l0])
  | succ k1 =>
   have H := HA.out
   clear HA
   simp only [spec_l1Cur_list.l0] at H
   by_cases c5 : x6_1 > 0
   ·rw [if_pos c5] at H
    have c5b0 : decide (0 < x6_1) = true := decide_eq_true c5
    clear c5
    replace H := Option.bind_eq_some_iff.mp H
    obtain ⟨⟨t124, t125, t126⟩, A60, H⟩ := H
    replace H : (if x5_1.length < 17592186044416 then (spec_l1Cur_list.l0 k1 a1 (x5_1 ++ [t124]) (wrap64 (x6_1 - 1)) s0_0 t125 t126) else (none)) = some (r1, r2, r3) := H
    have A6 := Aside0.mk A60
    clear A60
    by_cases c7 : x5_1.length < 17592186044416
    ·rw [if_pos c7] at H
     have LMc7 := Aside0.mk c7
     clear c7
     obtain ⟨y127, hy127⟩ : ∃ y_ : List Int, y_ = (x5_1 ++ [t124]) := ⟨_, rfl⟩
     replace H : (spec_l1Cur_list.l0 k1 a1 y127 (wrap64 (x6_1 - 1)) s0_0 t125 t126) = some (r1, r2, r3) := by first | (rw [hy127]; with_reducible exact H) | (have H2_ := (Option.bind_some _ _).symm.trans H; rw [hy127]; with_reducible exact H2_) | (have H2_ := (Option.bind_some _ _).symm.trans H; with_reducible exact H2_) | with_reducible exact H | (rw [hy127]; exact H) | exact H
     have Ny127 := Aside0.mk hy127
     clear hy127
     have H' := Aside0.mk H
     clear H
     go_wp2_with (first | ((with_reducible refine gate_callee (f := 146) rfl ?_); refine goesL_ (some 18) rfl rfl Try.func146 (by kernel_rfl) rfl #[.pointer (some ⟨g, 0, none⟩), .int .i64 (wrap64 (a1 + 1))] rfl (by (try simp only [List.map_toArray, List.map_cons, List.map_nil]); first | done | rfl | (simp only [List.length_drop, List.length_take]; rfl)) ?_; (with_reducible refine (spec_l1Cur_pick.calls g s0_0 x1001_1 x1002_1 (wrap64 (a1 + 1)) t124 t125 t126 w0 _ ?side1 ?side2 A6.out).mono ?_); (case side1 => repeat (first | (with_reducible first | exact HI0.out | apply IsS87.alloc | apply IsS87.drewN | apply IsS87.drew | apply IsS87.set_1 | apply IsS87.set_2) | exact HI0.out)); (case side2 => repeat (first | (with_reducible first | exact HB.out | apply below_alloc | apply pw_below_drewN | apply below_drew1 | refine below_set ?_ (IsS87.ge HI0.out)) | exact HB.out)); rintro e w8 ⟨rfl, hi, hb, hk⟩; refine ⟨_, rfl, ?_⟩; have n0_ := Aside0.mk (Kd.R_mono (Kd.R_keep (IsS87.apart (show IsS87 w0 _ g s0_0 x1001_1 x1002_1 from by repeat (first | (with_reducible first | exact HI0.out | apply IsS87.alloc | apply IsS87.drewN | apply IsS87.drew | apply IsS87.set_1 | apply IsS87.set_2) | exact HI0.out)) (by (with_reducible repeat (first | apply Kd.R_alloc | apply Kd.R_drewN | apply Kd.R_drew)); exact HO_5.out) (by decide)) hk (fun _ h => h.2)) (fun _ h => h.1)); have n1_ := Aside0.mk (KeepBut.trans (by repeat (first | (with_reducible first | exact HK.out | apply KeepBut.set_ | apply keep_drewN | apply keep_drew | apply keep_alloc) | exact HK.out)) hk (.inl rfl)); have n2_ := Aside0.mk (hb); have n3_ := Aside0.mk (hi); clear HO_5; clear HK; clear HB; clear HI0; have HO_5 := n0_; have HK := n1_; have HB := n2_; have HI0 := n3_; clear n0_ n1_ n2_ n3_; (try clear hb); (try clear hb2); (try clear hk); (try clear hi)) | ((with_reducible refine gate_builtin (b := .append) (xs := #[.tmp 14, .tmp 19]) rfl ?_); at_builtin; refine Kd.R_append (Kd.int .i64) w.heap.size rfl (.tmp 14) (.tmp 19) 24 3 (.int .i64 0) 8 rfl Try.underlying24 info3 rfl (by decide) (by omega) u5 x5_1 t124 [.int .i64 t124] (fun _ => True) (fun _ => False) rfl rfl ?aP (fun _ hk => hk.elim) ?aF ?aO (Below.refl _ _) ?aS ?aL ?_; (case aP => exact rfl); (case aF => exact (fun _ _ => trivial)); (case aO => exact (by (with_reducible repeat (first | apply Kd.R_alloc | apply Kd.R_drewN | apply Kd.R_drew)); exact HO_5.out)); (case aS => exact (keep_size (w := w) (g := g) (row := none) (by repeat (first | (with_reducible first | exact HK.out | apply KeepBut.set_ | apply keep_drewN | apply keep_drew | apply keep_alloc) | exact HK.out)))); (case aL => have := LMc7.out; omega); intro v128 w9 ho hb hg hat; rw [← Ny127.out] at ho; have n0_ := Aside0.mk (IsS87.grown (by repeat (first | (with_reducible first | exact HI0.out | apply IsS87.alloc | apply IsS87.drewN | apply IsS87.drew | apply IsS87.set_1 | apply IsS87.set_2) | exact HI0.out)) hg (IsS87.own_ne HI0.out HO_5.out (by decide))); have n1_ := Aside0.mk (below_weaken (by repeat (first | (with_reducible first | exact HB.out | apply below_alloc | apply pw_below_drewN | apply below_drew1 | refine below_set ?_ (IsS87.ge HI0.out)) | exact HB.out)) HL.out hb); have n2_ := Aside0.mk (KeepBut.trans (by repeat (first | (with_reducible first | exact HK.out | apply KeepBut.set_ | apply keep_drewN | apply keep_drew | apply keep_alloc) | exact HK.out)) (KeepBut.of_grown hg g) (Kd.R_base2 HO_5.out)); have n3_ := Aside0.mk (ho); clear HI0; clear HB; clear HK; clear HO_5; have HI0 := n0_; have HB := n1_; have HK := n2_; have HO129 := n3_; clear n0_ n1_ n2_ n3_; clear ho hb hg hat))
     go_roundg k1
     case measure => have := HK1.out; omega
     case rel => exact ⟨(y127), (wrap64 (x6_1 - 1)), (t125), (t126), (by first | rfl | (simp; done) | (simp [*]; done)), H', ⟨by have := HK1.out; omega⟩, ⟨by (with_reducible repeat (first | apply Kd.R_alloc | apply Kd.R_drewN | apply Kd.R_drew)); exact HO129.out⟩, ⟨by repeat (first | (with_reducible first | exact HI0.out | apply IsS87.alloc | apply IsS87.drewN | apply IsS87.drew | apply IsS87.set_1 | apply IsS87.set_2) | exact HI0.out)⟩, ⟨by repeat (first | (with_reducible first | exact HK.out | apply KeepBut.set_ | apply keep_drewN | apply keep_drew | apply keep_alloc) | exact HK.out)⟩, ⟨by repeat (first | (with_reducible first | exact HB.out | apply below_alloc | apply pw_below_drewN | apply below_drew1 | refine below_set ?_ (IsS87.ge HI0.out)) | exact HB.out)⟩⟩
    ·rw [if_neg c7] at H
     exact absurd H (by simp)
   ·rw [if_neg c5] at H
    have c5b0 : decide (0 < x6_1) = false := decide_eq_false c5
    clear c5
    simp only [Option.some.injEq, Prod.mk.injEq] at H
    obtain ⟨rfl, rfl, rfl⟩ := H
    go_wp2
    go_ret
    exact ⟨_, by first | rfl | (simp [errW_none, errW_some] <;> rfl) | (simp [*, errW_none, errW_some] <;> rfl), by (with_reducible repeat (first | apply Kd.R_alloc | apply Kd.R_drewN | apply Kd.R_drew)); exact HO_5.out, by repeat (first | (with_reducible first | exact HI0.out | apply IsS87.alloc | apply IsS87.drewN | apply IsS87.drew | apply IsS87.set_1 | apply IsS87.set_2) | exact HI0.out), by repeat (first | (with_reducible first | exact HB.out | apply below_alloc | apply pw_below_drewN | apply below_drew1 | refine below_set ?_ (IsS87.ge HI0.out)) | exact HB.out), by repeat (first | (with_reducible first | exact HK.out | apply KeepBut.set_ | apply keep_drewN | apply keep_drew | apply keep_alloc) | exact HK.out)⟩

/-- Bytes. -/
def bytesB (c : List Int) : Prop := c.length ≤ 1048576 ∧ ∀ x ∈ c, 0 ≤ x ∧ x ≤ 255
theorem wf_u8 (x : Int) (h : (Lit.int .u8 x).wf = true) : 0 ≤ x ∧ x ≤ 255 := by
  have h2 : IntKind.u8.min ≤ x ∧ x ≤ IntKind.u8.max := by simpa [Lit.wf] using h
  have h3 : IntKind.u8.min = 0 := by decide
  have h4 : IntKind.u8.max = 255 := by decide
  omega
theorem wrap_u64' (n : Int) : IntKind.u64.wrap n = n % 18446744073709551616 := by simp [IntKind.wrap, IntKind.bits, IntKind.signed]
theorem and255 (n : Int) : 0 ≤ wrap64 (Go.bits .and .u64 (IntKind.u64.wrap n / 1099511627776) 255) ∧ wrap64 (Go.bits .and .u64 (IntKind.u64.wrap n / 1099511627776) 255) ≤ 255 := by
  have hx : 0 ≤ IntKind.u64.wrap n / 1099511627776 ∧ IntKind.u64.wrap n / 1099511627776 < 2 ^ 24 := by rw [wrap_u64']; omega
  have h := Go.bits_mask .u64 24 (by decide) (fun n h0 h1 => by rw [wrap_u64']; omega) 8 (by decide) (IntKind.u64.wrap n / 1099511627776) hx.1 hx.2
  have e : Go.bits .and .u64 (IntKind.u64.wrap n / 1099511627776) 255 = (IntKind.u64.wrap n / 1099511627776) % 256 := by simpa using h
  rw [e, wrap64_id (by omega) (by omega)]
  omega
theorem next_some (c : List Int) (a s : Int) (hc : bytesB c) (h0 : 0 ≤ a) (h1 : a ≤ 4611686018427387904) : ∃ r s', spec_l1Cur_next.f c a s = some (r, a + 1, s') ∧ 0 ≤ r ∧ r ≤ 255 := by
  have hw : wrap64 (a + 1) = a + 1 := wrap64_id (by omega) (by omega)
  unfold spec_l1Cur_next.f
  rw [hw]
  by_cases h2 : a < (c.length : Int)
  · rw [if_pos h2, if_pos h0]
    have hr : 0 ≤ rd c a ∧ rd c a ≤ 255 := by
      obtain ⟨n, rfl⟩ : ∃ n : Nat, a = (n : Int) := ⟨a.toNat, by omega⟩
      rw [rd_nat c n (by omega)]
      exact hc.2 _ (List.getElem_mem _)
    by_cases h3 : a + 1 ≤ (c.length : Int)
    · rw [if_pos h3]
      exact ⟨_, _, rfl, by rw [wrap64_id (by omega) (by omega)]; exact hr.1, by rw [wrap64_id (by omega) (by omega)]; exact hr.2⟩
    · rw [if_neg h3]
      exact ⟨_, _, rfl, (and255 _).1, (and255 _).2⟩
  · rw [if_neg h2]
    by_cases h3 : a + 1 ≤ (c.length : Int)
    · rw [if_pos h3]
      exact ⟨_, _, rfl, by omega, by omega⟩
    · rw [if_neg h3]
      exact ⟨_, _, rfl, (and255 _).1, (and255 _).2⟩
theorem pick_some (c : List Int) (a s n : Int) (hc : bytesB c) (h0 : 0 ≤ a) (h1 : a ≤ 4000000000000000000) (hn : n ≤ 1048576) :
    ∃ r a' s', spec_l1Cur_pick.f c a s n = some (r, a', s') ∧ 0 ≤ r ∧ (1 ≤ n → r < n) ∧ a ≤ a' ∧ a' ≤ a + 2 := by
  unfold spec_l1Cur_pick.f
  by_cases h : n ≤ 1
  · rw [if_pos h]
    exact ⟨_, _, _, rfl, Int.le_refl _, by omega, by omega, by omega⟩
  · rw [if_neg h]
    obtain ⟨r, s', e, r0, r1⟩ := next_some c a s hc h0 (by omega)
    rw [e]
    simp only [Option.bind_some]
    by_cases h2 : n > 200
    · rw [if_pos h2]
      obtain ⟨r', s'', e', q0, q1⟩ := next_some c (a + 1) s' hc (by omega) (by omega)
      rw [e']
      simp only [Option.bind_some, if_neg (show ¬ n = 0 by omega)]
      have hw : wrap64 (wrap64 (r * 256) + r') = r * 256 + r' := by rw [wrap64_id (x := r * 256) (by omega) (by omega), wrap64_id (by omega) (by omega)]
      rw [hw]
      have ht : (r * 256 + r').tmod n = (r * 256 + r') % n := Int.tmod_eq_emod_of_nonneg (by omega)
      refine ⟨_, _, _, rfl, ?_, fun _ => ?_, by omega, by omega⟩
      · rw [ht]; exact Int.emod_nonneg _ (by omega)
      · rw [ht]; exact Int.emod_lt_of_pos _ (by omega)
    · rw [if_neg h2]
      simp only [if_neg (show ¬ n = 0 by omega)]
      have ht : r.tmod n = r % n := Int.tmod_eq_emod_of_nonneg r0
      refine ⟨_, _, _, rfl, ?_, fun _ => ?_, by omega, by omega⟩
      · rw [ht]; exact Int.emod_nonneg _ (by omega)
      · rw [ht]; exact Int.emod_lt_of_pos _ (by omega)
theorem one_some (c : List Int) (a s n : Int) (hc : bytesB c) (h0 : 0 ≤ a) (h1 : a ≤ 4000000000000000000) (hn : n ≤ 1048576) :
    ∃ b a' s', spec_l1Cur_one.f c a s n = some (b, a', s') ∧ a ≤ a' ∧ a' ≤ a + 2 := by
  obtain ⟨r, a', s', e, _, _, h2, h3⟩ := pick_some c a s n hc h0 h1 hn
  unfold spec_l1Cur_one.f
  rw [e]
  exact ⟨_, _, _, rfl, h2, h3⟩
theorem among_some (c : List Int) (a s : Int) (l : List Int) (hc : bytesB c) (h0 : 0 ≤ a) (h1 : a ≤ 4000000000000000000) (hl : 1 ≤ l.length) (hl2 : l.length ≤ 1048576) :
    ∃ r a' s', spec_l1Cur_among.f c a s l = some (r, a', s') ∧ r ∈ l ∧ a ≤ a' ∧ a' ≤ a + 2 := by
  obtain ⟨r, a', s', e, r0, r1, h2, h3⟩ := pick_some c a s (l.length : Int) hc h0 h1 (by omega)
  have r2 := r1 (by omega)
  unfold spec_l1Cur_among.f
  rw [e]
  simp only [Option.bind_some, if_pos r0, if_pos r2]
  refine ⟨_, _, _, rfl, ?_, h2, h3⟩
  obtain ⟨n, rfl⟩ : ∃ n : Nat, r = (n : Int) := ⟨r.toNat, by omega⟩
  rw [rd_nat l n (by omega)]
  exact List.getElem_mem _
/-- A list of so many numbers from 0 to most. -/
theorem list_l0 (c : List Int) (most : Int) (hc : bytesB c) (hm0 : 0 ≤ most) (hm : most ≤ 1000000) : ∀ (d : Nat) (l : List Int) (a s : Int), 0 ≤ a → a + 2 * (d : Int) ≤ 3000000000000000000 → d ≤ 1000 → l.length + d ≤ 1000 → (∀ x ∈ l, 0 ≤ x ∧ x ≤ most) →
    ∃ r a' s', Ev (fun k => spec_l1Cur_list.l0 k most l (d : Int) c a s) (r, a', s') ∧ r.length = l.length + d ∧ (∀ x ∈ r, 0 ≤ x ∧ x ≤ most) ∧ a ≤ a' ∧ a' ≤ a + 2 * (d : Int) := by
  intro d
  induction d with
  | zero =>
    intro l a s h0 h1 _ _ hx
    refine ⟨l, a, s, ev_succ ?_, by omega, hx, by omega, by omega⟩
    simp only [spec_l1Cur_list.l0, if_neg (show ¬ ((0 : Nat) : Int) > 0 by omega)]
    exact ev_now _ _ rfl
  | succ d ih =>
    intro l a s h0 h1 hd hl hx
    obtain ⟨r, a', s', e, r0, r1, h2, h3⟩ := pick_some c a s (most + 1) hc h0 (by omega) (by omega)
    have r2 := r1 (by omega)
    obtain ⟨q, a2, s2, hE, g1, g2, g3, g4⟩ := ih (l ++ [r]) a' s' (by omega) (by omega) (by omega) (by rw [List.length_append, List.length_singleton]; omega) (fun x hx2 => by
      rcases List.mem_append.1 hx2 with hx2 | hx2
      · exact hx x hx2
      · rw [List.mem_singleton.1 hx2]; omega)
    refine ⟨q, a2, s2, ev_succ ?_, by rw [g1, List.length_append, List.length_singleton]; omega, g2, by omega, by push_cast; omega⟩
    simp only [spec_l1Cur_list.l0, if_pos (show ((d + 1 : Nat) : Int) > 0 by omega), wrap64_id (x := most + 1) (by omega) (by omega), e, Option.bind_some, if_pos (show l.length < 17592186044416 by omega)]
    have hw : wrap64 (((d + 1 : Nat) : Int) - 1) = (d : Int) := by rw [wrap64_id (by omega) (by omega)]; push_cast; omega
    rw [hw]
    exact hE
theorem list_some (c : List Int) (a s most : Int) (hc : bytesB c) (h0 : 0 ≤ a) (h1 : a ≤ 2000000000000000000) (hm0 : 0 ≤ most) (hm : most ≤ 1000000) :
    ∃ r a' s', Ev (fun k => spec_l1Cur_list.f k c a s most) (r, a', s') ∧ 1 ≤ r.length ∧ r.length ≤ 6 ∧ (∀ x ∈ r, 0 ≤ x ∧ x ≤ most) ∧ a ≤ a' ∧ a' ≤ a + 20 := by
  unfold spec_l1Cur_list.f
  obtain ⟨r, a', s', e, r0, r1, h2, h3⟩ := pick_some c a s 6 hc h0 (by omega) (by omega)
  have r2 := r1 (by omega)
  simp only [e, Option.bind_some]
  obtain ⟨n, hn⟩ : ∃ n : Nat, r = (n : Int) := ⟨r.toNat, by omega⟩
  subst hn
  have hw : wrap64 (1 + (n : Int)) = ((n + 1 : Nat) : Int) := by rw [wrap64_id (by omega) (by omega)]; push_cast; omega
  rw [hw]
  obtain ⟨q, a2, s2, hE, g1, g2, g3, g4⟩ := list_l0 c most hc hm0 hm (n + 1) [] a' s' (by omega) (by omega) (by omega) (by simp; omega) (by simp)
  refine ⟨q, a2, s2, hE, by rw [g1]; simp, by rw [g1]; simp; omega, g2, by omega, by push_cast at g4; omega⟩
theorem powers_l0 (c : List Int) (n : Nat) (hc : bytesB c) (hn : 1 ≤ n) (hn2 : n ≤ 1000) : ∀ (d : Nat) (l : List Int) (a s : Int), l.length + d = n → 0 ≤ a → a + 2 * (d : Int) ≤ 3000000000000000000 →
    ∃ r a' s', Ev (fun k => spec_l1Cur_powers.l0 k (n : Int) l c a s) (r, a', s') ∧ r.length = n ∧ a ≤ a' ∧ a' ≤ a + 2 * (d : Int) + 10 := by
  intro d
  induction d with
  | zero =>
    intro l a s hl h0 h1
    obtain ⟨b, a1, s1, e1, g1, g2⟩ := one_some c a s 14 hc h0 (by omega) (by omega)
    cases b with
    | false =>
      refine ⟨l, a1, s1, ev_succ ?_, by omega, g1, by omega⟩
      simp only [spec_l1Cur_powers.l0, if_neg (show ¬ (l.length : Int) < (n : Int) by omega), e1, Option.bind_some, Bool.false_eq_true, if_false]
      exact ev_now _ _ rfl
    | true =>
      obtain ⟨i, a2, s2, e2, i0, i1, g3, g4⟩ := pick_some c a1 s1 (n : Int) hc (by omega) (by omega) (by omega)
      have i2 := i1 (by omega)
      obtain ⟨v, a3, s3, e3, _, g5, g6⟩ := among_some c a2 s2 [(-1), 5] hc (by omega) (by omega) (by decide) (by decide)
      refine ⟨l.set i.toNat v, a3, s3, ev_succ ?_, by rw [List.length_set]; omega, by omega, by omega⟩
      simp only [spec_l1Cur_powers.l0, if_neg (show ¬ (l.length : Int) < (n : Int) by omega), e1, e2, e3, Option.bind_some, if_true, if_pos i0, if_pos (show i < (l.length : Int) by omega)]
      exact ev_now _ _ rfl
  | succ d ih =>
    intro l a s hl h0 h1
    obtain ⟨v, a1, s1, e1, _, _, g1, g2⟩ := pick_some c a s 5 hc h0 (by omega) (by omega)
    obtain ⟨r, a2, s2, hE, g3, g4, g5⟩ := ih (l ++ [v]) a1 s1 (by rw [List.length_append, List.length_singleton]; omega) (by omega) (by omega)
    refine ⟨r, a2, s2, ev_succ ?_, g3, by omega, by push_cast; omega⟩
    simp only [spec_l1Cur_powers.l0, if_pos (show (l.length : Int) < (n : Int) by omega), e1, Option.bind_some, if_pos (show l.length < 17592186044416 by omega)]
    exact hE
theorem arguments_l0 (c : List Int) (n : Nat) (hc : bytesB c) (hn : 1 ≤ n) (hn2 : n ≤ 1000) : ∀ (d : Nat) (l : List Int) (a s : Int), l.length + d = n → 0 ≤ a → a + 2 * (d : Int) ≤ 3000000000000000000 →
    ∃ r a' s', Ev (fun k => spec_l1Cur_arguments.l0 k (n : Int) l c a s) (r, a', s') ∧ r.length ≤ n + 1 ∧ a ≤ a' ∧ a' ≤ a + 2 * (d : Int) + 10 := by
  intro d
  induction d with
  | zero =>
    intro l a s hl h0 h1
    obtain ⟨b, a1, s1, e1, _, _, g1, g2⟩ := pick_some c a s 14 hc h0 (by omega) (by omega)
    by_cases hb : b = 0
    · obtain ⟨i, a2, s2, e2, i0, i1, g3, g4⟩ := pick_some c a1 s1 (n : Int) hc (by omega) (by omega) (by omega)
      have i2 := i1 (by omega)
      obtain ⟨v, a3, s3, e3, _, g5, g6⟩ := among_some c a2 s2 [(-1), 0, 1, 10] hc (by omega) (by omega) (by decide) (by decide)
      refine ⟨l.set i.toNat v, a3, s3, ev_succ ?_, by rw [List.length_set]; omega, by omega, by omega⟩
      simp only [spec_l1Cur_arguments.l0, if_neg (show ¬ (l.length : Int) < (n : Int) by omega), e1, e2, e3, Option.bind_some, if_pos hb, if_pos i0, if_pos (show i < (l.length : Int) by omega)]
      exact ev_now _ _ rfl
    · by_cases hb1 : b = 1
      · refine ⟨l ++ [2], a1, s1, ev_succ ?_, by rw [List.length_append, List.length_singleton]; omega, g1, by omega⟩
        simp only [spec_l1Cur_arguments.l0, if_neg (show ¬ (l.length : Int) < (n : Int) by omega), e1, Option.bind_some, if_neg hb, if_pos hb1, if_pos (show l.length < 17592186044416 by omega)]
        exact ev_now _ _ rfl
      · refine ⟨l, a1, s1, ev_succ ?_, by omega, g1, by omega⟩
        simp only [spec_l1Cur_arguments.l0, if_neg (show ¬ (l.length : Int) < (n : Int) by omega), e1, Option.bind_some, if_neg hb, if_neg hb1]
        exact ev_now _ _ rfl
  | succ d ih =>
    intro l a s hl h0 h1
    obtain ⟨v, a1, s1, e1, _, _, g1, g2⟩ := pick_some c a s 9 hc h0 (by omega) (by omega)
    obtain ⟨r, a2, s2, hE, g3, g4, g5⟩ := ih (l ++ [wrap64 (1 + v)]) a1 s1 (by rw [List.length_append, List.length_singleton]; omega) (by omega) (by omega)
    refine ⟨r, a2, s2, ev_succ ?_, g3, by omega, by push_cast; omega⟩
    simp only [spec_l1Cur_arguments.l0, if_pos (show (l.length : Int) < (n : Int) by omega), e1, Option.bind_some, if_pos (show l.length < 17592186044416 by omega)]
    exact hE
theorem powers_some (c : List Int) (a s : Int) (n : Nat) (hc : bytesB c) (hn : 1 ≤ n) (hn2 : n ≤ 1000) (h0 : 0 ≤ a) (h1 : a ≤ 1000000000000000000) : ∃ r a' s', Ev (fun k => spec_l1Cur_powers.f k c a s (n : Int)) (r, a', s') ∧ r.length = n ∧ a ≤ a' ∧ a' ≤ a + 3000 := by
  obtain ⟨r, a', s', hE, g1, g2, g3⟩ := powers_l0 c n hc hn hn2 n [] a s (by simp) h0 (by omega)
  exact ⟨r, a', s', hE, g1, g2, by omega⟩
theorem arguments_some (c : List Int) (a s : Int) (n : Nat) (hc : bytesB c) (hn : 1 ≤ n) (hn2 : n ≤ 1000) (h0 : 0 ≤ a) (h1 : a ≤ 1000000000000000000) : ∃ r a' s', Ev (fun k => spec_l1Cur_arguments.f k c a s (n : Int)) (r, a', s') ∧ r.length ≤ n + 1 ∧ a ≤ a' ∧ a' ≤ a + 3000 := by
  obtain ⟨r, a', s', hE, g1, g2, g3⟩ := arguments_l0 c n hc hn hn2 n [] a s (by simp) h0 (by omega)
  exact ⟨r, a', s', hE, g1, g2, by omega⟩
theorem many_some (c : List Int) (a s : Int) (hc : bytesB c) (h0 : 0 ≤ a) (h1 : a ≤ 1000000000000000000) : ∃ (n : Nat) (a' s' : Int), spec_l1Cur_many.f c a s = some ((n : Int), a', s') ∧ 1 ≤ n ∧ n ≤ 5 ∧ a ≤ a' ∧ a' ≤ a + 4 := by
  obtain ⟨b, a1, s1, e1, g1, g2⟩ := one_some c a s 10 hc h0 (by omega) (by omega)
  unfold spec_l1Cur_many.f
  rw [e1]
  cases b with
  | true => exact ⟨5, a1, s1, rfl, by omega, by omega, by omega, by omega⟩
  | false =>
    obtain ⟨v, a2, s2, e2, v0, v1, g3, g4⟩ := pick_some c a1 s1 4 hc (by omega) (by omega) (by omega)
    have v2 := v1 (by omega)
    simp only [Option.bind_some, Bool.false_eq_true, if_false, e2]
    exact ⟨(1 + v).toNat, a2, s2, by rw [wrap64_id (by omega) (by omega)]; congr 2; omega, by omega, by omega, by omega, by omega⟩
theorem pSame_l0 (a : List Int) (hs : a.length ≤ 4611686018427387904) : ∀ d (i : Nat), i ≤ a.length → a.length - i = d → Ev (fun k => laws_pSame.l0 k a a (a.length : Int) (i : Int)) true := by
  intro d
  induction d with
  | zero =>
    intro i hi hd
    have : i = a.length := by omega
    subst this
    refine ev_succ ?_
    simp only [laws_pSame.l0, if_neg (Int.lt_irrefl _)]; exact ev_now _ _ rfl
  | succ d ih =>
    intro i hi hd
    have h1 : (i : Int) < (a.length : Int) := by omega
    have h2 : (0 : Int) ≤ (i : Int) := by omega
    refine ev_succ ?_
    simp only [laws_pSame.l0, if_pos h1, if_pos h2, if_true, wrap64_nat_succ (show i < 9223372036854775807 by omega)]
    exact ih (i + 1) (by omega) (by omega)
theorem pSame_ev (a : List Int) (hs : a.length ≤ 4611686018427387904) : Ev (fun k => laws_pSame.f k a a) true := by
  unfold laws_pSame.f
  simp only [if_true]
  exact pSame_l0 a hs a.length 0 (by omega) (by omega)
theorem pSum_l0 (l : List Int) (hl : l.length ≤ 4611686018427387904) : ∀ d (i : Nat) (s : Int), i ≤ l.length → l.length - i = d → Ev (fun k => laws_pSum.l0 k s l (l.length : Int) (i : Int)) ((l.drop i).foldl (fun s x => wrap64 (s + x)) s) := by
  intro d
  induction d with
  | zero =>
    intro i s hi hd
    have : i = l.length := by omega
    subst this
    refine ev_succ ?_
    simp only [laws_pSum.l0, if_neg (Int.lt_irrefl _), List.drop_length, List.foldl_nil]
    exact ev_now _ _ rfl
  | succ d ih =>
    intro i s hi hd
    have hlt : i < l.length := by omega
    have h1 : (i : Int) < (l.length : Int) := by omega
    have h2 : (0 : Int) ≤ (i : Int) := by omega
    rw [List.drop_eq_getElem_cons hlt, List.foldl_cons]
    refine ev_succ ?_
    simp only [laws_pSum.l0, if_pos h1, if_pos h2, rd_nat l i hlt, wrap64_nat_succ (show i < 9223372036854775807 by omega)]
    exact ih (i + 1) _ (by omega) (by omega)
theorem pSum_ev (l : List Int) (hl : l.length ≤ 4611686018427387904) : Ev (fun k => laws_pSum.f k l) (isum l) := pSum_l0 l hl l.length 0 0 (by omega) (by omega)
/-- The drawn powers, gift and arguments. -/
theorem drawGift_some (c : List Int) (hc : bytesB c) : ∃ (ps x : List Int) (g0 g1 g2 : Int), Ev (fun k => spec_DrawGiftTerms.f k c) (ps, g0, g1, g2, x) ∧ ps.length ≤ 1048576 ∧ x.length ≤ 1048576 := by
  obtain ⟨n, a1, s1, e1, n1, n5, b1, b2⟩ := many_some c 0 0 hc (by omega) (by omega)
  obtain ⟨ps, a2, s2, hE2, hl, b3, b4⟩ := powers_some c a1 s1 n hc n1 (by omega) (by omega) (by omega)
  obtain ⟨f, a3, s3, e3, f0, f1, b5, b6⟩ := pick_some c a2 s2 (n : Int) hc (by omega) (by omega) (by omega)
  have f2 := f1 (by omega)
  obtain ⟨t, a4, s4, e4, t0, t1, b7, b8⟩ := pick_some c a3 s3 (n : Int) hc (by omega) (by omega) (by omega)
  have t2 := t1 (by omega)
  obtain ⟨b, a5, s5, e5, b9, b10⟩ := one_some c a4 s4 10 hc (by omega) (by omega) (by omega)
  obtain ⟨x, a6, s6, hE6, hlx, _, _⟩ := arguments_some c a5 s5 n hc n1 (by omega) (by omega) (by omega)
  have key : ∀ f t g : Int, ∃ g2, Ev (fun k => spec_DrawGiftTerms.j0 k (n : Int) ps c a4 s4 f t g) (ps, f, t, g2, x) := by
    intro f t g
    cases b with
    | true =>
      refine ⟨2, ev_succ ?_⟩
      simp only [spec_DrawGiftTerms.j0, e5, Option.bind_some, if_true]
      exact Ev.bind hE6 (ev_now _ _ rfl)
    | false =>
      refine ⟨g, ev_succ ?_⟩
      simp only [spec_DrawGiftTerms.j0, e5, Option.bind_some, Bool.false_eq_true, if_false]
      exact Ev.bind hE6 (ev_now _ _ rfl)
  have hx : x.length ≤ 1048576 := by omega
  by_cases hlt : rd ps f < rd ps t
  · obtain ⟨g2, hj⟩ := key t f 1
    refine ⟨ps, x, t, f, g2, ?_, by omega, hx⟩
    unfold spec_DrawGiftTerms.f
    rw [e1]
    simp only [Option.bind_some]
    refine Ev.bind hE2 ?_
    simp only [e3, e4, Option.bind_some, if_pos f0, if_pos t0, if_pos (show f < (ps.length : Int) by omega), if_pos (show t < (ps.length : Int) by omega), if_pos hlt]
    exact hj
  · obtain ⟨g2, hj⟩ := key f t 1
    refine ⟨ps, x, f, t, g2, ?_, by omega, hx⟩
    unfold spec_DrawGiftTerms.f
    rw [e1]
    simp only [Option.bind_some]
    refine Ev.bind hE2 ?_
    simp only [e3, e4, Option.bind_some, if_pos f0, if_pos t0, if_pos (show f < (ps.length : Int) by omega), if_pos (show t < (ps.length : Int) by omega), if_neg hlt]
    exact hj
theorem pow_list (ps : List Int) (h : powB ps = true) : listB ps = true := by
  obtain ⟨h1, h2, h3⟩ := (powB_iff ps).1 h
  exact (listB_iff ps).2 ⟨h1, by omega, fun x hx => by have := h3 x hx; omega⟩
theorem canGive_eq (l : List Int) (f t a : Int) (hl : l.length ≤ 1048576) (hf : 0 ≤ rd l f ∧ rd l f ≤ 60) (ht : 0 ≤ rd l t ∧ rd l t ≤ 60) (h : kinB l f t a = true) : impl_canGive.f l f t a = some true := by
  unfold kinB at h
  simp only [Bool.and_eq_true, decide_eq_true_eq] at h
  obtain ⟨h0, k1, k2, k3⟩ := h
  obtain ⟨h1, h2, h3, h4, h5, h6⟩ := (isB_iff l f t a).1 h0
  unfold impl_canGive.f
  rw [isGift_eq l f t a hl, h0, wrap64_id (x := 60 - rd l t) (by omega) (by omega)]
  simp only [Option.bind_some, if_true, if_pos h1, if_pos h2, if_pos h3, if_pos h4, if_pos k1, decide_eq_true k2]
theorem given_eq (ps : List Int) (hp : powB ps = true) (f t : Nat) (hf : f < ps.length) (ht : t < ps.length) (hne : f ≠ t) : impl_given.f ps (f : Int) (t : Int) 1 = some (gave ps f t) := by
  have h4 := ((powB_iff ps).1 hp).2.1
  have hpf := pow_getD ps hp f
  have hpt := pow_getD ps hp t
  unfold impl_given.f slices_Clone_int_int.f
  rw [if_pos (by omega)]
  simp only [Option.bind_some, if_pos (show (0 : Int) ≤ (f : Int) by omega), if_pos (show (0 : Int) ≤ (t : Int) by omega), if_pos (show (f : Int) < (ps.length : Int) by omega), if_pos (show (t : Int) < (ps.length : Int) by omega), Int.toNat_natCast, rd_nat_getD]
  have e : (ps.set f (wrap64 (ps.getD f 0 - 1))).getD t 0 = ps.getD t 0 := by
    rw [List.getD_eq_getElem?_getD, List.getElem?_set_ne hne, ← List.getD_eq_getElem?_getD]
  rw [e, wrap64_id (x := ps.getD f 0 - 1) (by omega) (by omega), wrap64_id (x := ps.getD t 0 + 1) (by omega) (by omega)]
  rfl
theorem gave_pow (ps : List Int) (hp : powB ps = true) (f t : Nat) (hf : f < ps.length) (ht : t < ps.length) (hne : f ≠ t) (hk : ps.getD t 0 + 2 ≤ ps.getD f 0) : powB (gave ps f t) = true := by
  obtain ⟨h1, h2, h3⟩ := (powB_iff ps).1 hp
  refine (powB_iff _).2 ⟨by rw [gave_length]; exact h1, by rw [gave_length]; exact h2, fun y hy => ?_⟩
  obtain ⟨i, hi, rfl⟩ := List.mem_iff_getElem.1 hy
  have e : (gave ps f t)[i] = (gave ps f t).getD i 0 := by rw [List.getD_eq_getElem?_getD, List.getElem?_eq_getElem hi]; rfl
  have a := pow_getD ps hp f
  have b := pow_getD ps hp t
  have c := pow_getD ps hp i
  rw [e, gave_getD ps f t hf ht hne]
  split
  · omega
  · split <;> omega
theorem doGift_ev (ps : List Int) (hp : powB ps = true) (f t : Nat) (hf : f < ps.length) (ht : t < ps.length) (hne : f ≠ t) (hk : kinB ps f t 1 = true) : Ev (fun k => impl_DoGift.f k ps f t 1) (gave ps f t, true) := by
  have h4 := ((powB_iff ps).1 hp).2.1
  unfold impl_DoGift.f
  refine Ev.bind (isList_ev ps (by omega)) ?_
  rw [pow_list ps hp]
  simp only [if_true, canGive_eq ps f t 1 (by omega) (pow60 ps hp f) (pow60 ps hp t) hk, Option.bind_some, given_eq ps hp f t hf ht hne]
  exact ev_now _ _ rfl
theorem gifts_l0 (ts : List Int) (m n : Int) (hts : ts.length ≤ 1048576) (h0 : ∀ y ∈ ts, 0 ≤ y) (hs : isum ts = wrap64 (2 * wrap64 (m - n))) : ∀ d (i : Nat), i ≤ ts.length → ts.length - i = d →
    Ev (fun k => laws_FnGiftsInSums.l0 k ts true m true n true ts (ts.length : Int) (i : Int)) true := by
  intro d
  induction d with
  | zero =>
    intro i hi hd
    have : i = ts.length := by omega
    subst this
    refine ev_succ ?_
    simp only [laws_FnGiftsInSums.l0, if_neg (Int.lt_irrefl _), if_true]
    refine Ev.bind (pSum_ev ts (by omega)) ?_
    rw [hs]
    exact ev_now _ _ (by simp)
  | succ d ih =>
    intro i hi hd
    have hlt : i < ts.length := by omega
    have h1 : (i : Int) < (ts.length : Int) := by omega
    have h2 : (0 : Int) ≤ (i : Int) := by omega
    have h3 := h0 _ (List.getElem_mem hlt)
    refine ev_succ ?_
    simp only [laws_FnGiftsInSums.l0, if_pos h1, if_pos h2, rd_nat ts i hlt, if_neg (show ¬ ts[i] < 0 by omega), wrap64_nat_succ (show i < 9223372036854775807 by omega)]
    exact ih (i + 1) (by omega) (by omega)
theorem FnGiftsInSums_pure : laws_FnGiftsInSums.Pure := by
  intro l0 l1 _ _ hw _ _ _
  by_cases hbig : (l0.length : Int) > 1048576
  · refine ⟨0, ?_⟩
    unfold laws_FnGiftsInSums.f laws_big.f
    rw [if_pos hbig]; rfl
  have hc : bytesB l0 := ⟨by omega, fun x hx => wf_u8 x (hw x hx)⟩
  refine Ev.rounds ?_
  unfold laws_FnGiftsInSums.f laws_big.f
  rw [if_neg hbig]
  simp only [Option.bind_some]
  cases hb : decide ((l1.length : Int) > wrap64 (1048576 - (l0.length : Int))) with
  | true => simp only [if_true]; exact ev_now _ _ rfl
  | false =>
    simp only [Bool.false_eq_true, if_false]
    obtain ⟨ps, x, g0, g1, g2, hD, hps, hx⟩ := drawGift_some l0 hc
    refine Ev.bind hD ?_
    refine Ev.bind (implGift_ev ps g0 g1 g2 x hps hx) ?_
    refine Ev.bind (specGift_ev ps g0 g1 g2 x hps hx) ?_
    have hsm := giftR_small ps g0 g1 g2 x
    have n1 : ((giftR ps g0 g1 g2 x).2 != (giftR ps g0 g1 g2 x).2) = false := by simp
    simp only [n1, Bool.false_eq_true, if_false]
    refine Ev.bind (pSame_ev _ (by omega)) ?_
    refine ev_succ ?_
    simp only [laws_FnGiftsInSums.j0, Bool.not_true, Bool.false_eq_true, if_false]
    by_cases hcond : givB ps x = true ∧ g2 = 1 ∧ kinB ps g0 g1 g2 = true
    · have hR : giftR ps g0 g1 g2 x = ((idxs x.length).map (fun o => gterm ps g0.toNat g1.toNat (o.map (pick x))), true) := by unfold giftR; rw [if_pos hcond]
      obtain ⟨hg, h2, hk⟩ := hcond
      subst h2
      obtain ⟨hp, hxa, hl⟩ := (givB_iff ps x).1 hg
      obtain ⟨f, t, rfl, rfl, hf, ht, hne, _, hk1, hk2⟩ := kin_facts ps g0 g1 1 hk
      rw [rd_nat_getD, rd_nat_getD] at hk1
      have hR1 : (giftR ps f t 1 x).1 = terms ps x f t := by
        rw [hR]
        unfold terms ords
        rw [List.map_map, Int.toNat_natCast, Int.toNat_natCast]; rfl
      have hR2 : (giftR ps f t 1 x).2 = true := by rw [hR]
      simp only [hR1, hR2, if_true]
      have hkk : ps.getD t 0 + 2 ≤ ps.getD f 0 := by omega
      obtain ⟨t1, t2⟩ := terms_facts ps x hg f t hf ht hne hkk
      have hg2 : givB (gave ps f t) x = true := (givB_iff _ _).2 ⟨gave_pow ps hp f t hf ht hne hkk, hxa, by rw [gave_length]; exact hl⟩
      have b1 := symZ_bound ps x hg
      have b2 := symZ_bound (gave ps f t) x hg2
      have hlen : (terms ps x f t).length ≤ 24 := by rw [← hR1]; exact hsm
      refine Ev.bind (doGift_ev ps hp f t hf ht hne hk) ?_
      refine Ev.bind (symmetricSum_ev ps x hps hx) ?_
      refine Ev.bind (symmetricSum_ev (gave ps f t) x (by rw [gave_length]; exact hps) hx) ?_
      have s1 : symR ps x = (symZ ps x, true) := by unfold symR; rw [if_pos hg]
      have s2 : symR (gave ps f t) x = (symZ (gave ps f t) x, true) := by unfold symR; rw [if_pos hg2]
      rw [s1, s2]
      refine gifts_l0 (terms ps x f t) _ _ (by omega) (fun y hy => (t1 y hy).1) ?_ (terms ps x f t).length 0 (by omega) (by omega)
      unfold isum
      rw [fold_wrap 1647129056757192 (by decide) _ 0 (fun y hy => by have := t1 y hy; omega) (by omega) (by omega), t2, wrap64_id (x := symZ ps x - symZ (gave ps f t) x) (by omega) (by omega), wrap64_id (by omega) (by omega)]
      omega
    · have hR : giftR ps g0 g1 g2 x = ([], false) := by unfold giftR; rw [if_neg hcond]
      simp only [hR, Bool.false_eq_true, if_false]
      exact ev_now _ _ rfl
end Go.Proofs.Ytllnieknogficaa.K
namespace Go.Proofs.Ytllnieknogficaa.Pure
open Go.RowKit Go.Proofs.Ytllnieknogficaa.K Go.Proofs.YtllnieknogficaaW.PrintWords Go.Proofs.YtllnieknogficaaW.PrintLast
theorem FnGiftsInSums : laws_FnGiftsInSums.Pure := FnGiftsInSums_pure
end Go.Proofs.Ytllnieknogficaa.Pure
namespace Go.Proofs.Ytllnieknogficaa.K
open Go.RowKit Go.Proofs.YtllnieknogficaaW.PrintWords Go.Proofs.YtllnieknogficaaW.PrintLast Go.Proofs.YtllnieknogficaaW.PrintMore
attribute [local go_sem] max2_int min2_int max_two min_two max_three min_three max_four min_four   -- for this text's walks alone
set_option linter.unusedVariables false
set_option linter.unusedSimpArgs false
open Go.ChangeShapes Go.WideShapes Go.ChangeAt Go.Deep
theorem read_int_rows {H : Type} {enc : TypeId × Value → H} {P : Program} {W : World} {t e q : TypeId} {a : Option Addr} {len cap : Nat} {d : DataW H} {ps : List MemPlace} (ht : P.underlying t = some (.slice e)) (he : P.underlying e = some (.slice q)) (hq : P.underlying q = some (.int .i64))
    (ce : P.cellsOf e = 1) (cq : P.cellsOf q = 1) (h : DataW.Trod enc P W 0 (fun _ => true) true t (.slice a len cap) d ps) :
    ∃ l : List (List Int), len = l.length ∧ Kd.C (Kd.slice 3 (Kd.int .i64)) W a l.length l ∧ l.length ≤ cap ∧ ∀ r ∈ l, r.length ≤ 9223372036854775807 := by
  obtain ⟨fuel, hf⟩ := h
  rcases open_int_rows ht he hq ce cq hf with ⟨hcs, _⟩ | ⟨x, l, c, A, L, C, Z, hcs, _, hl, hm, _, hrows⟩
  · simp [Value.cells] at hcs
    obtain ⟨rfl, rfl, rfl⟩ := hcs
    exact ⟨[], rfl, Kd.C_nil _ _, Nat.le_refl _, fun r hr => by simp at hr⟩
  · simp [Value.cells] at hcs
    obtain ⟨rfl, rfl, rfl⟩ := hcs
    have hmx : maxLen = 9223372036854775807 := rfl
    have hlen : ((List.range len).map fun r => (Z r).take (L r)).length = len := by simp
    have hzl : ∀ r, r < cap → ((Z r).take (L r)).length = L r := fun r hr => by
      obtain ⟨_, h1, _, h2, _⟩ := hrows r hr
      rw [List.length_take]
      omega
    refine ⟨(List.range len).map fun r => (Z r).take (L r), hlen.symm, ⟨rfl, by rw [hlen]; omega, fun hp => ⟨x, rfl, fun j p hj => ?_⟩⟩, by rw [hlen]; exact hl, fun r hr => ?_⟩
    · obtain ⟨hjl, hp2⟩ := List.getElem?_eq_some_iff.1 hj
      rw [hlen] at hjl
      obtain ⟨hcell, h1, h2, h3, _, h5, h6⟩ := hrows j (by omega)
      have hp3 : p = (Z j).take (L j) := by rw [← hp2]; simp
      subst hp3
      have hzj := hzl j (by omega)
      refine ⟨[.slice (A j) (L j) (C j)], rfl, ⟨A j, C j, by rw [hzj], by rw [hzj]; exact h1, ⟨rfl, by rw [hzj]; omega, fun hp => ?_⟩⟩, fun i u hu => ?_⟩
      · cases hA : A j with
        | none => rw [hzj] at hp; have := h5 hA; omega
        | some a' =>
          refine ⟨a', rfl, fun i p hi => ⟨[.int .i64 p], rfl, rfl, fun i2 u hu => ?_⟩⟩
          obtain ⟨hil, hpi⟩ := List.getElem?_eq_some_iff.1 hi
          rw [hzj] at hil
          have hcc := (h6 a' hA).2 i (by omega)
          have hi2 : i2 = 0 := by
            have := (List.getElem?_eq_some_iff.1 hu).1
            simpa using this
          subst hi2
          simp at hu
          subst hu
          show W.cell? (a'.add (i * 1 + 0)) = _
          rw [Nat.mul_one, Nat.add_zero, hcc, ← hpi]
          rw [List.getD_eq_getElem?_getD, List.getElem?_eq_getElem (by omega)]
          simp
      · have hi2 : i = 0 := by
          have := (List.getElem?_eq_some_iff.1 hu).1
          simpa using this
        subst hi2
        simp at hu
        subst hu
        show W.cell? (x.add (j * 1 + 0)) = _
        rw [Nat.mul_one, Nat.add_zero, hcell]
    · simp only [List.mem_map, List.mem_range] at hr
      obtain ⟨j, hj, rfl⟩ := hr
      obtain ⟨_, h1, h2, _⟩ := hrows j (by omega)
      rw [hzl j (by omega)]
      omega
end Go.Proofs.Ytllnieknogficaa.K
