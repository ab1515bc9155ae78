/-
Part 2 of the proof of the law FnExactUncross: what the Go functions that it reaches come to, each proved of the given program; no condition beside those that each theorem names.
-/
import Derived.Lib.SliceRun
import Derived.StillTailTactics
import Derived.Test.YtllnieknogficaaMFnExactUncross1
namespace Go.Proofs.Ytllnieknogficaa.K
open Go.RowKit Go.Proofs.YtllnieknogficaaW.PrintWords Go.Proofs.YtllnieknogficaaW.PrintLast Go.Proofs.YtllnieknogficaaW.PrintMore
attribute [local go_sem] max2_int min2_int max_two min_two max_three min_three max_four min_four   -- for this text's walks alone
set_option linter.unusedVariables false
set_option linter.unusedSimpArgs false

/-! ### spec_plCost: function 154 -/
mutual
def spec_plCost.l0 : Nat → Int → List (List Int) → Int → Int → Option (Int)
  | 0, _, _, _, _ => none
  | k + 1, x3, x8, x9, x10 => if x10 < x9 then (if 0 ≤ x10 then (if x10 < (x8.length : Int) then (spec_plCost.l1 k x3 x10 x8 x9 x10 (rd_L2 x8 x10) ((rd_L2 x8 x10).length : Int) 0) else (none)) else (none)) else (some x3)
def spec_plCost.l1 : Nat → Int → Int → List (List Int) → Int → Int → List Int → Int → Int → Option (Int)
  | 0, _, _, _, _, _, _, _, _ => none
  | k + 1, x3, x4, x8, x9, x10, x15, x16, x17 => if x17 < x16 then (if 0 ≤ x17 then (if x17 < (x15.length : Int) then ((spec_l1Most.f (wrap64 (x4 - x17)) (wrap64 (x17 - x4))).bind fun t864 => (spec_plCost.l1 k (wrap64 (x3 + (wrap64 ((rd x15 x17) * t864)))) x4 x8 x9 x10 x15 x16 (wrap64 (x17 + 1)))) else (none)) else (none)) else (spec_plCost.l0 k x3 x8 x9 (wrap64 (x10 + 1)))
end
def spec_plCost.f (k : Nat) (l0 : List (List Int)) : Option (Int) := spec_plCost.l0 k 0 l0 (l0.length : Int) 0
theorem spec_plCost.mono_l : ∀ k, (∀ y0 y1 y2 y3, LeO (spec_plCost.l0 k y0 y1 y2 y3) (spec_plCost.l0 (k + 1) y0 y1 y2 y3)) ∧ (∀ y0 y1 y2 y3 y4 y5 y6 y7, LeO (spec_plCost.l1 k y0 y1 y2 y3 y4 y5 y6 y7) (spec_plCost.l1 (k + 1) y0 y1 y2 y3 y4 y5 y6 y7))
  | 0 => ⟨fun _ _ _ _ r h => by simp [spec_plCost.l0] at h, fun _ _ _ _ _ _ _ _ r h => by simp [spec_plCost.l1] at h⟩
  | k + 1 => by
    obtain ⟨ih0, ih1⟩ := spec_plCost.mono_l k
    refine ⟨?_, ?_⟩
    · intro y0 y1 y2 y3
      unfold spec_plCost.l0
      repeat' first
      | (with_reducible exact ih0 _ _ _ _)
      | (with_reducible exact ih1 _ _ _ _ _ _ _ _)
      | (with_reducible exact LeO.refl _)
      | (with_reducible exact LeO.none _)
      | (with_reducible refine LeO.ite ?_ ?_)
      | (with_reducible refine LeO.bind ?_ (fun _ => ?_))
      | exact ih0 _ _ _ _
      | exact ih1 _ _ _ _ _ _ _ _
      | exact LeO.none _
      | refine LeO.ite ?_ ?_
      | refine LeO.bind ?_ (fun _ => ?_)
    · intro y0 y1 y2 y3 y4 y5 y6 y7
      unfold spec_plCost.l1
      repeat' first
      | (with_reducible exact ih0 _ _ _ _)
      | (with_reducible exact ih1 _ _ _ _ _ _ _ _)
      | (with_reducible exact LeO.refl _)
      | (with_reducible exact LeO.none _)
      | (with_reducible refine LeO.ite ?_ ?_)
      | (with_reducible refine LeO.bind ?_ (fun _ => ?_))
      | exact ih0 _ _ _ _
      | exact ih1 _ _ _ _ _ _ _ _
      | exact LeO.none _
      | refine LeO.ite ?_ ?_
      | refine LeO.bind ?_ (fun _ => ?_)
theorem spec_plCost.mono : ∀ a0 k, LeO (spec_plCost.f k a0) (spec_plCost.f (k + 1) a0) := by
  intro a0 k
  obtain ⟨ih0, ih1⟩ := spec_plCost.mono_l k
  unfold spec_plCost.f
  repeat' first
      | (with_reducible exact ih0 _ _ _ _)
      | (with_reducible exact ih1 _ _ _ _ _ _ _ _)
      | (with_reducible exact LeO.refl _)
      | (with_reducible exact LeO.none _)
      | (with_reducible refine LeO.ite ?_ ?_)
      | (with_reducible refine LeO.bind ?_ (fun _ => ?_))
      | exact ih0 _ _ _ _
      | exact ih1 _ _ _ _ _ _ _ _
      | exact LeO.none _
      | refine LeO.ite ?_ ?_
      | refine LeO.bind ?_ (fun _ => ?_)
set_option maxHeartbeats 8000000 in
set_option maxRecDepth 100000 in
theorem spec_plCost.calls (k : Nat) (A0 : Option Addr) (c0 : Nat) (l0 : List (List Int)) (r : Int) (w : World) (hr0 : Kd.C (Kd.slice 3 (Kd.int .i64)) w A0 l0.length l0) (hc0 : l0.length ≤ c0) (h : spec_plCost.f k l0 = some r) :
    Calls Try.prog 154 #[.slice A0 l0.length c0] w fun e w' => e = .returned (.int .i64 r) ∧ Drawn0 w w' := by
  have HR0 := Aside0.mk hr0
  have HC0 := Aside0.mk hc0
  clear hr0 hc0
  have H : (spec_plCost.l0 k 0 l0 (l0.length : Int) 0) = some r := h
  clear h
  have H' := Aside0.mk H
  clear H
  go_enter Try.func154, Try.ntmps154
  go_wp2
  go_loopg [3, 10] k (fun kq v3 v10 w' => ∃ (x3_1 : Int) (x10_1 : Int), v3 = .int .i64 x3_1 ∧ v10 = .int .i64 x10_1 ∧ Aside0 (spec_plCost.l0 kq x3_1 l0 (l0.length : Int) x10_1 = some r) ∧ Aside0 (kq ≤ k) ∧ Drawn0 w w')
  case atStart => exact ⟨(0), (0), (by first | rfl | (simp; done) | (simp [*]; done)), (by first | rfl | (simp; done) | (simp [*]; done)), H', ⟨Nat.le_refl _⟩, by repeat (first | exact Drawn0.refl _ | apply Drawn0.step)⟩
  case round =>
    clear H'
    try clear c1
    obtain ⟨x3_1, x10_1, rfl, rfl, HA, HK1, ⟨m1, rfl⟩⟩ := hrel
    cases gk with
    | zero => exact absurd HA.out (by simp [spec_plCost.l0])
    | succ k1 =>
      have H := HA.out
      clear HA
      simp only [spec_plCost.l0] at H
      by_cases c2 : x10_1 < (l0.length : Int)
      · rw [if_pos c2] at H
        have c2b0 : decide (x10_1 < (l0.length : Int)) = true := decide_eq_true c2
        clear c2
        by_cases c3 : 0 ≤ x10_1
        · rw [if_pos c3] at H
          have c3b0 : decide (0 ≤ x10_1) = true := decide_eq_true c3
          clear c3
          by_cases c4 : x10_1 < (l0.length : Int)
          · rw [if_pos c4] at H
            have c4b0 : decide (x10_1 < (l0.length : Int)) = true := decide_eq_true c4
            clear c4
            have H' := Aside0.mk H
            clear H
            have p862 : 0 ≤ (x10_1 : Int) := of_decide_eq_true (by first | (with_reducible assumption) | assumption)
            have q862 : x10_1 < (l0.length : Int) := of_decide_eq_true (by first | (with_reducible assumption) | assumption)
            obtain ⟨ad862, A862_0, c862_0, e862, hx862_0, hl862_0, hi862_0⟩ := at_L2 HR0.out x10_1 p862 q862
            cases e862
            have HR862_0 := Aside0.mk hi862_0
            have HC862_0 := Aside0.mk hl862_0
            clear hi862_0 hl862_0
            replace p862 := eq_true p862
            replace q862 := eq_true q862
            go_wp2
            go_loopg [3, 17] k1 (fun kq v3 v17 w' => ∃ (x3_2 : Int) (x17_2 : Int), v3 = .int .i64 x3_2 ∧ v17 = .int .i64 x17_2 ∧ Aside0 (spec_plCost.l1 kq x3_2 x10_1 l0 (l0.length : Int) x10_1 (rd_L2 l0 x10_1) ((rd_L2 l0 x10_1).length : Int) x17_2 = some r) ∧ Aside0 (kq ≤ k1) ∧ Drawn0 w w')
            case atStart => exact ⟨(x3_1), (0), (by first | rfl | (simp; done) | (simp [*]; done)), (by first | rfl | (simp; done) | (simp [*]; done)), H', ⟨Nat.le_refl _⟩, by repeat (first | exact Drawn0.refl _ | apply Drawn0.step)⟩
            case round =>
              clear H'
              try clear c1
              try clear c2
              try clear c2b0
              try clear p2
              try clear c3
              try clear c3b0
              try clear c4
              try clear c4b0
              try clear hx862_0
              try clear p862
              try clear q862
              obtain ⟨x3_2, x17_2, rfl, rfl, HA, HK2, ⟨m2, rfl⟩⟩ := hrel
              cases gk with
              | zero => exact absurd HA.out (by simp [spec_plCost.l1])
              | succ k2 =>
                have H := HA.out
                clear HA
                simp only [spec_plCost.l1] at H
                by_cases c5 : x17_2 < ((rd_L2 l0 x10_1).length : Int)
                · rw [if_pos c5] at H
                  have c5b0 : decide (x17_2 < ((rd_L2 l0 x10_1).length : Int)) = true := decide_eq_true c5
                  clear c5
                  by_cases c6 : 0 ≤ x17_2
                  · rw [if_pos c6] at H
                    have c6b0 : decide (0 ≤ x17_2) = true := decide_eq_true c6
                    clear c6
                    by_cases c7 : x17_2 < ((rd_L2 l0 x10_1).length : Int)
                    · rw [if_pos c7] at H
                      have c7b0 : decide (x17_2 < ((rd_L2 l0 x10_1).length : Int)) = true := decide_eq_true c7
                      clear c7
                      replace H := Option.bind_eq_some_iff.mp H
                      obtain ⟨t864, A80, H⟩ := H
                      replace H : (spec_plCost.l1 k2 (wrap64 (x3_2 + (wrap64 ((rd (rd_L2 l0 x10_1) x17_2) * t864)))) x10_1 l0 (l0.length : Int) x10_1 (rd_L2 l0 x10_1) ((rd_L2 l0 x10_1).length : Int) (wrap64 (x17_2 + 1))) = some r := H
                      have A8 := Aside0.mk A80
                      clear A80
                      have H' := Aside0.mk H
                      clear H
                      have p863 : 0 ≤ (x17_2 : Int) := of_decide_eq_true (by first | (with_reducible assumption) | assumption)
                      have q863 : x17_2 < ((rd_L2 l0 x10_1).length : Int) := of_decide_eq_true (by first | (with_reducible assumption) | assumption)
                      obtain ⟨ad863, e863, hx863_0⟩ := Kd.at_int HR862_0.out x17_2 p863 q863
                      cases e863
                      replace p863 := eq_true p863
                      replace q863 := eq_true q863
                      go_wp2_with (first | ((with_reducible refine gate_callee (f := 214) rfl ?_); refine goesL_ (some 30) rfl rfl Try.func214 (by kernel_rfl) rfl #[.int .i64 (wrap64 (x10_1 - x17_2)), .int .i64 (wrap64 (x17_2 - x10_1))] rfl (by (try simp only [List.map_toArray, List.map_cons, List.map_nil]); first | done | rfl | (simp only [List.length_drop, List.length_take]; rfl)) ?_; (with_reducible refine (spec_l1Most.calls (wrap64 (x10_1 - x17_2)) (wrap64 (x17_2 - x10_1)) t864 _ A8.out).mono ?_); rintro e w' ⟨rfl, ⟨nd, rfl⟩⟩; refine ⟨_, rfl, ?_⟩))
                      go_roundg k2
                      case measure => have := HK1.out; have := HK2.out; omega
                      case rel => exact ⟨(wrap64 (x3_2 + (wrap64 ((rd (rd_L2 l0 x10_1) x17_2) * t864)))), (wrap64 (x17_2 + 1)), (by first | rfl | (simp; done) | (simp [*]; done)), (by first | rfl | (simp; done) | (simp [*]; done)), H', ⟨by have := HK1.out; have := HK2.out; omega⟩, by repeat (first | exact Drawn0.refl _ | apply Drawn0.step)⟩
                    · rw [if_neg c7] at H
                      exact absurd H (by simp)
                  · rw [if_neg c6] at H
                    exact absurd H (by simp)
                · rw [if_neg c5] at H
                  have c5b0 : decide (x17_2 < ((rd_L2 l0 x10_1).length : Int)) = false := decide_eq_false c5
                  clear c5
                  have H' := Aside0.mk H
                  clear H
                  go_wp2
                  go_roundg k2
                  case measure => have := HK1.out; have := HK2.out; omega
                  case rel => exact ⟨(x3_2), (wrap64 (x10_1 + 1)), (by first | rfl | (simp; done) | (simp [*]; done)), (by first | rfl | (simp; done) | (simp [*]; done)), H', ⟨by have := HK1.out; have := HK2.out; omega⟩, by repeat (first | exact Drawn0.refl _ | apply Drawn0.step)⟩
          · rw [if_neg c4] at H
            exact absurd H (by simp)
        · rw [if_neg c3] at H
          exact absurd H (by simp)
      · rw [if_neg c2] at H
        have c2b0 : decide (x10_1 < (l0.length : Int)) = false := decide_eq_false c2
        clear c2
        obtain rfl := Option.some.inj H
        go_wp2
        go_ret
        exact ⟨by first | rfl | (simp; done) | (simp [*]; done), by repeat (first | exact Drawn0.refl _ | apply Drawn0.step)⟩

end Go.Proofs.Ytllnieknogficaa.K
namespace Go.Proofs.Ytllnieknogficaa.K
open Go.RowKit Go.Proofs.YtllnieknogficaaW.PrintWords Go.Proofs.YtllnieknogficaaW.PrintLast Go.Proofs.YtllnieknogficaaW.PrintMore
attribute [local go_sem] max2_int min2_int max_two min_two max_three min_three max_four min_four   -- for this text's walks alone
set_option linter.unusedVariables false
set_option linter.unusedSimpArgs false

/-! ### spec_l1Own: function 169 -/
def spec_l1Own.f (l0 : List Int) : Option (List Int) := (some (([] : List Int) : List Int)).bind fun y111 => (if y111.length + l0.length < 17592186044416 then (some (y111 ++ l0)) else (none))
set_option maxHeartbeats 8000000 in
set_option maxRecDepth 100000 in
theorem spec_l1Own.calls (A0 : Option Addr) (c0 : Nat) (l0 : List Int) (r : List Int) (w : World) (hr0 : Kd.C (Kd.int .i64) w A0 l0.length l0) (hc0 : l0.length ≤ c0) (h : spec_l1Own.f l0 = some r) :
    Calls Try.prog 169 #[.slice A0 l0.length c0] w fun e w' => ∃ v0_ : Value, e = .returned (v0_) ∧ Kd.R (Kd.int .i64) 3 w' w.heap.size (fun _ => True) v0_ r ∧ Below w.heap.size w w' := by
  have HR0 := Aside0.mk hr0
  have HC0 := Aside0.mk hc0
  clear hr0 hc0
  have HB := Aside0.mk (Below.refl w.heap.size w)
  have H : ((some (([] : List Int) : List Int)).bind fun y111 => (if y111.length + l0.length < 17592186044416 then (some (y111 ++ l0)) else (none))) = some r := h
  clear h
  obtain ⟨y111, hy111⟩ : ∃ y_ : List Int, y_ = (([] : List Int)) := ⟨_, rfl⟩
  replace H : (if y111.length + l0.length < 17592186044416 then (some (y111 ++ l0)) else (none)) = some r := by first | (rw [hy111]; with_reducible exact H) | (have H2_ := (Option.bind_some _ _).symm.trans H; rw [hy111]; with_reducible exact H2_) | (have H2_ := (Option.bind_some _ _).symm.trans H; with_reducible exact H2_) | with_reducible exact H | (rw [hy111]; exact H) | exact H
  have Ny111 := Aside0.mk hy111
  clear hy111
  by_cases c2 : y111.length + l0.length < 17592186044416
  · rw [if_pos c2] at H
    have LMc2 := Aside0.mk c2
    clear c2
    obtain ⟨y114, hy114⟩ : ∃ y_ : List Int, y_ = (y111 ++ l0) := ⟨_, rfl⟩
    replace H : (some y114) = some r := by first | (rw [hy114]; with_reducible exact H) | (have H2_ := (Option.bind_some _ _).symm.trans H; rw [hy114]; with_reducible exact H2_) | (have H2_ := (Option.bind_some _ _).symm.trans H; with_reducible exact H2_) | with_reducible exact H | (rw [hy114]; exact H) | exact H
    have Ny114 := Aside0.mk hy114
    clear hy114
    obtain rfl := Option.some.inj H
    go_enter Try.func169, Try.ntmps169
    go_wp2_with (first | ((with_reducible refine gate_dst (N := 3) rfl ?_); refine Kd.R_lit (Kd.int .i64) _ 3 ?hg (N := 3) ?hd (xs := ([] : List Int)) (inner := []) (ok := fun _ => True) (okp := fun _ => True) ?hr ?hp (fun _ hk => hk) trivial (Below.refl _ _) (Nat.le_refl _) (by simp) ?_; (case hd => rfl); (case hg => rfl); (case hr => first | (go_simp; done) | (go_simp; rfl)); (case hp => exact (Reps.none _ _)); intro v112 w3 ho4 hb hg_ hnew_; clear hg_ hnew_; (first | rw [← Ny111.out] at ho4 | (simp only [Int.reduceToNat] at ho4; rw [← Ny111.out] at ho4)); have n0_ := Aside0.mk (Kd.R_lower ho4 (below_size (by repeat (first | (with_reducible first | exact HB.out | apply below_alloc | apply pw_below_drewN | apply below_drew1) | exact HB.out)))); have n1_ := Aside0.mk (below_step (by repeat (first | (with_reducible first | exact HB.out | apply below_alloc | apply pw_below_drewN | apply below_drew1) | exact HB.out)) hb); clear HB; have HO113 := n0_; have HB := n1_; clear n0_ n1_; clear hb ho4) | ((with_reducible refine gate_builtin (b := .append) (xs := #[.tmp 3, .tmp 4]) rfl ?_); at_builtin; refine Kd.R_append_rows (Kd.int .i64) (w0 := w) w.heap.size rfl (.tmp 3) (.tmp 4) 24 3 (.int .i64 0) 8 rfl Try.underlying24 info3 rfl (by decide) (by omega) v112 y111 l0 _ _ _ (fun _ => True) (fun _ => False) rfl rfl ?aO ?aR (fun _ _ h => h) (fun _ h => h.elim) ?aF ?aB ?aS ?aL ?_; (case aR => repeat (first | exact (Kd.C_below HR0.out HB.out) | (with_reducible refine Kd.C_alloc ?_ _) | (with_reducible refine Kd.C_drewN ?_ _) | (with_reducible refine Kd.C_drew ?_))); (case aB => exact (by repeat (first | (with_reducible first | exact HB.out | apply below_alloc | apply pw_below_drewN | apply below_drew1) | exact HB.out))); (case aF => exact (fun _ _ => trivial)); (case aO => exact (by (with_reducible repeat (first | apply Kd.R_alloc | apply Kd.R_drewN | apply Kd.R_drew)); exact HO113.out)); (case aS => exact (below_size (by repeat (first | (with_reducible first | exact HB.out | apply below_alloc | apply pw_below_drewN | apply below_drew1) | exact HB.out)))); (case aL => have := LMc2.out; omega); intro v115 w5 ho hb hg hat; rw [← Ny114.out] at ho; have n0_ := Aside0.mk (hb); have n1_ := Aside0.mk (ho); clear HB; clear HO113; have HB := n0_; have HO116 := n1_; clear n0_ n1_; clear ho hb hg hat))
    go_ret
    exact ⟨_, by first | rfl | (simp [errW_none, errW_some] <;> rfl) | (simp [*, errW_none, errW_some] <;> rfl), by (with_reducible repeat (first | apply Kd.R_alloc | apply Kd.R_drewN | apply Kd.R_drew)); exact HO116.out, by repeat (first | (with_reducible first | exact HB.out | apply below_alloc | apply pw_below_drewN | apply below_drew1) | exact HB.out)⟩
  · rw [if_neg c2] at H
    exact absurd H (by simp)

end Go.Proofs.Ytllnieknogficaa.K
namespace Go.Proofs.Ytllnieknogficaa.K
open Go.RowKit Go.Proofs.YtllnieknogficaaW.PrintWords Go.Proofs.YtllnieknogficaaW.PrintLast Go.Proofs.YtllnieknogficaaW.PrintMore
attribute [local go_sem] max2_int min2_int max_two min_two max_three min_three max_four min_four   -- for this text's walks alone
set_option linter.unusedVariables false
set_option linter.unusedSimpArgs false

/-! ### spec_plOwn: function 153 -/
def spec_plOwn.l0 : Nat → List (List Int) → List (List Int) → Int → Int → Option ((List (List Int)))
  | 0, _, _, _, _ => none
  | k + 1, x3, x6, x7, x8 => if x8 < x7 then (if 0 ≤ x8 then (if x8 < (x6.length : Int) then ((spec_l1Own.f (rd_L2 x6 x8)).bind fun t856 => (if x3.length < 5864062014805 then (spec_plOwn.l0 k (x3 ++ [t856]) x6 x7 (wrap64 (x8 + 1))) else (none))) else (none)) else (none)) else (some x3)
def spec_plOwn.f (k : Nat) (l0 : List (List Int)) : Option ((List (List Int))) := spec_plOwn.l0 k ([] : List (List Int)) l0 (l0.length : Int) 0
theorem spec_plOwn.mono_l : ∀ k, (∀ y0 y1 y2 y3, LeO (spec_plOwn.l0 k y0 y1 y2 y3) (spec_plOwn.l0 (k + 1) y0 y1 y2 y3))
  | 0 => fun _ _ _ _ r h => by simp [spec_plOwn.l0] at h
  | k + 1 => by
    have ih0 := spec_plOwn.mono_l k
    · intro y0 y1 y2 y3
      unfold spec_plOwn.l0
      repeat' first
      | (with_reducible exact ih0 _ _ _ _)
      | (with_reducible exact LeO.refl _)
      | (with_reducible exact LeO.none _)
      | (with_reducible refine LeO.ite ?_ ?_)
      | (with_reducible refine LeO.bind ?_ (fun _ => ?_))
      | exact ih0 _ _ _ _
      | exact LeO.none _
      | refine LeO.ite ?_ ?_
      | refine LeO.bind ?_ (fun _ => ?_)
theorem spec_plOwn.mono : ∀ a0 k, LeO (spec_plOwn.f k a0) (spec_plOwn.f (k + 1) a0) := by
  intro a0 k
  have ih0 := spec_plOwn.mono_l k
  unfold spec_plOwn.f
  repeat' first
      | (with_reducible exact ih0 _ _ _ _)
      | (with_reducible exact LeO.refl _)
      | (with_reducible exact LeO.none _)
      | (with_reducible refine LeO.ite ?_ ?_)
      | (with_reducible refine LeO.bind ?_ (fun _ => ?_))
      | exact ih0 _ _ _ _
      | exact LeO.none _
      | refine LeO.ite ?_ ?_
      | refine LeO.bind ?_ (fun _ => ?_)
set_option maxHeartbeats 8000000 in
set_option maxRecDepth 100000 in
theorem spec_plOwn.calls (k : Nat) (A0 : Option Addr) (c0 : Nat) (l0 : List (List Int)) (r : List (List Int)) (w : World) (hr0 : Kd.C (Kd.slice 3 (Kd.int .i64)) w A0 l0.length l0) (hc0 : l0.length ≤ c0) (h : spec_plOwn.f k l0 = some r) :
    Calls Try.prog 153 #[.slice A0 l0.length c0] w fun e w' => ∃ v0_ : Value, e = .returned (v0_) ∧ Kd.S (Kd.slice 3 (Kd.int .i64)) 24 w' w.heap.size (fun _ => True) v0_ r ∧ Below w.heap.size w w' := by
  have HR0 := Aside0.mk hr0
  have HC0 := Aside0.mk hc0
  clear hr0 hc0
  have HB := Aside0.mk (Below.refl w.heap.size w)
  have H : (spec_plOwn.l0 k ([] : List (List Int)) l0 (l0.length : Int) 0) = some r := h
  clear h
  have H' := Aside0.mk H
  clear H
  go_enter Try.func153, Try.ntmps153
  go_wp2
  go_loopg [3, 8] k (fun kq v3 v8 w' => ∃ (x3_1 : List (List Int)) (x8_1 : Int), v8 = .int .i64 x8_1 ∧ Aside0 (spec_plOwn.l0 kq x3_1 l0 (l0.length : Int) x8_1 = some r) ∧ Aside0 (kq ≤ k) ∧ Aside0 (Kd.S (Kd.slice 3 (Kd.int .i64)) 24 w' w.heap.size (fun _ => True) v3 x3_1) ∧ Aside0 (Below w.heap.size w w'))
  case atStart => exact ⟨(([] : List (List Int))), (0), (by first | rfl | (simp; done) | (simp [*]; done)), H', ⟨Nat.le_refl _⟩, ⟨by first | exact Kd.S_nil _ _ _ _ _ | exact Kd.N_nil _ _ _ _ _ | exact Kd.V_nil _ _ _ _ _ | exact Kd.Q_nil _ _ _ _ _ | exact Kd.R_nil _ _ _ _ _⟩, ⟨by repeat (first | (with_reducible first | exact HB.out | apply below_alloc | apply pw_below_drewN | apply below_drew1) | exact HB.out)⟩⟩
  case round =>
    clear H'
    try clear c1
    obtain ⟨x3_1, x8_1, rfl, HA, HK1, HO_3, HB⟩ := hrel
    cases gk with
    | zero => exact absurd HA.out (by simp [spec_plOwn.l0])
    | succ k1 =>
      have H := HA.out
      clear HA
      simp only [spec_plOwn.l0] at H
      by_cases c2 : x8_1 < (l0.length : Int)
      · rw [if_pos c2] at H
        have c2b0 : decide (x8_1 < (l0.length : Int)) = true := decide_eq_true c2
        clear c2
        by_cases c3 : 0 ≤ x8_1
        · rw [if_pos c3] at H
          have c3b0 : decide (0 ≤ x8_1) = true := decide_eq_true c3
          clear c3
          by_cases c4 : x8_1 < (l0.length : Int)
          · rw [if_pos c4] at H
            have c4b0 : decide (x8_1 < (l0.length : Int)) = true := decide_eq_true c4
            clear c4
            replace H := Option.bind_eq_some_iff.mp H
            obtain ⟨t856, A50, H⟩ := H
            replace H : (if x3_1.length < 5864062014805 then (spec_plOwn.l0 k1 (x3_1 ++ [t856]) l0 (l0.length : Int) (wrap64 (x8_1 + 1))) else (none)) = some r := H
            have A5 := Aside0.mk A50
            clear A50
            by_cases c6 : x3_1.length < 5864062014805
            · rw [if_pos c6] at H
              have LMc6 := Aside0.mk c6
              clear c6
              obtain ⟨y859, hy859⟩ : ∃ y_ : List (List Int), y_ = (x3_1 ++ [t856]) := ⟨_, rfl⟩
              replace H : (spec_plOwn.l0 k1 y859 l0 (l0.length : Int) (wrap64 (x8_1 + 1))) = some r := by first | (rw [hy859]; with_reducible exact H) | (have H2_ := (Option.bind_some _ _).symm.trans H; rw [hy859]; with_reducible exact H2_) | (have H2_ := (Option.bind_some _ _).symm.trans H; with_reducible exact H2_) | with_reducible exact H | (rw [hy859]; exact H) | exact H
              have Ny859 := Aside0.mk hy859
              clear hy859
              have H' := Aside0.mk H
              clear H
              have p855 : 0 ≤ (x8_1 : Int) := of_decide_eq_true (by first | (with_reducible assumption) | assumption)
              have q855 : x8_1 < (l0.length : Int) := of_decide_eq_true (by first | (with_reducible assumption) | assumption)
              obtain ⟨ad855, A855_0, c855_0, e855, hx855_0, hl855_0, hi855_0⟩ := at_L2 HR0.out x8_1 p855 q855
              cases e855
              replace hx855_0 := (HB.out.cell (World.block_lt_of_cell? w _ hx855_0)).trans hx855_0
              have HR855_0 := Aside0.mk hi855_0
              have HC855_0 := Aside0.mk hl855_0
              clear hi855_0 hl855_0
              replace p855 := eq_true p855
              replace q855 := eq_true q855
              go_wp2_with (first | ((with_reducible refine gate_callee (f := 169) rfl ?_); refine goesL_ (some 14) rfl rfl Try.func169 (by kernel_rfl) rfl #[.slice A855_0 (rd_L2 l0 x8_1).length c855_0] rfl (by (try simp only [List.map_toArray, List.map_cons, List.map_nil]); first | done | rfl | (simp only [List.length_drop, List.length_take]; rfl)) ?_; (with_reducible refine (spec_l1Own.calls _ _ (rd_L2 l0 x8_1) t856 _ ?side1 ?side2 A5.out).mono ?_); (case side1 => repeat (first | exact (Kd.C_below HR855_0.out HB.out) | (with_reducible refine Kd.C_alloc ?_ _) | (with_reducible refine Kd.C_drewN ?_ _) | (with_reducible refine Kd.C_drew ?_))); (case side2 => exact HC855_0.out); rintro e w7 ⟨v857, rfl, ho0, hb⟩; refine ⟨_, rfl, ?_⟩; have n0_ := Aside0.mk (Kd.S_elder' (by (with_reducible repeat (first | apply Kd.S_alloc | apply Kd.S_drewN | apply Kd.S_drew)); exact HO_3.out) (Kd.R_base ho0) hb); have n1_ := Aside0.mk (Kd.R_lower ho0 (below_size (by repeat (first | (with_reducible first | exact HB.out | apply below_alloc | apply pw_below_drewN | apply below_drew1) | exact HB.out)))); have n2_ := Aside0.mk (below_step (by repeat (first | (with_reducible first | exact HB.out | apply below_alloc | apply pw_below_drewN | apply below_drew1) | exact HB.out)) hb); clear HO_3; clear HB; have HO_3 := n0_; have HO858 := n1_; have HB := n2_; clear n0_ n1_ n2_; (try clear hb); (try clear hb2); (try clear hk); (try clear hi); (try clear ho0); obtain ⟨Ao9, co9, eo9⟩ := Kd.R_slice HO858.out; subst eo9) | ((with_reducible refine gate_builtin (b := .append) (xs := #[.tmp 12, .tmp 15]) rfl ?_); at_builtin; refine Kd.S_append (Kd.slice 3 (Kd.int .i64)) (w0 := w) w.heap.size rfl (.tmp 12) (.tmp 15) 37 24 (.slice none 0 0) 24 rfl Try.underlying37 info24 rfl (by decide) (by omega) u3 x3_1 t856 [.slice Ao9 t856.length co9] (fun _ => True) (fun k_ => some k_ = (.slice Ao9 t856.length co9 : Value).ownBlock) rfl rfl ?aP (fun k_ hk_ => ((Kd.R_mono (ok' := fun k_ => ((fun _ => True)) k_ ∧ some k_ ≠ (u3 : Value).ownBlock) (Kd.R_apart' (HO858.out) (Kd.S_typed HO_3.out) (by decide)) (fun k_ hk => ⟨trivial, hk.2⟩))).1 k_ hk_.symm) ?aF ?aO ?aB ?aS ?aL ?_; (case aP => exact Kd.M_row (Kd.R_mono (Kd.R_tight rfl (Kd.R_mono (ok' := fun k_ => ((fun _ => True)) k_ ∧ some k_ ≠ (u3 : Value).ownBlock) (Kd.R_apart' (HO858.out) (Kd.S_typed HO_3.out) (by decide)) (fun k_ hk => ⟨trivial, hk.2⟩))) (fun _ h_ => h_))); (case aB => exact (by repeat (first | (with_reducible first | exact HB.out | apply below_alloc | apply pw_below_drewN | apply below_drew1) | exact HB.out))); (case aF => exact (fun _ _ => trivial)); (case aO => exact (by (with_reducible repeat (first | apply Kd.S_alloc | apply Kd.S_drewN | apply Kd.S_drew)); exact Kd.S_mono HO_3.out (fun k_ hk => ⟨trivial, fun e_ => hk.2 e_⟩))); (case aS => exact (below_size (by repeat (first | (with_reducible first | exact HB.out | apply below_alloc | apply pw_below_drewN | apply below_drew1) | exact HB.out)))); (case aL => have := LMc6.out; omega); intro v860 w8 ho hb hg hat; rw [← Ny859.out] at ho; have n0_ := Aside0.mk (hb); have n1_ := Aside0.mk (ho); clear HB; clear HO_3; clear HO858; have HB := n0_; have HO861 := n1_; clear n0_ n1_; clear ho hb hg hat))
              go_roundg k1
              case measure => have := HK1.out; omega
              case rel => exact ⟨(y859), (wrap64 (x8_1 + 1)), (by first | rfl | (simp; done) | (simp [*]; done)), H', ⟨by have := HK1.out; omega⟩, ⟨by (with_reducible repeat (first | apply Kd.S_alloc | apply Kd.S_drewN | apply Kd.S_drew)); exact HO861.out⟩, ⟨by repeat (first | (with_reducible first | exact HB.out | apply below_alloc | apply pw_below_drewN | apply below_drew1) | exact HB.out)⟩⟩
            · rw [if_neg c6] at H
              exact absurd H (by simp)
          · rw [if_neg c4] at H
            exact absurd H (by simp)
        · rw [if_neg c3] at H
          exact absurd H (by simp)
      · rw [if_neg c2] at H
        have c2b0 : decide (x8_1 < (l0.length : Int)) = false := decide_eq_false c2
        clear c2
        obtain rfl := Option.some.inj H
        go_wp2
        go_ret
        exact ⟨_, by first | rfl | (simp [errW_none, errW_some] <;> rfl) | (simp [*, errW_none, errW_some] <;> rfl), by (with_reducible repeat (first | apply Kd.S_alloc | apply Kd.S_drewN | apply Kd.S_drew)); exact HO_3.out, by repeat (first | (with_reducible first | exact HB.out | apply below_alloc | apply pw_below_drewN | apply below_drew1) | exact HB.out)⟩

end Go.Proofs.Ytllnieknogficaa.K
namespace Go.Proofs.Ytllnieknogficaa.K
open Go.RowKit Go.Proofs.YtllnieknogficaaW.PrintWords Go.Proofs.YtllnieknogficaaW.PrintLast Go.Proofs.YtllnieknogficaaW.PrintMore
attribute [local go_sem] max2_int min2_int max_two min_two max_three min_three max_four min_four   -- for this text's walks alone
set_option linter.unusedVariables false
set_option linter.unusedSimpArgs false
def dst (i j : Nat) : Int := if i ≤ j then (j : Int) - (i : Int) else (i : Int) - (j : Int)
def costN (l : List (List Int)) (n : Nat) : Int := sumN (fun i => sumN (fun j => at_ l i j * dst i j) n) n
def costZ (l : List (List Int)) : Int := costN l l.length
theorem dst_bound (i j : Nat) (hi : i < 8) (hj : j < 8) : 0 ≤ dst i j ∧ dst i j ≤ 7 := by
  unfold dst; split <;> omega
theorem mx_dst (i j : Nat) (hi : i < 8) (hj : j < 8) : mx (wrap64 ((i : Int) - (j : Int))) (wrap64 ((j : Int) - (i : Int))) = dst i j := by
  rw [wrap64_id (by omega) (by omega), wrap64_id (by omega) (by omega)]
  unfold mx dst
  split <;> split <;> omega
theorem most_dst (i j : Nat) (hi : i < 8) (hj : j < 8) : spec_l1Most.f (wrap64 ((i : Int) - (j : Int))) (wrap64 ((j : Int) - (i : Int))) = some (dst i j) := by
  rw [wrap64_id (by omega) (by omega), wrap64_id (by omega) (by omega)]
  unfold spec_l1Most.f dst
  split <;> split <;> first | rfl | (congr 1; omega)
theorem term_bound (l : List (List Int)) (h : planB l = true) (i j : Nat) (hi : i < l.length) (hj : j < l.length) : 0 ≤ at_ l i j * dst i j ∧ at_ l i j * dst i j ≤ 420 := by
  have h8 := ((planB_iff l).1 h).2.1
  have h1 := planAt l h i j hi hj
  have h2 := dst_bound i j (by omega) (by omega)
  refine ⟨Int.mul_nonneg h1.1 h2.1, ?_⟩
  have := Int.mul_le_mul h1.2 h2.2 h2.1 (by omega)
  omega
theorem row_bound (l : List (List Int)) (h : planB l = true) (i m : Nat) (hi : i < l.length) (hm : m ≤ l.length) : 0 ≤ sumN (fun j => at_ l i j * dst i j) m ∧ sumN (fun j => at_ l i j * dst i j) m ≤ 3360 := by
  have h8 := ((planB_iff l).1 h).2.1
  obtain ⟨h1, h2⟩ := sumN_bound (fun j => at_ l i j * dst i j) 420 m (fun j hj => term_bound l h i j hi (by omega))
  exact ⟨h1, by omega⟩
theorem all_bound (l : List (List Int)) (h : planB l = true) (m : Nat) (hm : m ≤ l.length) : 0 ≤ sumN (fun i => sumN (fun j => at_ l i j * dst i j) l.length) m ∧ sumN (fun i => sumN (fun j => at_ l i j * dst i j) l.length) m ≤ 26880 := by
  have h8 := ((planB_iff l).1 h).2.1
  obtain ⟨h1, h2⟩ := sumN_bound (fun i => sumN (fun j => at_ l i j * dst i j) l.length) 3360 m (fun i hi => row_bound l h i l.length (by omega) (Nat.le_refl _))
  exact ⟨h1, by omega⟩
theorem cost_l1 (l : List (List Int)) (h : planB l = true) (i : Nat) (hi : i < l.length) (r1 r2 : Int)
    (hn1 : Ev (fun k => impl_cost.l0 k (sumN (fun i => sumN (fun j => at_ l i j * dst i j) l.length) (i + 1)) l (l.length : Int) (wrap64 ((i : Int) + 1))) r1)
    (hn2 : Ev (fun k => spec_plCost.l0 k (sumN (fun i => sumN (fun j => at_ l i j * dst i j) l.length) (i + 1)) l (l.length : Int) (wrap64 ((i : Int) + 1))) r2) : ∀ d (j : Nat), j ≤ l.length → l.length - j = d →
    Ev (fun k => impl_cost.l1 k (sumN (fun i => sumN (fun j => at_ l i j * dst i j) l.length) i + sumN (fun j => at_ l i j * dst i j) j) (i : Int) l (l.length : Int) (i : Int) l[i] (l.length : Int) (j : Int)) r1 ∧
    Ev (fun k => spec_plCost.l1 k (sumN (fun i => sumN (fun j => at_ l i j * dst i j) l.length) i + sumN (fun j => at_ l i j * dst i j) j) (i : Int) l (l.length : Int) (i : Int) l[i] (l.length : Int) (j : Int)) r2 := by
  have hp := (planB_iff l).1 h
  have hrow := row_len l (fun r hr => (hp.2.2 r hr).1) i hi
  intro d
  induction d with
  | zero =>
    intro j hj hd
    have : j = l.length := by omega
    subst this
    refine ⟨ev_succ ?_, ev_succ ?_⟩
    · simp only [impl_cost.l1, if_neg (Int.lt_irrefl _)]; exact hn1
    · simp only [spec_plCost.l1, if_neg (Int.lt_irrefl _)]; exact hn2
  | succ d ih =>
    intro j hj hd
    have hlt : j < l.length := by omega
    have h1 : (j : Int) < (l.length : Int) := by omega
    have h2 : (0 : Int) ≤ (j : Int) := by omega
    have h3 : (j : Int) < (l[i].length : Int) := by omega
    have hd1 := mx_dst i j (by omega) (by omega)
    have hd2 := most_dst i j (by omega) (by omega)
    have ht := term_bound l h i j hi hlt
    have hr := row_bound l h i j hi (by omega)
    have ha := all_bound l h i (by omega)
    have hat : rd l[i] (j : Int) = at_ l i j := at_row l i j hi
    have w1 : wrap64 (at_ l i j * dst i j) = at_ l i j * dst i j := wrap64_id (by omega) (by omega)
    have w2 : wrap64 (sumN (fun i => sumN (fun j => at_ l i j * dst i j) l.length) i + sumN (fun j => at_ l i j * dst i j) j + at_ l i j * dst i j) = sumN (fun i => sumN (fun j => at_ l i j * dst i j) l.length) i + sumN (fun j => at_ l i j * dst i j) (j + 1) := by
      rw [wrap64_id (by omega) (by omega)]
      show _ = _ + (sumN (fun j => at_ l i j * dst i j) j + at_ l i j * dst i j)
      omega
    obtain ⟨g1, g2⟩ := ih (j + 1) (by omega) (by omega)
    refine ⟨ev_succ ?_, ev_succ ?_⟩
    · simp only [impl_cost.l1, if_pos h1, if_pos h2, if_pos h3, wrap64_nat_succ (show j < 9223372036854775807 by omega), hat, hd1, w1, w2]
      exact g1
    · simp only [spec_plCost.l1, if_pos h1, if_pos h2, if_pos h3, wrap64_nat_succ (show j < 9223372036854775807 by omega), hat, hd2, Option.bind_some, w1, w2]
      exact g2
theorem cost_l0 (l : List (List Int)) (h : planB l = true) : ∀ d (i : Nat), i ≤ l.length → l.length - i = d →
    Ev (fun k => impl_cost.l0 k (sumN (fun i => sumN (fun j => at_ l i j * dst i j) l.length) i) l (l.length : Int) (i : Int)) (costZ l) ∧
    Ev (fun k => spec_plCost.l0 k (sumN (fun i => sumN (fun j => at_ l i j * dst i j) l.length) i) l (l.length : Int) (i : Int)) (costZ l) := by
  have hp := (planB_iff l).1 h
  intro d
  induction d with
  | zero =>
    intro i hi hd
    have : i = l.length := by omega
    subst this
    refine ⟨ev_succ ?_, ev_succ ?_⟩
    · simp only [impl_cost.l0, if_neg (Int.lt_irrefl _)]; exact ev_now _ _ rfl
    · simp only [spec_plCost.l0, if_neg (Int.lt_irrefl _)]; exact ev_now _ _ rfl
  | succ d ih =>
    intro i hi hd
    have hlt : i < l.length := by omega
    have h1 : (i : Int) < (l.length : Int) := by omega
    have h2 : (0 : Int) ≤ (i : Int) := by omega
    have hrow := row_len l (fun r hr => (hp.2.2 r hr).1) i hlt
    obtain ⟨g1, g2⟩ := ih (i + 1) (by omega) (by omega)
    rw [← wrap64_nat_succ (show i < 9223372036854775807 by omega)] at g1 g2
    obtain ⟨k1, k2⟩ := cost_l1 l h i hlt _ _ g1 g2 l.length 0 (by omega) (by omega)
    have e : sumN (fun i => sumN (fun j => at_ l i j * dst i j) l.length) i + sumN (fun j => at_ l i j * dst i j) 0 = sumN (fun i => sumN (fun j => at_ l i j * dst i j) l.length) i := Int.add_zero _
    rw [e] at k1 k2
    refine ⟨ev_succ ?_, ev_succ ?_⟩
    · simp only [impl_cost.l0, if_pos h1, if_pos h2, rdL_nat l i hlt, hrow]; exact k1
    · simp only [spec_plCost.l0, if_pos h1, if_pos h2, rdL_nat l i hlt, hrow]; exact k2
theorem cost_ev (l : List (List Int)) (h : planB l = true) : Ev (fun k => impl_cost.f k l) (costZ l) := (cost_l0 l h l.length 0 (by omega) (by omega)).1
theorem plCost_ev (l : List (List Int)) (h : planB l = true) : Ev (fun k => spec_plCost.f k l) (costZ l) := (cost_l0 l h l.length 0 (by omega) (by omega)).2
theorem costZ_bound (l : List (List Int)) (h : planB l = true) : 0 ≤ costZ l ∧ costZ l ≤ 26880 := all_bound l h l.length (Nat.le_refl _)
/-! ### a copy -/
theorem l1Own_eq (l : List Int) (hl : l.length ≤ 1048576) : spec_l1Own.f l = some l := by
  unfold spec_l1Own.f
  simp only [Option.bind_some, List.length_nil, Nat.zero_add, List.nil_append]
  rw [if_pos (by omega)]
theorem plOwn_l0 (l : List (List Int)) (hl : l.length ≤ 1048576) (hr : ∀ r ∈ l, r.length ≤ 1048576) : ∀ d (i : Nat), i ≤ l.length → l.length - i = d → Ev (fun k => spec_plOwn.l0 k (l.take i) l (l.length : Int) (i : Int)) l := by
  intro d
  induction d with
  | zero =>
    intro i hi hd
    have : i = l.length := by omega
    subst this
    refine ev_succ ?_
    simp only [spec_plOwn.l0, if_neg (Int.lt_irrefl _), List.take_length]
    exact ev_now _ _ rfl
  | succ d ih =>
    intro i hi hd
    have hlt : i < l.length := by omega
    have h1 : (i : Int) < (l.length : Int) := by omega
    have h2 : (0 : Int) ≤ (i : Int) := by omega
    have hle : (l.take i).length < 5864062014805 := by rw [List.length_take]; omega
    refine ev_succ ?_
    simp only [spec_plOwn.l0, if_pos h1, if_pos h2, rdL_nat l i hlt, l1Own_eq l[i] (hr _ (List.getElem_mem hlt)), Option.bind_some, if_pos hle, wrap64_nat_succ (show i < 9223372036854775807 by omega)]
    have := ih (i + 1) (by omega) (by omega)
    rw [List.take_succ_eq_append_getElem hlt] at this
    exact this
theorem plOwn_ev (l : List (List Int)) (hl : l.length ≤ 1048576) (hr : ∀ r ∈ l, r.length ≤ 1048576) : Ev (fun k => spec_plOwn.f k l) l := by
  have := plOwn_l0 l hl hr l.length 0 (by omega) (by omega)
  exact this
end Go.Proofs.Ytllnieknogficaa.K
namespace Go.Proofs.Ytllnieknogficaa.K
open Go.RowKit Go.Proofs.YtllnieknogficaaW.PrintWords Go.Proofs.YtllnieknogficaaW.PrintLast Go.Proofs.YtllnieknogficaaW.PrintMore
attribute [local go_sem] max2_int min2_int max_two min_two max_three min_three max_four min_four   -- for this text's walks alone
set_option linter.unusedVariables false
set_option linter.unusedSimpArgs false
theorem blk_newE {w : World} {o : Obj} {g : Nat} (h : g = w.heap.size) : (w.alloc o).heap[g]? = some o := by subst h; exact blk_new w o
theorem size_alloc (w : World) (o : Obj) : (w.alloc o).heap.size = w.heap.size + 1 := by show (w.heap.push o).size = _; simp
theorem size_drew (w : World) : w.drew.heap.size = w.heap.size := rfl
end Go.Proofs.Ytllnieknogficaa.K
namespace Go.Proofs.Ytllnieknogficaa.K
open Go.RowKit Go.Proofs.YtllnieknogficaaW.PrintWords Go.Proofs.YtllnieknogficaaW.PrintLast Go.Proofs.YtllnieknogficaaW.PrintMore
attribute [local go_sem] max2_int min2_int max_two min_two max_three min_three max_four min_four   -- for this text's walks alone
set_option linter.unusedVariables false
set_option linter.unusedSimpArgs false

/-! ### slices_Clone_int_int: function 199 -/
def slices_Clone_int_int.f (l0 : List Int) : Option (List Int) := if l0.length < 17592186044416 then some l0 else none
set_option maxHeartbeats 1000000 in
set_option maxRecDepth 100000 in
theorem slices_Clone_int_int.calls (A0 : Option Addr) (c0 : Nat) (l0 : List Int) (r : List Int) (w : World) (hr0 : Kd.C (Kd.int .i64) w A0 l0.length l0) (hc0 : l0.length ≤ c0) (h : slices_Clone_int_int.f l0 = some r) :
    Calls Try.prog 199 #[.slice A0 l0.length c0] w fun e w' => ∃ v0_ : Value, e = .returned (v0_) ∧ Kd.R (Kd.int .i64) 3 w' w.heap.size (fun _ => True) v0_ r ∧ Below w.heap.size w w' := by
  unfold slices_Clone_int_int.f at h
  by_cases hl : l0.length < 17592186044416
  · rw [if_pos hl] at h
    obtain rfl := Option.some.inj h
    clear h
    have heq := fun (W : World) (n : Nat) => Lib.run_eql_slice_nil (P := Try.prog) W 24 3 A0 n c0 0 0 Try.underlying24
    cases A0 with
    | none =>
      have h0 : l0 = [] := by
        cases l0 with
        | nil => rfl
        | cons x t => obtain ⟨ad, e, _⟩ := hr0.2.2 (by simp); cases e
      subst h0
      clear hr0 hl
      go_enter Try.func199, Try.ntmps199
      go_wp2
      go_ret
      exact ⟨_, rfl, Kd.R_nil _ _ _ _ _, Below.refl _ _⟩
    | some ad =>
      have HR0 := Aside0.mk hr0
      have HL := Aside0.mk hl
      have HB := Aside0.mk (Below.refl w.heap.size w)
      clear hr0 hl
      go_enter Try.func199, Try.ntmps199
      go_wp2_with (first | ((with_reducible refine gate_dst (N := 5) rfl ?_); refine Kd.R_lit (Kd.int .i64) _ 3 ?hg (N := 5) ?hd (xs := ([] : List Int)) (inner := []) (ok := fun _ => True) (okp := fun _ => True) ?hr ?hp (fun _ hk => hk) trivial (Below.refl _ _) (Nat.le_refl _) (by simp) ?_; (case hd => rfl); (case hg => rfl); (case hr => first | (go_simp; done) | (go_simp; rfl)); (case hp => exact (Reps.none _ _)); intro v112 w3 ho4 hb hg_ hnew_; clear hg_ hnew_; have n0_ := Aside0.mk (Kd.R_lower ho4 (below_size (by repeat (first | (with_reducible first | exact HB.out | apply below_alloc | apply pw_below_drewN | apply below_drew1) | exact HB.out)))); have n1_ := Aside0.mk (below_step (by repeat (first | (with_reducible first | exact HB.out | apply below_alloc | apply pw_below_drewN | apply below_drew1) | exact HB.out)) hb); clear HB; have HO113 := n0_; have HB := n1_; clear n0_ n1_; clear hb ho4) | ((with_reducible refine gate_builtin (b := .append) (xs := #[.tmp 5, .tmp 6]) rfl ?_); at_builtin; refine Kd.R_append_rows (Kd.int .i64) (w0 := w) w.heap.size rfl (.tmp 5) (.tmp 6) 24 3 (.int .i64 0) 8 rfl Try.underlying24 info3 rfl (by decide) (by omega) v112 [] l0 _ _ _ (fun _ => True) (fun _ => False) rfl rfl ?aO ?aR (fun _ _ h => h) (fun _ h => h.elim) ?aF ?aB ?aS ?aL ?_; (case aR => repeat (first | exact (Kd.C_below HR0.out HB.out) | (with_reducible refine Kd.C_alloc ?_ _) | (with_reducible refine Kd.C_drewN ?_ _) | (with_reducible refine Kd.C_drew ?_))); (case aB => exact (by repeat (first | (with_reducible first | exact HB.out | apply below_alloc | apply pw_below_drewN | apply below_drew1) | exact HB.out))); (case aF => exact (fun _ _ => trivial)); (case aO => exact (by (with_reducible repeat (first | apply Kd.R_alloc | apply Kd.R_drewN | apply Kd.R_drew)); exact HO113.out)); (case aS => exact (below_size (by repeat (first | (with_reducible first | exact HB.out | apply below_alloc | apply pw_below_drewN | apply below_drew1) | exact HB.out)))); (case aL => have := HL.out; simp only [List.length_nil]; omega); intro v115 w5 ho hb hg hat; have n0_ := Aside0.mk (hb); have n1_ := Aside0.mk (ho); clear HB; clear HO113; have HB := n0_; have HO116 := n1_; clear n0_ n1_; clear ho hb hg hat))
      go_ret
      exact ⟨_, rfl, HO116.out, HB.out⟩
  · rw [if_neg hl] at h
    cases h

end Go.Proofs.Ytllnieknogficaa.K
namespace Go.Proofs.Ytllnieknogficaa.K
open Go.RowKit Go.Proofs.YtllnieknogficaaW.PrintWords Go.Proofs.YtllnieknogficaaW.PrintLast Go.Proofs.YtllnieknogficaaW.PrintMore
attribute [local go_sem] max2_int min2_int max_two min_two max_three min_three max_four min_four   -- for this text's walks alone
set_option linter.unusedVariables false
set_option linter.unusedSimpArgs false

/-! ### impl_carry: function 164 -/
def impl_carry.put (s : List (List Int)) (i j : Nat) (n : Int) : List (List Int) := s.set i ((s.getD i []).set j (wrap64 ((s.getD i []).getD j 0 + n)))
/-- What is carried, from places i and j on. -/
def impl_carry.go : Nat → List (List Int) → List Int → List Int → Nat → Nat → Option (List (List Int))
  | 0, _, _, _, _, _ => none
  | k + 1, s, x, y, i, j =>
    if i < x.length ∧ j < y.length then
      (if i < s.length ∧ j < (s.getD i []).length then
        (if wrap64 (x.getD i 0 - mn (x.getD i 0) (y.getD j 0)) = 0 then
          impl_carry.go k (impl_carry.put s i j (mn (x.getD i 0) (y.getD j 0))) (x.set i (wrap64 (x.getD i 0 - mn (x.getD i 0) (y.getD j 0)))) (y.set j (wrap64 (y.getD j 0 - mn (x.getD i 0) (y.getD j 0)))) (i + 1) j
        else impl_carry.go k (impl_carry.put s i j (mn (x.getD i 0) (y.getD j 0))) (x.set i (wrap64 (x.getD i 0 - mn (x.getD i 0) (y.getD j 0)))) (y.set j (wrap64 (y.getD j 0 - mn (x.getD i 0) (y.getD j 0)))) i (j + 1))
      else none)
    else some s
set_option maxHeartbeats 4000000 in
set_option maxRecDepth 100000 in
theorem impl_carry.calls (g : Nat) (lb : Array Value) (eg : ∀ args w, (callFunc g args).run Try.prog w = .ok (.enter g args) w) (Inv : List (List Int) → World → Prop) (PS : Nat → Prop) (k : Nat)
    (A0 : Option Addr) (c0 : Nat) (l0 : List Int) (A1 : Option Addr) (c1 : Nat) (l1 : List Int) (s0 r : List (List Int)) (w0 w : World) (hB : Below w0.heap.size w0 w) (hPS : ∀ q, PS q → q < w.heap.size)
    (hr0 : Kd.C (Kd.int .i64) w A0 l0.length l0) (hc0 : l0.length ≤ c0) (hr1 : Kd.C (Kd.int .i64) w A1 l1.length l1) (hc1 : l1.length ≤ c1) (hl0 : l0.length < 17592186044416) (hl1 : l1.length < 17592186044416)
    (hI : Inv s0 w) (hmove : ∀ s W W', Inv s W → W.heap.size ≤ W'.heap.size → (∀ q, PS q → W'.heap[q]? = W.heap[q]?) → Inv s W')
    (hput : ∀ (W : World) (s : List (List Int)) (i j : Nat) (n : Int), Inv s W → w.heap.size ≤ W.heap.size → Below w0.heap.size w0 W → i < s.length → j < (s.getD i []).length →
      Calls Try.prog g (#[.int .i64 (i : Int), .int .i64 (j : Int), .int .i64 n] ++ lb) W fun e W' => e = .returned (.tuple #[]) ∧ Inv (impl_carry.put s i j n) W' ∧ Below w0.heap.size w0 W' ∧ Kept W W' PS)
    (h : impl_carry.go k s0 l0 l1 0 0 = some r) :
    Calls Try.prog 164 #[.slice A0 l0.length c0, .slice A1 l1.length c1, .func (.func g) #[] lb] w fun e w' => e = .returned (.tuple #[]) ∧ Inv r w' ∧ Below w0.heap.size w0 w' ∧ Kept w w' PS := by
  have HR1 := Aside0.mk hr1
  have HC1 := Aside0.mk hc1
  have HI := Aside0.mk hI
  have HM := Aside0.mk hmove
  have HP := Aside0.mk hput
  have HPS := Aside0.mk hPS
  have HG := Aside0.mk h
  have HB0 := Aside0.mk hB
  have HCl0 := Aside0.mk (show slices_Clone_int_int.f l0 = some l0 from by unfold slices_Clone_int_int.f; rw [if_pos hl0])
  have HCl1 := Aside0.mk (show slices_Clone_int_int.f l1 = some l1 from by unfold slices_Clone_int_int.f; rw [if_pos hl1])
  have HR0 := Aside0.mk hr0
  have HC0 := Aside0.mk hc0
  have HB00 := Aside0.mk hB.size
  clear hr0 hc0 hr1 hc1 hI hmove hput hPS h hB
  go_enter Try.func164, Try.ntmps164
  go_wp2_with fail
  refine (slices_Clone_int_int.calls _ _ l0 l0 _ HR0.out HC0.out HCl0.out).mono ?_
  rintro e w1 ⟨v0, rfl, ho, hb⟩
  have O0 := Aside0.mk (OwnR.new ho (Below.refl w.heap.size w))
  have HB := Aside0.mk hb
  clear ho hb
  obtain ⟨Aa, ca, e_, hla⟩ := O0.out.reads
  subst e_
  go_wp2_with fail
  refine (slices_Clone_int_int.calls _ _ l1 l1 _ (Kd.C_below HR1.out HB.out) HC1.out HCl1.out).mono ?_
  rintro e w2 ⟨v1, rfl, ho, hb⟩
  have O1 := Aside0.mk (OwnR.new ho HB.out)
  have n_ := Aside0.mk (O0.out.step hb)
  have z_ := Aside0.mk hb.size
  have z0_ := Aside0.mk HB.out.size
  have b_ := Aside0.mk (below_step HB.out hb)
  clear O0 HB ho hb
  have O0 := n_
  have HB := b_
  have HZ := z_
  have HZ0 := z0_
  clear n_ z_ b_ z0_
  obtain ⟨Ab, cb, e_, hlb⟩ := O1.out.reads
  subst e_
  have HI2 := Aside0.mk (HM.out s0 w w2 HI.out HB.out.size (fun q hq => HB.out.block q (HPS.out q hq)))
  have HB2 := Aside0.mk (below_then HB0.out HB0.out.size HB.out)
  have HK2 := Aside0.mk (Kept.of_below HB.out PS)
  clear HI HB HB0
  go_wp2
  go_loopg [6, 7, 8] k (fun gg s6 s7 _ W => ∃ (i j kk : Nat) (x y : List Int) (s : List (List Int)), s6 = .int .i64 (i : Int) ∧ s7 = .int .i64 (j : Int) ∧ kk ≤ gg ∧ Aside0 (impl_carry.go kk s x y i j = some r) ∧ Aside0 (x.length = l0.length) ∧ Aside0 (y.length = l1.length) ∧ Aside0 (OwnR (Kd.int .i64) 3 w W w.heap.size w1.heap.size (.slice Aa l0.length ca) x) ∧ Aside0 (OwnR (Kd.int .i64) 3 w W w1.heap.size w2.heap.size (.slice Ab l1.length cb) y) ∧ Aside0 (Inv s W) ∧ Aside0 (Below w0.heap.size w0 W) ∧ Aside0 (Kept w W PS))
  case atStart => exact ⟨0, 0, k, l0, l1, s0, rfl, rfl, Nat.le_refl _, HG, ⟨rfl⟩, ⟨rfl⟩, O0, O1, HI2, HB2, HK2⟩
  case round =>
    clear O0 O1 HI2 HB2 HK2 HG
    obtain ⟨i, j, kk, x, y, s, rfl, rfl, hkg, HG, HX, HY, O0, O1, HI, HB, HK⟩ := hrel
    cases kk with
    | zero => exact absurd HG.out (by simp [impl_carry.go])
    | succ kk =>
      have H := HG.out
      clear HG
      simp only [impl_carry.go] at H
      by_cases hc : i < x.length ∧ j < y.length
      · rw [if_pos hc] at H
        by_cases hs : i < s.length ∧ j < (s.getD i []).length
        · rw [if_pos hs] at H
          obtain ⟨hi, hj⟩ := hc
          obtain ⟨hsi, hsj⟩ := hs
          have hil : i < l0.length := by rw [← HX.out]; exact hi
          have hjl : j < l1.length := by rw [← HY.out]; exact hj
          have hilz : (i : Int) < (l0.length : Int) := by omega
          have hjlz : (j : Int) < (l1.length : Int) := by omega
          have hiz : (0 : Int) ≤ (i : Int) := by omega
          have hjz : (0 : Int) ≤ (j : Int) := by omega
          obtain ⟨g0, e0⟩ := O0.out.form (by omega)
          obtain ⟨g1, e1⟩ := O1.out.form (by omega)
          subst e0
          subst e1
          have hb0 := O0.out.blk
          have hb1 := O1.out.blk
          obtain ⟨a, ha⟩ : ∃ a, x.getD i 0 = a := ⟨_, rfl⟩
          obtain ⟨b, hb⟩ : ∃ b, y.getD j 0 = b := ⟨_, rfl⟩
          obtain ⟨hx0, hfx0⟩ := O0.out.cell i hil a ha
          obtain ⟨hy0, hfy0⟩ := O1.out.cell j hjl b hb
          rw [ha, hb] at H
          obtain ⟨n, hn⟩ : ∃ n, mn a b = n := ⟨_, rfl⟩
          rw [hn] at H
          have hn_ : (if b < a then b else a) = n := hn
          have HA := Aside0.mk ha
          have HBb := Aside0.mk hb
          have HH := Aside0.mk H
          have HB0 := Aside0.mk hb0
          have HB1 := Aside0.mk hb1
          clear ha hb hn H hb0 hb1 hi hj
          have HSI := Aside0.mk hsi
          have HSJ := Aside0.mk hsj
          clear hsi hsj
          go_wp2_with fail
          go_quiet (fail)
          have hw0 := Aside0.mk HB00.out
          by_cases hz : wrap64 (a - n) = 0
          all_goals
            have HH1 := HH.out
            first | rw [if_pos hz] at HH1 | rw [if_neg hz] at HH1
            have HH2 := Aside0.mk HH1
            have HZ_ := Aside0.mk hz
            clear hz HH1 HH
            go_wp2_with (refine (HP.out _ s i j n ?i1 ?i2 ?i3 HSI.out HSJ.out).mono ?_; (case i1 => exact HM.out s wr _ HI.out (Nat.le_refl _) (fun _ _ => rfl)); (case i2 => exact HK.out.1); (case i3 => exact pw_below_drewN HB.out _); rintro e w5 ⟨rfl, hi5, hb5, hk5⟩; apply StopI)
            have n0_ := Aside0.mk ((O0.out.step (pw_below_drewN (Below.refl _ _) _)).kept hk5 (fun q h1 h2 h3 => by have := HPS.out q h3; have := O0.out.b; omega))
            have n1_ := Aside0.mk ((O1.out.step (pw_below_drewN (Below.refl _ _) _)).kept hk5 (fun q h1 h2 h3 => by have := HPS.out q h3; have := O1.out.b; omega))
            have n2_ := Aside0.mk ((HK.out.drewN _).then_ hk5 (fun _ h_ => .inl h_))
            have n3_ := Aside0.mk hi5
            have n4_ := Aside0.mk hb5
            clear O0 O1 HK HI HB hi5 hb5 hk5
            have O0 := n0_
            have O1 := n1_
            have HK := n2_
            have HI := n3_
            have HB := n4_
            clear n0_ n1_ n2_ n3_ n4_
            obtain ⟨hx5, hfx5⟩ := O0.out.cell i hil a HA.out
            unfold Stop
            go_wp2_with ((with_reducible refine gate_store (t := 3) (p := 43) rfl ?_); refine store_event (t := 3) (p := 43) (v := ?vo) (w1 := w5.setCell ⟨g0, i, none⟩ (.int .i64 (wrap64 (a - n)))) ?hg ?ho ?hn ?hr ?_; (case ho => rfl); (case hg => rfl); (case hn => rfl); (case hr => first | (go_simp; done) | (go_simp; rfl)); intro w6 hw; apply StopI)
            have n0_ := Aside0.mk (by rw [hw]; exact O0.out.put i (wrap64 (a - n)) : OwnR (Kd.int .i64) 3 w w6 w.heap.size w1.heap.size (.slice (some ⟨g0, 0, none⟩) l0.length ca) (x.set i (wrap64 (a - n))))
            have n1_ := Aside0.mk (by rw [hw]; exact O1.out.far (by have := HB0.out; simp only []; omega) _ : OwnR (Kd.int .i64) 3 w w6 w1.heap.size w2.heap.size (.slice (some ⟨g1, 0, none⟩) l1.length cb) y)
            have n2_ := Aside0.mk (by rw [hw]; exact HK.out.setCell (.inr HB0.out.1) _ : Kept w w6 PS)
            have n3_ := Aside0.mk (by rw [hw]; exact HM.out _ w5 _ HI.out (by simp) (fun q hq => Below.heap_setCell _ _ _ _ (by have := HPS.out q hq; have := HB0.out; simp only []; omega)) : Inv (impl_carry.put s i j n) w6)
            have n4_ := Aside0.mk (by rw [hw]; exact below_set HB.out (Nat.le_trans hw0.out HB0.out.1) : Below w0.heap.size w0 w6)
            clear O0 O1 HK HI HB hw hx5 hfx5
            have O0 := n0_
            have O1 := n1_
            have HK := n2_
            have HI := n3_
            have HB := n4_
            clear n0_ n1_ n2_ n3_ n4_
            obtain ⟨hy6, hfy6⟩ := O1.out.cell j hjl b HBb.out
            unfold Stop
            go_wp2_with ((with_reducible refine gate_store (t := 3) (p := 50) rfl ?_); refine store_event (t := 3) (p := 50) (v := ?vo_w7) (w1 := w6.setCell ⟨g1, j, none⟩ (.int .i64 (wrap64 (b - n)))) ?hg ?ho ?hn ?hr ?_; (case ho => rfl); (case hg => rfl); (case hn => rfl); (case hr => first | (go_simp; done) | (go_simp; rfl)); intro w7 hw; apply StopI)
            have n0_ := Aside0.mk (by rw [hw]; exact O0.out.far (by have := HB1.out; simp only []; omega) _ : OwnR (Kd.int .i64) 3 w w7 w.heap.size w1.heap.size (.slice (some ⟨g0, 0, none⟩) l0.length ca) (x.set i (wrap64 (a - n))))
            have n1_ := Aside0.mk (by rw [hw]; exact O1.out.put j (wrap64 (b - n)) : OwnR (Kd.int .i64) 3 w w7 w1.heap.size w2.heap.size (.slice (some ⟨g1, 0, none⟩) l1.length cb) (y.set j (wrap64 (b - n))))
            have n2_ := Aside0.mk (by rw [hw]; exact HK.out.setCell (.inr (Nat.le_trans HZ0.out HB1.out.1)) _ : Kept w w7 PS)
            have n3_ := Aside0.mk (by rw [hw]; exact HM.out _ w6 _ HI.out (by simp) (fun q hq => Below.heap_setCell _ _ _ _ (by have := HPS.out q hq; have := HB1.out; have := HZ0.out; simp only []; omega)) : Inv (impl_carry.put s i j n) w7)
            have n4_ := Aside0.mk (by rw [hw]; exact below_set HB.out (Nat.le_trans hw0.out (Nat.le_trans HZ0.out HB1.out.1)) : Below w0.heap.size w0 w7)
            clear O0 O1 HK HI HB hw hy6 hfy6
            have O0 := n0_
            have O1 := n1_
            have HK := n2_
            have HI := n3_
            have HB := n4_
            clear n0_ n1_ n2_ n3_ n4_
            obtain ⟨hx7, hfx7⟩ := O0.out.cell i hil (wrap64 (a - n)) (by rw [List.getD_eq_getElem?_getD, List.getElem?_set_self (by have := HX.out; omega)]; rfl)
            have hz := HZ_.out
            unfold Stop
            go_wp2_with fail
          · go_roundg kk
            case measure => omega
            case rel => exact ⟨i + 1, j, kk, _, _, _, by go_num, rfl, Nat.le_refl _, HH2, ⟨by rw [List.length_set]; exact HX.out⟩, ⟨by rw [List.length_set]; exact HY.out⟩, O0, O1, HI, HB, HK⟩
          · go_roundg kk
            case measure => omega
            case rel => exact ⟨i, j + 1, kk, _, _, _, rfl, by go_num, Nat.le_refl _, HH2, ⟨by rw [List.length_set]; exact HX.out⟩, ⟨by rw [List.length_set]; exact HY.out⟩, O0, O1, HI, HB, HK⟩
        · rw [if_neg hs] at H
          cases H
      · rw [if_neg hc] at H
        obtain rfl := Option.some.inj H
        have hcz : (i : Int) < (l0.length : Int) → ¬ (j : Int) < (l1.length : Int) := by have := HX.out; have := HY.out; omega
        by_cases h1z : (i : Int) < (l0.length : Int)
        · have h2z := hcz h1z
          clear hc hcz
          go_wp2
          go_end0
          exact ⟨rfl, HI.out, HB.out, HK.out⟩
        · clear hc hcz
          go_wp2
          go_end0
          exact ⟨rfl, HI.out, HB.out, HK.out⟩

end Go.Proofs.Ytllnieknogficaa.K
namespace Go.Proofs.Ytllnieknogficaa.K
open Go.RowKit Go.Proofs.YtllnieknogficaaW.PrintWords Go.Proofs.YtllnieknogficaaW.PrintLast Go.Proofs.YtllnieknogficaaW.PrintMore
attribute [local go_sem] max2_int min2_int max_two min_two max_three min_three max_four min_four   -- for this text's walks alone
set_option linter.unusedVariables false
set_option linter.unusedSimpArgs false

/-! ### impl_mapped: function 155 -/
def impl_mapped.row (num : Int → Int → Int → Int) (i : Int) (r : List Int) (m : Nat) : List Int := (List.range m).map fun (j : Nat) => num i j (r.getD j 0)
def impl_mapped.tab (num : Int → Int → Int → Int) (l : List (List Int)) (m : Nat) : List (List Int) := (List.range m).map fun (i : Nat) => impl_mapped.row num i (l.getD i []) (l.getD i []).length
theorem impl_mapped.tab_length (num : Int → Int → Int → Int) (l : List (List Int)) (m : Nat) : (impl_mapped.tab num l m).length = m := by simp [impl_mapped.tab]
theorem impl_mapped.row_length (num : Int → Int → Int → Int) (i : Int) (r : List Int) (m : Nat) : (impl_mapped.row num i r m).length = m := by simp [impl_mapped.row]
theorem impl_mapped.tab_succ (num : Int → Int → Int → Int) (l : List (List Int)) (m : Nat) (r : List Int) (h : l.getD m [] = r) : impl_mapped.tab num l m ++ [impl_mapped.row num m r r.length] = impl_mapped.tab num l (m + 1) := by subst h; simp [impl_mapped.tab, List.range_succ]
theorem impl_mapped.row_succ (num : Int → Int → Int → Int) (i : Int) (r : List Int) (m : Nat) (x : Int) (h : r.getD m 0 = x) : impl_mapped.row num i r m ++ [num i m x] = impl_mapped.row num i r (m + 1) := by subst h; simp [impl_mapped.row, List.range_succ]
set_option maxHeartbeats 2000000 in
set_option maxRecDepth 100000 in
theorem impl_mapped.calls (num : Int → Int → Int → Int) (g : Nat) (lb : Array Value) (eg : ∀ args w, (callFunc g args).run Try.prog w = .ok (.enter g args) w) (A0 : Option Addr) (c0 : Nat) (l0 : List (List Int)) (w : World) (hr0 : Kd.C (Kd.slice 3 (Kd.int .i64)) w A0 l0.length l0) (hc0 : l0.length ≤ c0) (hn : l0.length ≤ 1048576) (hrow : ∀ r ∈ l0, r.length ≤ 1048576)
    (hcl : ∀ (W : World) (i j n : Int), Below w.heap.size w W → Calls Try.prog g (#[.int .i64 i, .int .i64 j, .int .i64 n] ++ lb) W fun e w' => e = .returned (.int .i64 (num i j n)) ∧ Drawn0 W w') :
    Calls Try.prog 155 #[.slice A0 l0.length c0, .func (.func g) #[] lb] w fun e w' => ∃ v0_ : Value, e = .returned (v0_) ∧ Kd.S (Kd.slice 3 (Kd.int .i64)) 24 w' w.heap.size (fun _ => True) v0_ (impl_mapped.tab num l0 l0.length) ∧ Below w.heap.size w w' := by
  have HCL := Aside0.mk hcl
  have HR0 := Aside0.mk hr0
  have HN := Aside0.mk hn
  have HROW := Aside0.mk hrow
  have HB := Aside0.mk (Below.refl w.heap.size w)
  clear hcl hr0 hrow hn
  go_enter Try.func155, Try.ntmps155
  go_wp2_with (first | ((with_reducible refine gate_dst (N := 11) rfl ?_); refine Kd.S_lit (Kd.slice 3 (Kd.int .i64)) _ 24 ?hg (N := 11) ?hd (xs := ([] : List (List Int))) (inner := []) (ok := fun _ => True) (okp := fun _ => True) ?hr ?hp (fun _ hk => hk) trivial (Below.refl _ _) (Nat.le_refl _) (by simp) ?_; (case hd => rfl); (case hg => rfl); (case hr => first | (go_simp; done) | (go_simp; rfl)); (case hp => exact (Reps.none _ _)); intro v5 w3 ho4 hb hg_ hnew_; clear hg_ hnew_; have n0_ := Aside0.mk (Kd.S_lower ho4 (below_size HB.out)); have n1_ := Aside0.mk (below_step HB.out hb); clear HB; have HO5 := n0_; have HB := n1_; clear n0_ n1_; clear hb ho4))
  go_loopg [5, 14] l0.length (fun gg s5 s14 wr => ∃ m : Nat, m ≤ l0.length ∧ l0.length - m ≤ gg ∧ s14 = .int .i64 m ∧ Aside0 (Kd.S (Kd.slice 3 (Kd.int .i64)) 24 wr w.heap.size (fun _ => True) s5 (impl_mapped.tab num l0 m)) ∧ Aside0 (Below w.heap.size w wr))
  case atStart => exact ⟨0, Nat.zero_le _, by omega, rfl, ⟨HO5.out⟩, HB⟩
  case round =>
    clear HB HO5
    obtain ⟨m, hm, hg, rfl, HS, HB⟩ := hrel
    by_cases hlt : m < l0.length
    · have hltz : (m : Int) < (l0.length : Int) := by omega
      have hmz : (0 : Int) ≤ (m : Int) := by omega
      obtain ⟨wo, rfl⟩ : ∃ wo : World, wo = wr := ⟨_, rfl⟩
      obtain ⟨ad, Ar, cr, rfl, cx, hl, hC⟩ := at_L2 HR0.out (m : Int) hmz hltz
      have cx2 := pw_cell_below HB.out cx
      rw [rdL_nat_getD] at hC hl cx2
      rw [Int.toNat_natCast] at cx2
      obtain ⟨r, hr⟩ : ∃ r, l0.getD m [] = r := ⟨_, rfl⟩
      rw [hr] at hC hl cx2
      have HRr := Aside0.mk hr
      have HC := Aside0.mk (Kd.C_below hC HB.out)
      have HLr := Aside0.mk hl
      have hrl : r.length ≤ 1048576 := HROW.out r (by rw [← hr, List.getD_eq_getElem?_getD, List.getElem?_eq_getElem hlt]; exact List.getElem_mem hlt)
      have HRL := Aside0.mk hrl
      clear hr hC hl cx hrl
      go_wp2_with (first | ((with_reducible refine gate_dst (N := 19) rfl ?_); refine Kd.R_lit (Kd.int .i64) _ 3 ?hg (N := 19) ?hd (xs := ([] : List Int)) (inner := []) (ok := fun _ => True) (okp := fun _ => True) ?hr ?hp (fun _ hk => hk) trivial (Below.refl _ _) (Nat.le_refl _) (by simp) ?_; (case hd => rfl); (case hg => rfl); (case hr => first | (go_simp; done) | (go_simp; rfl)); (case hp => exact (Reps.none _ _)); intro v7 w4 ho4 hb hg_ hnew_; clear hg_ hnew_; have HS4 := Aside0.mk (Kd.S_old HS.out hb); have HB4 := Aside0.mk hb; have HO7 := Aside0.mk ho4; clear hb ho4))
      go_loopg [8, 22] r.length (fun gg s8 s22 w' => ∃ j : Nat, j ≤ r.length ∧ r.length - j ≤ gg ∧ s22 = .int .i64 j ∧ Aside0 (Kd.R (Kd.int .i64) 3 w' wo.heap.size (fun _ => True) s8 (impl_mapped.row num m r j)) ∧ Aside0 (Kd.S (Kd.slice 3 (Kd.int .i64)) 24 w' w.heap.size (fun k => True ∧ k < wo.heap.size) u5 (impl_mapped.tab num l0 m)) ∧ Aside0 (Below wo.heap.size wo w'))
      case atStart => exact ⟨0, Nat.zero_le _, by omega, rfl, HO7, HS4, HB4⟩
      case round =>
        clear HS4 HB4 HO7
        obtain ⟨j, hj, hg2, rfl, HRi, HSi, HBi⟩ := hrel
        by_cases hlt2 : j < r.length
        · have hltz2 : (j : Int) < (r.length : Int) := by omega
          have hjz : (0 : Int) ≤ (j : Int) := by omega
          obtain ⟨ar, rfl, cy⟩ := Kd.at_int (Kd.C_below HC.out HBi.out) (j : Int) hjz hltz2
          rw [Int.toNat_natCast, rd_nat_getD] at cy
          obtain ⟨x, hx⟩ : ∃ x, r.getD j 0 = x := ⟨_, rfl⟩
          rw [hx] at cy
          have HX := Aside0.mk hx
          clear hx
          go_wp2_with (first | (go_at_fn g; refine (HCL.out _ _ _ _ (below_step HB.out (by repeat (first | (with_reducible first | exact HBi.out | apply below_alloc | apply pw_below_drewN | apply below_drew1) | exact HBi.out)))).mono ?_; rintro e w' ⟨rfl, ⟨nd, rfl⟩⟩) | ((with_reducible refine gate_builtin (b := .append) (xs := #[.tmp 27, .tmp 33]) rfl ?_); at_builtin; refine Kd.R_append (Kd.int .i64) (w0 := wo) wo.heap.size rfl (.tmp 27) (.tmp 33) 24 3 (.int .i64 0) 8 rfl Try.underlying24 info3 rfl (by decide) (by omega) u8 (impl_mapped.row num m r j) (num m j x) [.int .i64 (num m j x)] (fun _ => True) (fun _ => False) rfl rfl ?aP (fun _ hk => hk.elim) ?aF ?aO ?aB ?aS ?aL ?_; (case aP => exact rfl); (case aB => exact (by repeat (first | (with_reducible first | exact HBi.out | apply below_alloc | apply pw_below_drewN | apply below_drew1) | exact HBi.out))); (case aF => exact (fun _ _ => trivial)); (case aO => exact (by (with_reducible repeat (first | apply Kd.R_alloc | apply Kd.R_drewN | apply Kd.R_drew)); exact HRi.out)); (case aS => exact (below_size (by repeat (first | (with_reducible first | exact HBi.out | apply below_alloc | apply pw_below_drewN | apply below_drew1) | exact HBi.out)))); (case aL => rw [impl_mapped.row_length]; have := HRL.out; omega); intro v8 w8 ho hb hg hat; rw [impl_mapped.row_succ num m r j x HX.out] at ho; have n0_ := Aside0.mk ho; have n1_ := Aside0.mk hb; have n2_ := Aside0.mk (Kd.S_grown (by (with_reducible repeat (first | apply Kd.S_alloc | apply Kd.S_drewN | apply Kd.S_drew)); exact HSi.out) hg (fun k hk he => by have h1 := Kd.R_base HRi.out k he.symm; have h2 := hk.2; omega)); clear HRi HBi HSi; have HRi := n0_; have HBi := n1_; have HSi := n2_; clear n0_ n1_ n2_ ho hb hg hat))
          go_roundg (r.length - (j + 1))
          case measure => omega
          case rel => exact ⟨j + 1, by omega, by omega, congrArg (Value.int .i64) (wrap64_nat_succ (by have := HRL.out; omega)), HRi, HSi, HBi⟩
        · have hltz2 : ¬ (j : Int) < (r.length : Int) := by omega
          have hk3 : j = r.length := by omega
          subst hk3
          obtain ⟨A7, c7, e7⟩ := Kd.R_slice HRi.out
          subst e7
          go_wp2_with ((with_reducible refine gate_builtin (b := .append) (xs := #[.tmp 36, .tmp 38]) rfl ?_); at_builtin; refine Kd.S_append (Kd.slice 3 (Kd.int .i64)) (w0 := w) w.heap.size rfl (.tmp 36) (.tmp 38) 37 24 (.slice none 0 0) 24 rfl Try.underlying37 info24 rfl (by decide) (by omega) u5 (impl_mapped.tab num l0 m) (impl_mapped.row num m r r.length) [.slice A7 (impl_mapped.row num m r r.length).length c7] (fun _ => True) (fun k_ => some k_ = (.slice A7 (impl_mapped.row num m r r.length).length c7 : Value).ownBlock) rfl rfl ?aP (fun k hk => ⟨trivial, fun he => by have h1 := Kd.R_base HRi.out k hk.symm; have h2 := ((Kd.S_R HSi.out).1 k he.symm).2; omega⟩) ?aF ?aO ?aB ?aS ?aL ?_; (case aP => exact Kd.M_row (Kd.R_mono (Kd.R_tight rfl (Kd.R_lower (by (with_reducible repeat (first | apply Kd.R_alloc | apply Kd.R_drewN | apply Kd.R_drew)); exact HRi.out) HB.out.size)) (fun _ h_ => h_))); (case aB => exact (below_step HB.out (by repeat (first | (with_reducible first | exact HBi.out | apply below_alloc | apply pw_below_drewN | apply below_drew1) | exact HBi.out)))); (case aF => exact (fun _ _ => trivial)); (case aO => exact Kd.S_mono (by (with_reducible repeat (first | apply Kd.S_alloc | apply Kd.S_drewN | apply Kd.S_drew)); exact HSi.out) (fun k hk => ⟨trivial, fun he => by have h1 := Kd.R_base HRi.out k he.symm; have h2 := hk.2; omega⟩)); (case aS => exact (below_size (below_step HB.out (by repeat (first | (with_reducible first | exact HBi.out | apply below_alloc | apply pw_below_drewN | apply below_drew1) | exact HBi.out))))); (case aL => rw [impl_mapped.tab_length]; have := HN.out; omega); intro v9 w9 ho hb hg hat; rw [impl_mapped.tab_succ num l0 m r HRr.out] at ho; have HS9 := Aside0.mk ho; have HB9 := Aside0.mk hb; clear ho hb hg hat)
          go_roundg (l0.length - (m + 1))
          case measure => omega
          case rel => exact ⟨m + 1, by omega, by omega, congrArg (Value.int .i64) (wrap64_nat_succ (by have := HN.out; omega)), HS9, HB9⟩
    · have hltz : ¬ (m : Int) < (l0.length : Int) := by omega
      have hk2 : m = l0.length := by omega
      subst hk2
      go_wp2
      go_ret
      exact ⟨_, rfl, HS.out, HB.out⟩

end Go.Proofs.Ytllnieknogficaa.K
namespace Go.Proofs.Ytllnieknogficaa.K
open Go.RowKit Go.Proofs.YtllnieknogficaaW.PrintWords Go.Proofs.YtllnieknogficaaW.PrintLast Go.Proofs.YtllnieknogficaaW.PrintMore
attribute [local go_sem] max2_int min2_int max_two min_two max_three min_three max_four min_four   -- for this text's walks alone
set_option linter.unusedVariables false
set_option linter.unusedSimpArgs false
def put2 (s : List (List Int)) (i j : Nat) (v : Int) : List (List Int) := s.set i ((s.getD i []).set j v)
def uncM (s : List (List Int)) (i j : Nat) (n : Int) : List (List Int) := put2 s i j (wrap64 ((s.getD i []).getD j 0 - n))
def uncP (s : List (List Int)) (i j : Nat) (n : Int) : List (List Int) := put2 s i j (wrap64 ((s.getD i []).getD j 0 + n))
/-- A plan without the crossing of (a, b) and (c, d). -/
def uncT (s : List (List Int)) (a b c d : Nat) (n : Int) : List (List Int) := uncP (uncP (uncM (uncM s a b n) c d n) a d n) c b n
def uncOk (l : List (List Int)) (a b c d : Int) : Prop := l.length ≤ 8 ∧ (∀ r ∈ l, r.length = l.length) ∧ 0 ≤ a ∧ a < (l.length : Int) ∧ 0 ≤ b ∧ b < (l.length : Int) ∧ 0 ≤ c ∧ c < (l.length : Int) ∧ 0 ≤ d ∧ d < (l.length : Int)
instance (l : List (List Int)) (a b c d : Int) : Decidable (uncOk l a b c d) := by unfold uncOk; infer_instance
def uncEnd (plan : List (List Int) → Option Bool) (cost : List (List Int) → Option Int) (l s : List (List Int)) : Option (List (List Int) × Int × Bool) :=
  (plan s).bind fun t => if t = true then ((cost l).bind fun c1 => (cost s).bind fun c2 => some (s, wrap64 (c1 - c2), true)) else some ([], 0, false)
theorem put2_shape {n : Nat} {s : List (List Int)} (hs : s.length = n) (hr : ∀ r ∈ s, r.length = n) (i j : Nat) (v : Int) : (put2 s i j v).length = n ∧ ∀ r ∈ put2 s i j v, r.length = n := by
  refine ⟨by simp [put2, hs], fun r h => ?_⟩
  unfold put2 at h
  by_cases hi : i < s.length
  · rcases List.mem_or_eq_of_mem_set h with h | h
    · exact hr r h
    · subst h
      rw [List.length_set, List.getD_eq_getElem?_getD, List.getElem?_eq_getElem hi]
      exact hr _ (List.getElem_mem hi)
  · rw [List.set_eq_of_length_le (by omega)] at h
    exact hr r h
theorem row_of {n : Nat} {s : List (List Int)} (hs : s.length = n) (hr : ∀ r ∈ s, r.length = n) (i : Nat) (hi : i < n) : (s.getD i []).length = n := by
  rw [List.getD_eq_getElem?_getD, List.getElem?_eq_getElem (by omega)]
  exact hr _ (List.getElem_mem (by omega))
theorem mapped_id (l : List (List Int)) : impl_mapped.tab (fun _ _ n => n) l l.length = l := by
  apply List.ext_getElem
  · rw [impl_mapped.tab_length]
  · intro i h1 h2
    simp only [impl_mapped.tab, List.getElem_map, List.getElem_range]
    have e : l.getD i [] = l[i] := by rw [List.getD_eq_getElem?_getD, List.getElem?_eq_getElem h2]; rfl
    rw [e]
    apply List.ext_getElem
    · rw [impl_mapped.row_length]
    · intro j h3 h4
      simp only [impl_mapped.row, List.getElem_map, List.getElem_range]
      rw [List.getD_eq_getElem?_getD, List.getElem?_eq_getElem h4]; rfl
/-- Between the writes: the table of the call's own, and the boxes of both cells. -/
structure UncSt (w W : World) (lo hi g n cap : Nat) (s : List (List Int)) (bx by_ : Nat) (a b c d : Nat) : Prop where
  own : OwnSS w W lo hi (.slice (some ⟨g, 0, none⟩) n cap) s
  bel : Below w.heap.size w W
  xx : W.heap[bx]? = some (.cells #[.int .i64 (a : Int), .int .i64 (b : Int)] 70 (0, 0))
  yy : W.heap[by_]? = some (.cells #[.int .i64 (c : Int), .int .i64 (d : Int)] 70 (0, 0))
  nx : bx < lo
  ny : by_ < lo
  len : s.length = n
  rows : ∀ r ∈ s, r.length = n
theorem UncSt.put {w W : World} {lo hi g n cap : Nat} {s : List (List Int)} {bx by_ a b c d : Nat} (h : UncSt w W lo hi g n cap s bx by_ a b c d) (i j : Nat) (hi2 : i < n) (hj : j < n) :
    ∃ gi ci : Nat, W.cell? ⟨g, i, none⟩ = some (.slice (some ⟨gi, 0, none⟩) n ci) ∧ (∀ y, (s.getD i []).getD j 0 = y → W.cell? ⟨gi, j, none⟩ = some (.int .i64 y)) ∧ W.frozen? ⟨gi, j, none⟩ = false ∧
      ∀ v, UncSt w (W.setCell ⟨gi, j, none⟩ (.int .i64 v)) lo hi g n cap (put2 s i j v) bx by_ a b c d := by
  have hrow := row_of h.len h.rows i hi2
  obtain ⟨g', gi, ci, e, h1, h2, h3, h4, h5, h6⟩ := h.own.put i j (by rw [h.len]; exact hi2) (by rw [hrow]; exact hj)
  injection e with e
  injection e with e
  subst e
  rw [hrow] at h1
  refine ⟨gi, ci, h1, fun y hy => by rw [h2, hy], h3, fun v => ⟨h6 v, ?_, ?_, ?_, h.nx, h.ny, (put2_shape h.len h.rows i j v).1, (put2_shape h.len h.rows i j v).2⟩⟩
  · exact below_set h.bel (Nat.le_trans h.own.b h4)
  · exact blk_far h.xx (by have := h.nx; simp only []; omega) _
  · exact blk_far h.yy (by have := h.ny; simp only []; omega) _
theorem UncSt.drew {w W : World} {lo hi g n cap : Nat} {s : List (List Int)} {bx by_ a b c d : Nat} (h : UncSt w W lo hi g n cap s bx by_ a b c d) : UncSt w W.drew lo hi g n cap s bx by_ a b c d :=
  ⟨h.own.step (below_drew (Below.refl _ _)), below_drew h.bel, h.xx, h.yy, h.nx, h.ny, h.len, h.rows⟩
theorem UncSt.drewN {w W : World} {lo hi g n cap : Nat} {s : List (List Int)} {bx by_ a b c d : Nat} (h : UncSt w W lo hi g n cap s bx by_ a b c d) (m : Nat) : UncSt w (W.drewN m) lo hi g n cap s bx by_ a b c d :=
  ⟨h.own.step (pw_below_drewN (Below.refl _ _) m), pw_below_drewN h.bel m, h.xx, h.yy, h.nx, h.ny, h.len, h.rows⟩
end Go.Proofs.Ytllnieknogficaa.K
namespace Go.Proofs.Ytllnieknogficaa.K
open Go.RowKit Go.Proofs.YtllnieknogficaaW.PrintWords Go.Proofs.YtllnieknogficaaW.PrintLast Go.Proofs.YtllnieknogficaaW.PrintMore
attribute [local go_sem] max2_int min2_int max_two min_two max_three min_three max_four min_four   -- for this text's walks alone
set_option linter.unusedVariables false
set_option linter.unusedSimpArgs false

/-! ### impl_turn: function 127 -/
mutual
def impl_turn.l0 : Nat → List (List Int) → List (List Int) → Int → Int → Option ((List (List Int)))
  | 0, _, _, _, _ => none
  | k + 1, x3, x13, x14, x15 => if x15 < x14 then (if 0 ≤ x15 then (if x15 < (x13.length : Int) then (impl_turn.l1 k x3 x13 x14 x15 (rd_L2 x13 x15) ((rd_L2 x13 x15).length : Int) 0) else (none)) else (none)) else (some x3)
def impl_turn.l1 : Nat → List (List Int) → List (List Int) → Int → Int → List Int → Int → Int → Option ((List (List Int)))
  | 0, _, _, _, _, _, _, _ => none
  | k + 1, x3, x13, x14, x15, x19, x20, x21 => if x21 < x20 then (if 0 ≤ x21 then (if x21 < (x19.length : Int) then (if x21 < (x3.length : Int) then (if (rd_L2 x3 x21).length < 17592186044416 then (impl_turn.l1 k (x3.set (x21 : Int).toNat ((rd_L2 x3 x21) ++ [rd x19 x21])) x13 x14 x15 x19 x20 (wrap64 (x21 + 1))) else (none)) else (none)) else (none)) else (none)) else (impl_turn.l0 k x3 x13 x14 (wrap64 (x15 + 1)))
end
def impl_turn.f (k : Nat) (l0 : List (List Int)) : Option ((List (List Int))) := if 0 < (l0.length : Int) then (if 0 ≤ ((rd_L2 l0 0).length : Int) then (if (((rd_L2 l0 0).length : Int) : Int).toNat ≤ 11728124029610 then (impl_turn.l0 k (List.replicate (((rd_L2 l0 0).length : Int) : Int).toNat []) l0 (l0.length : Int) 0) else (none)) else (none)) else (none)
theorem impl_turn.mono_l : ∀ k, (∀ y0 y1 y2 y3, LeO (impl_turn.l0 k y0 y1 y2 y3) (impl_turn.l0 (k + 1) y0 y1 y2 y3)) ∧ (∀ y0 y1 y2 y3 y4 y5 y6, LeO (impl_turn.l1 k y0 y1 y2 y3 y4 y5 y6) (impl_turn.l1 (k + 1) y0 y1 y2 y3 y4 y5 y6))
  | 0 => ⟨fun _ _ _ _ r h => by simp [impl_turn.l0] at h, fun _ _ _ _ _ _ _ r h => by simp [impl_turn.l1] at h⟩
  | k + 1 => by
    obtain ⟨ih0, ih1⟩ := impl_turn.mono_l k
    refine ⟨?_, ?_⟩
    · intro y0 y1 y2 y3
      unfold impl_turn.l0
      repeat' first
      | (with_reducible exact ih0 _ _ _ _)
      | (with_reducible exact ih1 _ _ _ _ _ _ _)
      | (with_reducible exact LeO.refl _)
      | (with_reducible exact LeO.none _)
      | (with_reducible refine LeO.ite ?_ ?_)
      | (with_reducible refine LeO.bind ?_ (fun _ => ?_))
      | exact ih0 _ _ _ _
      | exact ih1 _ _ _ _ _ _ _
      | exact LeO.none _
      | refine LeO.ite ?_ ?_
      | refine LeO.bind ?_ (fun _ => ?_)
    · intro y0 y1 y2 y3 y4 y5 y6
      unfold impl_turn.l1
      repeat' first
      | (with_reducible exact ih0 _ _ _ _)
      | (with_reducible exact ih1 _ _ _ _ _ _ _)
      | (with_reducible exact LeO.refl _)
      | (with_reducible exact LeO.none _)
      | (with_reducible refine LeO.ite ?_ ?_)
      | (with_reducible refine LeO.bind ?_ (fun _ => ?_))
      | exact ih0 _ _ _ _
      | exact ih1 _ _ _ _ _ _ _
      | exact LeO.none _
      | refine LeO.ite ?_ ?_
      | refine LeO.bind ?_ (fun _ => ?_)
theorem impl_turn.mono : ∀ a0 k, LeO (impl_turn.f k a0) (impl_turn.f (k + 1) a0) := by
  intro a0 k
  obtain ⟨ih0, ih1⟩ := impl_turn.mono_l k
  unfold impl_turn.f
  repeat' first
      | (with_reducible exact ih0 _ _ _ _)
      | (with_reducible exact ih1 _ _ _ _ _ _ _)
      | (with_reducible exact LeO.refl _)
      | (with_reducible exact LeO.none _)
      | (with_reducible refine LeO.ite ?_ ?_)
      | (with_reducible refine LeO.bind ?_ (fun _ => ?_))
      | exact ih0 _ _ _ _
      | exact ih1 _ _ _ _ _ _ _
      | exact LeO.none _
      | refine LeO.ite ?_ ?_
      | refine LeO.bind ?_ (fun _ => ?_)
set_option maxHeartbeats 8000000 in
set_option maxRecDepth 100000 in
theorem impl_turn.calls (k : Nat) (A0 : Option Addr) (c0 : Nat) (l0 : List (List Int)) (r : List (List Int)) (w : World) (hr0 : Kd.C (Kd.slice 3 (Kd.int .i64)) w A0 l0.length l0) (hc0 : l0.length ≤ c0) (h : impl_turn.f k l0 = some r) :
    Calls Try.prog 127 #[.slice A0 l0.length c0] w fun e w' => ∃ v0_ : Value, e = .returned (v0_) ∧ Kd.S (Kd.slice 3 (Kd.int .i64)) 24 w' w.heap.size (fun _ => True) v0_ r ∧ Below w.heap.size w w' := by
  have HR0 := Aside0.mk hr0
  have HC0 := Aside0.mk hc0
  clear hr0 hc0
  have HB := Aside0.mk (Below.refl w.heap.size w)
  have H : (if 0 < (l0.length : Int) then (if 0 ≤ ((rd_L2 l0 0).length : Int) then (if (((rd_L2 l0 0).length : Int) : Int).toNat ≤ 11728124029610 then (impl_turn.l0 k (List.replicate (((rd_L2 l0 0).length : Int) : Int).toNat []) l0 (l0.length : Int) 0) else (none)) else (none)) else (none)) = some r := h
  clear h
  by_cases c2 : 0 < (l0.length : Int)
  · rw [if_pos c2] at H
    have c2b0 : decide (0 < (l0.length : Int)) = true := decide_eq_true c2
    have c2b1 : decide (0 < l0.length) = true := decide_eq_true (by omega)
    clear c2
    by_cases c3 : 0 ≤ ((rd_L2 l0 0).length : Int)
    · rw [if_pos c3] at H
      have c3b0 := eq_true c3
      have c3b1 : decide (0 ≤ ((rd_L2 l0 0).length : Int)) = true := decide_eq_true c3
      clear c3
      by_cases c4 : (((rd_L2 l0 0).length : Int) : Int).toNat ≤ 11728124029610
      · rw [if_pos c4] at H
        have c4b0 := eq_true c4
        have c4b1 : decide ((((rd_L2 l0 0).length : Int) : Int).toNat ≤ 11728124029610) = true := decide_eq_true c4
        clear c4
        obtain ⟨y411, hy411⟩ : ∃ y_ : List (List Int), y_ = (List.replicate (((rd_L2 l0 0).length : Int) : Int).toNat []) := ⟨_, rfl⟩
        replace H : (impl_turn.l0 k y411 l0 (l0.length : Int) 0) = some r := by first | (rw [hy411]; with_reducible exact H) | (have H2_ := (Option.bind_some _ _).symm.trans H; rw [hy411]; with_reducible exact H2_) | (have H2_ := (Option.bind_some _ _).symm.trans H; with_reducible exact H2_) | with_reducible exact H | (rw [hy411]; exact H) | exact H
        have Ny411 := Aside0.mk hy411
        clear hy411
        have H' := Aside0.mk H
        clear H
        have p410 : 0 ≤ (0 : Int) := (by omega)
        have q410 : 0 < (l0.length : Int) := of_decide_eq_true (by first | (with_reducible assumption) | assumption)
        obtain ⟨ad410, A410_0, c410_0, e410, hx410_0, hl410_0, hi410_0⟩ := at_L2 HR0.out 0 p410 q410
        cases e410
        have qi410 : (0 < l0.length) = True := eq_true (by omega)
        (try rw [show ((0 : Int)).toNat = 0 from rfl] at hx410_0)
        (try rw [Addr.add_zero'] at hx410_0)
        have HR410_0 := Aside0.mk hi410_0
        have HC410_0 := Aside0.mk hl410_0
        clear hi410_0 hl410_0
        replace p410 := eq_true p410
        replace q410 := eq_true q410
        go_enter Try.func127, Try.ntmps127
        go_wp2_with (first | ((with_reducible refine gate_dst (N := 12) rfl ?_); refine Kd.S_make (Kd.slice 3 (Kd.int .i64)) _ 24 rfl (N := 12) rfl 37 _ _ rfl ((rd_L2 l0 0).length : Int) rfl rfl Try.underlying37 (.slice none 0 0) 24 info24 rfl (by decide) (by omega) [] (ok := fun _ => True) (okp := fun _ => True) ⟨_, rfl, Kd.R_nil _ _ _ _ _⟩ (fun _ hk => hk) trivial (of_decide_eq_true (by first | (with_reducible assumption) | assumption)) (Nat.le_trans (Nat.mul_le_mul_right _ (of_decide_eq_true (by first | (with_reducible assumption) | assumption) : ((rd_L2 l0 0).length : Int).toNat ≤ 11728124029610)) (by omega)) (Below.refl _ _) (Nat.le_refl _) ?_; intro v412 w5 ho6 hb hg_ hnew_; clear hg_ hnew_; (first | rw [← Ny411.out] at ho6 | (simp only [Int.reduceToNat] at ho6; rw [← Ny411.out] at ho6)); have n0_ := Aside0.mk (Kd.S_lower ho6 (below_size (by repeat (first | (with_reducible first | exact HB.out | apply below_alloc | apply pw_below_drewN | apply below_drew1) | exact HB.out)))); have n1_ := Aside0.mk (below_step (by repeat (first | (with_reducible first | exact HB.out | apply below_alloc | apply pw_below_drewN | apply below_drew1) | exact HB.out)) hb); clear HB; have HO413 := n0_; have HB := n1_; clear n0_ n1_; clear hb ho6))
        go_loopg [15] k (fun kq v15 w' => ∃ (x3_1 : List (List Int)) (x15_1 : Int), v15 = .int .i64 x15_1 ∧ Aside0 (impl_turn.l0 kq x3_1 l0 (l0.length : Int) x15_1 = some r) ∧ Aside0 (kq ≤ k) ∧ Aside0 (Kd.S (Kd.slice 3 (Kd.int .i64)) 24 w' w.heap.size (fun _ => True) v412 x3_1) ∧ Aside0 (Below w.heap.size w w'))
        case atStart => exact ⟨(y411), (0), (by first | rfl | (simp; done) | (simp [*]; done)), H', ⟨Nat.le_refl _⟩, ⟨by (with_reducible repeat (first | apply Kd.S_alloc | apply Kd.S_drewN | apply Kd.S_drew)); exact HO413.out⟩, ⟨by repeat (first | (with_reducible first | exact HB.out | apply below_alloc | apply pw_below_drewN | apply below_drew1) | exact HB.out)⟩⟩
        case round =>
          clear H'
          try clear c1
          try clear c2
          try clear c2b0
          try clear c2b1
          try clear p2
          try clear c3
          try clear c3b0
          try clear c3b1
          try clear c4
          try clear c4b0
          try clear c4b1
          try clear p4
          try clear q4
          try clear hx4
          try clear qi4
          try clear hx410_0
          try clear p410
          try clear q410
          obtain ⟨x3_1, x15_1, rfl, HA, HK1, HO_3, HB⟩ := hrel
          cases gk with
          | zero => exact absurd HA.out (by simp [impl_turn.l0])
          | succ k1 =>
            have H := HA.out
            clear HA
            simp only [impl_turn.l0] at H
            by_cases c7 : x15_1 < (l0.length : Int)
            · rw [if_pos c7] at H
              have c7b0 : decide (x15_1 < (l0.length : Int)) = true := decide_eq_true c7
              clear c7
              by_cases c8 : 0 ≤ x15_1
              · rw [if_pos c8] at H
                have c8b0 : decide (0 ≤ x15_1) = true := decide_eq_true c8
                clear c8
                by_cases c9 : x15_1 < (l0.length : Int)
                · rw [if_pos c9] at H
                  have c9b0 : decide (x15_1 < (l0.length : Int)) = true := decide_eq_true c9
                  clear c9
                  have H' := Aside0.mk H
                  clear H
                  have p414 : 0 ≤ (x15_1 : Int) := of_decide_eq_true (by first | (with_reducible assumption) | assumption)
                  have q414 : x15_1 < (l0.length : Int) := of_decide_eq_true (by first | (with_reducible assumption) | assumption)
                  obtain ⟨ad414, A414_0, c414_0, e414, hx414_0, hl414_0, hi414_0⟩ := at_L2 HR0.out x15_1 p414 q414
                  obtain rfl : ad410 = ad414 := (by injection e414)
                  replace hx414_0 := (HB.out.cell (World.block_lt_of_cell? w _ hx414_0)).trans hx414_0
                  have HR414_0 := Aside0.mk hi414_0
                  have HC414_0 := Aside0.mk hl414_0
                  clear hi414_0 hl414_0
                  replace p414 := eq_true p414
                  replace q414 := eq_true q414
                  go_wp2
                  go_loopg [21] k1 (fun kq v21 w' => ∃ (x3_2 : List (List Int)) (x21_2 : Int), v21 = .int .i64 x21_2 ∧ Aside0 (impl_turn.l1 kq x3_2 l0 (l0.length : Int) x15_1 (rd_L2 l0 x15_1) ((rd_L2 l0 x15_1).length : Int) x21_2 = some r) ∧ Aside0 (kq ≤ k1) ∧ Aside0 (Kd.S (Kd.slice 3 (Kd.int .i64)) 24 w' w.heap.size (fun _ => True) v412 x3_2) ∧ Aside0 (Below w.heap.size w w'))
                  case atStart => exact ⟨(x3_1), (0), (by first | rfl | (simp; done) | (simp [*]; done)), H', ⟨Nat.le_refl _⟩, ⟨by (with_reducible repeat (first | apply Kd.S_alloc | apply Kd.S_drewN | apply Kd.S_drew)); exact HO_3.out⟩, ⟨by repeat (first | (with_reducible first | exact HB.out | apply below_alloc | apply pw_below_drewN | apply below_drew1) | exact HB.out)⟩⟩
                  case round =>
                    clear H'
                    try clear c1
                    try clear c2
                    try clear c2b0
                    try clear c2b1
                    try clear p2
                    try clear c3
                    try clear c3b0
                    try clear c3b1
                    try clear c4
                    try clear c4b0
                    try clear c4b1
                    try clear p4
                    try clear q4
                    try clear hx4
                    try clear qi4
                    try clear c7
                    try clear c7b0
                    try clear c8
                    try clear c8b0
                    try clear c9
                    try clear c9b0
                    try clear hx410_0
                    try clear hx414_0
                    try clear p2
                    try clear p4
                    try clear p410
                    try clear p414
                    try clear q4
                    try clear q410
                    try clear q414
                    obtain ⟨x3_2, x21_2, rfl, HA, HK2, HO_3, HB⟩ := hrel
                    cases gk with
                    | zero => exact absurd HA.out (by simp [impl_turn.l1])
                    | succ k2 =>
                      have H := HA.out
                      clear HA
                      simp only [impl_turn.l1] at H
                      by_cases c10 : x21_2 < ((rd_L2 l0 x15_1).length : Int)
                      · rw [if_pos c10] at H
                        have c10b0 : decide (x21_2 < ((rd_L2 l0 x15_1).length : Int)) = true := decide_eq_true c10
                        clear c10
                        by_cases c11 : 0 ≤ x21_2
                        · rw [if_pos c11] at H
                          have c11b0 : decide (0 ≤ x21_2) = true := decide_eq_true c11
                          clear c11
                          by_cases c12 : x21_2 < ((rd_L2 l0 x15_1).length : Int)
                          · rw [if_pos c12] at H
                            have c12b0 : decide (x21_2 < ((rd_L2 l0 x15_1).length : Int)) = true := decide_eq_true c12
                            clear c12
                            by_cases c13 : x21_2 < (x3_2.length : Int)
                            · rw [if_pos c13] at H
                              have c13b0 : decide (x21_2 < (x3_2.length : Int)) = true := decide_eq_true c13
                              clear c13
                              by_cases c14 : (rd_L2 x3_2 x21_2).length < 17592186044416
                              · rw [if_pos c14] at H
                                have LMc14 := Aside0.mk c14
                                clear c14
                                obtain ⟨y417, hy417⟩ : ∃ y_ : List Int, y_ = ((rd_L2 x3_2 x21_2) ++ [rd (rd_L2 l0 x15_1) x21_2]) := ⟨_, rfl⟩
                                replace H : (impl_turn.l1 k2 (x3_2.set (x21_2 : Int).toNat y417) l0 (l0.length : Int) x15_1 (rd_L2 l0 x15_1) ((rd_L2 l0 x15_1).length : Int) (wrap64 (x21_2 + 1))) = some r := by first | (rw [hy417]; with_reducible exact H) | (have H2_ := (Option.bind_some _ _).symm.trans H; rw [hy417]; with_reducible exact H2_) | (have H2_ := (Option.bind_some _ _).symm.trans H; with_reducible exact H2_) | with_reducible exact H | (rw [hy417]; exact H) | exact H
                                have Ny417 := Aside0.mk hy417
                                clear hy417
                                obtain ⟨y420, hy420⟩ : ∃ y_ : List (List Int), y_ = (x3_2.set (x21_2 : Int).toNat y417) := ⟨_, rfl⟩
                                replace H : (impl_turn.l1 k2 y420 l0 (l0.length : Int) x15_1 (rd_L2 l0 x15_1) ((rd_L2 l0 x15_1).length : Int) (wrap64 (x21_2 + 1))) = some r := by first | (rw [hy420]; with_reducible exact H) | (have H2_ := (Option.bind_some _ _).symm.trans H; rw [hy420]; with_reducible exact H2_) | (have H2_ := (Option.bind_some _ _).symm.trans H; with_reducible exact H2_) | with_reducible exact H | (rw [hy420]; exact H) | exact H
                                have Ny420 := Aside0.mk hy420
                                clear hy420
                                have H' := Aside0.mk H
                                clear H
                                have p415 : 0 ≤ (x21_2 : Int) := of_decide_eq_true (by first | (with_reducible assumption) | assumption)
                                have q415 : x21_2 < ((rd_L2 l0 x15_1).length : Int) := of_decide_eq_true (by first | (with_reducible assumption) | assumption)
                                obtain ⟨ad415, e415, hx415_0⟩ := Kd.at_int HR414_0.out x21_2 p415 q415
                                cases e415
                                replace hx415_0 := (HB.out.cell (World.block_lt_of_cell? w _ hx415_0)).trans hx415_0
                                replace p415 := eq_true p415
                                replace q415 := eq_true q415
                                obtain ⟨Ao16, co16, eo16⟩ := Kd.S_slice HO_3.out
                                subst eo16
                                have p416 : 0 ≤ (x21_2 : Int) := of_decide_eq_true (by first | (with_reducible assumption) | assumption)
                                have q416 : x21_2 < (x3_2.length : Int) := of_decide_eq_true (by first | (with_reducible assumption) | assumption)
                                obtain ⟨ad416, A416_0, c416_0, e416, hx416_0, hl416_0, hi416_0⟩ := at_L2 (Kd.S_reads' HO_3.out).2.2 x21_2 p416 q416
                                cases e416
                                obtain ⟨ce416, hce416, hMe416, hcc416⟩ := Kd.S_get HO_3.out [] x21_2 p416 (by first | exact q416 | exact of_decide_eq_true (by first | (with_reducible assumption) | assumption) | (have e_ := (Kd.S_reads' HO_3.out).1; omega))
                                obtain ⟨ve416_0, rfl, ge416_0⟩ := hMe416
                                have hv416_0 := hcc416 0 _ rfl
                                rw [Nat.add_zero, show ((Kd.slice 3 (Kd.int .i64))).sz = 1 from rfl, Nat.mul_one] at hv416_0
                                replace hv416_0 := Option.some.inj (hv416_0.symm.trans hx416_0)
                                rw [hv416_0] at ge416_0
                                have HL416_0 := Aside0.mk (show Kd.R (Kd.int .i64) 3 _ _ _ _ (rd_L2 x3_2 x21_2) from ge416_0)
                                clear hv416_0 ge416_0
                                have HX416_0 := Aside0.mk hx416_0
                                clear hcc416 hce416
                                have HR416_0 := Aside0.mk hi416_0
                                have HC416_0 := Aside0.mk hl416_0
                                clear hi416_0 hl416_0
                                replace p416 := eq_true p416
                                replace q416 := eq_true q416
                                obtain ⟨go17, co17, eo17, gb17, gl17, cl17, HG17⟩ := Kd.S_form HO_3.out (by have h_ : (x21_2 : Int) < ((x3_2.length : Int) : Int) := of_decide_eq_true (by first | (with_reducible assumption) | assumption); have h2_ : 0 ≤ (x21_2 : Int) := (of_decide_eq_true (by first | (with_reducible assumption) | assumption)); omega)
                                (first | cases eo17 | (injection eo17 with ea_ en_ ec_; (first | subst ea_ | (injection ea_ with ea_; subst ea_)); subst ec_; clear en_))
                                have GB17 := Aside0.mk gb17
                                have GG17 := Aside0.mk HG17
                                clear gb17 gl17 HG17
                                (first | simp only [add_plain] at hx416_0 | skip)
                                obtain ⟨oki17, ce17, hcl17, hM17, hcc17, _, _, hH17⟩ := Kd.S_elem HO_3.out [] (x21_2 : Int) (of_decide_eq_true (by first | (with_reducible assumption) | assumption)) (by have h_ : (x21_2 : Int) < ((x3_2.length : Int) : Int) := of_decide_eq_true (by first | (with_reducible assumption) | assumption); first | exact h_ | (have e_ := (Kd.S_reads' HO_3.out).1; omega) | simpa using h_)
                                obtain ⟨ve17_0, rfl, ge17_0⟩ := hM17
                                have hv17 := hcc17 0 _ rfl
                                have hX17 := HX416_0.out
                                (try simp only [add_plain] at hX17)
                                (try simp only [Nat.add_zero] at hv17)
                                (try rw [show ((Kd.slice 3 (Kd.int .i64))).sz = 1 from rfl, Nat.mul_one] at hv17)
                                replace hv17 := Option.some.inj (hv17.symm.trans hX17)
                                subst hv17
                                clear hX17 hcc17 hcl17
                                have UU17 := Aside0.mk (show Kd.R (Kd.int .i64) 3 _ w.heap.size oki17 (.slice A416_0 (rd_L2 x3_2 x21_2).length c416_0) (rd_L2 x3_2 x21_2) from ge17_0)
                                have HH17 := Aside0.mk hH17
                                have HN17 := Aside0.mk (Kd.S_reads' HO_3.out).1
                                clear hH17 ge17_0
                                go_wp2_with (first | ((with_reducible refine gate_builtin (b := .append) (xs := #[.tmp 31, .tmp 33]) rfl ?_); at_builtin; refine Kd.R_append (Kd.int .i64) (w0 := w) w.heap.size rfl (.tmp 31) (.tmp 33) 24 3 (.int .i64 0) 8 rfl Try.underlying24 info3 rfl (by decide) (by omega) (.slice A416_0 (rd_L2 x3_2 x21_2).length c416_0) (rd_L2 x3_2 x21_2) (rd (rd_L2 l0 x15_1) x21_2) [.int .i64 (rd (rd_L2 l0 x15_1) x21_2)] (fun k_ => oki17 k_ ∨ ((fun _ => True)) k_ ∧ wr.heap.size ≤ k_) (fun _ => False) rfl rfl ?aP (fun _ hk => hk.elim) ?aF ?aO ?aB ?aS ?aL ?_; (case aP => exact rfl); (case aB => exact (by repeat (first | (with_reducible first | exact HB.out | apply below_alloc | apply pw_below_drewN | apply below_drew1) | exact HB.out))); (case aF => exact (fun k_ hk => .inr ⟨trivial, hk⟩)); (case aO => exact (by (with_reducible repeat (first | apply Kd.R_alloc | apply Kd.R_drewN | apply Kd.R_drew)); exact Kd.R_mono UU17.out (fun _ hk => .inl hk))); (case aS => exact (below_size (by repeat (first | (with_reducible first | exact HB.out | apply below_alloc | apply pw_below_drewN | apply below_drew1) | exact HB.out)))); (case aL => have := LMc14.out; omega); intro v418 w18 ho hb hg hat; rw [← Ny417.out] at ho; have n0_ := Aside0.mk (hb); have n1_ := Aside0.mk (Kd.H_grown (Kd.H_widen (by repeat (first | exact HH17.out | refine Kd.H_alloc ?_ _ | refine Kd.H_drewN ?_ _ | refine Kd.H_drew ?_))) hg (fun k_ e_ => .inl (UU17.out.1 k_ e_))); have n2_ := Aside0.mk (ho); clear HB; clear HH17; clear HO_3; clear UU17; clear HL416_0; have HB := n0_; have HH17 := n1_; have HO419 := n2_; clear n0_ n1_ n2_; clear ho hb hg hat; have p15 : 0 ≤ (x21_2 : Int) := of_decide_eq_true (by first | (with_reducible assumption) | assumption); have q15 : (x21_2 : Int) < ((x3_2.length : Int) : Int) := of_decide_eq_true (by first | (with_reducible assumption) | assumption); replace p15 := eq_true p15; replace q15 := eq_true q15; obtain ⟨Ao21, co21, eo21⟩ := Kd.R_slice HO419.out; subst eo21; obtain ⟨_, _, hraw19, _, _, hcc19, _⟩ := Kd.H_raw HH17.out (of_decide_eq_true (by first | (with_reducible assumption) | assumption)) (by have h_ : (x21_2 : Int) < ((x3_2.length : Int) : Int) := of_decide_eq_true (by first | (with_reducible assumption) | assumption); first | exact h_ | (have e_ := (HN17.out); omega) | simpa using h_); obtain ⟨_, hfr19⟩ := Kd.H_at HH17.out (of_decide_eq_true (by first | (with_reducible assumption) | assumption)) (by have h_ : (x21_2 : Int) < ((x3_2.length : Int) : Int) := of_decide_eq_true (by first | (with_reducible assumption) | assumption); first | exact h_ | (have e_ := (HN17.out); omega) | simpa using h_); have hx19_0 := hcc19 0 _ rfl; have hf19_0 := hfr19 0; (try simp only [Nat.add_zero] at hx19_0 hf19_0); (try rw [show ((Kd.slice 3 (Kd.int .i64))).sz = 1 from rfl, Nat.mul_one] at hx19_0); (try rw [show ((Kd.slice 3 (Kd.int .i64))).sz = 1 from rfl, Nat.mul_one] at hf19_0); have HP19 := Kd.S_seg0 HH17.out (of_decide_eq_true (by first | (with_reducible assumption) | assumption)) (by have h_ : (x21_2 : Int) < ((x3_2.length : Int) : Int) := of_decide_eq_true (by first | (with_reducible assumption) | assumption); first | exact h_ | (have e_ := (HN17.out); omega) | simpa using h_) (seg := [.slice Ao21 y417.length co21]) (j := 0) (show 1 ≤ 1 from by decide) (x' := y417) (Kd.M_row HO419.out) (fun _ hk => hk); (try simp only [show ((Kd.slice 3 (Kd.int .i64))).sz = 1 from rfl, Nat.mul_one, Nat.add_zero] at HP19); clear hcc19 hfr19) | ((with_reducible refine gate_store (t := 24) (p := 35) rfl ?_); refine store_event (t := 24) (p := 35) (v := ?vo_w20) (w1 := (w18.setCell ⟨go17, (x21_2 : Int).toNat, none⟩ (.slice Ao21 y417.length co21))) ?hg ?ho ?hn ?hr ?_; (case ho => rfl); (case hg => rfl); (case hn => rfl); (case hr => first | (go_simp; done) | (go_simp; rfl)); intro w20 hw; have hg : w18.grownBy w20 (some go17) := (by rw [hw]; exact HP19.2); have hp_ : Kd.S (Kd.slice 3 (Kd.int .i64)) 24 w20 w.heap.size (fun _ => True) (.slice (some ⟨go17, 0, none⟩) x3_2.length co16) y420 := (by rw [hw, Ny420.out]; exact HP19.1); clear HP19; have n0_ := Aside0.mk ((by rw [hw]; exact below_set HB.out GB17.out : Below w.heap.size w w20)); have n1_ := Aside0.mk (hp_); clear HB; clear HO419; clear HH17; have HB := n0_; have HO_3 := n1_; clear n0_ n1_; clear hg hw hp_ hraw19))
                                go_roundg k2
                                case measure => have := HK1.out; have := HK2.out; omega
                                case rel => exact ⟨(y420), (wrap64 (x21_2 + 1)), (by first | rfl | (simp; done) | (simp [*]; done)), H', ⟨by have := HK1.out; have := HK2.out; omega⟩, ⟨by (with_reducible repeat (first | apply Kd.S_alloc | apply Kd.S_drewN | apply Kd.S_drew)); exact HO_3.out⟩, ⟨by repeat (first | (with_reducible first | exact HB.out | apply below_alloc | apply pw_below_drewN | apply below_drew1) | exact HB.out)⟩⟩
                              · rw [if_neg c14] at H
                                exact absurd H (by simp)
                            · rw [if_neg c13] at H
                              exact absurd H (by simp)
                          · rw [if_neg c12] at H
                            exact absurd H (by simp)
                        · rw [if_neg c11] at H
                          exact absurd H (by simp)
                      · rw [if_neg c10] at H
                        have c10b0 : decide (x21_2 < ((rd_L2 l0 x15_1).length : Int)) = false := decide_eq_false c10
                        clear c10
                        have H' := Aside0.mk H
                        clear H
                        go_wp2
                        go_roundg k2
                        case measure => have := HK1.out; have := HK2.out; omega
                        case rel => exact ⟨(x3_2), (wrap64 (x15_1 + 1)), (by first | rfl | (simp; done) | (simp [*]; done)), H', ⟨by have := HK1.out; have := HK2.out; omega⟩, ⟨by (with_reducible repeat (first | apply Kd.S_alloc | apply Kd.S_drewN | apply Kd.S_drew)); exact HO_3.out⟩, ⟨by repeat (first | (with_reducible first | exact HB.out | apply below_alloc | apply pw_below_drewN | apply below_drew1) | exact HB.out)⟩⟩
                · rw [if_neg c9] at H
                  exact absurd H (by simp)
              · rw [if_neg c8] at H
                exact absurd H (by simp)
            · rw [if_neg c7] at H
              have c7b0 : decide (x15_1 < (l0.length : Int)) = false := decide_eq_false c7
              clear c7
              obtain rfl := Option.some.inj H
              go_wp2
              go_ret
              exact ⟨_, by first | rfl | (simp [errW_none, errW_some] <;> rfl) | (simp [*, errW_none, errW_some] <;> rfl), by (with_reducible repeat (first | apply Kd.S_alloc | apply Kd.S_drewN | apply Kd.S_drew)); exact HO_3.out, by repeat (first | (with_reducible first | exact HB.out | apply below_alloc | apply pw_below_drewN | apply below_drew1) | exact HB.out)⟩
      · rw [if_neg c4] at H
        exact absurd H (by simp)
    · rw [if_neg c3] at H
      exact absurd H (by simp)
  · rw [if_neg c2] at H
    exact absurd H (by simp)

end Go.Proofs.Ytllnieknogficaa.K
namespace Go.Proofs.Ytllnieknogficaa.K
open Go.RowKit Go.Proofs.YtllnieknogficaaW.PrintWords Go.Proofs.YtllnieknogficaaW.PrintLast Go.Proofs.YtllnieknogficaaW.PrintMore
attribute [local go_sem] max2_int min2_int max_two min_two max_three min_three max_four min_four   -- for this text's walks alone
set_option linter.unusedVariables false
set_option linter.unusedSimpArgs false

/-! ### impl_TurnPlan: function 37 -/
def impl_TurnPlan.f (k : Nat) (l0 : List (List Int)) : Option ((List (List Int)) × Bool) := (impl_isPlan.f l0).bind fun t421 => (if t421 = true then ((impl_turn.f k l0).bind fun t422 => (some (t422, true))) else (some (([] : List (List Int)), false)))
theorem impl_TurnPlan.mono : ∀ a0 k, LeO (impl_TurnPlan.f k a0) (impl_TurnPlan.f (k + 1) a0) := by
  intro a0 k
  unfold impl_TurnPlan.f
  repeat' first
      | (with_reducible exact impl_turn.mono _ _)
      | (with_reducible exact LeO.refl _)
      | (with_reducible exact LeO.none _)
      | (with_reducible refine LeO.ite ?_ ?_)
      | (with_reducible refine LeO.bind ?_ (fun _ => ?_))
      | exact impl_turn.mono _ _
      | exact LeO.none _
      | refine LeO.ite ?_ ?_
      | refine LeO.bind ?_ (fun _ => ?_)
set_option maxHeartbeats 8000000 in
set_option maxRecDepth 100000 in
theorem impl_TurnPlan.calls (k : Nat) (A0 : Option Addr) (c0 : Nat) (l0 : List (List Int)) (r1 : List (List Int)) (r2 : Bool) (w : World) (hr0 : Kd.C (Kd.slice 3 (Kd.int .i64)) w A0 l0.length l0) (hc0 : l0.length ≤ c0) (h : impl_TurnPlan.f k l0 = some (r1, r2)) :
    Calls Try.prog 37 #[.slice A0 l0.length c0] w fun e w' => ∃ v0_ : Value, e = .returned (.tuple #[v0_, .bool r2]) ∧ Kd.S (Kd.slice 3 (Kd.int .i64)) 24 w' w.heap.size (fun _ => True) v0_ r1 ∧ Below w.heap.size w w' := by
  have HR0 := Aside0.mk hr0
  have HC0 := Aside0.mk hc0
  clear hr0 hc0
  have HB := Aside0.mk (Below.refl w.heap.size w)
  have H : ((impl_isPlan.f l0).bind fun t421 => (if t421 = true then ((impl_turn.f k l0).bind fun t422 => (some (t422, true))) else (some (([] : List (List Int)), false)))) = some (r1, r2) := h
  clear h
  replace H := Option.bind_eq_some_iff.mp H
  obtain ⟨t421, A20, H⟩ := H
  replace H : (if t421 = true then ((impl_turn.f k l0).bind fun t422 => (some (t422, true))) else (some (([] : List (List Int)), false))) = some (r1, r2) := H
  have A2 := Aside0.mk A20
  clear A20
  by_cases c3 : t421 = true
  · subst c3
    have H1 : ((impl_turn.f k l0).bind fun t422 => (some (t422, true))) = some (r1, r2) := by rw [if_pos rfl] at H; exact H
    clear H
    have H := H1
    clear H1
    replace H := Option.bind_eq_some_iff.mp H
    obtain ⟨t422, A40, H⟩ := H
    replace H : (some (t422, true)) = some (r1, r2) := H
    have A4 := Aside0.mk A40
    clear A40
    simp only [Option.some.injEq, Prod.mk.injEq] at H
    obtain ⟨rfl, rfl⟩ := H
    go_enter Try.func37, Try.ntmps37
    go_wp2_with (first | ((with_reducible refine gate_callee (f := 118) rfl ?_); refine goesL_ (some 5) rfl rfl Try.func118 (by kernel_rfl) rfl #[.slice A0 l0.length c0] rfl (by (try simp only [List.map_toArray, List.map_cons, List.map_nil]); first | done | rfl | (simp only [List.length_drop, List.length_take]; rfl)) ?_; (with_reducible refine (impl_isPlan.calls _ _ l0 true _ ?side1 ?side2 A2.out).mono ?_); (case side1 => repeat (first | exact HR0.out | (with_reducible refine Kd.C_alloc ?_ _) | (with_reducible refine Kd.C_drewN ?_ _) | (with_reducible refine Kd.C_drew ?_))); (case side2 => exact HC0.out); rintro e w5 ⟨rfl, hb⟩; refine ⟨_, rfl, ?_⟩; have n0_ := Aside0.mk (below_step (by repeat (first | (with_reducible first | exact HB.out | apply below_alloc | apply pw_below_drewN | apply below_drew1) | exact HB.out)) hb); clear HB; have HB := n0_; clear n0_; (try clear hb); (try clear hb2); (try clear hk); (try clear hi)) | ((with_reducible refine gate_callee (f := 127) rfl ?_); refine goesL_ (some 8) rfl rfl Try.func127 (by kernel_rfl) rfl #[.slice A0 l0.length c0] rfl (by (try simp only [List.map_toArray, List.map_cons, List.map_nil]); first | done | rfl | (simp only [List.length_drop, List.length_take]; rfl)) ?_; (with_reducible refine (impl_turn.calls k _ _ l0 t422 _ ?side1 ?side2 A4.out).mono ?_); (case side1 => repeat (first | exact (Kd.C_below HR0.out HB.out) | (with_reducible refine Kd.C_alloc ?_ _) | (with_reducible refine Kd.C_drewN ?_ _) | (with_reducible refine Kd.C_drew ?_))); (case side2 => exact HC0.out); rintro e w6 ⟨v423, rfl, ho0, hb⟩; refine ⟨_, rfl, ?_⟩; have n0_ := Aside0.mk (Kd.S_lower ho0 (below_size (by repeat (first | (with_reducible first | exact HB.out | apply below_alloc | apply pw_below_drewN | apply below_drew1) | exact HB.out)))); have n1_ := Aside0.mk (below_step (by repeat (first | (with_reducible first | exact HB.out | apply below_alloc | apply pw_below_drewN | apply below_drew1) | exact HB.out)) hb); clear HB; have HO424 := n0_; have HB := n1_; clear n0_ n1_; (try clear hb); (try clear hb2); (try clear hk); (try clear hi); (try clear ho0)))
    go_ret2
    exact ⟨_, by first | rfl | (simp [errW_none, errW_some] <;> rfl) | (simp [*, errW_none, errW_some] <;> rfl), by (with_reducible repeat (first | apply Kd.S_alloc | apply Kd.S_drewN | apply Kd.S_drew)); exact HO424.out, by repeat (first | (with_reducible first | exact HB.out | apply below_alloc | apply pw_below_drewN | apply below_drew1) | exact HB.out)⟩
  · replace c3 := Bool.eq_false_iff.mpr c3
    subst c3
    have H1 : (some (([] : List (List Int)), false)) = some (r1, r2) := by rw [if_neg (show ¬ (false = true) by decide)] at H; exact H
    clear H
    have H := H1
    clear H1
    simp only [Option.some.injEq, Prod.mk.injEq] at H
    obtain ⟨rfl, rfl⟩ := H
    go_enter Try.func37, Try.ntmps37
    go_wp2_with (first | ((with_reducible refine gate_callee (f := 118) rfl ?_); refine goesL_ (some 5) rfl rfl Try.func118 (by kernel_rfl) rfl #[.slice A0 l0.length c0] rfl (by (try simp only [List.map_toArray, List.map_cons, List.map_nil]); first | done | rfl | (simp only [List.length_drop, List.length_take]; rfl)) ?_; (with_reducible refine (impl_isPlan.calls _ _ l0 false _ ?side1 ?side2 A2.out).mono ?_); (case side1 => repeat (first | exact HR0.out | (with_reducible refine Kd.C_alloc ?_ _) | (with_reducible refine Kd.C_drewN ?_ _) | (with_reducible refine Kd.C_drew ?_))); (case side2 => exact HC0.out); rintro e w7 ⟨rfl, hb⟩; refine ⟨_, rfl, ?_⟩; have n0_ := Aside0.mk (below_step (by repeat (first | (with_reducible first | exact HB.out | apply below_alloc | apply pw_below_drewN | apply below_drew1) | exact HB.out)) hb); clear HB; have HB := n0_; clear n0_; (try clear hb); (try clear hb2); (try clear hk); (try clear hi)))
    go_ret2
    exact ⟨_, by first | rfl | (simp [errW_none, errW_some] <;> rfl) | (simp [*, errW_none, errW_some] <;> rfl), by first | exact Kd.S_nil _ _ _ _ _ | exact Kd.N_nil _ _ _ _ _ | exact Kd.V_nil _ _ _ _ _ | exact Kd.Q_nil _ _ _ _ _ | exact Kd.R_nil _ _ _ _ _, by repeat (first | (with_reducible first | exact HB.out | apply below_alloc | apply pw_below_drewN | apply below_drew1) | exact HB.out)⟩

end Go.Proofs.Ytllnieknogficaa.K
namespace Go.Proofs.Ytllnieknogficaa.K
open Go.RowKit Go.Proofs.YtllnieknogficaaW.PrintWords Go.Proofs.YtllnieknogficaaW.PrintLast Go.Proofs.YtllnieknogficaaW.PrintMore
attribute [local go_sem] max2_int min2_int max_two min_two max_three min_three max_four min_four   -- for this text's walks alone
set_option linter.unusedVariables false
set_option linter.unusedSimpArgs false

/-! ### spec_plColumn: function 126 -/
def spec_plColumn.l0 : Nat → Int → List Int → List (List Int) → Int → Int → Option (List Int)
  | 0, _, _, _, _, _ => none
  | k + 1, x1, x5, x8, x9, x10 => if x10 < x9 then (if 0 ≤ x10 then (if x10 < (x8.length : Int) then (if 0 ≤ x1 then (if x1 < ((rd_L2 x8 x10).length : Int) then (if x5.length < 17592186044416 then (spec_plColumn.l0 k x1 (x5 ++ [rd (rd_L2 x8 x10) x1]) x8 x9 (wrap64 (x10 + 1))) else (none)) else (none)) else (none)) else (none)) else (none)) else (some x5)
def spec_plColumn.f (k : Nat) (l0 : List (List Int)) (a1 : Int) : Option (List Int) := spec_plColumn.l0 k a1 ([] : List Int) l0 (l0.length : Int) 0
theorem spec_plColumn.mono_l : ∀ k, (∀ y0 y1 y2 y3 y4, LeO (spec_plColumn.l0 k y0 y1 y2 y3 y4) (spec_plColumn.l0 (k + 1) y0 y1 y2 y3 y4))
  | 0 => fun _ _ _ _ _ r h => by simp [spec_plColumn.l0] at h
  | k + 1 => by
    have ih0 := spec_plColumn.mono_l k
    · intro y0 y1 y2 y3 y4
      unfold spec_plColumn.l0
      repeat' first
      | (with_reducible exact ih0 _ _ _ _ _)
      | (with_reducible exact LeO.refl _)
      | (with_reducible exact LeO.none _)
      | (with_reducible refine LeO.ite ?_ ?_)
      | (with_reducible refine LeO.bind ?_ (fun _ => ?_))
      | exact ih0 _ _ _ _ _
      | exact LeO.none _
      | refine LeO.ite ?_ ?_
      | refine LeO.bind ?_ (fun _ => ?_)
theorem spec_plColumn.mono : ∀ a0 a1 k, LeO (spec_plColumn.f k a0 a1) (spec_plColumn.f (k + 1) a0 a1) := by
  intro a0 a1 k
  have ih0 := spec_plColumn.mono_l k
  unfold spec_plColumn.f
  repeat' first
      | (with_reducible exact ih0 _ _ _ _ _)
      | (with_reducible exact LeO.refl _)
      | (with_reducible exact LeO.none _)
      | (with_reducible refine LeO.ite ?_ ?_)
      | (with_reducible refine LeO.bind ?_ (fun _ => ?_))
      | exact ih0 _ _ _ _ _
      | exact LeO.none _
      | refine LeO.ite ?_ ?_
      | refine LeO.bind ?_ (fun _ => ?_)
set_option maxHeartbeats 8000000 in
set_option maxRecDepth 100000 in
theorem spec_plColumn.calls (k : Nat) (A0 : Option Addr) (c0 : Nat) (l0 : List (List Int)) (a1 : Int) (r : List Int) (w : World) (hr0 : Kd.C (Kd.slice 3 (Kd.int .i64)) w A0 l0.length l0) (hc0 : l0.length ≤ c0) (h : spec_plColumn.f k l0 a1 = some r) :
    Calls Try.prog 126 #[.slice A0 l0.length c0, .int .i64 a1] w fun e w' => ∃ v0_ : Value, e = .returned (v0_) ∧ Kd.R (Kd.int .i64) 3 w' w.heap.size (fun _ => True) v0_ r ∧ Below w.heap.size w w' := by
  have HR0 := Aside0.mk hr0
  have HC0 := Aside0.mk hc0
  clear hr0 hc0
  have HB := Aside0.mk (Below.refl w.heap.size w)
  have H : (spec_plColumn.l0 k a1 ([] : List Int) l0 (l0.length : Int) 0) = some r := h
  clear h
  have H' := Aside0.mk H
  clear H
  go_enter Try.func126, Try.ntmps126
  go_wp2
  go_loopg [5, 10] k (fun kq v5 v10 w' => ∃ (x5_1 : List Int) (x10_1 : Int), v10 = .int .i64 x10_1 ∧ Aside0 (spec_plColumn.l0 kq a1 x5_1 l0 (l0.length : Int) x10_1 = some r) ∧ Aside0 (kq ≤ k) ∧ Aside0 (Kd.R (Kd.int .i64) 3 w' w.heap.size (fun _ => True) v5 x5_1) ∧ Aside0 (Below w.heap.size w w'))
  case atStart => exact ⟨(([] : List Int)), (0), (by first | rfl | (simp; done) | (simp [*]; done)), H', ⟨Nat.le_refl _⟩, ⟨by first | exact Kd.R_nil _ _ _ _ _ | exact Kd.N_nil _ _ _ _ _ | exact Kd.V_nil _ _ _ _ _ | exact Kd.Q_nil _ _ _ _ _ | exact Kd.S_nil _ _ _ _ _⟩, ⟨by repeat (first | (with_reducible first | exact HB.out | apply below_alloc | apply pw_below_drewN | apply below_drew1) | exact HB.out)⟩⟩
  case round =>
    clear H'
    try clear c1
    try clear p2
    obtain ⟨x5_1, x10_1, rfl, HA, HK1, HO_5, HB⟩ := hrel
    cases gk with
    | zero => exact absurd HA.out (by simp [spec_plColumn.l0])
    | succ k1 =>
      have H := HA.out
      clear HA
      simp only [spec_plColumn.l0] at H
      by_cases c3 : x10_1 < (l0.length : Int)
      · rw [if_pos c3] at H
        have c3b0 : decide (x10_1 < (l0.length : Int)) = true := decide_eq_true c3
        clear c3
        by_cases c4 : 0 ≤ x10_1
        · rw [if_pos c4] at H
          have c4b0 : decide (0 ≤ x10_1) = true := decide_eq_true c4
          clear c4
          by_cases c5 : x10_1 < (l0.length : Int)
          · rw [if_pos c5] at H
            have c5b0 : decide (x10_1 < (l0.length : Int)) = true := decide_eq_true c5
            clear c5
            by_cases c6 : 0 ≤ a1
            · rw [if_pos c6] at H
              have c6b0 : decide (0 ≤ a1) = true := decide_eq_true c6
              clear c6
              by_cases c7 : a1 < ((rd_L2 l0 x10_1).length : Int)
              · rw [if_pos c7] at H
                have c7b0 : decide (a1 < ((rd_L2 l0 x10_1).length : Int)) = true := decide_eq_true c7
                clear c7
                by_cases c8 : x5_1.length < 17592186044416
                · rw [if_pos c8] at H
                  have LMc8 := Aside0.mk c8
                  clear c8
                  obtain ⟨y387, hy387⟩ : ∃ y_ : List Int, y_ = (x5_1 ++ [rd (rd_L2 l0 x10_1) a1]) := ⟨_, rfl⟩
                  replace H : (spec_plColumn.l0 k1 a1 y387 l0 (l0.length : Int) (wrap64 (x10_1 + 1))) = some r := by first | (rw [hy387]; with_reducible exact H) | (have H2_ := (Option.bind_some _ _).symm.trans H; rw [hy387]; with_reducible exact H2_) | (have H2_ := (Option.bind_some _ _).symm.trans H; with_reducible exact H2_) | with_reducible exact H | (rw [hy387]; exact H) | exact H
                  have Ny387 := Aside0.mk hy387
                  clear hy387
                  have H' := Aside0.mk H
                  clear H
                  have p385 : 0 ≤ (x10_1 : Int) := of_decide_eq_true (by first | (with_reducible assumption) | assumption)
                  have q385 : x10_1 < (l0.length : Int) := of_decide_eq_true (by first | (with_reducible assumption) | assumption)
                  obtain ⟨ad385, A385_0, c385_0, e385, hx385_0, hl385_0, hi385_0⟩ := at_L2 HR0.out x10_1 p385 q385
                  cases e385
                  replace hx385_0 := (HB.out.cell (World.block_lt_of_cell? w _ hx385_0)).trans hx385_0
                  have HR385_0 := Aside0.mk hi385_0
                  have HC385_0 := Aside0.mk hl385_0
                  clear hi385_0 hl385_0
                  replace p385 := eq_true p385
                  replace q385 := eq_true q385
                  have p386 : 0 ≤ (a1 : Int) := of_decide_eq_true (by first | (with_reducible assumption) | assumption)
                  have q386 : a1 < ((rd_L2 l0 x10_1).length : Int) := of_decide_eq_true (by first | (with_reducible assumption) | assumption)
                  obtain ⟨ad386, e386, hx386_0⟩ := Kd.at_int HR385_0.out a1 p386 q386
                  cases e386
                  replace hx386_0 := (HB.out.cell (World.block_lt_of_cell? w _ hx386_0)).trans hx386_0
                  replace p386 := eq_true p386
                  replace q386 := eq_true q386
                  go_wp2_with (first | ((with_reducible refine gate_builtin (b := .append) (xs := #[.tmp 14, .tmp 19]) rfl ?_); at_builtin; refine Kd.R_append (Kd.int .i64) (w0 := w) w.heap.size rfl (.tmp 14) (.tmp 19) 24 3 (.int .i64 0) 8 rfl Try.underlying24 info3 rfl (by decide) (by omega) u5 x5_1 (rd (rd_L2 l0 x10_1) a1) [.int .i64 (rd (rd_L2 l0 x10_1) a1)] (fun _ => True) (fun _ => False) rfl rfl ?aP (fun _ hk => hk.elim) ?aF ?aO ?aB ?aS ?aL ?_; (case aP => exact rfl); (case aB => exact (by repeat (first | (with_reducible first | exact HB.out | apply below_alloc | apply pw_below_drewN | apply below_drew1) | exact HB.out))); (case aF => exact (fun _ _ => trivial)); (case aO => exact (by (with_reducible repeat (first | apply Kd.R_alloc | apply Kd.R_drewN | apply Kd.R_drew)); exact HO_5.out)); (case aS => exact (below_size (by repeat (first | (with_reducible first | exact HB.out | apply below_alloc | apply pw_below_drewN | apply below_drew1) | exact HB.out)))); (case aL => have := LMc8.out; omega); intro v388 w9 ho hb hg hat; rw [← Ny387.out] at ho; have n0_ := Aside0.mk (hb); have n1_ := Aside0.mk (ho); clear HB; clear HO_5; have HB := n0_; have HO389 := n1_; clear n0_ n1_; clear ho hb hg hat))
                  go_roundg k1
                  case measure => have := HK1.out; omega
                  case rel => exact ⟨(y387), (wrap64 (x10_1 + 1)), (by first | rfl | (simp; done) | (simp [*]; done)), H', ⟨by have := HK1.out; omega⟩, ⟨by (with_reducible repeat (first | apply Kd.R_alloc | apply Kd.R_drewN | apply Kd.R_drew)); exact HO389.out⟩, ⟨by repeat (first | (with_reducible first | exact HB.out | apply below_alloc | apply pw_below_drewN | apply below_drew1) | exact HB.out)⟩⟩
                · rw [if_neg c8] at H
                  exact absurd H (by simp)
              · rw [if_neg c7] at H
                exact absurd H (by simp)
            · rw [if_neg c6] at H
              exact absurd H (by simp)
          · rw [if_neg c5] at H
            exact absurd H (by simp)
        · rw [if_neg c4] at H
          exact absurd H (by simp)
      · rw [if_neg c3] at H
        have c3b0 : decide (x10_1 < (l0.length : Int)) = false := decide_eq_false c3
        clear c3
        obtain rfl := Option.some.inj H
        go_wp2
        go_ret
        exact ⟨_, by first | rfl | (simp [errW_none, errW_some] <;> rfl) | (simp [*, errW_none, errW_some] <;> rfl), by (with_reducible repeat (first | apply Kd.R_alloc | apply Kd.R_drewN | apply Kd.R_drew)); exact HO_5.out, by repeat (first | (with_reducible first | exact HB.out | apply below_alloc | apply pw_below_drewN | apply below_drew1) | exact HB.out)⟩

end Go.Proofs.Ytllnieknogficaa.K
namespace Go.Proofs.Ytllnieknogficaa.K
open Go.RowKit Go.Proofs.YtllnieknogficaaW.PrintWords Go.Proofs.YtllnieknogficaaW.PrintLast Go.Proofs.YtllnieknogficaaW.PrintMore
attribute [local go_sem] max2_int min2_int max_two min_two max_three min_three max_four min_four   -- for this text's walks alone
set_option linter.unusedVariables false
set_option linter.unusedSimpArgs false

/-! ### spec_TurnPlan: function 35 -/
def spec_TurnPlan.l0 : Nat → List (List Int) → List (List Int) → Int → Int → Option ((List (List Int)) × Bool)
  | 0, _, _, _, _ => none
  | k + 1, x0, x4, x10, x11 => if x11 < x10 then ((spec_plColumn.f k x0 x11).bind fun t391 => (if x4.length < 5864062014805 then (spec_TurnPlan.l0 k x0 (x4 ++ [t391]) x10 (wrap64 (x11 + 1))) else (none))) else (some (x4, true))
def spec_TurnPlan.f (k : Nat) (l0 : List (List Int)) : Option ((List (List Int)) × Bool) := (spec_plGood.f k l0).bind fun t390 => (if t390 = true then (spec_TurnPlan.l0 k l0 ([] : List (List Int)) (l0.length : Int) 0) else (some (([] : List (List Int)), false)))
theorem spec_TurnPlan.mono_l : ∀ k, (∀ y0 y1 y2 y3, LeO (spec_TurnPlan.l0 k y0 y1 y2 y3) (spec_TurnPlan.l0 (k + 1) y0 y1 y2 y3))
  | 0 => fun _ _ _ _ r h => by simp [spec_TurnPlan.l0] at h
  | k + 1 => by
    have ih0 := spec_TurnPlan.mono_l k
    · intro y0 y1 y2 y3
      unfold spec_TurnPlan.l0
      repeat' first
      | (with_reducible exact ih0 _ _ _ _)
      | (with_reducible exact spec_plColumn.mono _ _ _)
      | (with_reducible exact spec_plGood.mono _ _)
      | (with_reducible exact LeO.refl _)
      | (with_reducible exact LeO.none _)
      | (with_reducible refine LeO.ite ?_ ?_)
      | (with_reducible refine LeO.bind ?_ (fun _ => ?_))
      | exact ih0 _ _ _ _
      | exact spec_plColumn.mono _ _ _
      | exact spec_plGood.mono _ _
      | exact LeO.none _
      | refine LeO.ite ?_ ?_
      | refine LeO.bind ?_ (fun _ => ?_)
theorem spec_TurnPlan.mono : ∀ a0 k, LeO (spec_TurnPlan.f k a0) (spec_TurnPlan.f (k + 1) a0) := by
  intro a0 k
  have ih0 := spec_TurnPlan.mono_l k
  unfold spec_TurnPlan.f
  repeat' first
      | (with_reducible exact ih0 _ _ _ _)
      | (with_reducible exact spec_plColumn.mono _ _ _)
      | (with_reducible exact spec_plGood.mono _ _)
      | (with_reducible exact LeO.refl _)
      | (with_reducible exact LeO.none _)
      | (with_reducible refine LeO.ite ?_ ?_)
      | (with_reducible refine LeO.bind ?_ (fun _ => ?_))
      | exact ih0 _ _ _ _
      | exact spec_plColumn.mono _ _ _
      | exact spec_plGood.mono _ _
      | exact LeO.none _
      | refine LeO.ite ?_ ?_
      | refine LeO.bind ?_ (fun _ => ?_)
set_option maxHeartbeats 8000000 in
set_option maxRecDepth 100000 in
theorem spec_TurnPlan.calls (k : Nat) (A0 : Option Addr) (c0 : Nat) (l0 : List (List Int)) (r1 : List (List Int)) (r2 : Bool) (w : World) (hr0 : Kd.C (Kd.slice 3 (Kd.int .i64)) w A0 l0.length l0) (hc0 : l0.length ≤ c0) (h : spec_TurnPlan.f k l0 = some (r1, r2)) :
    Calls Try.prog 35 #[.slice A0 l0.length c0] w fun e w' => ∃ v0_ : Value, e = .returned (.tuple #[v0_, .bool r2]) ∧ Kd.S (Kd.slice 3 (Kd.int .i64)) 24 w' w.heap.size (fun _ => True) v0_ r1 ∧ Below w.heap.size w w' := by
  have HR0 := Aside0.mk hr0
  have HC0 := Aside0.mk hc0
  clear hr0 hc0
  have HB := Aside0.mk (Below.refl w.heap.size w)
  have H : ((spec_plGood.f k l0).bind fun t390 => (if t390 = true then (spec_TurnPlan.l0 k l0 ([] : List (List Int)) (l0.length : Int) 0) else (some (([] : List (List Int)), false)))) = some (r1, r2) := h
  clear h
  replace H := Option.bind_eq_some_iff.mp H
  obtain ⟨t390, A20, H⟩ := H
  replace H : (if t390 = true then (spec_TurnPlan.l0 k l0 ([] : List (List Int)) (l0.length : Int) 0) else (some (([] : List (List Int)), false))) = some (r1, r2) := H
  have A2 := Aside0.mk A20
  clear A20
  by_cases c3 : t390 = true
  · subst c3
    have H1 : (spec_TurnPlan.l0 k l0 ([] : List (List Int)) (l0.length : Int) 0) = some (r1, r2) := by rw [if_pos rfl] at H; exact H
    clear H
    have H := H1
    clear H1
    have H' := Aside0.mk H
    clear H
    go_enter Try.func35, Try.ntmps35
    go_wp2_with (first | ((with_reducible refine gate_callee (f := 125) rfl ?_); refine goesL_ (some 7) rfl rfl Try.func125 (by kernel_rfl) rfl #[.slice A0 l0.length c0] rfl (by (try simp only [List.map_toArray, List.map_cons, List.map_nil]); first | done | rfl | (simp only [List.length_drop, List.length_take]; rfl)) ?_; (with_reducible refine (spec_plGood.calls k _ _ l0 true _ ?side1 ?side2 A2.out).mono ?_); (case side1 => repeat (first | exact HR0.out | (with_reducible refine Kd.C_alloc ?_ _) | (with_reducible refine Kd.C_drewN ?_ _) | (with_reducible refine Kd.C_drew ?_))); (case side2 => exact HC0.out); rintro e w' ⟨rfl, ⟨nd, rfl⟩⟩; refine ⟨_, rfl, ?_⟩))
    go_loopg [4, 11] k (fun kq v4 v11 w' => ∃ (x4_1 : List (List Int)) (x11_1 : Int), v11 = .int .i64 x11_1 ∧ Aside0 (spec_TurnPlan.l0 kq l0 x4_1 (l0.length : Int) x11_1 = some (r1, r2)) ∧ Aside0 (kq ≤ k) ∧ Aside0 (Kd.S (Kd.slice 3 (Kd.int .i64)) 24 w' w.heap.size (fun _ => True) v4 x4_1) ∧ Aside0 (Below w.heap.size w w'))
    case atStart => exact ⟨(([] : List (List Int))), (0), (by first | rfl | (simp; done) | (simp [*]; done)), H', ⟨Nat.le_refl _⟩, ⟨by first | exact Kd.S_nil _ _ _ _ _ | exact Kd.N_nil _ _ _ _ _ | exact Kd.V_nil _ _ _ _ _ | exact Kd.Q_nil _ _ _ _ _ | exact Kd.R_nil _ _ _ _ _⟩, ⟨by repeat (first | (with_reducible first | exact HB.out | apply below_alloc | apply pw_below_drewN | apply below_drew1) | exact HB.out)⟩⟩
    case round =>
      clear H'
      try clear c1
      try clear p2
      try clear c3
      obtain ⟨x4_1, x11_1, rfl, HA, HK1, HO_4, HB⟩ := hrel
      cases gk with
      | zero => exact absurd HA.out (by simp [spec_TurnPlan.l0])
      | succ k1 =>
        have H := HA.out
        clear HA
        simp only [spec_TurnPlan.l0] at H
        by_cases c4 : x11_1 < (l0.length : Int)
        · rw [if_pos c4] at H
          have c4b0 : decide (x11_1 < (l0.length : Int)) = true := decide_eq_true c4
          clear c4
          replace H := Option.bind_eq_some_iff.mp H
          obtain ⟨t391, A50, H⟩ := H
          replace H : (if x4_1.length < 5864062014805 then (spec_TurnPlan.l0 k1 l0 (x4_1 ++ [t391]) (l0.length : Int) (wrap64 (x11_1 + 1))) else (none)) = some (r1, r2) := H
          have A5 := Aside0.mk A50
          clear A50
          by_cases c6 : x4_1.length < 5864062014805
          · rw [if_pos c6] at H
            have LMc6 := Aside0.mk c6
            clear c6
            obtain ⟨y394, hy394⟩ : ∃ y_ : List (List Int), y_ = (x4_1 ++ [t391]) := ⟨_, rfl⟩
            replace H : (spec_TurnPlan.l0 k1 l0 y394 (l0.length : Int) (wrap64 (x11_1 + 1))) = some (r1, r2) := by first | (rw [hy394]; with_reducible exact H) | (have H2_ := (Option.bind_some _ _).symm.trans H; rw [hy394]; with_reducible exact H2_) | (have H2_ := (Option.bind_some _ _).symm.trans H; with_reducible exact H2_) | with_reducible exact H | (rw [hy394]; exact H) | exact H
            have Ny394 := Aside0.mk hy394
            clear hy394
            have H' := Aside0.mk H
            clear H
            go_wp2_with (first | ((with_reducible refine gate_callee (f := 126) rfl ?_); refine goesL_ (some 17) rfl rfl Try.func126 (by kernel_rfl) rfl #[.slice A0 l0.length c0, .int .i64 x11_1] rfl (by (try simp only [List.map_toArray, List.map_cons, List.map_nil]); first | done | rfl | (simp only [List.length_drop, List.length_take]; rfl)) ?_; (with_reducible refine (spec_plColumn.calls k1 _ _ l0 x11_1 t391 _ ?side1 ?side2 A5.out).mono ?_); (case side1 => repeat (first | exact (Kd.C_below HR0.out HB.out) | (with_reducible refine Kd.C_alloc ?_ _) | (with_reducible refine Kd.C_drewN ?_ _) | (with_reducible refine Kd.C_drew ?_))); (case side2 => exact HC0.out); rintro e w7 ⟨v392, rfl, ho0, hb⟩; refine ⟨_, rfl, ?_⟩; have n0_ := Aside0.mk (Kd.S_elder' (by (with_reducible repeat (first | apply Kd.S_alloc | apply Kd.S_drewN | apply Kd.S_drew)); exact HO_4.out) (Kd.R_base ho0) hb); have n1_ := Aside0.mk (Kd.R_lower ho0 (below_size (by repeat (first | (with_reducible first | exact HB.out | apply below_alloc | apply pw_below_drewN | apply below_drew1) | exact HB.out)))); have n2_ := Aside0.mk (below_step (by repeat (first | (with_reducible first | exact HB.out | apply below_alloc | apply pw_below_drewN | apply below_drew1) | exact HB.out)) hb); clear HO_4; clear HB; have HO_4 := n0_; have HO393 := n1_; have HB := n2_; clear n0_ n1_ n2_; (try clear hb); (try clear hb2); (try clear hk); (try clear hi); (try clear ho0); obtain ⟨Ao9, co9, eo9⟩ := Kd.R_slice HO393.out; subst eo9) | ((with_reducible refine gate_builtin (b := .append) (xs := #[.tmp 14, .tmp 18]) rfl ?_); at_builtin; refine Kd.S_append (Kd.slice 3 (Kd.int .i64)) (w0 := w) w.heap.size rfl (.tmp 14) (.tmp 18) 37 24 (.slice none 0 0) 24 rfl Try.underlying37 info24 rfl (by decide) (by omega) u4 x4_1 t391 [.slice Ao9 t391.length co9] (fun _ => True) (fun k_ => some k_ = (.slice Ao9 t391.length co9 : Value).ownBlock) rfl rfl ?aP (fun k_ hk_ => ((Kd.R_mono (ok' := fun k_ => ((fun _ => True)) k_ ∧ some k_ ≠ (u4 : Value).ownBlock) (Kd.R_apart' (HO393.out) (Kd.S_typed HO_4.out) (by decide)) (fun k_ hk => ⟨trivial, hk.2⟩))).1 k_ hk_.symm) ?aF ?aO ?aB ?aS ?aL ?_; (case aP => exact Kd.M_row (Kd.R_mono (Kd.R_tight rfl (Kd.R_mono (ok' := fun k_ => ((fun _ => True)) k_ ∧ some k_ ≠ (u4 : Value).ownBlock) (Kd.R_apart' (HO393.out) (Kd.S_typed HO_4.out) (by decide)) (fun k_ hk => ⟨trivial, hk.2⟩))) (fun _ h_ => h_))); (case aB => exact (by repeat (first | (with_reducible first | exact HB.out | apply below_alloc | apply pw_below_drewN | apply below_drew1) | exact HB.out))); (case aF => exact (fun _ _ => trivial)); (case aO => exact (by (with_reducible repeat (first | apply Kd.S_alloc | apply Kd.S_drewN | apply Kd.S_drew)); exact Kd.S_mono HO_4.out (fun k_ hk => ⟨trivial, fun e_ => hk.2 e_⟩))); (case aS => exact (below_size (by repeat (first | (with_reducible first | exact HB.out | apply below_alloc | apply pw_below_drewN | apply below_drew1) | exact HB.out)))); (case aL => have := LMc6.out; omega); intro v395 w8 ho hb hg hat; rw [← Ny394.out] at ho; have n0_ := Aside0.mk (hb); have n1_ := Aside0.mk (ho); clear HB; clear HO_4; clear HO393; have HB := n0_; have HO396 := n1_; clear n0_ n1_; clear ho hb hg hat))
            go_roundg k1
            case measure => have := HK1.out; omega
            case rel => exact ⟨(y394), (wrap64 (x11_1 + 1)), (by first | rfl | (simp; done) | (simp [*]; done)), H', ⟨by have := HK1.out; omega⟩, ⟨by (with_reducible repeat (first | apply Kd.S_alloc | apply Kd.S_drewN | apply Kd.S_drew)); exact HO396.out⟩, ⟨by repeat (first | (with_reducible first | exact HB.out | apply below_alloc | apply pw_below_drewN | apply below_drew1) | exact HB.out)⟩⟩
          · rw [if_neg c6] at H
            exact absurd H (by simp)
        · rw [if_neg c4] at H
          have c4b0 : decide (x11_1 < (l0.length : Int)) = false := decide_eq_false c4
          clear c4
          simp only [Option.some.injEq, Prod.mk.injEq] at H
          obtain ⟨rfl, rfl⟩ := H
          go_wp2
          go_ret2
          exact ⟨_, by first | rfl | (simp [errW_none, errW_some] <;> rfl) | (simp [*, errW_none, errW_some] <;> rfl), by (with_reducible repeat (first | apply Kd.S_alloc | apply Kd.S_drewN | apply Kd.S_drew)); exact HO_4.out, by repeat (first | (with_reducible first | exact HB.out | apply below_alloc | apply pw_below_drewN | apply below_drew1) | exact HB.out)⟩
  · replace c3 := Bool.eq_false_iff.mpr c3
    subst c3
    have H1 : (some (([] : List (List Int)), false)) = some (r1, r2) := by rw [if_neg (show ¬ (false = true) by decide)] at H; exact H
    clear H
    have H := H1
    clear H1
    simp only [Option.some.injEq, Prod.mk.injEq] at H
    obtain ⟨rfl, rfl⟩ := H
    go_enter Try.func35, Try.ntmps35
    go_wp2_with (first | ((with_reducible refine gate_callee (f := 125) rfl ?_); refine goesL_ (some 7) rfl rfl Try.func125 (by kernel_rfl) rfl #[.slice A0 l0.length c0] rfl (by (try simp only [List.map_toArray, List.map_cons, List.map_nil]); first | done | rfl | (simp only [List.length_drop, List.length_take]; rfl)) ?_; (with_reducible refine (spec_plGood.calls k _ _ l0 false _ ?side1 ?side2 A2.out).mono ?_); (case side1 => repeat (first | exact HR0.out | (with_reducible refine Kd.C_alloc ?_ _) | (with_reducible refine Kd.C_drewN ?_ _) | (with_reducible refine Kd.C_drew ?_))); (case side2 => exact HC0.out); rintro e w' ⟨rfl, ⟨nd, rfl⟩⟩; refine ⟨_, rfl, ?_⟩))
    go_ret2
    exact ⟨_, by first | rfl | (simp [errW_none, errW_some] <;> rfl) | (simp [*, errW_none, errW_some] <;> rfl), by first | exact Kd.S_nil _ _ _ _ _ | exact Kd.N_nil _ _ _ _ _ | exact Kd.V_nil _ _ _ _ _ | exact Kd.Q_nil _ _ _ _ _ | exact Kd.R_nil _ _ _ _ _, by repeat (first | (with_reducible first | exact HB.out | apply below_alloc | apply pw_below_drewN | apply below_drew1) | exact HB.out)⟩

end Go.Proofs.Ytllnieknogficaa.K
namespace Go.Proofs.Ytllnieknogficaa.K
open Go.RowKit Go.Proofs.YtllnieknogficaaW.PrintWords Go.Proofs.YtllnieknogficaaW.PrintLast Go.Proofs.YtllnieknogficaaW.PrintMore
attribute [local go_sem] max2_int min2_int max_two min_two max_three min_three max_four min_four   -- for this text's walks alone
set_option linter.unusedVariables false
set_option linter.unusedSimpArgs false
theorem colOf_succ (l : List (List Int)) (i j : Nat) (h : i < l.length) (hj : j < l[i].length) : colOf (l.take i) j ++ [l[i][j]] = colOf (l.take (i + 1)) j := by
  unfold colOf
  rw [List.take_succ_eq_append_getElem h, List.map_append, List.map_cons, List.map_nil, List.getD_eq_getElem?_getD, List.getElem?_eq_getElem hj]
  rfl
theorem plColumn_l0 (l : List (List Int)) (j : Nat) (hl : l.length ≤ 1048576) (hj : ∀ r ∈ l, j < r.length ∧ r.length ≤ 1048576) : ∀ d (i : Nat), i ≤ l.length → l.length - i = d →
    Ev (fun k => spec_plColumn.l0 k (j : Int) (colOf (l.take i) j) l (l.length : Int) (i : Int)) (colOf l j) := by
  intro d
  induction d with
  | zero =>
    intro i hi hd
    have : i = l.length := by omega
    subst this
    refine ev_succ ?_
    simp only [spec_plColumn.l0, if_neg (Int.lt_irrefl _), List.take_length]
    exact ev_now _ _ rfl
  | succ d ih =>
    intro i hi hd
    have hlt : i < l.length := by omega
    have hm := hj l[i] (List.getElem_mem hlt)
    have h1 : (i : Int) < (l.length : Int) := by omega
    have h2 : (0 : Int) ≤ (i : Int) := by omega
    have h3 : (0 : Int) ≤ (j : Int) := by omega
    have h4 : (j : Int) < (l[i].length : Int) := by omega
    have h5 : (colOf (l.take i) j).length < 17592186044416 := by rw [colOf_length, List.length_take]; omega
    refine ev_succ ?_
    simp only [spec_plColumn.l0, if_pos h1, if_pos h2, rdL_nat l i hlt, if_pos h3, if_pos h4, if_pos h5, rd_nat l[i] j hm.1, wrap64_nat_succ (show i < 9223372036854775807 by omega)]
    rw [colOf_succ l i j hlt hm.1]
    exact ih (i + 1) (by omega) (by omega)
theorem plColumn_ev (l : List (List Int)) (j : Nat) (hl : l.length ≤ 1048576) (hj : ∀ r ∈ l, j < r.length ∧ r.length ≤ 1048576) : Ev (fun k => spec_plColumn.f k l (j : Int)) (colOf l j) := by
  unfold spec_plColumn.f
  have := plColumn_l0 l j hl hj l.length 0 (by omega) (by omega)
  simpa [colOf] using this
theorem specTurn_l0 (l : List (List Int)) (hl : l.length ≤ 8) (hr : ∀ r ∈ l, r.length = l.length) : ∀ d (i : Nat), i ≤ l.length → l.length - i = d →
    Ev (fun k => spec_TurnPlan.l0 k l ((List.range i).map (colOf l)) (l.length : Int) (i : Int)) (turned l, true) := by
  intro d
  induction d with
  | zero =>
    intro i hi hd
    have : i = l.length := by omega
    subst this
    refine ev_succ ?_
    simp only [spec_TurnPlan.l0, if_neg (Int.lt_irrefl _)]
    exact ev_now _ _ rfl
  | succ d ih =>
    intro i hi hd
    have hlt : i < l.length := by omega
    have h1 : (i : Int) < (l.length : Int) := by omega
    have h5 : ((List.range i).map (colOf l)).length < 5864062014805 := by rw [List.length_map, List.length_range]; omega
    refine ev_succ ?_
    simp only [spec_TurnPlan.l0, if_pos h1, if_pos h5, wrap64_nat_succ (show i < 9223372036854775807 by omega)]
    refine Ev.bind (plColumn_ev l i (by omega) fun r hm => by have := hr r hm; omega) ?_
    have h6 : (List.range i).map (colOf l) ++ [colOf l i] = (List.range (i + 1)).map (colOf l) := by rw [List.range_succ, List.map_append]; rfl
    rw [h6]
    exact ih (i + 1) (by omega) (by omega)
theorem specTurnPlan_ev (l : List (List Int)) : Ev (fun k => spec_TurnPlan.f k l) (if planB l = true then (turned l, true) else ([], false)) := by
  unfold spec_TurnPlan.f
  refine Ev.bind (plGood_ev l) ?_
  cases h : planB l with
  | false => exact ev_now _ _ rfl
  | true =>
    obtain ⟨h1, h2, h3⟩ := (planB_iff l).1 h
    simp only [if_true]
    have := specTurn_l0 l h2 (fun r hr => (h3 r hr).1) l.length 0 (by omega) (by omega)
    simpa using this
/-- The table when row i has gone up to column j. -/
def turnAt (l : List (List Int)) (n i j : Nat) : List (List Int) := (List.range n).map fun q => if q < j then colOf (l.take (i + 1)) q else colOf (l.take i) q
theorem turnAt_length (l : List (List Int)) (n i j : Nat) : (turnAt l n i j).length = n := by simp [turnAt]
theorem turnAt_end (l : List (List Int)) (n i : Nat) : turnAt l n i n = turnAt l n (i + 1) 0 := by
  unfold turnAt
  refine List.map_congr_left fun q hq => ?_
  rw [if_pos (List.mem_range.1 hq), if_neg (by omega)]
theorem turnAt_step (l : List (List Int)) (n i j : Nat) (hi : i < l.length) (hj : j < n) (hr : j < l[i].length) : (turnAt l n i j).set j ((turnAt l n i j)[j]'(by rw [turnAt_length]; exact hj) ++ [l[i][j]]) = turnAt l n i (j + 1) := by
  refine List.ext_getElem (by simp [turnAt_length]) fun q h1 h2 => ?_
  rw [turnAt_length] at h2
  rw [List.getElem_set]
  split
  · rename_i he
    subst he
    simp only [turnAt, List.getElem_map, List.getElem_range, if_neg (Nat.lt_irrefl _), if_pos (Nat.lt_succ_self _)]
    exact colOf_succ l i j hi hr
  · rename_i he
    simp only [turnAt, List.getElem_map, List.getElem_range]
    by_cases hq : q < j
    · rw [if_pos hq, if_pos (by omega)]
    · rw [if_neg hq, if_neg (by omega)]
theorem implTurn_l1 (l : List (List Int)) (n i : Nat) (hn : n ≤ 8) (hl : l.length ≤ 8) (hi : i < l.length) (hr : l[i].length = n) (r : List (List Int)) (hnext : Ev (fun k => impl_turn.l0 k (turnAt l n (i + 1) 0) l (l.length : Int) ((i + 1 : Nat) : Int)) r) : ∀ d (j : Nat), j ≤ n → n - j = d →
    Ev (fun k => impl_turn.l1 k (turnAt l n i j) l (l.length : Int) (i : Int) l[i] (l[i].length : Int) (j : Int)) r := by
  intro d
  induction d with
  | zero =>
    intro j hj hd
    have : j = n := by omega
    subst this
    refine ev_succ ?_
    simp only [impl_turn.l1, hr, if_neg (Int.lt_irrefl _), wrap64_nat_succ (show i < 9223372036854775807 by omega)]
    rw [turnAt_end]
    exact hnext
  | succ d ih =>
    intro j hj hd
    have hjn : j < n := by omega
    have h1 : (j : Int) < (l[i].length : Int) := by omega
    have h2 : (0 : Int) ≤ (j : Int) := by omega
    have h3 : (j : Int) < ((turnAt l n i j).length : Int) := by rw [turnAt_length]; omega
    have hjt : j < (turnAt l n i j).length := by rw [turnAt_length]; exact hjn
    have h4 : ((turnAt l n i j)[j]).length < 17592186044416 := by
      simp only [turnAt, List.getElem_map, List.getElem_range, if_neg (Nat.lt_irrefl _), colOf_length, List.length_take]; omega
    refine ev_succ ?_
    simp only [impl_turn.l1, if_pos h1, if_pos h2, if_pos h3, rdL_nat _ j hjt, if_pos h4, Int.toNat_natCast, rd_nat l[i] j (show j < l[i].length by omega), wrap64_nat_succ (show j < 9223372036854775807 by omega), turnAt_step l n i j hi hjn (show j < l[i].length by omega)]
    exact ih (j + 1) (by omega) (by omega)
theorem implTurn_l0 (l : List (List Int)) (n : Nat) (hn : n ≤ 8) (hl : l.length ≤ 8) (hr : ∀ r ∈ l, r.length = n) : ∀ d (i : Nat), i ≤ l.length → l.length - i = d →
    Ev (fun k => impl_turn.l0 k (turnAt l n i 0) l (l.length : Int) (i : Int)) ((List.range n).map (colOf l)) := by
  intro d
  induction d with
  | zero =>
    intro i hi hd
    have : i = l.length := by omega
    subst this
    refine ev_succ ?_
    simp only [impl_turn.l0, if_neg (Int.lt_irrefl _)]
    refine ev_now _ _ ?_
    unfold turnAt
    refine List.map_congr_left fun q _ => ?_
    rw [if_neg (by omega), List.take_length]
  | succ d ih =>
    intro i hi hd
    have hlt : i < l.length := by omega
    have h1 : (i : Int) < (l.length : Int) := by omega
    have h2 : (0 : Int) ≤ (i : Int) := by omega
    refine ev_succ ?_
    simp only [impl_turn.l0, if_pos h1, if_pos h2, rdL_nat l i hlt]
    exact implTurn_l1 l n i hn hl hlt (hr _ (List.getElem_mem hlt)) _ (ih (i + 1) (by omega) (by omega)) n 0 (by omega) (by omega)
theorem implTurn_ev (l : List (List Int)) (n : Nat) (h0 : 0 < l.length) (hn : n ≤ 8) (hl : l.length ≤ 8) (hr : ∀ r ∈ l, r.length = n) : Ev (fun k => impl_turn.f k l) ((List.range n).map (colOf l)) := by
  unfold impl_turn.f
  have h1 : (0 : Int) < (l.length : Int) := by omega
  have hz : rd_L2 l 0 = l[0] := rdL_nat l 0 h0
  have h2 : (0 : Int) ≤ ((rd_L2 l 0).length : Int) := by omega
  have hl0 : (rd_L2 l 0).length = n := by rw [hz]; exact hr _ (List.getElem_mem h0)
  have h3 : n ≤ 11728124029610 := by omega
  simp only [if_pos h1, if_pos h2, hl0, Int.toNat_natCast, if_pos h3]
  have := implTurn_l0 l n hn hl hr l.length 0 (by omega) (by omega)
  have h4 : turnAt l n 0 0 = List.replicate n [] := by
    refine List.ext_getElem (by simp [turnAt_length]) fun q _ _ => ?_
    simp [turnAt, colOf]
  rw [h4] at this
  exact this
theorem implTurnPlan_ev (l : List (List Int)) : Ev (fun k => impl_TurnPlan.f k l) (if planB l = true then (turned l, true) else ([], false)) := by
  unfold impl_TurnPlan.f
  rw [isPlan_f]
  simp only [Option.bind_some]
  cases h : planB l with
  | false => exact ev_now _ _ rfl
  | true =>
    obtain ⟨h1, h2, h3⟩ := (planB_iff l).1 h
    simp only [if_true]
    exact Ev.bind (implTurn_ev l l.length (by omega) h2 h2 (fun r hr => (h3 r hr).1)) (ev_now _ _ rfl)
theorem tot_le_mul (n : Nat) (l : List (List Int)) (h : ∀ r ∈ l, r.length ≤ n) : laws_markIntSS.tot l ≤ l.length * n := by
  induction l with
  | nil => simp [laws_markIntSS.tot]
  | cons r t ih =>
    have h1 := h r (List.mem_cons_self ..)
    have h2 := ih (fun r hr => h r (List.mem_cons_of_mem _ hr))
    simp only [laws_markIntSS.tot, List.length_cons, Nat.succ_mul]
    omega
theorem plan_small (l : List (List Int)) (h : planB l = true) : l.length ≤ 8 ∧ (∀ r ∈ l, r.length ≤ 1099511627776) ∧ laws_markIntSS.tot l ≤ 1048576 := by
  obtain ⟨h1, h2, h3⟩ := (planB_iff l).1 h
  have := tot_le_mul 8 l (fun r hr => by rw [(h3 r hr).1]; exact h2)
  exact ⟨h2, fun r hr => by have := (h3 r hr).1; omega, by omega⟩
end Go.Proofs.Ytllnieknogficaa.K
namespace Go.Proofs.Ytllnieknogficaa.K
open Go.RowKit Go.Proofs.YtllnieknogficaaW.PrintWords Go.Proofs.YtllnieknogficaaW.PrintLast Go.Proofs.YtllnieknogficaaW.PrintMore
attribute [local go_sem] max2_int min2_int max_two min_two max_three min_three max_four min_four   -- for this text's walks alone
set_option linter.unusedVariables false
set_option linter.unusedSimpArgs false

/-! ### impl_Uncross: function 61 -/
def impl_Uncross.cross (k : Nat) (l : List (List Int)) : Option (Option (Int × Int × Int × Int)) := (impl_crossing.f k l).bind fun q => some (if q.2.2.2.2 = true then some (q.1, q.2.1, q.2.2.1, q.2.2.2.1) else none)
def impl_Uncross.f (k : Nat) (l0 : List (List Int)) : Option (List (List Int) × Int × Bool) :=
  (impl_isPlan.f l0).bind fun t => if t = true then ((impl_Uncross.cross k l0).bind fun q => match q with
    | some (a, b, c, d) => if uncOk l0 a b c d then uncEnd (fun s => impl_isPlan.f s) (fun s => impl_cost.f k s) l0 (uncT l0 a.toNat b.toNat c.toNat d.toNat (mn ((l0.getD a.toNat []).getD b.toNat 0) ((l0.getD c.toNat []).getD d.toNat 0))) else none
    | none => some ([], 0, false)) else some ([], 0, false)
theorem impl_Uncross.mono : ∀ a0 k, LeO (impl_Uncross.f k a0) (impl_Uncross.f (k + 1) a0) := by
  intro a0 k
  unfold impl_Uncross.f impl_Uncross.cross uncEnd
  repeat' first
    | (with_reducible exact impl_crossing.mono _ _)
    | (with_reducible exact impl_cost.mono _ _)
    | (with_reducible exact LeO.refl _)
    | (with_reducible exact LeO.none _)
    | (with_reducible refine LeO.ite ?_ ?_)
    | (with_reducible refine LeO.bind ?_ (fun _ => ?_))
    | split
theorem impl_Uncross.idn (W : World) (i j n : Int) : Calls Try.prog 156 #[.int .i64 i, .int .i64 j, .int .i64 n] W fun e w' => e = .returned (.int .i64 n) ∧ Drawn0 W w' := by
  go_enter Try.func156, Try.ntmps156
  go_wp2
  go_ret
  exact ⟨rfl, ⟨0, rfl⟩⟩
set_option maxHeartbeats 8000000 in
set_option maxRecDepth 100000 in
theorem impl_Uncross.calls (k : Nat) (A0 : Option Addr) (c0 : Nat) (l0 : List (List Int)) (r1 : List (List Int)) (r2 : Int) (r3 : Bool) (w : World) (hr0 : Kd.C (Kd.slice 3 (Kd.int .i64)) w A0 l0.length l0) (hc0 : l0.length ≤ c0) (h : impl_Uncross.f k l0 = some (r1, r2, r3)) :
    Calls Try.prog 61 #[.slice A0 l0.length c0] w fun e w' => ∃ v0_ : Value, e = .returned (.tuple #[v0_, .int .i64 r2, .bool r3]) ∧ Kd.S (Kd.slice 3 (Kd.int .i64)) 24 w' w.heap.size (fun _ => True) v0_ r1 ∧ Below w.heap.size w w' := by
  have hu := Try.underlying70
  have HR0 := Aside0.mk hr0
  have HC0 := Aside0.mk hc0
  unfold impl_Uncross.f at h
  obtain ⟨t1, h1, h2⟩ := Option.bind_eq_some_iff.mp h
  have H1 := Aside0.mk h1
  have H2 := Aside0.mk h2
  clear hr0 hc0 h h1 h2
  go_enter Try.func61, Try.ntmps61
  cases t1 with
  | false =>
    have H := H2.out
    rw [if_neg (by decide)] at H
    injection H with H
    injection H with e1 e2
    injection e2 with e2 e3
    subst e1 e2 e3
    clear H2
    go_wp2_with (go_at_call 118; (with_reducible refine (impl_isPlan.calls _ _ l0 false _ HR0.out HC0.out H1.out).mono ?_); rintro e w1 ⟨rfl, hb_⟩; have KW := Aside0.mk hb_; clear hb_; apply StopI)
    unfold Stop
    go_wp2
    go_ret3
    exact ⟨_, rfl, Kd.S_nil _ _ _ _ _, KW.out⟩
  | true =>
    have H := H2.out
    clear H2
    rw [if_pos rfl] at H
    obtain ⟨q, h3, h4⟩ := Option.bind_eq_some_iff.mp H
    have H3 := Aside0.mk h3
    have H4 := Aside0.mk h4
    clear H h3 h4
    go_wp2_with (go_at_call 118; (with_reducible refine (impl_isPlan.calls _ _ l0 true _ HR0.out HC0.out H1.out).mono ?_); rintro e w1 ⟨rfl, hb_⟩; have KW := Aside0.mk hb_; clear hb_; apply StopI)
    have H := H3.out
    unfold impl_Uncross.cross at H
    obtain ⟨⟨a, b, c, d, ok⟩, h5, h6⟩ := Option.bind_eq_some_iff.mp H
    have H5 := Aside0.mk h5
    have HR1 := Aside0.mk (Kd.C_below HR0.out KW.out)
    clear H H3 h5
    cases ok with
    | false =>
      rw [if_neg (by simp)] at h6
      injection h6 with h6
      subst h6
      have H := H4.out
      injection H with H
      injection H with e1 e2
      injection e2 with e2 e3
      subst e1 e2 e3
      clear H4
      unfold Stop
      go_wp2_with (go_at_call 141; (with_reducible refine (impl_crossing.calls k _ _ l0 a b c d false _ HR1.out HC0.out H5.out).mono ?_); rintro e w2 ⟨rfl, hb_⟩; have KW2 := Aside0.mk (below_step KW.out hb_); clear hb_)
      go_ret3
      refine ⟨_, rfl, Kd.S_nil _ _ _ _ _, ?_⟩
      repeat (first | exact KW2.out | apply below_alloc | apply pw_below_drewN | apply below_drew1)
    | true =>
      rw [if_pos rfl] at h6
      injection h6 with h6
      subst h6
      have H := H4.out
      clear H4
      simp only [] at H
      by_cases hok : uncOk l0 a b c d
      rotate_left
      · rw [if_neg hok] at H
        cases H
      rw [if_pos hok] at H
      have HH := Aside0.mk H
      clear H
      obtain ⟨hl8, hrows, a0, a1, b0, b1, c0', c1, d0, d1⟩ := hok
      obtain ⟨a, rfl⟩ : ∃ x : Nat, a = (x : Int) := ⟨a.toNat, by omega⟩
      obtain ⟨b, rfl⟩ : ∃ x : Nat, b = (x : Int) := ⟨b.toNat, by omega⟩
      obtain ⟨c, rfl⟩ : ∃ x : Nat, c = (x : Int) := ⟨c.toNat, by omega⟩
      obtain ⟨d, rfl⟩ : ∃ x : Nat, d = (x : Int) := ⟨d.toNat, by omega⟩
      obtain ⟨n, hn⟩ : ∃ n, l0.length = n := ⟨_, rfl⟩
      rw [hn] at a1 b1 c1 d1 hl8
      have HN := Aside0.mk hn
      have HROWS := Aside0.mk hrows
      clear hn hrows
      unfold Stop
      go_wp2_with (go_at_call 141; (with_reducible refine (impl_crossing.calls k _ _ l0 (a : Int) (b : Int) (c : Int) (d : Int) true _ HR1.out HC0.out H5.out).mono ?_); rintro e w2 ⟨rfl, hb_⟩; have KW2 := Aside0.mk (below_step KW.out hb_); clear hb_)
      obtain ⟨w3, hw3⟩ : ∃ w3, (w2.alloc (.cells #[.int .i64 (a : Int), .int .i64 (b : Int)] 70)).alloc (.cells #[.int .i64 (c : Int), .int .i64 (d : Int)] 70) = w3 := ⟨_, rfl⟩
      obtain ⟨bx, hbx⟩ : ∃ bx, w2.heap.size = bx := ⟨_, rfl⟩
      have BX := Aside0.mk (show w3.heap[bx]? = some (.cells #[.int .i64 (a : Int), .int .i64 (b : Int)] 70 (0, 0)) from by rw [← hw3, ← hbx]; exact blk_alloc (blk_new _ _) _)
      have BY := Aside0.mk (show w3.heap[bx + 1]? = some (.cells #[.int .i64 (c : Int), .int .i64 (d : Int)] 70 (0, 0)) from by rw [← hw3, ← hbx]; have h_ := blk_new (w2.alloc (.cells #[.int .i64 (a : Int), .int .i64 (b : Int)] 70)) (.cells #[.int .i64 (c : Int), .int .i64 (d : Int)] 70); have e_ : (w2.alloc (.cells #[.int .i64 (a : Int), .int .i64 (b : Int)] 70)).heap.size = w2.heap.size + 1 := (by show (w2.heap.push _).size = _; simp); rw [e_] at h_; exact h_)
      have KW3 := Aside0.mk (show Below w.heap.size w w3 from by rw [← hw3]; exact below_alloc (below_alloc KW2.out _) _)
      rw [hw3]
      rw [hbx]
      clear hw3 hbx
      refine (impl_mapped.calls (fun _ _ n => n) 156 #[] (by intro args w; rfl) _ _ l0 w3 (Kd.C_below HR0.out KW3.out) HC0.out (by have := HN.out; omega) (fun r hr => by have := HROWS.out r hr; have := HN.out; omega) (fun W i j n _ => impl_Uncross.idn W i j n)).mono ?_
      rintro e w4 ⟨v4, rfl, ho_, hb_⟩
      rw [mapped_id] at ho_
      have O4 := Aside0.mk (OwnSS.new ho_ KW3.out)
      have KW4 := Aside0.mk (below_step KW3.out hb_)
      have BX4 := Aside0.mk (blk_below BX.out hb_)
      have BY4 := Aside0.mk (blk_below BY.out hb_)
      have LX := Aside0.mk (blk_lt BX.out)
      have LY := Aside0.mk (blk_lt BY.out)
      clear ho_ hb_
      obtain ⟨A4, c4, e_, hle⟩ := O4.out.reads
      subst e_
      obtain ⟨g, cap, e_, _⟩ := Kd.S_form O4.out.s (by have := HN.out; omega)
      injection e_ with e1 e2 e3
      subst e1 e3
      clear e2
      have U := Aside0.mk (show UncSt w w4 w3.heap.size w4.heap.size g n c4 l0 bx (bx + 1) a b c d from ⟨by rw [← HN.out]; exact O4.out, KW4.out, BX4.out, BY4.out, LX.out, LY.out, HN.out, fun r hr => by rw [HROWS.out r hr]; exact HN.out⟩)
      have HLE := Aside0.mk hle
      clear hle O4 BX4 BY4
      have cxa : w4.cell? ⟨bx, 0, none⟩ = some (.int .i64 (a : Int)) := (blk_cell U.out.xx 0).trans rfl
      have cxb : w4.cell? ⟨bx, 1, none⟩ = some (.int .i64 (b : Int)) := (blk_cell U.out.xx 1).trans rfl
      have cyc : w4.cell? ⟨(bx + 1), 0, none⟩ = some (.int .i64 (c : Int)) := (blk_cell U.out.yy 0).trans rfl
      have cyd : w4.cell? ⟨(bx + 1), 1, none⟩ = some (.int .i64 (d : Int)) := (blk_cell U.out.yy 1).trans rfl
      have a2 : (a : Int) < (l0.length : Int) := by have := HN.out; omega
      have c2' : (c : Int) < (l0.length : Int) := by have := HN.out; omega
      obtain ⟨ad, Aa, ca, e_, ca1, ca2, ca3⟩ := at_L2 (Kd.C_below HR0.out KW4.out) (a : Int) a0 a2
      subst e_
      obtain ⟨ad', Ac, cc_, e_, cc1, cc2, cc3⟩ := at_L2 (Kd.C_below HR0.out KW4.out) (c : Int) c0' c2'
      injection e_ with e_
      subst e_
      rw [rdL_nat_getD] at ca1 ca3 cc1 cc3
      have rla : (l0.getD a []).length = n := row_of HN.out (fun r hr => by rw [HROWS.out r hr]; exact HN.out) a (by omega)
      have rlc : (l0.getD c []).length = n := row_of HN.out (fun r hr => by rw [HROWS.out r hr]; exact HN.out) c (by omega)
      rw [rla] at ca1 ca3
      rw [rlc] at cc1 cc3
      rw [Int.toNat_natCast] at ca1 cc1
      obtain ⟨ada, e_, cax⟩ := Kd.at_int ca3 (b : Int) b0 b1
      subst e_
      obtain ⟨adc, e_, ccx⟩ := Kd.at_int cc3 (d : Int) d0 d1
      subst e_
      rw [Int.toNat_natCast, rd_nat_getD] at cax ccx
      obtain ⟨x, hx⟩ : ∃ x, (l0.getD a []).getD b 0 = x := ⟨_, rfl⟩
      obtain ⟨y, hy⟩ : ∃ y, (l0.getD c []).getD d 0 = y := ⟨_, rfl⟩
      rw [hx] at cax
      rw [hy] at ccx
      obtain ⟨m, hm⟩ : ∃ m, mn x y = m := ⟨_, rfl⟩
      have hm_ : (if y < x then y else x) = m := hm
      have HX := Aside0.mk hx
      have HY := Aside0.mk hy
      have HM := Aside0.mk hm
      clear hx hy hm ca2 cc2 ca3 cc3 rla rlc
      rw [HN.out]
      go_wp2_with fail
      go_quiet (fail)
      have n_ := Aside0.mk (U.out.drewN nq)
      clear U cxa cxb cyc cyd cax ccx ca1 cc1
      have U := n_
      clear n_
      obtain ⟨W, hW⟩ : ∃ W, w4.drewN nq = W := ⟨_, rfl⟩
      rw [hW] at U ⊢
      clear hW
      have cxa : W.cell? ⟨bx, 0, none⟩ = some (.int .i64 (a : Int)) := (blk_cell U.out.xx 0).trans rfl
      have cxb : W.cell? ⟨bx, 1, none⟩ = some (.int .i64 (b : Int)) := (blk_cell U.out.xx 1).trans rfl
      have cyc : W.cell? ⟨(bx + 1), 0, none⟩ = some (.int .i64 (c : Int)) := (blk_cell U.out.yy 0).trans rfl
      have cyd : W.cell? ⟨(bx + 1), 1, none⟩ = some (.int .i64 (d : Int)) := (blk_cell U.out.yy 1).trans rfl
      obtain ⟨gi, ci, hc1, hc2, hfz, hput⟩ := U.out.drew.put a b (by omega) (by omega)
      obtain ⟨v, hv⟩ : ∃ v, (l0.getD a []).getD b 0 = v := ⟨_, rfl⟩
      have hc2' := hc2 v hv
      have HP := Aside0.mk (hput (wrap64 (v - m)))
      have HS := Aside0.mk (show put2 l0 a b (wrap64 (v - m)) = uncM l0 a b m from by rw [← hv]; rfl)
      clear hc2 hv hput
      go_wp2_with fail
      go_still_tail 12, (by kernel_rfl)
      change wpList _ _ _ _ _ W.drew
      obtain ⟨V, hV⟩ : ∃ V, W.drew = V := ⟨_, rfl⟩
      rw [hV] at hc1 hc2' hfz HP ⊢
      clear hV U cxa cxb cyc cyd
      refine store_event (t := 3) (p := 53) (v := ?vo_53) (w1 := V.setCell ⟨gi, b, none⟩ (.int .i64 (wrap64 (v - m)))) ?hg ?ho ?hn ?hr ?_
      case ho => rfl
      case hg => rfl
      case hn => rfl
      case hr => first | (go_simp; done) | (go_simp; rfl) | (go_simp; rw [i64_w])
      intro w60 hw
      have HW := Aside0.mk hw
      clear hw
      have n_ := Aside0.mk (show UncSt w w60 w3.heap.size w4.heap.size g n c4 (uncM l0 a b m) bx (bx + 1) a b c d from by rw [HW.out, ← HS.out]; exact HP.out)
      clear HP HS HW hc1 hc2' hfz
      have U := n_
      clear n_
      obtain ⟨S1, hS1⟩ : ∃ S1, uncM l0 a b m = S1 := ⟨_, rfl⟩
      rw [hS1] at U
      have HS1 := Aside0.mk hS1
      clear hS1
      have cxa : w60.cell? ⟨bx, 0, none⟩ = some (.int .i64 (a : Int)) := (blk_cell U.out.xx 0).trans rfl
      have cxb : w60.cell? ⟨bx, 1, none⟩ = some (.int .i64 (b : Int)) := (blk_cell U.out.xx 1).trans rfl
      have cyc : w60.cell? ⟨(bx + 1), 0, none⟩ = some (.int .i64 (c : Int)) := (blk_cell U.out.yy 0).trans rfl
      have cyd : w60.cell? ⟨(bx + 1), 1, none⟩ = some (.int .i64 (d : Int)) := (blk_cell U.out.yy 1).trans rfl
      obtain ⟨gi, ci, hc1, hc2, hfz, hput⟩ := U.out.drew.put c d (by omega) (by omega)
      obtain ⟨v, hv⟩ : ∃ v, (S1.getD c []).getD d 0 = v := ⟨_, rfl⟩
      have hc2' := hc2 v hv
      have HP := Aside0.mk (hput (wrap64 (v - m)))
      have HS := Aside0.mk (show put2 S1 c d (wrap64 (v - m)) = uncM S1 c d m from by rw [← hv]; rfl)
      clear hc2 hv hput
      go_wp2_with fail
      go_still_tail 12, (by kernel_rfl)
      change wpList _ _ _ _ _ w60.drew
      obtain ⟨V, hV⟩ : ∃ V, w60.drew = V := ⟨_, rfl⟩
      rw [hV] at hc1 hc2' hfz HP ⊢
      clear hV U cxa cxb cyc cyd
      refine store_event (t := 3) (p := 65) (v := ?vo_65) (w1 := V.setCell ⟨gi, d, none⟩ (.int .i64 (wrap64 (v - m)))) ?hg ?ho ?hn ?hr ?_
      case ho => rfl
      case hg => rfl
      case hn => rfl
      case hr => first | (go_simp; done) | (go_simp; rfl) | (go_simp; rw [i64_w])
      intro w61 hw
      have HW := Aside0.mk hw
      clear hw
      have n_ := Aside0.mk (show UncSt w w61 w3.heap.size w4.heap.size g n c4 (uncM S1 c d m) bx (bx + 1) a b c d from by rw [HW.out, ← HS.out]; exact HP.out)
      clear HP HS HW hc1 hc2' hfz
      have U := n_
      clear n_
      obtain ⟨S2, hS2⟩ : ∃ S2, uncM S1 c d m = S2 := ⟨_, rfl⟩
      rw [hS2] at U
      have HS2 := Aside0.mk hS2
      clear hS2
      have cxa : w61.cell? ⟨bx, 0, none⟩ = some (.int .i64 (a : Int)) := (blk_cell U.out.xx 0).trans rfl
      have cxb : w61.cell? ⟨bx, 1, none⟩ = some (.int .i64 (b : Int)) := (blk_cell U.out.xx 1).trans rfl
      have cyc : w61.cell? ⟨(bx + 1), 0, none⟩ = some (.int .i64 (c : Int)) := (blk_cell U.out.yy 0).trans rfl
      have cyd : w61.cell? ⟨(bx + 1), 1, none⟩ = some (.int .i64 (d : Int)) := (blk_cell U.out.yy 1).trans rfl
      obtain ⟨gi, ci, hc1, hc2, hfz, hput⟩ := U.out.drew.put a d (by omega) (by omega)
      obtain ⟨v, hv⟩ : ∃ v, (S2.getD a []).getD d 0 = v := ⟨_, rfl⟩
      have hc2' := hc2 v hv
      have HP := Aside0.mk (hput (wrap64 (v + m)))
      have HS := Aside0.mk (show put2 S2 a d (wrap64 (v + m)) = uncP S2 a d m from by rw [← hv]; rfl)
      clear hc2 hv hput
      go_wp2_with fail
      go_still_tail 12, (by kernel_rfl)
      change wpList _ _ _ _ _ w61.drew
      obtain ⟨V, hV⟩ : ∃ V, w61.drew = V := ⟨_, rfl⟩
      rw [hV] at hc1 hc2' hfz HP ⊢
      clear hV U cxa cxb cyc cyd
      refine store_event (t := 3) (p := 77) (v := ?vo_77) (w1 := V.setCell ⟨gi, d, none⟩ (.int .i64 (wrap64 (v + m)))) ?hg ?ho ?hn ?hr ?_
      case ho => rfl
      case hg => rfl
      case hn => rfl
      case hr => first | (go_simp; done) | (go_simp; rfl) | (go_simp; rw [i64_w])
      intro w62 hw
      have HW := Aside0.mk hw
      clear hw
      have n_ := Aside0.mk (show UncSt w w62 w3.heap.size w4.heap.size g n c4 (uncP S2 a d m) bx (bx + 1) a b c d from by rw [HW.out, ← HS.out]; exact HP.out)
      clear HP HS HW hc1 hc2' hfz
      have U := n_
      clear n_
      obtain ⟨S3, hS3⟩ : ∃ S3, uncP S2 a d m = S3 := ⟨_, rfl⟩
      rw [hS3] at U
      have HS3 := Aside0.mk hS3
      clear hS3
      have cxa : w62.cell? ⟨bx, 0, none⟩ = some (.int .i64 (a : Int)) := (blk_cell U.out.xx 0).trans rfl
      have cxb : w62.cell? ⟨bx, 1, none⟩ = some (.int .i64 (b : Int)) := (blk_cell U.out.xx 1).trans rfl
      have cyc : w62.cell? ⟨(bx + 1), 0, none⟩ = some (.int .i64 (c : Int)) := (blk_cell U.out.yy 0).trans rfl
      have cyd : w62.cell? ⟨(bx + 1), 1, none⟩ = some (.int .i64 (d : Int)) := (blk_cell U.out.yy 1).trans rfl
      obtain ⟨gi, ci, hc1, hc2, hfz, hput⟩ := U.out.drew.put c b (by omega) (by omega)
      obtain ⟨v, hv⟩ : ∃ v, (S3.getD c []).getD b 0 = v := ⟨_, rfl⟩
      have hc2' := hc2 v hv
      have HP := Aside0.mk (hput (wrap64 (v + m)))
      have HS := Aside0.mk (show put2 S3 c b (wrap64 (v + m)) = uncP S3 c b m from by rw [← hv]; rfl)
      clear hc2 hv hput
      go_wp2_with fail
      go_still_tail 12, (by kernel_rfl)
      change wpList _ _ _ _ _ w62.drew
      obtain ⟨V, hV⟩ : ∃ V, w62.drew = V := ⟨_, rfl⟩
      rw [hV] at hc1 hc2' hfz HP ⊢
      clear hV U cxa cxb cyc cyd
      refine store_event (t := 3) (p := 89) (v := ?vo_89) (w1 := V.setCell ⟨gi, b, none⟩ (.int .i64 (wrap64 (v + m)))) ?hg ?ho ?hn ?hr ?_
      case ho => rfl
      case hg => rfl
      case hn => rfl
      case hr => first | (go_simp; done) | (go_simp; rfl) | (go_simp; rw [i64_w])
      intro w63 hw
      have HW := Aside0.mk hw
      clear hw
      have n_ := Aside0.mk (show UncSt w w63 w3.heap.size w4.heap.size g n c4 (uncP S3 c b m) bx (bx + 1) a b c d from by rw [HW.out, ← HS.out]; exact HP.out)
      clear HP HS HW hc1 hc2' hfz
      have U := n_
      clear n_
      obtain ⟨S4, hS4⟩ : ∃ S4, uncP S3 c b m = S4 := ⟨_, rfl⟩
      rw [hS4] at U
      have HS4 := Aside0.mk hS4
      clear hS4
      have HEND := HH.out
      clear HH
      rw [show uncT l0 (a : Int).toNat (b : Int).toNat (c : Int).toNat (d : Int).toNat (mn ((l0.getD (a : Int).toNat []).getD (b : Int).toNat 0) ((l0.getD (c : Int).toNat []).getD (d : Int).toNat 0)) = S4 from by simp only [Int.toNat_natCast]; rw [HX.out, HY.out, HM.out]; unfold uncT; rw [HS1.out, HS2.out, HS3.out, HS4.out]] at HEND
      unfold uncEnd at HEND
      obtain ⟨t5, h7, h8⟩ := Option.bind_eq_some_iff.mp HEND
      have H7 := Aside0.mk h7
      have H8 := Aside0.mk h8
      clear HEND h7 h8
      have hnc := (Kd.S_reads' U.out.own.s).2.1
      have HNC := Aside0.mk hnc
      clear hnc
      have HPL := Aside0.mk (show Calls Try.prog 118 #[.slice (some ⟨g, 0, none⟩) n c4] w63 (fun e w' => e = .returned (.bool t5) ∧ Below w63.heap.size w63 w') from by have h_ := impl_isPlan.calls (some ⟨g, 0, none⟩) c4 S4 t5 w63 U.out.own.c (by rw [U.out.len]; exact HNC.out) H7.out; rwa [U.out.len] at h_)
      cases t5 with
      | false =>
        have H := H8.out
        rw [if_neg (by decide)] at H
        injection H with H
        injection H with e1 e2
        injection e2 with e2 e3
        subst e1 e2 e3
        clear H8
        go_wp2_with (go_at_call 118; (with_reducible refine HPL.out.mono ?_); rintro e w7 ⟨rfl, hb_⟩; have KW7 := Aside0.mk (below_step U.out.bel hb_); clear hb_)
        go_ret3
        exact ⟨_, rfl, Kd.S_nil _ _ _ _ _, KW7.out⟩
      | true =>
        have H := H8.out
        rw [if_pos rfl] at H
        obtain ⟨q1, h9, H⟩ := Option.bind_eq_some_iff.mp H
        obtain ⟨q2, h10, H⟩ := Option.bind_eq_some_iff.mp H
        injection H with H
        injection H with e1 e2
        injection e2 with e2 e3
        subst e1 e2 e3
        have H9 := Aside0.mk h9
        have H10 := Aside0.mk h10
        clear H8 h9 h10
        go_wp2_with (go_at_call 118; (with_reducible refine HPL.out.mono ?_); rintro e w7 ⟨rfl, hb_⟩; have OW7 := Aside0.mk (U.out.own.step hb_); have KW7 := Aside0.mk (below_step U.out.bel hb_); clear hb_; apply StopI)
        have HC1_ := Aside0.mk (show Calls Try.prog 119 #[.slice (some ad) n c0] w7 (fun e w' => e = .returned (.int .i64 q1) ∧ Below w7.heap.size w7 w') from by have h_ := impl_cost.calls k (some ad) c0 l0 q1 w7 (Kd.C_below HR0.out KW7.out) HC0.out H9.out; rwa [HN.out] at h_)
        unfold Stop
        go_wp2_with (go_at_call 119; (with_reducible refine HC1_.out.mono ?_); rintro e w8 ⟨rfl, hb_⟩; have OW8 := Aside0.mk (OW7.out.step hb_); have KW8 := Aside0.mk (below_step KW7.out hb_); clear hb_; apply StopI)
        have HC2_ := Aside0.mk (show Calls Try.prog 119 #[.slice (some ⟨g, 0, none⟩) n c4] w8 (fun e w' => e = .returned (.int .i64 q2) ∧ Below w8.heap.size w8 w') from by have h_ := impl_cost.calls k (some ⟨g, 0, none⟩) c4 S4 q2 w8 OW8.out.c (by rw [U.out.len]; exact HNC.out) H10.out; rwa [U.out.len] at h_)
        unfold Stop
        go_wp2_with (go_at_call 119; (with_reducible refine HC2_.out.mono ?_); rintro e w9 ⟨rfl, hb_⟩; have OW9 := Aside0.mk (OW8.out.step hb_); have KW9 := Aside0.mk (below_step KW8.out hb_); clear hb_)
        go_ret3
        exact ⟨_, rfl, Kd.S_mono OW9.out.s (fun _ _ => trivial), KW9.out⟩

end Go.Proofs.Ytllnieknogficaa.K
namespace Go.Proofs.Ytllnieknogficaa.K
open Go.RowKit Go.Proofs.YtllnieknogficaaW.PrintWords Go.Proofs.YtllnieknogficaaW.PrintLast Go.Proofs.YtllnieknogficaaW.PrintMore
attribute [local go_sem] max2_int min2_int max_two min_two max_three min_three max_four min_four   -- for this text's walks alone
set_option linter.unusedVariables false
set_option linter.unusedSimpArgs false

/-! ### spec_l1Least: function 152 -/
def spec_l1Least.f (a0 : Int) (a1 : Int) : Option (Int) := if a0 < a1 then (some a0) else (some a1)
set_option maxHeartbeats 8000000 in
set_option maxRecDepth 100000 in
theorem spec_l1Least.calls (a0 : Int) (a1 : Int) (r : Int) (w : World) (h : spec_l1Least.f a0 a1 = some r) :
    Calls Try.prog 152 #[.int .i64 a0, .int .i64 a1] w fun e w' => e = .returned (.int .i64 r) ∧ Drawn0 w w' := by
  have H : (if a0 < a1 then (some a0) else (some a1)) = some r := h
  clear h
  by_cases c3 : a0 < a1
  · rw [if_pos c3] at H
    have c3b0 : decide (a0 < a1) = true := decide_eq_true c3
    clear c3
    obtain rfl := Option.some.inj H
    go_enter Try.func152, Try.ntmps152
    go_wp2
    go_ret
    exact ⟨by first | rfl | (simp; done) | (simp [*]; done), by repeat (first | exact Drawn0.refl _ | apply Drawn0.step)⟩
  · rw [if_neg c3] at H
    have c3b0 : decide (a0 < a1) = false := decide_eq_false c3
    clear c3
    obtain rfl := Option.some.inj H
    go_enter Try.func152, Try.ntmps152
    go_wp2
    go_ret
    exact ⟨by first | rfl | (simp; done) | (simp [*]; done), by repeat (first | exact Drawn0.refl _ | apply Drawn0.step)⟩

end Go.Proofs.Ytllnieknogficaa.K
namespace Go.Proofs.Ytllnieknogficaa.K
open Go.RowKit Go.Proofs.YtllnieknogficaaW.PrintWords Go.Proofs.YtllnieknogficaaW.PrintLast Go.Proofs.YtllnieknogficaaW.PrintMore
attribute [local go_sem] max2_int min2_int max_two min_two max_three min_three max_four min_four   -- for this text's walks alone
set_option linter.unusedVariables false
set_option linter.unusedSimpArgs false

/-! ### spec_Uncross: function 60 -/
def spec_Uncross.cross (k : Nat) (l : List (List Int)) : Option (Option (Int × Int × Int × Int)) := (spec_plCrossing.f k l).bind fun q => if q.2 = true then (if 2 ≤ q.1.length then some (some ((rd_T70 q.1 0).f0, (rd_T70 q.1 0).f1, (rd_T70 q.1 1).f0, (rd_T70 q.1 1).f1)) else none) else some none
def spec_Uncross.f (k : Nat) (l0 : List (List Int)) : Option (List (List Int) × Int × Bool) :=
  (spec_plGood.f k l0).bind fun t => if t = true then ((spec_Uncross.cross k l0).bind fun q => match q with
    | some (a, b, c, d) => (spec_plOwn.f k l0).bind fun o => if uncOk l0 a b c d ∧ o = l0 then uncEnd (fun s => spec_plGood.f k s) (fun s => spec_plCost.f k s) l0 (uncT l0 a.toNat b.toNat c.toNat d.toNat (mn ((l0.getD a.toNat []).getD b.toNat 0) ((l0.getD c.toNat []).getD d.toNat 0))) else none
    | none => some ([], 0, false)) else some ([], 0, false)
theorem spec_Uncross.mono : ∀ a0 k, LeO (spec_Uncross.f k a0) (spec_Uncross.f (k + 1) a0) := by
  intro a0 k
  unfold spec_Uncross.f spec_Uncross.cross uncEnd
  repeat' first
    | (with_reducible exact spec_plCrossing.mono _ _)
    | (with_reducible exact spec_plGood.mono _ _)
    | (with_reducible exact spec_plOwn.mono _ _)
    | (with_reducible exact spec_plCost.mono _ _)
    | (with_reducible exact LeO.refl _)
    | (with_reducible exact LeO.none _)
    | (with_reducible refine LeO.ite ?_ ?_)
    | (with_reducible refine LeO.bind ?_ (fun _ => ?_))
    | split
set_option maxHeartbeats 8000000 in
set_option maxRecDepth 100000 in
theorem spec_Uncross.calls (k : Nat) (A0 : Option Addr) (c0 : Nat) (l0 : List (List Int)) (r1 : List (List Int)) (r2 : Int) (r3 : Bool) (w : World) (hr0 : Kd.C (Kd.slice 3 (Kd.int .i64)) w A0 l0.length l0) (hc0 : l0.length ≤ c0) (h : spec_Uncross.f k l0 = some (r1, r2, r3)) :
    Calls Try.prog 60 #[.slice A0 l0.length c0] w fun e w' => ∃ v0_ : Value, e = .returned (.tuple #[v0_, .int .i64 r2, .bool r3]) ∧ Kd.S (Kd.slice 3 (Kd.int .i64)) 24 w' w.heap.size (fun _ => True) v0_ r1 ∧ Below w.heap.size w w' := by
  have hu := Try.underlying70
  have HR0 := Aside0.mk hr0
  have HC0 := Aside0.mk hc0
  unfold spec_Uncross.f at h
  obtain ⟨t1, h1, h2⟩ := Option.bind_eq_some_iff.mp h
  have H1 := Aside0.mk h1
  have H2 := Aside0.mk h2
  clear hr0 hc0 h h1 h2
  go_enter Try.func60, Try.ntmps60
  cases t1 with
  | false =>
    have H := H2.out
    rw [if_neg (by decide)] at H
    injection H with H
    injection H with e1 e2
    injection e2 with e2 e3
    subst e1 e2 e3
    clear H2
    go_wp2_with (go_at_call 125; (with_reducible refine (spec_plGood.calls k _ _ l0 false _ HR0.out HC0.out H1.out).mono ?_); rintro e w1 ⟨rfl, hd_⟩; have KW := Aside0.mk hd_.below; clear hd_; apply StopI)
    unfold Stop
    go_wp2
    go_ret3
    exact ⟨_, rfl, Kd.S_nil _ _ _ _ _, KW.out⟩
  | true =>
    have H := H2.out
    clear H2
    rw [if_pos rfl] at H
    obtain ⟨q, h3, h4⟩ := Option.bind_eq_some_iff.mp H
    have H3 := Aside0.mk h3
    have H4 := Aside0.mk h4
    clear H h3 h4
    go_wp2_with (go_at_call 125; (with_reducible refine (spec_plGood.calls k _ _ l0 true _ HR0.out HC0.out H1.out).mono ?_); rintro e w1 ⟨rfl, hd_⟩; have KW := Aside0.mk hd_.below; clear hd_; apply StopI)
    have H := H3.out
    unfold spec_Uncross.cross at H
    obtain ⟨⟨cs, ok⟩, h5, h6⟩ := Option.bind_eq_some_iff.mp H
    have H5 := Aside0.mk h5
    have HR1 := Aside0.mk (Kd.C_below HR0.out KW.out)
    clear H H3 h5
    cases ok with
    | false =>
      rw [if_neg (by simp)] at h6
      injection h6 with h6
      subst h6
      have H := H4.out
      injection H with H
      injection H with e1 e2
      injection e2 with e2 e3
      subst e1 e2 e3
      clear H4
      unfold Stop
      go_wp2_with (go_at_call 140; (with_reducible refine (spec_plCrossing.calls k _ _ l0 cs false _ HR1.out HC0.out H5.out).mono ?_); rintro e w2 ⟨vc, rfl, ho_, hb_⟩; obtain ⟨Ac, cc, rfl⟩ := Kd.R_slice ho_; have KW2 := Aside0.mk (below_step KW.out hb_); clear hb_ ho_)
      go_ret3
      exact ⟨_, rfl, Kd.S_nil _ _ _ _ _, KW2.out⟩
    | true =>
      rw [if_pos rfl] at h6
      by_cases hlc : 2 ≤ cs.length
      rotate_left
      · rw [if_neg hlc] at h6
        cases h6
      rw [if_pos hlc] at h6
      obtain ⟨a, ha⟩ : ∃ a, (rd_T70 cs 0).f0 = a := ⟨_, rfl⟩
      obtain ⟨b, hb⟩ : ∃ b, (rd_T70 cs 0).f1 = b := ⟨_, rfl⟩
      obtain ⟨c, hc⟩ : ∃ c, (rd_T70 cs 1).f0 = c := ⟨_, rfl⟩
      obtain ⟨d, hd⟩ : ∃ d, (rd_T70 cs 1).f1 = d := ⟨_, rfl⟩
      rw [ha, hb, hc, hd] at h6
      have HA := Aside0.mk ha
      have HBb := Aside0.mk hb
      have HCc := Aside0.mk hc
      have HD := Aside0.mk hd
      have HLC := Aside0.mk hlc
      clear ha hb hc hd hlc
      injection h6 with h6
      subst h6
      have H := H4.out
      clear H4
      simp only [] at H
      obtain ⟨o, h13, Hn⟩ := Option.bind_eq_some_iff.mp H
      clear H
      by_cases hok : uncOk l0 a b c d ∧ o = l0
      rotate_left
      · rw [if_neg hok] at Hn
        cases Hn
      rw [if_pos hok] at Hn
      obtain ⟨hok, e_⟩ := hok
      rw [e_] at h13
      clear e_
      have H13 := Aside0.mk h13
      have HH := Aside0.mk Hn
      clear Hn h13
      obtain ⟨hl8, hrows, a0, a1, b0, b1, c0', c1, d0, d1⟩ := hok
      obtain ⟨a, rfl⟩ : ∃ x : Nat, a = (x : Int) := ⟨a.toNat, by omega⟩
      obtain ⟨b, rfl⟩ : ∃ x : Nat, b = (x : Int) := ⟨b.toNat, by omega⟩
      obtain ⟨c, rfl⟩ : ∃ x : Nat, c = (x : Int) := ⟨c.toNat, by omega⟩
      obtain ⟨d, rfl⟩ : ∃ x : Nat, d = (x : Int) := ⟨d.toNat, by omega⟩
      obtain ⟨n, hn⟩ : ∃ n, l0.length = n := ⟨_, rfl⟩
      rw [hn] at a1 b1 c1 d1 hl8
      have HN := Aside0.mk hn
      have HROWS := Aside0.mk hrows
      clear hn hrows
      unfold Stop
      go_wp2_with (go_at_call 140; (with_reducible refine (spec_plCrossing.calls k _ _ l0 cs true _ HR1.out HC0.out H5.out).mono ?_); rintro e w2 ⟨vc, rfl, ho_, hb_⟩; have OC := Aside0.mk ho_; have KW2 := Aside0.mk (below_step KW.out hb_); clear hb_ ho_; apply StopI)
      obtain ⟨gc, capc, e_, _⟩ := Kd.R_form OC.out (by have := HLC.out; omega)
      subst e_
      have hCC := (Kd.R_reads' OC.out).2.2
      obtain ⟨adc, e_, cf0, cf1⟩ := at_T70 hCC 0 (by omega) (by have := HLC.out; omega)
      injection e_ with e_
      subst e_
      obtain ⟨adc, e_, cg0, cg1⟩ := at_T70 hCC 1 (by omega) (by have := HLC.out; omega)
      injection e_ with e_
      subst e_
      rw [HA.out] at cf0
      rw [HBb.out] at cf1
      rw [HCc.out] at cg0
      rw [HD.out] at cg1
      have l1_ : (0 : Int) < (cs.length : Int) := by have := HLC.out; omega
      have l2_ : (1 : Int) < (cs.length : Int) := by have := HLC.out; omega
      have l3_ : 0 < cs.length := by have := HLC.out; omega
      have l4_ : decide (0 < (cs.length : Int)) = true := decide_eq_true l1_
      have l5_ : decide (0 < cs.length) = true := decide_eq_true l3_
      have KEEP := Aside0.mk (show ∀ w', Below w2.heap.size w2 w' → w'.cell? ⟨gc, 0, none⟩ = some (.int .i64 (a : Int)) ∧ w'.cell? ⟨gc, 1, none⟩ = some (.int .i64 (b : Int)) ∧ w'.cell? ⟨gc, 2, none⟩ = some (.int .i64 (c : Int)) ∧ w'.cell? ⟨gc, 3, none⟩ = some (.int .i64 (d : Int)) from fun w' hb_ => ⟨pw_cell_below hb_ cf0, pw_cell_below hb_ cf1, pw_cell_below hb_ cg0, pw_cell_below hb_ cg1⟩)
      unfold Stop
      go_upto_region 6 with (fail)
      go_cut [7, 8] from 21 to 27 (fun v7 v8 wx => ∃ (bx by_ : Nat), v7 = .pointer (some ⟨bx, 0, none⟩) ∧ v8 = .pointer (some ⟨by_, 0, none⟩) ∧ Aside0 (wx.heap[bx]? = some (.cells #[.int .i64 (a : Int), .int .i64 (b : Int)] 70 (0, 0))) ∧ Aside0 (wx.heap[by_]? = some (.cells #[.int .i64 (c : Int), .int .i64 (d : Int)] 70 (0, 0))) ∧ Aside0 (Below w2.heap.size w2 wx))
      case first =>
        go_region_held3 (fun w' => w'.cell? ⟨gc, 0, none⟩ = some (.int .i64 (a : Int)) ∧ w'.cell? ⟨gc, 1, none⟩ = some (.int .i64 (b : Int)) ∧ w'.cell? ⟨gc, 2, none⟩ = some (.int .i64 (c : Int)) ∧ w'.cell? ⟨gc, 3, none⟩ = some (.int .i64 (d : Int))) ((refine KEEP.out _ ?_; repeat (first | exact Below.refl _ _ | apply below_alloc | apply below_drew1 | apply pw_below_drewN | refine below_set ?_ (by first | exact Nat.le_refl _ | exact Nat.le_add_right _ _ | (simp; done) | (simp; omega))))) (fail)
        all_goals (go_wp2_with fail; go_meet; (case rel => exact ⟨_, _, rfl, rfl, ⟨by repeat (first | exact blk_newE (by simp only [size_alloc, size_drew]) | refine blk_drew ?_ | refine blk_alloc ?_ _)⟩, ⟨by repeat (first | exact blk_newE (by simp only [size_alloc, size_drew]) | refine blk_drew ?_ | refine blk_alloc ?_ _)⟩, ⟨by repeat (first | exact Below.refl _ _ | apply below_alloc | apply below_drew1 | apply pw_below_drewN)⟩⟩))
      case rest =>
      obtain ⟨bx, by_, rfl, rfl, BXC, BYC, KXC⟩ := hcut
      have KWC := Aside0.mk (below_step KW2.out KXC.out)
      clear KEEP cf0 cf1 cg0 cg1 l1_ l2_ l3_ l4_ l5_ hCC OC
      have cxa : wc.cell? ⟨bx, 0, none⟩ = some (.int .i64 (a : Int)) := (blk_cell BXC.out 0).trans rfl
      have cxb : wc.cell? ⟨bx, 1, none⟩ = some (.int .i64 (b : Int)) := (blk_cell BXC.out 1).trans rfl
      have cyc : wc.cell? ⟨by_, 0, none⟩ = some (.int .i64 (c : Int)) := (blk_cell BYC.out 0).trans rfl
      have cyd : wc.cell? ⟨by_, 1, none⟩ = some (.int .i64 (d : Int)) := (blk_cell BYC.out 1).trans rfl
      have a2 : (a : Int) < (l0.length : Int) := by have := HN.out; omega
      have c2' : (c : Int) < (l0.length : Int) := by have := HN.out; omega
      obtain ⟨ad, Aa, ca, e_, ca1, ca2, ca3⟩ := at_L2 (Kd.C_below HR0.out KWC.out) (a : Int) a0 a2
      subst e_
      obtain ⟨ad', Ac, cc_, e_, cc1, cc2, cc3⟩ := at_L2 (Kd.C_below HR0.out KWC.out) (c : Int) c0' c2'
      injection e_ with e_
      subst e_
      rw [rdL_nat_getD] at ca1 ca3 cc1 cc3
      have rla : (l0.getD a []).length = n := row_of HN.out (fun r hr => by rw [HROWS.out r hr]; exact HN.out) a (by omega)
      have rlc : (l0.getD c []).length = n := row_of HN.out (fun r hr => by rw [HROWS.out r hr]; exact HN.out) c (by omega)
      rw [rla] at ca1 ca3
      rw [rlc] at cc1 cc3
      rw [Int.toNat_natCast] at ca1 cc1
      obtain ⟨ada, e_, cax⟩ := Kd.at_int ca3 (b : Int) b0 b1
      subst e_
      obtain ⟨adc, e_, ccx⟩ := Kd.at_int cc3 (d : Int) d0 d1
      subst e_
      rw [Int.toNat_natCast, rd_nat_getD] at cax ccx
      obtain ⟨x, hx⟩ : ∃ x, (l0.getD a []).getD b 0 = x := ⟨_, rfl⟩
      obtain ⟨y, hy⟩ : ∃ y, (l0.getD c []).getD d 0 = y := ⟨_, rfl⟩
      rw [hx] at cax
      rw [hy] at ccx
      obtain ⟨m, hm⟩ : ∃ m, mn x y = m := ⟨_, rfl⟩
      have HLST := Aside0.mk (show spec_l1Least.f x y = some m from by rw [← hm]; unfold spec_l1Least.f mn; by_cases h1_ : x < y <;> by_cases h2_ : y < x <;> simp [h1_, h2_] <;> omega)
      have HX := Aside0.mk hx
      have HY := Aside0.mk hy
      have HM := Aside0.mk hm
      clear hx hy hm ca2 cc2 ca3 cc3 rla rlc
      rw [HN.out]
      go_wp2_with fail
      go_quiet ((go_at_call 152; (with_reducible refine (spec_l1Least.calls x y m _ HLST.out).mono ?_); rintro e w' ⟨rfl, ⟨nd, rfl⟩⟩; (try first | exact ⟨rfl, _, World.drewN_drewN _ _ _⟩ | exact ⟨rfl, _, Eq.trans (World.drewN_drewN _ _ _) (congrArg (World.drewN _) (Nat.add_assoc _ _ _))⟩)))
      have BX := Aside0.mk (blk_drewN BXC.out nq)
      have BY := Aside0.mk (blk_drewN BYC.out nq)
      have KW3 := Aside0.mk (pw_below_drewN KWC.out nq)
      obtain ⟨w3, hW⟩ : ∃ w3, wc.drewN nq = w3 := ⟨_, rfl⟩
      rw [hW] at BX BY KW3 ⊢
      clear hW cxa cxb cyc cyd cax ccx ca1 cc1
      have HOWN := Aside0.mk (show Calls Try.prog 153 #[.slice (some ad) n c0] w3 (fun e w' => ∃ v0_ : Value, e = .returned (v0_) ∧ Kd.S (Kd.slice 3 (Kd.int .i64)) 24 w' w3.heap.size (fun _ => True) v0_ l0 ∧ Below w3.heap.size w3 w') from by have h_ := spec_plOwn.calls k (some ad) c0 l0 l0 w3 (Kd.C_below HR0.out KW3.out) HC0.out H13.out; rwa [HN.out] at h_)
      go_wp2_with (go_at_call 153; (with_reducible refine HOWN.out.mono ?_); rintro e w4 ⟨v4, rfl, hpo_, hpb_⟩; have HPO := Aside0.mk hpo_; have HPB := Aside0.mk hpb_; clear hpo_ hpb_; apply StopI)
      have ho_ := HPO.out
      have hb_ := HPB.out
      clear HPO HPB
      have O4 := Aside0.mk (OwnSS.new ho_ KW3.out)
      have KW4 := Aside0.mk (below_step KW3.out hb_)
      have BX4 := Aside0.mk (blk_below BX.out hb_)
      have BY4 := Aside0.mk (blk_below BY.out hb_)
      have LX := Aside0.mk (blk_lt BX.out)
      have LY := Aside0.mk (blk_lt BY.out)
      clear ho_ hb_
      obtain ⟨A4, c4, e_, hle⟩ := O4.out.reads
      subst e_
      obtain ⟨g, cap, e_, _⟩ := Kd.S_form O4.out.s (by have := HN.out; omega)
      injection e_ with e1 e2 e3
      subst e1 e3
      clear e2
      have U := Aside0.mk (show UncSt w w4 w3.heap.size w4.heap.size g n c4 l0 bx by_ a b c d from ⟨by rw [← HN.out]; exact O4.out, KW4.out, BX4.out, BY4.out, LX.out, LY.out, HN.out, fun r hr => by rw [HROWS.out r hr]; exact HN.out⟩)
      have HLE := Aside0.mk hle
      clear hle O4 BX4 BY4
      rw [HN.out]
      unfold Stop
      have cxa : w4.cell? ⟨bx, 0, none⟩ = some (.int .i64 (a : Int)) := (blk_cell U.out.xx 0).trans rfl
      have cxb : w4.cell? ⟨bx, 1, none⟩ = some (.int .i64 (b : Int)) := (blk_cell U.out.xx 1).trans rfl
      have cyc : w4.cell? ⟨by_, 0, none⟩ = some (.int .i64 (c : Int)) := (blk_cell U.out.yy 0).trans rfl
      have cyd : w4.cell? ⟨by_, 1, none⟩ = some (.int .i64 (d : Int)) := (blk_cell U.out.yy 1).trans rfl
      obtain ⟨gi, ci, hc1, hc2, hfz, hput⟩ := U.out.drew.put a b (by omega) (by omega)
      obtain ⟨v, hv⟩ : ∃ v, (l0.getD a []).getD b 0 = v := ⟨_, rfl⟩
      have hc2' := hc2 v hv
      have HP := Aside0.mk (hput (wrap64 (v - m)))
      have HS := Aside0.mk (show put2 l0 a b (wrap64 (v - m)) = uncM l0 a b m from by rw [← hv]; rfl)
      clear hc2 hv hput
      go_wp2_with fail
      go_still_tail 12, (by kernel_rfl)
      change wpList _ _ _ _ _ w4.drew
      obtain ⟨V, hV⟩ : ∃ V, w4.drew = V := ⟨_, rfl⟩
      rw [hV] at hc1 hc2' hfz HP ⊢
      clear hV U cxa cxb cyc cyd
      refine store_event (t := 3) (p := 59) (v := ?vo_59) (w1 := V.setCell ⟨gi, b, none⟩ (.int .i64 (wrap64 (v - m)))) ?hg ?ho ?hn ?hr ?_
      case ho => rfl
      case hg => rfl
      case hn => rfl
      case hr => first | (go_simp; done) | (go_simp; rfl) | (go_simp; rw [i64_w])
      intro w60 hw
      have HW := Aside0.mk hw
      clear hw
      have n_ := Aside0.mk (show UncSt w w60 w3.heap.size w4.heap.size g n c4 (uncM l0 a b m) bx by_ a b c d from by rw [HW.out, ← HS.out]; exact HP.out)
      clear HP HS HW hc1 hc2' hfz
      have U := n_
      clear n_
      obtain ⟨S1, hS1⟩ : ∃ S1, uncM l0 a b m = S1 := ⟨_, rfl⟩
      rw [hS1] at U
      have HS1 := Aside0.mk hS1
      clear hS1
      have cxa : w60.cell? ⟨bx, 0, none⟩ = some (.int .i64 (a : Int)) := (blk_cell U.out.xx 0).trans rfl
      have cxb : w60.cell? ⟨bx, 1, none⟩ = some (.int .i64 (b : Int)) := (blk_cell U.out.xx 1).trans rfl
      have cyc : w60.cell? ⟨by_, 0, none⟩ = some (.int .i64 (c : Int)) := (blk_cell U.out.yy 0).trans rfl
      have cyd : w60.cell? ⟨by_, 1, none⟩ = some (.int .i64 (d : Int)) := (blk_cell U.out.yy 1).trans rfl
      obtain ⟨gi, ci, hc1, hc2, hfz, hput⟩ := U.out.drew.put c d (by omega) (by omega)
      obtain ⟨v, hv⟩ : ∃ v, (S1.getD c []).getD d 0 = v := ⟨_, rfl⟩
      have hc2' := hc2 v hv
      have HP := Aside0.mk (hput (wrap64 (v - m)))
      have HS := Aside0.mk (show put2 S1 c d (wrap64 (v - m)) = uncM S1 c d m from by rw [← hv]; rfl)
      clear hc2 hv hput
      go_wp2_with fail
      go_still_tail 12, (by kernel_rfl)
      change wpList _ _ _ _ _ w60.drew
      obtain ⟨V, hV⟩ : ∃ V, w60.drew = V := ⟨_, rfl⟩
      rw [hV] at hc1 hc2' hfz HP ⊢
      clear hV U cxa cxb cyc cyd
      refine store_event (t := 3) (p := 71) (v := ?vo_71) (w1 := V.setCell ⟨gi, d, none⟩ (.int .i64 (wrap64 (v - m)))) ?hg ?ho ?hn ?hr ?_
      case ho => rfl
      case hg => rfl
      case hn => rfl
      case hr => first | (go_simp; done) | (go_simp; rfl) | (go_simp; rw [i64_w])
      intro w61 hw
      have HW := Aside0.mk hw
      clear hw
      have n_ := Aside0.mk (show UncSt w w61 w3.heap.size w4.heap.size g n c4 (uncM S1 c d m) bx by_ a b c d from by rw [HW.out, ← HS.out]; exact HP.out)
      clear HP HS HW hc1 hc2' hfz
      have U := n_
      clear n_
      obtain ⟨S2, hS2⟩ : ∃ S2, uncM S1 c d m = S2 := ⟨_, rfl⟩
      rw [hS2] at U
      have HS2 := Aside0.mk hS2
      clear hS2
      have cxa : w61.cell? ⟨bx, 0, none⟩ = some (.int .i64 (a : Int)) := (blk_cell U.out.xx 0).trans rfl
      have cxb : w61.cell? ⟨bx, 1, none⟩ = some (.int .i64 (b : Int)) := (blk_cell U.out.xx 1).trans rfl
      have cyc : w61.cell? ⟨by_, 0, none⟩ = some (.int .i64 (c : Int)) := (blk_cell U.out.yy 0).trans rfl
      have cyd : w61.cell? ⟨by_, 1, none⟩ = some (.int .i64 (d : Int)) := (blk_cell U.out.yy 1).trans rfl
      obtain ⟨gi, ci, hc1, hc2, hfz, hput⟩ := U.out.drew.put a d (by omega) (by omega)
      obtain ⟨v, hv⟩ : ∃ v, (S2.getD a []).getD d 0 = v := ⟨_, rfl⟩
      have hc2' := hc2 v hv
      have HP := Aside0.mk (hput (wrap64 (v + m)))
      have HS := Aside0.mk (show put2 S2 a d (wrap64 (v + m)) = uncP S2 a d m from by rw [← hv]; rfl)
      clear hc2 hv hput
      go_wp2_with fail
      go_still_tail 12, (by kernel_rfl)
      change wpList _ _ _ _ _ w61.drew
      obtain ⟨V, hV⟩ : ∃ V, w61.drew = V := ⟨_, rfl⟩
      rw [hV] at hc1 hc2' hfz HP ⊢
      clear hV U cxa cxb cyc cyd
      refine store_event (t := 3) (p := 83) (v := ?vo_83) (w1 := V.setCell ⟨gi, d, none⟩ (.int .i64 (wrap64 (v + m)))) ?hg ?ho ?hn ?hr ?_
      case ho => rfl
      case hg => rfl
      case hn => rfl
      case hr => first | (go_simp; done) | (go_simp; rfl) | (go_simp; rw [i64_w])
      intro w62 hw
      have HW := Aside0.mk hw
      clear hw
      have n_ := Aside0.mk (show UncSt w w62 w3.heap.size w4.heap.size g n c4 (uncP S2 a d m) bx by_ a b c d from by rw [HW.out, ← HS.out]; exact HP.out)
      clear HP HS HW hc1 hc2' hfz
      have U := n_
      clear n_
      obtain ⟨S3, hS3⟩ : ∃ S3, uncP S2 a d m = S3 := ⟨_, rfl⟩
      rw [hS3] at U
      have HS3 := Aside0.mk hS3
      clear hS3
      have cxa : w62.cell? ⟨bx, 0, none⟩ = some (.int .i64 (a : Int)) := (blk_cell U.out.xx 0).trans rfl
      have cxb : w62.cell? ⟨bx, 1, none⟩ = some (.int .i64 (b : Int)) := (blk_cell U.out.xx 1).trans rfl
      have cyc : w62.cell? ⟨by_, 0, none⟩ = some (.int .i64 (c : Int)) := (blk_cell U.out.yy 0).trans rfl
      have cyd : w62.cell? ⟨by_, 1, none⟩ = some (.int .i64 (d : Int)) := (blk_cell U.out.yy 1).trans rfl
      obtain ⟨gi, ci, hc1, hc2, hfz, hput⟩ := U.out.drew.put c b (by omega) (by omega)
      obtain ⟨v, hv⟩ : ∃ v, (S3.getD c []).getD b 0 = v := ⟨_, rfl⟩
      have hc2' := hc2 v hv
      have HP := Aside0.mk (hput (wrap64 (v + m)))
      have HS := Aside0.mk (show put2 S3 c b (wrap64 (v + m)) = uncP S3 c b m from by rw [← hv]; rfl)
      clear hc2 hv hput
      go_wp2_with fail
      go_still_tail 12, (by kernel_rfl)
      change wpList _ _ _ _ _ w62.drew
      obtain ⟨V, hV⟩ : ∃ V, w62.drew = V := ⟨_, rfl⟩
      rw [hV] at hc1 hc2' hfz HP ⊢
      clear hV U cxa cxb cyc cyd
      refine store_event (t := 3) (p := 95) (v := ?vo_95) (w1 := V.setCell ⟨gi, b, none⟩ (.int .i64 (wrap64 (v + m)))) ?hg ?ho ?hn ?hr ?_
      case ho => rfl
      case hg => rfl
      case hn => rfl
      case hr => first | (go_simp; done) | (go_simp; rfl) | (go_simp; rw [i64_w])
      intro w63 hw
      have HW := Aside0.mk hw
      clear hw
      have n_ := Aside0.mk (show UncSt w w63 w3.heap.size w4.heap.size g n c4 (uncP S3 c b m) bx by_ a b c d from by rw [HW.out, ← HS.out]; exact HP.out)
      clear HP HS HW hc1 hc2' hfz
      have U := n_
      clear n_
      obtain ⟨S4, hS4⟩ : ∃ S4, uncP S3 c b m = S4 := ⟨_, rfl⟩
      rw [hS4] at U
      have HS4 := Aside0.mk hS4
      clear hS4
      have HEND := HH.out
      clear HH
      rw [show uncT l0 (a : Int).toNat (b : Int).toNat (c : Int).toNat (d : Int).toNat (mn ((l0.getD (a : Int).toNat []).getD (b : Int).toNat 0) ((l0.getD (c : Int).toNat []).getD (d : Int).toNat 0)) = S4 from by simp only [Int.toNat_natCast]; rw [HX.out, HY.out, HM.out]; unfold uncT; rw [HS1.out, HS2.out, HS3.out, HS4.out]] at HEND
      unfold uncEnd at HEND
      obtain ⟨t5, h7, h8⟩ := Option.bind_eq_some_iff.mp HEND
      have H7 := Aside0.mk h7
      have H8 := Aside0.mk h8
      clear HEND h7 h8
      have hnc := (Kd.S_reads' U.out.own.s).2.1
      have HNC := Aside0.mk hnc
      clear hnc
      have HPL := Aside0.mk (show Calls Try.prog 125 #[.slice (some ⟨g, 0, none⟩) n c4] w63 (fun e w' => e = .returned (.bool t5) ∧ Drawn0 w63 w') from by have h_ := spec_plGood.calls k (some ⟨g, 0, none⟩) c4 S4 t5 w63 U.out.own.c (by rw [U.out.len]; exact HNC.out) H7.out; rwa [U.out.len] at h_)
      cases t5 with
      | false =>
        have H := H8.out
        rw [if_neg (by decide)] at H
        injection H with H
        injection H with e1 e2
        injection e2 with e2 e3
        subst e1 e2 e3
        clear H8
        go_wp2_with (go_at_call 125; (with_reducible refine HPL.out.mono ?_); rintro e w7 ⟨rfl, hb_⟩; have KW7 := Aside0.mk (below_step U.out.bel hb_.below); clear hb_)
        go_ret3
        exact ⟨_, rfl, Kd.S_nil _ _ _ _ _, KW7.out⟩
      | true =>
        have H := H8.out
        rw [if_pos rfl] at H
        obtain ⟨q1, h9, H⟩ := Option.bind_eq_some_iff.mp H
        obtain ⟨q2, h10, H⟩ := Option.bind_eq_some_iff.mp H
        injection H with H
        injection H with e1 e2
        injection e2 with e2 e3
        subst e1 e2 e3
        have H9 := Aside0.mk h9
        have H10 := Aside0.mk h10
        clear H8 h9 h10
        go_wp2_with (go_at_call 125; (with_reducible refine HPL.out.mono ?_); rintro e w7 ⟨rfl, hb_⟩; have OW7 := Aside0.mk (U.out.own.step hb_.below); have KW7 := Aside0.mk (below_step U.out.bel hb_.below); clear hb_; apply StopI)
        have HC1_ := Aside0.mk (show Calls Try.prog 154 #[.slice (some ad) n c0] w7 (fun e w' => e = .returned (.int .i64 q1) ∧ Drawn0 w7 w') from by have h_ := spec_plCost.calls k (some ad) c0 l0 q1 w7 (Kd.C_below HR0.out KW7.out) HC0.out H9.out; rwa [HN.out] at h_)
        unfold Stop
        go_wp2_with (go_at_call 154; (with_reducible refine HC1_.out.mono ?_); rintro e w8 ⟨rfl, hb_⟩; have OW8 := Aside0.mk (OW7.out.step hb_.below); have KW8 := Aside0.mk (below_step KW7.out hb_.below); clear hb_; apply StopI)
        have HC2_ := Aside0.mk (show Calls Try.prog 154 #[.slice (some ⟨g, 0, none⟩) n c4] w8 (fun e w' => e = .returned (.int .i64 q2) ∧ Drawn0 w8 w') from by have h_ := spec_plCost.calls k (some ⟨g, 0, none⟩) c4 S4 q2 w8 OW8.out.c (by rw [U.out.len]; exact HNC.out) H10.out; rwa [U.out.len] at h_)
        unfold Stop
        go_wp2_with (go_at_call 154; (with_reducible refine HC2_.out.mono ?_); rintro e w9 ⟨rfl, hb_⟩; have OW9 := Aside0.mk (OW8.out.step hb_.below); have KW9 := Aside0.mk (below_step KW8.out hb_.below); clear hb_)
        go_ret3
        exact ⟨_, rfl, Kd.S_mono OW9.out.s (fun _ _ => trivial), KW9.out⟩

end Go.Proofs.Ytllnieknogficaa.K
namespace Go.Proofs.Ytllnieknogficaa.K
open Go.RowKit Go.Proofs.YtllnieknogficaaW.PrintWords Go.Proofs.YtllnieknogficaaW.PrintLast Go.Proofs.YtllnieknogficaaW.PrintMore
attribute [local go_sem] max2_int min2_int max_two min_two max_three min_three max_four min_four   -- for this text's walks alone
set_option linter.unusedVariables false
set_option linter.unusedSimpArgs false
theorem rowFrom_some {β : Type} (P : Nat → Option β) (n j : Nat) (b : β) (h : rowFrom P n j = some b) : ∃ q, j ≤ q ∧ q < n ∧ P q = some b := by
  unfold rowFrom at h
  obtain ⟨q, hq, hp⟩ := List.exists_of_findSome?_eq_some h
  obtain ⟨i, hi, e⟩ := List.mem_iff_getElem.1 hq
  rw [List.getElem_drop, List.getElem_range] at e
  rw [List.length_drop, List.length_range] at hi
  exact ⟨q, by omega, by omega, hp⟩
/-- A crossing's two cells. -/
theorem crossOf_facts (l : List (List Int)) (x : Int × Int × Int × Int) (h : crossOf l = some x) : ∃ a b c d : Nat, x = ((a : Int), (b : Int), (c : Int), (d : Int)) ∧ a < c ∧ c < l.length ∧ d < b ∧ b < l.length ∧ at_ l a b ≠ 0 ∧ 0 < at_ l c d := by
  obtain ⟨a, _, ha, h1⟩ := rowFrom_some _ _ _ _ h
  obtain ⟨b, _, hb, h2⟩ := rowFrom_some _ _ _ _ h1
  by_cases hz : at_ l a b = 0
  · rw [if_pos hz] at h2; cases h2
  rw [if_neg hz] at h2
  obtain ⟨c, hc1, hc2, h3⟩ := rowFrom_some _ _ _ _ h2
  obtain ⟨d, _, hd, h4⟩ := rowFrom_some _ _ _ _ h3
  by_cases hp : at_ l c d > 0
  · rw [if_pos hp] at h4
    injection h4 with h4
    exact ⟨a, b, c, d, h4.symm, by omega, hc2, hd, hb, hz, hp⟩
  · rw [if_neg hp] at h4; cases h4
def uncS (l : List (List Int)) (x : Int × Int × Int × Int) : List (List Int) := uncT l x.1.toNat x.2.1.toNat x.2.2.1.toNat x.2.2.2.toNat (mn (at_ l x.1.toNat x.2.1.toNat) (at_ l x.2.2.1.toNat x.2.2.2.toNat))
/-- What uncrossing comes to. -/
def uncR (l : List (List Int)) : List (List Int) × Int × Bool :=
  if planB l = true then (match crossOf l with
    | some x => if planB (uncS l x) = true then (uncS l x, wrap64 (costZ l - costZ (uncS l x)), true) else ([], 0, false)
    | none => ([], 0, false)) else ([], 0, false)
theorem implUncross_ev (l : List (List Int)) : Ev (fun k => impl_Uncross.f k l) (uncR l) := by
  unfold impl_Uncross.f uncR
  rw [isPlan_f]
  simp only [Option.bind_some]
  cases h : planB l with
  | false => exact ev_now _ _ rfl
  | true =>
    obtain ⟨h1, h2, h3⟩ := (planB_iff l).1 h
    simp only [if_true]
    unfold impl_Uncross.cross
    have hcr : Ev (fun k => (impl_crossing.f k l).bind fun q => some (if q.2.2.2.2 = true then some (q.1, q.2.1, q.2.2.1, q.2.2.2.1) else none)) (crossOf l) := by
      refine Ev.bind (crossing_ev l h2 (fun r hr => (h3 r hr).1)) ?_
      refine ev_now _ _ ?_
      cases crossOf l with
      | none => rfl
      | some x => rfl
    refine Ev.bind hcr ?_
    cases hx : crossOf l with
    | none => exact ev_now _ _ rfl
    | some x =>
      obtain ⟨a, b, c, d, rfl, k1, k2, k3, k4, _, _⟩ := crossOf_facts l x hx
      have hok : uncOk l a b c d := ⟨h2, fun r hr => (h3 r hr).1, by omega, by omega, by omega, by omega, by omega, by omega, by omega, by omega⟩
      simp only [if_pos hok]
      show Ev (fun k => uncEnd _ _ l (uncS l ((a : Int), (b : Int), (c : Int), (d : Int)))) _
      unfold uncEnd
      simp only [isPlan_f, Option.bind_some]
      cases hp : planB (uncS l ((a : Int), (b : Int), (c : Int), (d : Int))) with
      | false => exact ev_now _ _ rfl
      | true =>
        simp only [if_true]
        exact Ev.bind (cost_ev l h) (Ev.bind (cost_ev _ hp) (ev_now _ _ rfl))
theorem specUncross_ev (l : List (List Int)) : Ev (fun k => spec_Uncross.f k l) (uncR l) := by
  unfold spec_Uncross.f uncR
  refine Ev.bind (plGood_ev l) ?_
  cases h : planB l with
  | false => exact ev_now _ _ rfl
  | true =>
    obtain ⟨h1, h2, h3⟩ := (planB_iff l).1 h
    simp only [if_true]
    unfold spec_Uncross.cross
    have hcr : Ev (fun k => (spec_plCrossing.f k l).bind fun q => if q.2 = true then (if 2 ≤ q.1.length then some (some ((rd_T70 q.1 0).f0, (rd_T70 q.1 0).f1, (rd_T70 q.1 1).f0, (rd_T70 q.1 1).f1)) else none) else some none) (crossOf l) := by
      refine Ev.bind (specCrossing_ev l h) ?_
      unfold crossA
      cases hx : crossOf l with
      | none => exact ev_now _ _ rfl
      | some x =>
        have e0 : rd_T70 [mkC x.1 x.2.1, mkC x.2.2.1 x.2.2.2] 0 = mkC x.1 x.2.1 := rfl
        have e1 : rd_T70 [mkC x.1 x.2.1, mkC x.2.2.1 x.2.2.2] 1 = mkC x.2.2.1 x.2.2.2 := rfl
        simp only [if_true, List.length_cons, List.length_nil, e0, e1]
        exact ev_now _ _ rfl
    refine Ev.bind hcr ?_
    cases hx : crossOf l with
    | none => exact ev_now _ _ rfl
    | some x =>
      obtain ⟨a, b, c, d, rfl, k1, k2, k3, k4, _, _⟩ := crossOf_facts l x hx
      have hok : uncOk l a b c d ∧ l = l := ⟨⟨h2, fun r hr => (h3 r hr).1, by omega, by omega, by omega, by omega, by omega, by omega, by omega, by omega⟩, rfl⟩
      simp only []
      refine Ev.bind (plOwn_ev l (by omega) (fun r hr => by have := (h3 r hr).1; omega)) ?_
      refine Ev.congr (f := fun k => uncEnd (fun s => spec_plGood.f k s) (fun s => spec_plCost.f k s) l (uncS l ((a : Int), (b : Int), (c : Int), (d : Int)))) (fun k => if_pos hok) ?_
      unfold uncEnd
      refine Ev.bind (plGood_ev _) ?_
      cases hp : planB (uncS l ((a : Int), (b : Int), (c : Int), (d : Int))) with
      | false => exact ev_now _ _ rfl
      | true =>
        simp only [if_true]
        exact Ev.bind (plCost_ev l h) (Ev.bind (plCost_ev _ hp) (ev_now _ _ rfl))
theorem uncR_small (l : List (List Int)) : (uncR l).1.length ≤ 1048576 ∧ (∀ r ∈ (uncR l).1, r.length ≤ 1048576) ∧ laws_markIntSS.tot (uncR l).1 ≤ 1048576 := by
  have key : planB (uncR l).1 = true ∨ (uncR l).1 = [] := by
    unfold uncR
    cases h : planB l with
    | false => right; rfl
    | true =>
      simp only [if_true]
      cases crossOf l with
      | none => right; rfl
      | some x =>
        simp only []
        cases hp : planB (uncS l x) with
        | false => right; rfl
        | true => left; simpa using hp
  rcases key with h | h
  · obtain ⟨h1, h2, h3⟩ := plan_small _ h
    obtain ⟨_, g2, g3⟩ := (planB_iff _).1 h
    exact ⟨by omega, fun r hr => by have := (g3 r hr).1; omega, h3⟩
  · rw [h]; exact ⟨by simp, by simp, by simp [laws_markIntSS.tot]⟩
theorem Uncross_pure (l0 : List (List Int)) (h0 : l0.length ≤ 1048576) (h1 : ∀ r ∈ l0, r.length ≤ 1048576) :
    ∃ (R : List (List Int)) (b1 : Int) (b2 : Bool), Ev (fun k => spec_Uncross.f k l0) (R, b1, b2) ∧ Ev (fun k => impl_Uncross.f k l0) (R, b1, b2) ∧ R.length ≤ 1048576 ∧ (∀ r ∈ R, r.length ≤ 1048576) ∧ laws_markIntSS.tot R ≤ 1048576 :=
  ⟨(uncR l0).1, (uncR l0).2.1, (uncR l0).2.2, specUncross_ev l0, implUncross_ev l0, (uncR_small l0).1, (uncR_small l0).2.1, (uncR_small l0).2.2⟩
end Go.Proofs.Ytllnieknogficaa.K
namespace Go.Proofs.Ytllnieknogficaa.K
open Go.RowKit Go.Proofs.YtllnieknogficaaW.PrintWords Go.Proofs.YtllnieknogficaaW.PrintLast Go.Proofs.YtllnieknogficaaW.PrintMore
attribute [local go_sem] max2_int min2_int max_two min_two max_three min_three max_four min_four   -- for this text's walks alone
set_option linter.unusedVariables false
set_option linter.unusedSimpArgs false

/-! ### laws_eqIntS: function 45 -/
def laws_eqIntS.l0 : Nat → List Int → List Int → Int → Option (Bool)
  | 0, _, _, _ => none
  | k + 1, x0, x1, x5 => if x5 < (x0.length : Int) then (if 0 ≤ x5 then (if x5 < (x1.length : Int) then (if (rd x0 x5) = (rd x1 x5) then (laws_eqIntS.l0 k x0 x1 (wrap64 (x5 + 1))) else (some false)) else (none)) else (none)) else (some true)
def laws_eqIntS.f (k : Nat) (l0 : List Int) (l1 : List Int) : Option (Bool) := if (l0.length : Int) = (l1.length : Int) then (laws_eqIntS.l0 k l0 l1 0) else (some false)
theorem laws_eqIntS.mono_l : ∀ k, (∀ y0 y1 y2, LeO (laws_eqIntS.l0 k y0 y1 y2) (laws_eqIntS.l0 (k + 1) y0 y1 y2))
  | 0 => fun _ _ _ r h => by simp [laws_eqIntS.l0] at h
  | k + 1 => by
    have ih0 := laws_eqIntS.mono_l k
    · intro y0 y1 y2
      unfold laws_eqIntS.l0
      repeat' first
      | (with_reducible exact ih0 _ _ _)
      | (with_reducible exact LeO.refl _)
      | (with_reducible exact LeO.none _)
      | (with_reducible refine LeO.ite ?_ ?_)
      | (with_reducible refine LeO.bind ?_ (fun _ => ?_))
      | exact ih0 _ _ _
      | exact LeO.none _
      | refine LeO.ite ?_ ?_
      | refine LeO.bind ?_ (fun _ => ?_)
theorem laws_eqIntS.mono : ∀ a0 a1 k, LeO (laws_eqIntS.f k a0 a1) (laws_eqIntS.f (k + 1) a0 a1) := by
  intro a0 a1 k
  have ih0 := laws_eqIntS.mono_l k
  unfold laws_eqIntS.f
  repeat' first
      | (with_reducible exact ih0 _ _ _)
      | (with_reducible exact LeO.refl _)
      | (with_reducible exact LeO.none _)
      | (with_reducible refine LeO.ite ?_ ?_)
      | (with_reducible refine LeO.bind ?_ (fun _ => ?_))
      | exact ih0 _ _ _
      | exact LeO.none _
      | refine LeO.ite ?_ ?_
      | refine LeO.bind ?_ (fun _ => ?_)
set_option maxHeartbeats 8000000 in
set_option maxRecDepth 100000 in
theorem laws_eqIntS.calls (k : Nat) (A0 : Option Addr) (c0 : Nat) (l0 : List Int) (A1 : Option Addr) (c1 : Nat) (l1 : List Int) (r : Bool) (w : World) (hr0 : Kd.C (Kd.int .i64) w A0 l0.length l0) (hc0 : l0.length ≤ c0) (hr1 : Kd.C (Kd.int .i64) w A1 l1.length l1) (hc1 : l1.length ≤ c1) (h : laws_eqIntS.f k l0 l1 = some r) :
    Calls Try.prog 45 #[.slice A0 l0.length c0, .slice A1 l1.length c1] w fun e w' => e = .returned (.bool r) ∧ Drawn0 w w' := by
  have HR0 := Aside0.mk hr0
  have HC0 := Aside0.mk hc0
  clear hr0 hc0
  have HR1 := Aside0.mk hr1
  have HC1 := Aside0.mk hc1
  clear hr1 hc1
  have H : (if (l0.length : Int) = (l1.length : Int) then (laws_eqIntS.l0 k l0 l1 0) else (some false)) = some r := h
  clear h
  by_cases c3 : (l0.length : Int) = (l1.length : Int)
  · rw [if_pos c3] at H
    have c3b0 : ((l0.length : Int) == (l1.length : Int)) = true := beq_iff_eq.mpr c3
    have c3b1 : ((l0.length : Int) != (l1.length : Int)) = false := bne_eq_false_iff_eq.mpr c3
    have c3b2 : (l0.length == l1.length) = true := by first | simpa using c3 | (simp at c3 ⊢; omega)
    clear c3
    have H' := Aside0.mk H
    clear H
    go_enter Try.func45, Try.ntmps45
    go_wp2
    repeat (go_quiet (fail); try go_wp2)
    go_loopg [5] k (fun kq v5 w' => ∃ (x5_1 : Int), v5 = .int .i64 x5_1 ∧ Aside0 (laws_eqIntS.l0 kq l0 l1 x5_1 = some r) ∧ Aside0 (kq ≤ k) ∧ Drawn0 w w')
    case atStart => exact ⟨(0), (by first | rfl | (simp; done) | (simp [*]; done)), H', ⟨Nat.le_refl _⟩, by repeat (first | exact Drawn0.refl _ | apply Drawn0.step)⟩
    case round =>
      clear H'
      try clear c1
      try clear p2
      try clear c3
      try clear c3b0
      try clear c3b1
      try clear c3b2
      obtain ⟨x5_1, rfl, HA, HK1, ⟨m1, rfl⟩⟩ := hrel
      cases gk with
      | zero => exact absurd HA.out (by simp [laws_eqIntS.l0])
      | succ k1 =>
        have H := HA.out
        clear HA
        simp only [laws_eqIntS.l0] at H
        by_cases c4 : x5_1 < (l0.length : Int)
        · rw [if_pos c4] at H
          have c4b0 : decide (x5_1 < (l0.length : Int)) = true := decide_eq_true c4
          clear c4
          by_cases c5 : 0 ≤ x5_1
          · rw [if_pos c5] at H
            have c5b0 : decide (0 ≤ x5_1) = true := decide_eq_true c5
            clear c5
            by_cases c6 : x5_1 < (l1.length : Int)
            · rw [if_pos c6] at H
              have c6b0 : decide (x5_1 < (l1.length : Int)) = true := decide_eq_true c6
              clear c6
              by_cases c7 : (rd l0 x5_1) = (rd l1 x5_1)
              · rw [if_pos c7] at H
                have c7b0 : ((rd l0 x5_1) == (rd l1 x5_1)) = true := beq_iff_eq.mpr c7
                have c7b1 : ((rd l0 x5_1) != (rd l1 x5_1)) = false := bne_eq_false_iff_eq.mpr c7
                clear c7
                have H' := Aside0.mk H
                clear H
                have p425 : 0 ≤ (x5_1 : Int) := of_decide_eq_true (by first | (with_reducible assumption) | assumption)
                have q425 : x5_1 < (l0.length : Int) := of_decide_eq_true (by first | (with_reducible assumption) | assumption)
                obtain ⟨ad425, e425, hx425_0⟩ := Kd.at_int HR0.out x5_1 p425 q425
                cases e425
                replace p425 := eq_true p425
                replace q425 := eq_true q425
                have p426 : 0 ≤ (x5_1 : Int) := of_decide_eq_true (by first | (with_reducible assumption) | assumption)
                have q426 : x5_1 < (l1.length : Int) := of_decide_eq_true (by first | (with_reducible assumption) | assumption)
                obtain ⟨ad426, e426, hx426_0⟩ := Kd.at_int HR1.out x5_1 p426 q426
                cases e426
                replace p426 := eq_true p426
                replace q426 := eq_true q426
                go_wp2
                repeat (go_quiet (fail); try go_wp2)
                go_roundg k1
                case measure => have := HK1.out; omega
                case rel => exact ⟨(wrap64 (x5_1 + 1)), (by first | rfl | (simp; done) | (simp [*]; done)), H', ⟨by have := HK1.out; omega⟩, by repeat (first | exact Drawn0.refl _ | apply Drawn0.step)⟩
              · rw [if_neg c7] at H
                have c7b0 : ((rd l0 x5_1) == (rd l1 x5_1)) = false := beq_eq_false_iff_ne.mpr c7
                have c7b1 : ((rd l0 x5_1) != (rd l1 x5_1)) = true := bne_iff_ne.mpr c7
                obtain rfl := Option.some.inj H
                have p425 : 0 ≤ (x5_1 : Int) := of_decide_eq_true (by first | (with_reducible assumption) | assumption)
                have q425 : x5_1 < (l0.length : Int) := of_decide_eq_true (by first | (with_reducible assumption) | assumption)
                obtain ⟨ad425, e425, hx425_0⟩ := Kd.at_int HR0.out x5_1 p425 q425
                cases e425
                replace p425 := eq_true p425
                replace q425 := eq_true q425
                have p426 : 0 ≤ (x5_1 : Int) := of_decide_eq_true (by first | (with_reducible assumption) | assumption)
                have q426 : x5_1 < (l1.length : Int) := of_decide_eq_true (by first | (with_reducible assumption) | assumption)
                obtain ⟨ad426, e426, hx426_0⟩ := Kd.at_int HR1.out x5_1 p426 q426
                cases e426
                replace p426 := eq_true p426
                replace q426 := eq_true q426
                go_wp2
                repeat (go_quiet (fail); try go_wp2)
                go_ret
                exact ⟨by first | rfl | (simp; done) | (simp [*]; done), by repeat (first | exact Drawn0.refl _ | apply Drawn0.step)⟩
            · rw [if_neg c6] at H
              exact absurd H (by simp)
          · rw [if_neg c5] at H
            exact absurd H (by simp)
        · rw [if_neg c4] at H
          have c4b0 : decide (x5_1 < (l0.length : Int)) = false := decide_eq_false c4
          clear c4
          obtain rfl := Option.some.inj H
          go_wp2
          repeat (go_quiet (fail); try go_wp2)
          go_ret
          exact ⟨by first | rfl | (simp; done) | (simp [*]; done), by repeat (first | exact Drawn0.refl _ | apply Drawn0.step)⟩
  · rw [if_neg c3] at H
    have c3b0 : ((l0.length : Int) == (l1.length : Int)) = false := beq_eq_false_iff_ne.mpr c3
    have c3b1 : ((l0.length : Int) != (l1.length : Int)) = true := bne_iff_ne.mpr c3
    have c3b2 : (l0.length == l1.length) = false := by first | simpa using c3 | (simp at c3 ⊢; omega)
    obtain rfl := Option.some.inj H
    go_enter Try.func45, Try.ntmps45
    go_wp2
    repeat (go_quiet (fail); try go_wp2)
    go_ret
    exact ⟨by first | rfl | (simp; done) | (simp [*]; done), by repeat (first | exact Drawn0.refl _ | apply Drawn0.step)⟩

end Go.Proofs.Ytllnieknogficaa.K
namespace Go.Proofs.Ytllnieknogficaa.K
open Go.RowKit Go.Proofs.YtllnieknogficaaW.PrintWords Go.Proofs.YtllnieknogficaaW.PrintLast Go.Proofs.YtllnieknogficaaW.PrintMore
attribute [local go_sem] max2_int min2_int max_two min_two max_three min_three max_four min_four   -- for this text's walks alone
set_option linter.unusedVariables false
set_option linter.unusedSimpArgs false

/-! ### laws_eqIntSS: function 38 -/
def laws_eqIntSS.l0 : Nat → List (List Int) → List (List Int) → Int → Option (Bool)
  | 0, _, _, _ => none
  | k + 1, x0, x1, x5 => if x5 < (x0.length : Int) then (if 0 ≤ x5 then (if x5 < (x1.length : Int) then ((laws_eqIntS.f k (rd_L2 x0 x5) (rd_L2 x1 x5)).bind fun t429 => (if t429 = true then (laws_eqIntSS.l0 k x0 x1 (wrap64 (x5 + 1))) else (some false))) else (none)) else (none)) else (some true)
def laws_eqIntSS.f (k : Nat) (l0 : List (List Int)) (l1 : List (List Int)) : Option (Bool) := if (l0.length : Int) = (l1.length : Int) then (laws_eqIntSS.l0 k l0 l1 0) else (some false)
theorem laws_eqIntSS.mono_l : ∀ k, (∀ y0 y1 y2, LeO (laws_eqIntSS.l0 k y0 y1 y2) (laws_eqIntSS.l0 (k + 1) y0 y1 y2))
  | 0 => fun _ _ _ r h => by simp [laws_eqIntSS.l0] at h
  | k + 1 => by
    have ih0 := laws_eqIntSS.mono_l k
    · intro y0 y1 y2
      unfold laws_eqIntSS.l0
      repeat' first
      | (with_reducible exact ih0 _ _ _)
      | (with_reducible exact laws_eqIntS.mono _ _ _)
      | (with_reducible exact LeO.refl _)
      | (with_reducible exact LeO.none _)
      | (with_reducible refine LeO.ite ?_ ?_)
      | (with_reducible refine LeO.bind ?_ (fun _ => ?_))
      | exact ih0 _ _ _
      | exact laws_eqIntS.mono _ _ _
      | exact LeO.none _
      | refine LeO.ite ?_ ?_
      | refine LeO.bind ?_ (fun _ => ?_)
theorem laws_eqIntSS.mono : ∀ a0 a1 k, LeO (laws_eqIntSS.f k a0 a1) (laws_eqIntSS.f (k + 1) a0 a1) := by
  intro a0 a1 k
  have ih0 := laws_eqIntSS.mono_l k
  unfold laws_eqIntSS.f
  repeat' first
      | (with_reducible exact ih0 _ _ _)
      | (with_reducible exact laws_eqIntS.mono _ _ _)
      | (with_reducible exact LeO.refl _)
      | (with_reducible exact LeO.none _)
      | (with_reducible refine LeO.ite ?_ ?_)
      | (with_reducible refine LeO.bind ?_ (fun _ => ?_))
      | exact ih0 _ _ _
      | exact laws_eqIntS.mono _ _ _
      | exact LeO.none _
      | refine LeO.ite ?_ ?_
      | refine LeO.bind ?_ (fun _ => ?_)
set_option maxHeartbeats 8000000 in
set_option maxRecDepth 100000 in
theorem laws_eqIntSS.calls (k : Nat) (A0 : Option Addr) (c0 : Nat) (l0 : List (List Int)) (A1 : Option Addr) (c1 : Nat) (l1 : List (List Int)) (r : Bool) (w : World) (hr0 : Kd.C (Kd.slice 3 (Kd.int .i64)) w A0 l0.length l0) (hc0 : l0.length ≤ c0) (hr1 : Kd.C (Kd.slice 3 (Kd.int .i64)) w A1 l1.length l1) (hc1 : l1.length ≤ c1) (h : laws_eqIntSS.f k l0 l1 = some r) :
    Calls Try.prog 38 #[.slice A0 l0.length c0, .slice A1 l1.length c1] w fun e w' => e = .returned (.bool r) ∧ Drawn0 w w' := by
  have HR0 := Aside0.mk hr0
  have HC0 := Aside0.mk hc0
  clear hr0 hc0
  have HR1 := Aside0.mk hr1
  have HC1 := Aside0.mk hc1
  clear hr1 hc1
  have H : (if (l0.length : Int) = (l1.length : Int) then (laws_eqIntSS.l0 k l0 l1 0) else (some false)) = some r := h
  clear h
  by_cases c3 : (l0.length : Int) = (l1.length : Int)
  · rw [if_pos c3] at H
    have c3b0 : ((l0.length : Int) == (l1.length : Int)) = true := beq_iff_eq.mpr c3
    have c3b1 : ((l0.length : Int) != (l1.length : Int)) = false := bne_eq_false_iff_eq.mpr c3
    have c3b2 : (l0.length == l1.length) = true := by first | simpa using c3 | (simp at c3 ⊢; omega)
    clear c3
    have H' := Aside0.mk H
    clear H
    go_enter Try.func38, Try.ntmps38
    go_wp2
    repeat (go_quiet (fail); try go_wp2)
    go_loopg [5] k (fun kq v5 w' => ∃ (x5_1 : Int), v5 = .int .i64 x5_1 ∧ Aside0 (laws_eqIntSS.l0 kq l0 l1 x5_1 = some r) ∧ Aside0 (kq ≤ k) ∧ Drawn0 w w')
    case atStart => exact ⟨(0), (by first | rfl | (simp; done) | (simp [*]; done)), H', ⟨Nat.le_refl _⟩, by repeat (first | exact Drawn0.refl _ | apply Drawn0.step)⟩
    case round =>
      clear H'
      try clear c1
      try clear p2
      try clear c3
      try clear c3b0
      try clear c3b1
      try clear c3b2
      obtain ⟨x5_1, rfl, HA, HK1, ⟨m1, rfl⟩⟩ := hrel
      cases gk with
      | zero => exact absurd HA.out (by simp [laws_eqIntSS.l0])
      | succ k1 =>
        have H := HA.out
        clear HA
        simp only [laws_eqIntSS.l0] at H
        by_cases c4 : x5_1 < (l0.length : Int)
        · rw [if_pos c4] at H
          have c4b0 : decide (x5_1 < (l0.length : Int)) = true := decide_eq_true c4
          clear c4
          by_cases c5 : 0 ≤ x5_1
          · rw [if_pos c5] at H
            have c5b0 : decide (0 ≤ x5_1) = true := decide_eq_true c5
            clear c5
            by_cases c6 : x5_1 < (l1.length : Int)
            · rw [if_pos c6] at H
              have c6b0 : decide (x5_1 < (l1.length : Int)) = true := decide_eq_true c6
              clear c6
              replace H := Option.bind_eq_some_iff.mp H
              obtain ⟨t429, A70, H⟩ := H
              replace H : (if t429 = true then (laws_eqIntSS.l0 k1 l0 l1 (wrap64 (x5_1 + 1))) else (some false)) = some r := H
              have A7 := Aside0.mk A70
              clear A70
              by_cases c8 : t429 = true
              · subst c8
                have H1 : (laws_eqIntSS.l0 k1 l0 l1 (wrap64 (x5_1 + 1))) = some r := by rw [if_pos rfl] at H; exact H
                clear H
                have H := H1
                clear H1
                have H' := Aside0.mk H
                clear H
                have p427 : 0 ≤ (x5_1 : Int) := of_decide_eq_true (by first | (with_reducible assumption) | assumption)
                have q427 : x5_1 < (l0.length : Int) := of_decide_eq_true (by first | (with_reducible assumption) | assumption)
                obtain ⟨ad427, A427_0, c427_0, e427, hx427_0, hl427_0, hi427_0⟩ := at_L2 HR0.out x5_1 p427 q427
                cases e427
                have HR427_0 := Aside0.mk hi427_0
                have HC427_0 := Aside0.mk hl427_0
                clear hi427_0 hl427_0
                replace p427 := eq_true p427
                replace q427 := eq_true q427
                have p428 : 0 ≤ (x5_1 : Int) := of_decide_eq_true (by first | (with_reducible assumption) | assumption)
                have q428 : x5_1 < (l1.length : Int) := of_decide_eq_true (by first | (with_reducible assumption) | assumption)
                obtain ⟨ad428, A428_0, c428_0, e428, hx428_0, hl428_0, hi428_0⟩ := at_L2 HR1.out x5_1 p428 q428
                cases e428
                have HR428_0 := Aside0.mk hi428_0
                have HC428_0 := Aside0.mk hl428_0
                clear hi428_0 hl428_0
                replace p428 := eq_true p428
                replace q428 := eq_true q428
                go_wp2_with (first | (go_at_call 45; (with_reducible refine (laws_eqIntS.calls k1 _ _ (rd_L2 l0 x5_1) _ _ (rd_L2 l1 x5_1) true _ ?side1 ?side2 ?side3 ?side4 A7.out).mono ?_); (case side1 => repeat (first | exact HR427_0.out | (with_reducible refine Kd.C_alloc ?_ _) | (with_reducible refine Kd.C_drewN ?_ _) | (with_reducible refine Kd.C_drew ?_))); (case side2 => exact HC427_0.out); (case side3 => repeat (first | exact HR428_0.out | (with_reducible refine Kd.C_alloc ?_ _) | (with_reducible refine Kd.C_drewN ?_ _) | (with_reducible refine Kd.C_drew ?_))); (case side4 => exact HC428_0.out); rintro e w' ⟨rfl, ⟨nd, rfl⟩⟩; (try first | exact ⟨rfl, _, World.drewN_drewN _ _ _⟩ | exact ⟨rfl, _, Eq.trans (World.drewN_drewN _ _ _) (congrArg (World.drewN _) (Nat.add_assoc _ _ _))⟩)))
                repeat (go_quiet (first | (go_at_call 45; (with_reducible refine (laws_eqIntS.calls k1 _ _ (rd_L2 l0 x5_1) _ _ (rd_L2 l1 x5_1) true _ ?side1 ?side2 ?side3 ?side4 A7.out).mono ?_); (case side1 => repeat (first | exact HR427_0.out | (with_reducible refine Kd.C_alloc ?_ _) | (with_reducible refine Kd.C_drewN ?_ _) | (with_reducible refine Kd.C_drew ?_))); (case side2 => exact HC427_0.out); (case side3 => repeat (first | exact HR428_0.out | (with_reducible refine Kd.C_alloc ?_ _) | (with_reducible refine Kd.C_drewN ?_ _) | (with_reducible refine Kd.C_drew ?_))); (case side4 => exact HC428_0.out); rintro e w' ⟨rfl, ⟨nd, rfl⟩⟩; (try first | exact ⟨rfl, _, World.drewN_drewN _ _ _⟩ | exact ⟨rfl, _, Eq.trans (World.drewN_drewN _ _ _) (congrArg (World.drewN _) (Nat.add_assoc _ _ _))⟩))); try go_wp2_with (first | (go_at_call 45; (with_reducible refine (laws_eqIntS.calls k1 _ _ (rd_L2 l0 x5_1) _ _ (rd_L2 l1 x5_1) true _ ?side1 ?side2 ?side3 ?side4 A7.out).mono ?_); (case side1 => repeat (first | exact HR427_0.out | (with_reducible refine Kd.C_alloc ?_ _) | (with_reducible refine Kd.C_drewN ?_ _) | (with_reducible refine Kd.C_drew ?_))); (case side2 => exact HC427_0.out); (case side3 => repeat (first | exact HR428_0.out | (with_reducible refine Kd.C_alloc ?_ _) | (with_reducible refine Kd.C_drewN ?_ _) | (with_reducible refine Kd.C_drew ?_))); (case side4 => exact HC428_0.out); rintro e w' ⟨rfl, ⟨nd, rfl⟩⟩; (try first | exact ⟨rfl, _, World.drewN_drewN _ _ _⟩ | exact ⟨rfl, _, Eq.trans (World.drewN_drewN _ _ _) (congrArg (World.drewN _) (Nat.add_assoc _ _ _))⟩))))
                go_roundg k1
                case measure => have := HK1.out; omega
                case rel => exact ⟨(wrap64 (x5_1 + 1)), (by first | rfl | (simp; done) | (simp [*]; done)), H', ⟨by have := HK1.out; omega⟩, by repeat (first | exact Drawn0.refl _ | apply Drawn0.step)⟩
              · replace c8 := Bool.eq_false_iff.mpr c8
                subst c8
                have H1 : (some false) = some r := by rw [if_neg (show ¬ (false = true) by decide)] at H; exact H
                clear H
                have H := H1
                clear H1
                obtain rfl := Option.some.inj H
                have p427 : 0 ≤ (x5_1 : Int) := of_decide_eq_true (by first | (with_reducible assumption) | assumption)
                have q427 : x5_1 < (l0.length : Int) := of_decide_eq_true (by first | (with_reducible assumption) | assumption)
                obtain ⟨ad427, A427_0, c427_0, e427, hx427_0, hl427_0, hi427_0⟩ := at_L2 HR0.out x5_1 p427 q427
                cases e427
                have HR427_0 := Aside0.mk hi427_0
                have HC427_0 := Aside0.mk hl427_0
                clear hi427_0 hl427_0
                replace p427 := eq_true p427
                replace q427 := eq_true q427
                have p428 : 0 ≤ (x5_1 : Int) := of_decide_eq_true (by first | (with_reducible assumption) | assumption)
                have q428 : x5_1 < (l1.length : Int) := of_decide_eq_true (by first | (with_reducible assumption) | assumption)
                obtain ⟨ad428, A428_0, c428_0, e428, hx428_0, hl428_0, hi428_0⟩ := at_L2 HR1.out x5_1 p428 q428
                cases e428
                have HR428_0 := Aside0.mk hi428_0
                have HC428_0 := Aside0.mk hl428_0
                clear hi428_0 hl428_0
                replace p428 := eq_true p428
                replace q428 := eq_true q428
                go_wp2_with (first | (go_at_call 45; (with_reducible refine (laws_eqIntS.calls k1 _ _ (rd_L2 l0 x5_1) _ _ (rd_L2 l1 x5_1) false _ ?side1 ?side2 ?side3 ?side4 A7.out).mono ?_); (case side1 => repeat (first | exact HR427_0.out | (with_reducible refine Kd.C_alloc ?_ _) | (with_reducible refine Kd.C_drewN ?_ _) | (with_reducible refine Kd.C_drew ?_))); (case side2 => exact HC427_0.out); (case side3 => repeat (first | exact HR428_0.out | (with_reducible refine Kd.C_alloc ?_ _) | (with_reducible refine Kd.C_drewN ?_ _) | (with_reducible refine Kd.C_drew ?_))); (case side4 => exact HC428_0.out); rintro e w' ⟨rfl, ⟨nd, rfl⟩⟩; (try first | exact ⟨rfl, _, World.drewN_drewN _ _ _⟩ | exact ⟨rfl, _, Eq.trans (World.drewN_drewN _ _ _) (congrArg (World.drewN _) (Nat.add_assoc _ _ _))⟩)))
                repeat (go_quiet (first | (go_at_call 45; (with_reducible refine (laws_eqIntS.calls k1 _ _ (rd_L2 l0 x5_1) _ _ (rd_L2 l1 x5_1) false _ ?side1 ?side2 ?side3 ?side4 A7.out).mono ?_); (case side1 => repeat (first | exact HR427_0.out | (with_reducible refine Kd.C_alloc ?_ _) | (with_reducible refine Kd.C_drewN ?_ _) | (with_reducible refine Kd.C_drew ?_))); (case side2 => exact HC427_0.out); (case side3 => repeat (first | exact HR428_0.out | (with_reducible refine Kd.C_alloc ?_ _) | (with_reducible refine Kd.C_drewN ?_ _) | (with_reducible refine Kd.C_drew ?_))); (case side4 => exact HC428_0.out); rintro e w' ⟨rfl, ⟨nd, rfl⟩⟩; (try first | exact ⟨rfl, _, World.drewN_drewN _ _ _⟩ | exact ⟨rfl, _, Eq.trans (World.drewN_drewN _ _ _) (congrArg (World.drewN _) (Nat.add_assoc _ _ _))⟩))); try go_wp2_with (first | (go_at_call 45; (with_reducible refine (laws_eqIntS.calls k1 _ _ (rd_L2 l0 x5_1) _ _ (rd_L2 l1 x5_1) false _ ?side1 ?side2 ?side3 ?side4 A7.out).mono ?_); (case side1 => repeat (first | exact HR427_0.out | (with_reducible refine Kd.C_alloc ?_ _) | (with_reducible refine Kd.C_drewN ?_ _) | (with_reducible refine Kd.C_drew ?_))); (case side2 => exact HC427_0.out); (case side3 => repeat (first | exact HR428_0.out | (with_reducible refine Kd.C_alloc ?_ _) | (with_reducible refine Kd.C_drewN ?_ _) | (with_reducible refine Kd.C_drew ?_))); (case side4 => exact HC428_0.out); rintro e w' ⟨rfl, ⟨nd, rfl⟩⟩; (try first | exact ⟨rfl, _, World.drewN_drewN _ _ _⟩ | exact ⟨rfl, _, Eq.trans (World.drewN_drewN _ _ _) (congrArg (World.drewN _) (Nat.add_assoc _ _ _))⟩))))
                go_ret
                exact ⟨by first | rfl | (simp; done) | (simp [*]; done), by repeat (first | exact Drawn0.refl _ | apply Drawn0.step)⟩
            · rw [if_neg c6] at H
              exact absurd H (by simp)
          · rw [if_neg c5] at H
            exact absurd H (by simp)
        · rw [if_neg c4] at H
          have c4b0 : decide (x5_1 < (l0.length : Int)) = false := decide_eq_false c4
          clear c4
          obtain rfl := Option.some.inj H
          go_wp2
          repeat (go_quiet (fail); try go_wp2)
          go_ret
          exact ⟨by first | rfl | (simp; done) | (simp [*]; done), by repeat (first | exact Drawn0.refl _ | apply Drawn0.step)⟩
  · rw [if_neg c3] at H
    have c3b0 : ((l0.length : Int) == (l1.length : Int)) = false := beq_eq_false_iff_ne.mpr c3
    have c3b1 : ((l0.length : Int) != (l1.length : Int)) = true := bne_iff_ne.mpr c3
    have c3b2 : (l0.length == l1.length) = false := by first | simpa using c3 | (simp at c3 ⊢; omega)
    obtain rfl := Option.some.inj H
    go_enter Try.func38, Try.ntmps38
    go_wp2
    repeat (go_quiet (fail); try go_wp2)
    go_ret
    exact ⟨by first | rfl | (simp; done) | (simp [*]; done), by repeat (first | exact Drawn0.refl _ | apply Drawn0.step)⟩

end Go.Proofs.Ytllnieknogficaa.K
namespace Go.Proofs.Ytllnieknogficaa.K
open Go.RowKit Go.Proofs.YtllnieknogficaaW.PrintWords Go.Proofs.YtllnieknogficaaW.PrintLast Go.Proofs.YtllnieknogficaaW.PrintMore
attribute [local go_sem] max2_int min2_int max_two min_two max_three min_three max_four min_four   -- for this text's walks alone
set_option linter.unusedVariables false
set_option linter.unusedSimpArgs false

/-! ### laws_heldIntS: function 47 -/
def laws_heldIntS.l0 : Nat → List Int → Int → Int → Option (Int)
  | 0, _, _, _ => none
  | k + 1, x0, x1, x5 => if x5 < (x0.length : Int) then (if 0 ≤ x5 then (if (rd x0 x5) = x1 then (laws_heldIntS.l0 k x0 (wrap64 (x1 + 1)) (wrap64 (x5 + 1))) else (some (-1))) else (none)) else (some x1)
def laws_heldIntS.f (k : Nat) (l0 : List Int) (a1 : Int) : Option (Int) := laws_heldIntS.l0 k l0 a1 0
theorem laws_heldIntS.mono_l : ∀ k, (∀ y0 y1 y2, LeO (laws_heldIntS.l0 k y0 y1 y2) (laws_heldIntS.l0 (k + 1) y0 y1 y2))
  | 0 => fun _ _ _ r h => by simp [laws_heldIntS.l0] at h
  | k + 1 => by
    have ih0 := laws_heldIntS.mono_l k
    · intro y0 y1 y2
      unfold laws_heldIntS.l0
      repeat' first
      | (with_reducible exact ih0 _ _ _)
      | (with_reducible exact LeO.refl _)
      | (with_reducible exact LeO.none _)
      | (with_reducible refine LeO.ite ?_ ?_)
      | (with_reducible refine LeO.bind ?_ (fun _ => ?_))
      | exact ih0 _ _ _
      | exact LeO.none _
      | refine LeO.ite ?_ ?_
      | refine LeO.bind ?_ (fun _ => ?_)
theorem laws_heldIntS.mono : ∀ a0 a1 k, LeO (laws_heldIntS.f k a0 a1) (laws_heldIntS.f (k + 1) a0 a1) := by
  intro a0 a1 k
  have ih0 := laws_heldIntS.mono_l k
  unfold laws_heldIntS.f
  repeat' first
      | (with_reducible exact ih0 _ _ _)
      | (with_reducible exact LeO.refl _)
      | (with_reducible exact LeO.none _)
      | (with_reducible refine LeO.ite ?_ ?_)
      | (with_reducible refine LeO.bind ?_ (fun _ => ?_))
      | exact ih0 _ _ _
      | exact LeO.none _
      | refine LeO.ite ?_ ?_
      | refine LeO.bind ?_ (fun _ => ?_)
set_option maxHeartbeats 8000000 in
set_option maxRecDepth 100000 in
theorem laws_heldIntS.calls (k : Nat) (A0 : Option Addr) (c0 : Nat) (l0 : List Int) (a1 : Int) (r : Int) (w : World) (hr0 : Kd.C (Kd.int .i64) w A0 l0.length l0) (hc0 : l0.length ≤ c0) (h : laws_heldIntS.f k l0 a1 = some r) :
    Calls Try.prog 47 #[.slice A0 l0.length c0, .int .i64 a1] w fun e w' => e = .returned (.int .i64 r) ∧ Drawn0 w w' := by
  have HR0 := Aside0.mk hr0
  have HC0 := Aside0.mk hc0
  clear hr0 hc0
  have H : (laws_heldIntS.l0 k l0 a1 0) = some r := h
  clear h
  have H' := Aside0.mk H
  clear H
  go_enter Try.func47, Try.ntmps47
  go_wp2
  go_loopg [1, 5] k (fun kq v1 v5 w' => ∃ (x1_1 : Int) (x5_1 : Int), v1 = .int .i64 x1_1 ∧ v5 = .int .i64 x5_1 ∧ Aside0 (laws_heldIntS.l0 kq l0 x1_1 x5_1 = some r) ∧ Aside0 (kq ≤ k) ∧ Drawn0 w w')
  case atStart => exact ⟨(a1), (0), (by first | rfl | (simp; done) | (simp [*]; done)), (by first | rfl | (simp; done) | (simp [*]; done)), H', ⟨Nat.le_refl _⟩, by repeat (first | exact Drawn0.refl _ | apply Drawn0.step)⟩
  case round =>
    clear H'
    try clear p2
    obtain ⟨x1_1, x5_1, rfl, rfl, HA, HK1, ⟨m1, rfl⟩⟩ := hrel
    cases gk with
    | zero => exact absurd HA.out (by simp [laws_heldIntS.l0])
    | succ k1 =>
      have H := HA.out
      clear HA
      simp only [laws_heldIntS.l0] at H
      by_cases c3 : x5_1 < (l0.length : Int)
      · rw [if_pos c3] at H
        have c3b0 : decide (x5_1 < (l0.length : Int)) = true := decide_eq_true c3
        clear c3
        by_cases c4 : 0 ≤ x5_1
        · rw [if_pos c4] at H
          have c4b0 : decide (0 ≤ x5_1) = true := decide_eq_true c4
          clear c4
          by_cases c5 : (rd l0 x5_1) = x1_1
          · rw [if_pos c5] at H
            have c5b0 : ((rd l0 x5_1) == x1_1) = true := beq_iff_eq.mpr c5
            have c5b1 : ((rd l0 x5_1) != x1_1) = false := bne_eq_false_iff_eq.mpr c5
            clear c5
            have H' := Aside0.mk H
            clear H
            have p431 : 0 ≤ (x5_1 : Int) := of_decide_eq_true (by first | (with_reducible assumption) | assumption)
            have q431 : x5_1 < (l0.length : Int) := of_decide_eq_true (by first | (with_reducible assumption) | assumption)
            obtain ⟨ad431, e431, hx431_0⟩ := Kd.at_int HR0.out x5_1 p431 q431
            cases e431
            replace p431 := eq_true p431
            replace q431 := eq_true q431
            go_wp2
            go_roundg k1
            case measure => have := HK1.out; omega
            case rel => exact ⟨(wrap64 (x1_1 + 1)), (wrap64 (x5_1 + 1)), (by first | rfl | (simp; done) | (simp [*]; done)), (by first | rfl | (simp; done) | (simp [*]; done)), H', ⟨by have := HK1.out; omega⟩, by repeat (first | exact Drawn0.refl _ | apply Drawn0.step)⟩
          · rw [if_neg c5] at H
            have c5b0 : ((rd l0 x5_1) == x1_1) = false := beq_eq_false_iff_ne.mpr c5
            have c5b1 : ((rd l0 x5_1) != x1_1) = true := bne_iff_ne.mpr c5
            obtain rfl := Option.some.inj H
            have p431 : 0 ≤ (x5_1 : Int) := of_decide_eq_true (by first | (with_reducible assumption) | assumption)
            have q431 : x5_1 < (l0.length : Int) := of_decide_eq_true (by first | (with_reducible assumption) | assumption)
            obtain ⟨ad431, e431, hx431_0⟩ := Kd.at_int HR0.out x5_1 p431 q431
            cases e431
            replace p431 := eq_true p431
            replace q431 := eq_true q431
            go_wp2
            go_ret
            exact ⟨by first | rfl | (simp; done) | (simp [*]; done), by repeat (first | exact Drawn0.refl _ | apply Drawn0.step)⟩
        · rw [if_neg c4] at H
          exact absurd H (by simp)
      · rw [if_neg c3] at H
        have c3b0 : decide (x5_1 < (l0.length : Int)) = false := decide_eq_false c3
        clear c3
        obtain rfl := Option.some.inj H
        go_wp2
        go_ret
        exact ⟨by first | rfl | (simp; done) | (simp [*]; done), by repeat (first | exact Drawn0.refl _ | apply Drawn0.step)⟩

end Go.Proofs.Ytllnieknogficaa.K
namespace Go.Proofs.Ytllnieknogficaa.K
open Go.RowKit Go.Proofs.YtllnieknogficaaW.PrintWords Go.Proofs.YtllnieknogficaaW.PrintLast Go.Proofs.YtllnieknogficaaW.PrintMore
attribute [local go_sem] max2_int min2_int max_two min_two max_three min_three max_four min_four   -- for this text's walks alone
set_option linter.unusedVariables false
set_option linter.unusedSimpArgs false

/-! ### laws_heldIntSS: function 40 -/
def laws_heldIntSS.l0 : Nat → List (List Int) → Int → Int → Option (Int)
  | 0, _, _, _ => none
  | k + 1, x0, x1, x5 => if x5 < (x0.length : Int) then (if 0 ≤ x5 then ((laws_heldIntS.f k (rd_L2 x0 x5) x1).bind fun t433 => (if t433 < 0 then (some (-1)) else (laws_heldIntSS.l0 k x0 t433 (wrap64 (x5 + 1))))) else (none)) else (some x1)
def laws_heldIntSS.f (k : Nat) (l0 : List (List Int)) (a1 : Int) : Option (Int) := laws_heldIntSS.l0 k l0 a1 0
theorem laws_heldIntSS.mono_l : ∀ k, (∀ y0 y1 y2, LeO (laws_heldIntSS.l0 k y0 y1 y2) (laws_heldIntSS.l0 (k + 1) y0 y1 y2))
  | 0 => fun _ _ _ r h => by simp [laws_heldIntSS.l0] at h
  | k + 1 => by
    have ih0 := laws_heldIntSS.mono_l k
    · intro y0 y1 y2
      unfold laws_heldIntSS.l0
      repeat' first
      | (with_reducible exact ih0 _ _ _)
      | (with_reducible exact laws_heldIntS.mono _ _ _)
      | (with_reducible exact LeO.refl _)
      | (with_reducible exact LeO.none _)
      | (with_reducible refine LeO.ite ?_ ?_)
      | (with_reducible refine LeO.bind ?_ (fun _ => ?_))
      | exact ih0 _ _ _
      | exact laws_heldIntS.mono _ _ _
      | exact LeO.none _
      | refine LeO.ite ?_ ?_
      | refine LeO.bind ?_ (fun _ => ?_)
theorem laws_heldIntSS.mono : ∀ a0 a1 k, LeO (laws_heldIntSS.f k a0 a1) (laws_heldIntSS.f (k + 1) a0 a1) := by
  intro a0 a1 k
  have ih0 := laws_heldIntSS.mono_l k
  unfold laws_heldIntSS.f
  repeat' first
      | (with_reducible exact ih0 _ _ _)
      | (with_reducible exact laws_heldIntS.mono _ _ _)
      | (with_reducible exact LeO.refl _)
      | (with_reducible exact LeO.none _)
      | (with_reducible refine LeO.ite ?_ ?_)
      | (with_reducible refine LeO.bind ?_ (fun _ => ?_))
      | exact ih0 _ _ _
      | exact laws_heldIntS.mono _ _ _
      | exact LeO.none _
      | refine LeO.ite ?_ ?_
      | refine LeO.bind ?_ (fun _ => ?_)
set_option maxHeartbeats 8000000 in
set_option maxRecDepth 100000 in
theorem laws_heldIntSS.calls (k : Nat) (A0 : Option Addr) (c0 : Nat) (l0 : List (List Int)) (a1 : Int) (r : Int) (w : World) (hr0 : Kd.C (Kd.slice 3 (Kd.int .i64)) w A0 l0.length l0) (hc0 : l0.length ≤ c0) (h : laws_heldIntSS.f k l0 a1 = some r) :
    Calls Try.prog 40 #[.slice A0 l0.length c0, .int .i64 a1] w fun e w' => e = .returned (.int .i64 r) ∧ Drawn0 w w' := by
  have HR0 := Aside0.mk hr0
  have HC0 := Aside0.mk hc0
  clear hr0 hc0
  have H : (laws_heldIntSS.l0 k l0 a1 0) = some r := h
  clear h
  have H' := Aside0.mk H
  clear H
  go_enter Try.func40, Try.ntmps40
  go_wp2
  go_loopg [1, 5] k (fun kq v1 v5 w' => ∃ (x1_1 : Int) (x5_1 : Int), v1 = .int .i64 x1_1 ∧ v5 = .int .i64 x5_1 ∧ Aside0 (laws_heldIntSS.l0 kq l0 x1_1 x5_1 = some r) ∧ Aside0 (kq ≤ k) ∧ Drawn0 w w')
  case atStart => exact ⟨(a1), (0), (by first | rfl | (simp; done) | (simp [*]; done)), (by first | rfl | (simp; done) | (simp [*]; done)), H', ⟨Nat.le_refl _⟩, by repeat (first | exact Drawn0.refl _ | apply Drawn0.step)⟩
  case round =>
    clear H'
    try clear p2
    obtain ⟨x1_1, x5_1, rfl, rfl, HA, HK1, ⟨m1, rfl⟩⟩ := hrel
    cases gk with
    | zero => exact absurd HA.out (by simp [laws_heldIntSS.l0])
    | succ k1 =>
      have H := HA.out
      clear HA
      simp only [laws_heldIntSS.l0] at H
      by_cases c3 : x5_1 < (l0.length : Int)
      · rw [if_pos c3] at H
        have c3b0 : decide (x5_1 < (l0.length : Int)) = true := decide_eq_true c3
        clear c3
        by_cases c4 : 0 ≤ x5_1
        · rw [if_pos c4] at H
          have c4b0 : decide (0 ≤ x5_1) = true := decide_eq_true c4
          clear c4
          replace H := Option.bind_eq_some_iff.mp H
          obtain ⟨t433, A50, H⟩ := H
          replace H : (if t433 < 0 then (some (-1)) else (laws_heldIntSS.l0 k1 l0 t433 (wrap64 (x5_1 + 1)))) = some r := H
          have A5 := Aside0.mk A50
          clear A50
          by_cases c6 : t433 < 0
          · rw [if_pos c6] at H
            have c6b0 : decide (t433 < 0) = true := decide_eq_true c6
            clear c6
            obtain rfl := Option.some.inj H
            have p432 : 0 ≤ (x5_1 : Int) := of_decide_eq_true (by first | (with_reducible assumption) | assumption)
            have q432 : x5_1 < (l0.length : Int) := of_decide_eq_true (by first | (with_reducible assumption) | assumption)
            obtain ⟨ad432, A432_0, c432_0, e432, hx432_0, hl432_0, hi432_0⟩ := at_L2 HR0.out x5_1 p432 q432
            cases e432
            have HR432_0 := Aside0.mk hi432_0
            have HC432_0 := Aside0.mk hl432_0
            clear hi432_0 hl432_0
            replace p432 := eq_true p432
            replace q432 := eq_true q432
            go_wp2_with (first | ((with_reducible refine gate_callee (f := 47) rfl ?_); refine goesL_ (some 17) rfl rfl Try.func47 (by kernel_rfl) rfl #[.slice A432_0 (rd_L2 l0 x5_1).length c432_0, .int .i64 x1_1] rfl (by (try simp only [List.map_toArray, List.map_cons, List.map_nil]); first | done | rfl | (simp only [List.length_drop, List.length_take]; rfl)) ?_; (with_reducible refine (laws_heldIntS.calls k1 _ _ (rd_L2 l0 x5_1) x1_1 t433 _ ?side1 ?side2 A5.out).mono ?_); (case side1 => repeat (first | exact HR432_0.out | (with_reducible refine Kd.C_alloc ?_ _) | (with_reducible refine Kd.C_drewN ?_ _) | (with_reducible refine Kd.C_drew ?_))); (case side2 => exact HC432_0.out); rintro e w' ⟨rfl, ⟨nd, rfl⟩⟩; refine ⟨_, rfl, ?_⟩))
            go_ret
            exact ⟨by first | rfl | (simp; done) | (simp [*]; done), by repeat (first | exact Drawn0.refl _ | apply Drawn0.step)⟩
          · rw [if_neg c6] at H
            have c6b0 : decide (t433 < 0) = false := decide_eq_false c6
            clear c6
            have H' := Aside0.mk H
            clear H
            have p432 : 0 ≤ (x5_1 : Int) := of_decide_eq_true (by first | (with_reducible assumption) | assumption)
            have q432 : x5_1 < (l0.length : Int) := of_decide_eq_true (by first | (with_reducible assumption) | assumption)
            obtain ⟨ad432, A432_0, c432_0, e432, hx432_0, hl432_0, hi432_0⟩ := at_L2 HR0.out x5_1 p432 q432
            cases e432
            have HR432_0 := Aside0.mk hi432_0
            have HC432_0 := Aside0.mk hl432_0
            clear hi432_0 hl432_0
            replace p432 := eq_true p432
            replace q432 := eq_true q432
            go_wp2_with (first | ((with_reducible refine gate_callee (f := 47) rfl ?_); refine goesL_ (some 17) rfl rfl Try.func47 (by kernel_rfl) rfl #[.slice A432_0 (rd_L2 l0 x5_1).length c432_0, .int .i64 x1_1] rfl (by (try simp only [List.map_toArray, List.map_cons, List.map_nil]); first | done | rfl | (simp only [List.length_drop, List.length_take]; rfl)) ?_; (with_reducible refine (laws_heldIntS.calls k1 _ _ (rd_L2 l0 x5_1) x1_1 t433 _ ?side1 ?side2 A5.out).mono ?_); (case side1 => repeat (first | exact HR432_0.out | (with_reducible refine Kd.C_alloc ?_ _) | (with_reducible refine Kd.C_drewN ?_ _) | (with_reducible refine Kd.C_drew ?_))); (case side2 => exact HC432_0.out); rintro e w' ⟨rfl, ⟨nd, rfl⟩⟩; refine ⟨_, rfl, ?_⟩))
            go_roundg k1
            case measure => have := HK1.out; omega
            case rel => exact ⟨(t433), (wrap64 (x5_1 + 1)), (by first | rfl | (simp; done) | (simp [*]; done)), (by first | rfl | (simp; done) | (simp [*]; done)), H', ⟨by have := HK1.out; omega⟩, by repeat (first | exact Drawn0.refl _ | apply Drawn0.step)⟩
        · rw [if_neg c4] at H
          exact absurd H (by simp)
      · rw [if_neg c3] at H
        have c3b0 : decide (x5_1 < (l0.length : Int)) = false := decide_eq_false c3
        clear c3
        obtain rfl := Option.some.inj H
        go_wp2
        go_ret
        exact ⟨by first | rfl | (simp; done) | (simp [*]; done), by repeat (first | exact Drawn0.refl _ | apply Drawn0.step)⟩

end Go.Proofs.Ytllnieknogficaa.K
namespace Go.Proofs.Ytllnieknogficaa.K
open Go.RowKit Go.Proofs.YtllnieknogficaaW.PrintWords Go.Proofs.YtllnieknogficaaW.PrintLast Go.Proofs.YtllnieknogficaaW.PrintMore
attribute [local go_sem] max2_int min2_int max_two min_two max_three min_three max_four min_four   -- for this text's walks alone
set_option linter.unusedVariables false
set_option linter.unusedSimpArgs false

/-! ### laws_toIntS: function 42 -/
def laws_toIntS.l0 : Nat → List Int → List Int → Int → Option (List Int)
  | 0, _, _, _ => none
  | k + 1, x0, x3, x4 => if x4 < (x0.length : Int) then (if 0 ≤ x4 then (if x4 < (x3.length : Int) then (laws_toIntS.l0 k x0 (x3.set (x4 : Int).toNat (rd x0 x4)) (wrap64 (x4 + 1))) else (none)) else (none)) else (some x3)
def laws_toIntS.f (k : Nat) (l0 : List Int) : Option (List Int) := if 0 ≤ (l0.length : Int) then (if ((l0.length : Int) : Int).toNat ≤ 35184372088832 then (laws_toIntS.l0 k l0 (List.replicate ((l0.length : Int) : Int).toNat 0) 0) else (none)) else (none)
theorem laws_toIntS.mono_l : ∀ k, (∀ y0 y1 y2, LeO (laws_toIntS.l0 k y0 y1 y2) (laws_toIntS.l0 (k + 1) y0 y1 y2))
  | 0 => fun _ _ _ r h => by simp [laws_toIntS.l0] at h
  | k + 1 => by
    have ih0 := laws_toIntS.mono_l k
    · intro y0 y1 y2
      unfold laws_toIntS.l0
      repeat' first
      | (with_reducible exact ih0 _ _ _)
      | (with_reducible exact LeO.refl _)
      | (with_reducible exact LeO.none _)
      | (with_reducible refine LeO.ite ?_ ?_)
      | (with_reducible refine LeO.bind ?_ (fun _ => ?_))
      | exact ih0 _ _ _
      | exact LeO.none _
      | refine LeO.ite ?_ ?_
      | refine LeO.bind ?_ (fun _ => ?_)
theorem laws_toIntS.mono : ∀ a0 k, LeO (laws_toIntS.f k a0) (laws_toIntS.f (k + 1) a0) := by
  intro a0 k
  have ih0 := laws_toIntS.mono_l k
  unfold laws_toIntS.f
  repeat' first
      | (with_reducible exact ih0 _ _ _)
      | (with_reducible exact LeO.refl _)
      | (with_reducible exact LeO.none _)
      | (with_reducible refine LeO.ite ?_ ?_)
      | (with_reducible refine LeO.bind ?_ (fun _ => ?_))
      | exact ih0 _ _ _
      | exact LeO.none _
      | refine LeO.ite ?_ ?_
      | refine LeO.bind ?_ (fun _ => ?_)
set_option maxHeartbeats 8000000 in
set_option maxRecDepth 100000 in
theorem laws_toIntS.calls (k : Nat) (A0 : Option Addr) (c0 : Nat) (l0 : List Int) (r : List Int) (w : World) (hr0 : Kd.C (Kd.int .i64) w A0 l0.length l0) (hc0 : l0.length ≤ c0) (h : laws_toIntS.f k l0 = some r) :
    Calls Try.prog 42 #[.slice A0 l0.length c0] w fun e w' => ∃ v0_ : Value, e = .returned (v0_) ∧ Kd.R (Kd.int .i64) 3 w' w.heap.size (fun _ => True) v0_ r ∧ Below w.heap.size w w' := by
  have HR0 := Aside0.mk hr0
  have HC0 := Aside0.mk hc0
  clear hr0 hc0
  have HB := Aside0.mk (Below.refl w.heap.size w)
  have H : (if 0 ≤ (l0.length : Int) then (if ((l0.length : Int) : Int).toNat ≤ 35184372088832 then (laws_toIntS.l0 k l0 (List.replicate ((l0.length : Int) : Int).toNat 0) 0) else (none)) else (none)) = some r := h
  clear h
  by_cases c2 : 0 ≤ (l0.length : Int)
  · rw [if_pos c2] at H
    have c2b0 := eq_true c2
    have c2b1 : decide (0 ≤ (l0.length : Int)) = true := decide_eq_true c2
    clear c2
    by_cases c3 : ((l0.length : Int) : Int).toNat ≤ 35184372088832
    · rw [if_pos c3] at H
      have c3b0 := eq_true c3
      have c3b1 : decide (((l0.length : Int) : Int).toNat ≤ 35184372088832) = true := decide_eq_true c3
      clear c3
      obtain ⟨y397, hy397⟩ : ∃ y_ : List Int, y_ = (List.replicate ((l0.length : Int) : Int).toNat 0) := ⟨_, rfl⟩
      replace H : (laws_toIntS.l0 k l0 y397 0) = some r := by first | (rw [hy397]; with_reducible exact H) | (have H2_ := (Option.bind_some _ _).symm.trans H; rw [hy397]; with_reducible exact H2_) | (have H2_ := (Option.bind_some _ _).symm.trans H; with_reducible exact H2_) | with_reducible exact H | (rw [hy397]; exact H) | exact H
      have Ny397 := Aside0.mk hy397
      clear hy397
      have H' := Aside0.mk H
      clear H
      go_enter Try.func42, Try.ntmps42
      go_wp2_with (first | ((with_reducible refine gate_dst (N := 7) rfl ?_); refine Kd.R_make (Kd.int .i64) _ 3 rfl (N := 7) rfl 24 _ _ rfl (l0.length : Int) rfl rfl Try.underlying24 (.int .i64 0) 8 info3 rfl (by decide) (by omega) 0 (ok := fun _ => True) (okp := fun _ => True) rfl (fun _ hk => hk) trivial (of_decide_eq_true (by first | (with_reducible assumption) | assumption)) (Nat.le_trans (Nat.mul_le_mul_right _ (of_decide_eq_true (by first | (with_reducible assumption) | assumption) : (l0.length : Int).toNat ≤ 35184372088832)) (by omega)) (Below.refl _ _) (Nat.le_refl _) ?_; intro v398 w4 ho5 hb hg_ hnew_; clear hg_ hnew_; (first | rw [← Ny397.out] at ho5 | (simp only [Int.reduceToNat] at ho5; rw [← Ny397.out] at ho5)); have n0_ := Aside0.mk (Kd.R_lower ho5 (below_size (by repeat (first | (with_reducible first | exact HB.out | apply below_alloc | apply pw_below_drewN | apply below_drew1) | exact HB.out)))); have n1_ := Aside0.mk (below_step (by repeat (first | (with_reducible first | exact HB.out | apply below_alloc | apply pw_below_drewN | apply below_drew1) | exact HB.out)) hb); clear HB; have HO399 := n0_; have HB := n1_; clear n0_ n1_; clear hb ho5))
      go_loopg [4] k (fun kq v4 w' => ∃ (x3_1 : List Int) (x4_1 : Int), v4 = .int .i64 x4_1 ∧ Aside0 (laws_toIntS.l0 kq l0 x3_1 x4_1 = some r) ∧ Aside0 (kq ≤ k) ∧ Aside0 (Kd.R (Kd.int .i64) 3 w' w.heap.size (fun _ => True) v398 x3_1) ∧ Aside0 (Below w.heap.size w w'))
      case atStart => exact ⟨(y397), (0), (by first | rfl | (simp; done) | (simp [*]; done)), H', ⟨Nat.le_refl _⟩, ⟨by (with_reducible repeat (first | apply Kd.R_alloc | apply Kd.R_drewN | apply Kd.R_drew)); exact HO399.out⟩, ⟨by repeat (first | (with_reducible first | exact HB.out | apply below_alloc | apply pw_below_drewN | apply below_drew1) | exact HB.out)⟩⟩
      case round =>
        clear H'
        try clear c2
        try clear c2b0
        try clear c2b1
        try clear p2
        try clear c3
        try clear c3b0
        try clear c3b1
        try clear c4
        obtain ⟨x3_1, x4_1, rfl, HA, HK1, HO_3, HB⟩ := hrel
        cases gk with
        | zero => exact absurd HA.out (by simp [laws_toIntS.l0])
        | succ k1 =>
          have H := HA.out
          clear HA
          simp only [laws_toIntS.l0] at H
          by_cases c6 : x4_1 < (l0.length : Int)
          · rw [if_pos c6] at H
            have c6b0 : decide (x4_1 < (l0.length : Int)) = true := decide_eq_true c6
            clear c6
            by_cases c7 : 0 ≤ x4_1
            · rw [if_pos c7] at H
              have c7b0 : decide (0 ≤ x4_1) = true := decide_eq_true c7
              clear c7
              by_cases c8 : x4_1 < (x3_1.length : Int)
              · rw [if_pos c8] at H
                have c8b0 : decide (x4_1 < (x3_1.length : Int)) = true := decide_eq_true c8
                clear c8
                obtain ⟨y401, hy401⟩ : ∃ y_ : List Int, y_ = (x3_1.set (x4_1 : Int).toNat (rd l0 x4_1)) := ⟨_, rfl⟩
                replace H : (laws_toIntS.l0 k1 l0 y401 (wrap64 (x4_1 + 1))) = some r := by first | (rw [hy401]; with_reducible exact H) | (have H2_ := (Option.bind_some _ _).symm.trans H; rw [hy401]; with_reducible exact H2_) | (have H2_ := (Option.bind_some _ _).symm.trans H; with_reducible exact H2_) | with_reducible exact H | (rw [hy401]; exact H) | exact H
                have Ny401 := Aside0.mk hy401
                clear hy401
                have H' := Aside0.mk H
                clear H
                have p400 : 0 ≤ (x4_1 : Int) := of_decide_eq_true (by first | (with_reducible assumption) | assumption)
                have q400 : x4_1 < (l0.length : Int) := of_decide_eq_true (by first | (with_reducible assumption) | assumption)
                obtain ⟨ad400, e400, hx400_0⟩ := Kd.at_int HR0.out x4_1 p400 q400
                cases e400
                replace hx400_0 := (HB.out.cell (World.block_lt_of_cell? w _ hx400_0)).trans hx400_0
                replace p400 := eq_true p400
                replace q400 := eq_true q400
                have p9 : 0 ≤ (x4_1 : Int) := of_decide_eq_true (by first | (with_reducible assumption) | assumption)
                have q9 : (x4_1 : Int) < ((x3_1.length : Int) : Int) := of_decide_eq_true (by first | (with_reducible assumption) | assumption)
                obtain ⟨go9, co9, eo9, gb9, gl9, cl9, HG9⟩ := Kd.R_form HO_3.out (by omega)
                (first | cases eo9 | (injection eo9 with ea_ en_ ec_; (first | subst ea_ | (injection ea_ with ea_; subst ea_)); subst ec_; clear en_))
                have GB9 := Aside0.mk gb9
                have GG9 := Aside0.mk HG9
                clear gb9 gl9 HG9
                obtain ⟨hx9_0, hf9_0⟩ := Kd.R_celln 0 HO_3.out (x4_1 : Int) p9 q9
                replace p9 := eq_true p9
                replace q9 := eq_true q9
                have HP10 := Kd.R_putg HO_3.out (x4_1 : Int) (rd l0 x4_1)
                go_wp2_with (first | ((with_reducible refine gate_store (t := 3) (p := 20) rfl ?_); refine store_event (t := 3) (p := 20) (v := ?vo_w11) (w1 := (wr.setCell ⟨go9, (x4_1 : Int).toNat, none⟩ (.int .i64 (rd l0 x4_1)))) ?hg ?ho ?hn ?hr ?_; (case ho => rfl); (case hg => rfl); (case hn => rfl); (case hr => first | (go_simp; done) | (go_simp; rfl)); intro w11 hw; have hg : wr.grownBy w11 (some go9) := (by rw [hw]; exact HP10.2); have hp_ : Kd.R (Kd.int .i64) 3 w11 w.heap.size (fun _ => True) (.slice (some ⟨go9, 0, none⟩) x3_1.length co9) y401 := (by rw [hw, Ny401.out]; exact HP10.1); clear HP10; have n0_ := Aside0.mk (hp_); have n1_ := Aside0.mk ((by rw [hw]; exact below_set (HB.out) GB9.out : Below w.heap.size w w11)); clear HO_3; clear HB; have HO_3 := n0_; have HB := n1_; clear n0_ n1_; clear hg hw hp_))
                go_roundg k1
                case measure => have := HK1.out; omega
                case rel => exact ⟨(y401), (wrap64 (x4_1 + 1)), (by first | rfl | (simp; done) | (simp [*]; done)), H', ⟨by have := HK1.out; omega⟩, ⟨by (with_reducible repeat (first | apply Kd.R_alloc | apply Kd.R_drewN | apply Kd.R_drew)); exact HO_3.out⟩, ⟨by repeat (first | (with_reducible first | exact HB.out | apply below_alloc | apply pw_below_drewN | apply below_drew1) | exact HB.out)⟩⟩
              · rw [if_neg c8] at H
                exact absurd H (by simp)
            · rw [if_neg c7] at H
              exact absurd H (by simp)
          · rw [if_neg c6] at H
            have c6b0 : decide (x4_1 < (l0.length : Int)) = false := decide_eq_false c6
            clear c6
            obtain rfl := Option.some.inj H
            go_wp2
            go_ret
            exact ⟨_, by first | rfl | (simp [errW_none, errW_some] <;> rfl) | (simp [*, errW_none, errW_some] <;> rfl), by (with_reducible repeat (first | apply Kd.R_alloc | apply Kd.R_drewN | apply Kd.R_drew)); exact HO_3.out, by repeat (first | (with_reducible first | exact HB.out | apply below_alloc | apply pw_below_drewN | apply below_drew1) | exact HB.out)⟩
    · rw [if_neg c3] at H
      exact absurd H (by simp)
  · rw [if_neg c2] at H
    exact absurd H (by simp)

end Go.Proofs.Ytllnieknogficaa.K
namespace Go.Proofs.Ytllnieknogficaa.K
open Go.RowKit Go.Proofs.YtllnieknogficaaW.PrintWords Go.Proofs.YtllnieknogficaaW.PrintLast Go.Proofs.YtllnieknogficaaW.PrintMore
attribute [local go_sem] max2_int min2_int max_two min_two max_three min_three max_four min_four   -- for this text's walks alone
set_option linter.unusedVariables false
set_option linter.unusedSimpArgs false

/-! ### laws_toIntSS: function 36 -/
def laws_toIntSS.l0 : Nat → List (List Int) → List (List Int) → Int → Option ((List (List Int)))
  | 0, _, _, _ => none
  | k + 1, x0, x3, x4 => if x4 < (x0.length : Int) then (if 0 ≤ x4 then ((laws_toIntS.f k (rd_L2 x0 x4)).bind fun t406 => (if x4 < (x3.length : Int) then (laws_toIntSS.l0 k x0 (x3.set (x4 : Int).toNat t406) (wrap64 (x4 + 1))) else (none))) else (none)) else (some x3)
def laws_toIntSS.f (k : Nat) (l0 : List (List Int)) : Option ((List (List Int))) := if 0 ≤ (l0.length : Int) then (if ((l0.length : Int) : Int).toNat ≤ 11728124029610 then (laws_toIntSS.l0 k l0 (List.replicate ((l0.length : Int) : Int).toNat []) 0) else (none)) else (none)
theorem laws_toIntSS.mono_l : ∀ k, (∀ y0 y1 y2, LeO (laws_toIntSS.l0 k y0 y1 y2) (laws_toIntSS.l0 (k + 1) y0 y1 y2))
  | 0 => fun _ _ _ r h => by simp [laws_toIntSS.l0] at h
  | k + 1 => by
    have ih0 := laws_toIntSS.mono_l k
    · intro y0 y1 y2
      unfold laws_toIntSS.l0
      repeat' first
      | (with_reducible exact ih0 _ _ _)
      | (with_reducible exact laws_toIntS.mono _ _)
      | (with_reducible exact LeO.refl _)
      | (with_reducible exact LeO.none _)
      | (with_reducible refine LeO.ite ?_ ?_)
      | (with_reducible refine LeO.bind ?_ (fun _ => ?_))
      | exact ih0 _ _ _
      | exact laws_toIntS.mono _ _
      | exact LeO.none _
      | refine LeO.ite ?_ ?_
      | refine LeO.bind ?_ (fun _ => ?_)
theorem laws_toIntSS.mono : ∀ a0 k, LeO (laws_toIntSS.f k a0) (laws_toIntSS.f (k + 1) a0) := by
  intro a0 k
  have ih0 := laws_toIntSS.mono_l k
  unfold laws_toIntSS.f
  repeat' first
      | (with_reducible exact ih0 _ _ _)
      | (with_reducible exact laws_toIntS.mono _ _)
      | (with_reducible exact LeO.refl _)
      | (with_reducible exact LeO.none _)
      | (with_reducible refine LeO.ite ?_ ?_)
      | (with_reducible refine LeO.bind ?_ (fun _ => ?_))
      | exact ih0 _ _ _
      | exact laws_toIntS.mono _ _
      | exact LeO.none _
      | refine LeO.ite ?_ ?_
      | refine LeO.bind ?_ (fun _ => ?_)
set_option maxHeartbeats 8000000 in
set_option maxRecDepth 100000 in
theorem laws_toIntSS.calls (k : Nat) (A0 : Option Addr) (c0 : Nat) (l0 : List (List Int)) (r : List (List Int)) (w : World) (hr0 : Kd.C (Kd.slice 3 (Kd.int .i64)) w A0 l0.length l0) (hc0 : l0.length ≤ c0) (h : laws_toIntSS.f k l0 = some r) :
    Calls Try.prog 36 #[.slice A0 l0.length c0] w fun e w' => ∃ v0_ : Value, e = .returned (v0_) ∧ Kd.S (Kd.slice 3 (Kd.int .i64)) 24 w' w.heap.size (fun _ => True) v0_ r ∧ Below w.heap.size w w' := by
  have HR0 := Aside0.mk hr0
  have HC0 := Aside0.mk hc0
  clear hr0 hc0
  have HB := Aside0.mk (Below.refl w.heap.size w)
  have H : (if 0 ≤ (l0.length : Int) then (if ((l0.length : Int) : Int).toNat ≤ 11728124029610 then (laws_toIntSS.l0 k l0 (List.replicate ((l0.length : Int) : Int).toNat []) 0) else (none)) else (none)) = some r := h
  clear h
  by_cases c2 : 0 ≤ (l0.length : Int)
  · rw [if_pos c2] at H
    have c2b0 := eq_true c2
    have c2b1 : decide (0 ≤ (l0.length : Int)) = true := decide_eq_true c2
    clear c2
    by_cases c3 : ((l0.length : Int) : Int).toNat ≤ 11728124029610
    · rw [if_pos c3] at H
      have c3b0 := eq_true c3
      have c3b1 : decide (((l0.length : Int) : Int).toNat ≤ 11728124029610) = true := decide_eq_true c3
      clear c3
      obtain ⟨y402, hy402⟩ : ∃ y_ : List (List Int), y_ = (List.replicate ((l0.length : Int) : Int).toNat []) := ⟨_, rfl⟩
      replace H : (laws_toIntSS.l0 k l0 y402 0) = some r := by first | (rw [hy402]; with_reducible exact H) | (have H2_ := (Option.bind_some _ _).symm.trans H; rw [hy402]; with_reducible exact H2_) | (have H2_ := (Option.bind_some _ _).symm.trans H; with_reducible exact H2_) | with_reducible exact H | (rw [hy402]; exact H) | exact H
      have Ny402 := Aside0.mk hy402
      clear hy402
      have H' := Aside0.mk H
      clear H
      go_enter Try.func36, Try.ntmps36
      go_wp2_with (first | ((with_reducible refine gate_dst (N := 7) rfl ?_); refine Kd.S_make (Kd.slice 3 (Kd.int .i64)) _ 24 rfl (N := 7) rfl 37 _ _ rfl (l0.length : Int) rfl rfl Try.underlying37 (.slice none 0 0) 24 info24 rfl (by decide) (by omega) [] (ok := fun _ => True) (okp := fun _ => True) ⟨_, rfl, Kd.R_nil _ _ _ _ _⟩ (fun _ hk => hk) trivial (of_decide_eq_true (by first | (with_reducible assumption) | assumption)) (Nat.le_trans (Nat.mul_le_mul_right _ (of_decide_eq_true (by first | (with_reducible assumption) | assumption) : (l0.length : Int).toNat ≤ 11728124029610)) (by omega)) (Below.refl _ _) (Nat.le_refl _) ?_; intro v403 w4 ho5 hb hg_ hnew_; clear hg_ hnew_; (first | rw [← Ny402.out] at ho5 | (simp only [Int.reduceToNat] at ho5; rw [← Ny402.out] at ho5)); have n0_ := Aside0.mk (Kd.S_lower ho5 (below_size (by repeat (first | (with_reducible first | exact HB.out | apply below_alloc | apply pw_below_drewN | apply below_drew1) | exact HB.out)))); have n1_ := Aside0.mk (below_step (by repeat (first | (with_reducible first | exact HB.out | apply below_alloc | apply pw_below_drewN | apply below_drew1) | exact HB.out)) hb); clear HB; have HO404 := n0_; have HB := n1_; clear n0_ n1_; clear hb ho5))
      go_loopg [4] k (fun kq v4 w' => ∃ (x3_1 : List (List Int)) (x4_1 : Int), v4 = .int .i64 x4_1 ∧ Aside0 (laws_toIntSS.l0 kq l0 x3_1 x4_1 = some r) ∧ Aside0 (kq ≤ k) ∧ Aside0 (Kd.S (Kd.slice 3 (Kd.int .i64)) 24 w' w.heap.size (fun _ => True) v403 x3_1) ∧ Aside0 (Below w.heap.size w w'))
      case atStart => exact ⟨(y402), (0), (by first | rfl | (simp; done) | (simp [*]; done)), H', ⟨Nat.le_refl _⟩, ⟨by (with_reducible repeat (first | apply Kd.S_alloc | apply Kd.S_drewN | apply Kd.S_drew)); exact HO404.out⟩, ⟨by repeat (first | (with_reducible first | exact HB.out | apply below_alloc | apply pw_below_drewN | apply below_drew1) | exact HB.out)⟩⟩
      case round =>
        clear H'
        try clear c2
        try clear c2b0
        try clear c2b1
        try clear p2
        try clear c3
        try clear c3b0
        try clear c3b1
        obtain ⟨x3_1, x4_1, rfl, HA, HK1, HO_3, HB⟩ := hrel
        cases gk with
        | zero => exact absurd HA.out (by simp [laws_toIntSS.l0])
        | succ k1 =>
          have H := HA.out
          clear HA
          simp only [laws_toIntSS.l0] at H
          by_cases c6 : x4_1 < (l0.length : Int)
          · rw [if_pos c6] at H
            have c6b0 : decide (x4_1 < (l0.length : Int)) = true := decide_eq_true c6
            clear c6
            by_cases c7 : 0 ≤ x4_1
            · rw [if_pos c7] at H
              have c7b0 : decide (0 ≤ x4_1) = true := decide_eq_true c7
              clear c7
              replace H := Option.bind_eq_some_iff.mp H
              obtain ⟨t406, A80, H⟩ := H
              replace H : (if x4_1 < (x3_1.length : Int) then (laws_toIntSS.l0 k1 l0 (x3_1.set (x4_1 : Int).toNat t406) (wrap64 (x4_1 + 1))) else (none)) = some r := H
              have A8 := Aside0.mk A80
              clear A80
              by_cases c9 : x4_1 < (x3_1.length : Int)
              · rw [if_pos c9] at H
                have c9b0 : decide (x4_1 < (x3_1.length : Int)) = true := decide_eq_true c9
                clear c9
                obtain ⟨y409, hy409⟩ : ∃ y_ : List (List Int), y_ = (x3_1.set (x4_1 : Int).toNat t406) := ⟨_, rfl⟩
                replace H : (laws_toIntSS.l0 k1 l0 y409 (wrap64 (x4_1 + 1))) = some r := by first | (rw [hy409]; with_reducible exact H) | (have H2_ := (Option.bind_some _ _).symm.trans H; rw [hy409]; with_reducible exact H2_) | (have H2_ := (Option.bind_some _ _).symm.trans H; with_reducible exact H2_) | with_reducible exact H | (rw [hy409]; exact H) | exact H
                have Ny409 := Aside0.mk hy409
                clear hy409
                have H' := Aside0.mk H
                clear H
                have p405 : 0 ≤ (x4_1 : Int) := of_decide_eq_true (by first | (with_reducible assumption) | assumption)
                have q405 : x4_1 < (l0.length : Int) := of_decide_eq_true (by first | (with_reducible assumption) | assumption)
                obtain ⟨ad405, A405_0, c405_0, e405, hx405_0, hl405_0, hi405_0⟩ := at_L2 HR0.out x4_1 p405 q405
                cases e405
                replace hx405_0 := (HB.out.cell (World.block_lt_of_cell? w _ hx405_0)).trans hx405_0
                have HR405_0 := Aside0.mk hi405_0
                have HC405_0 := Aside0.mk hl405_0
                clear hi405_0 hl405_0
                replace p405 := eq_true p405
                replace q405 := eq_true q405
                go_wp2_with (first | ((with_reducible refine gate_callee (f := 42) rfl ?_); refine goesL_ (some 20) rfl rfl Try.func42 (by kernel_rfl) rfl #[.slice A405_0 (rd_L2 l0 x4_1).length c405_0] rfl (by (try simp only [List.map_toArray, List.map_cons, List.map_nil]); first | done | rfl | (simp only [List.length_drop, List.length_take]; rfl)) ?_; (with_reducible refine (laws_toIntS.calls k1 _ _ (rd_L2 l0 x4_1) t406 _ ?side1 ?side2 A8.out).mono ?_); (case side1 => repeat (first | exact (Kd.C_below HR405_0.out HB.out) | (with_reducible refine Kd.C_alloc ?_ _) | (with_reducible refine Kd.C_drewN ?_ _) | (with_reducible refine Kd.C_drew ?_))); (case side2 => exact HC405_0.out); rintro e w11 ⟨v407, rfl, ho0, hb⟩; refine ⟨_, rfl, ?_⟩; have n0_ := Aside0.mk (Kd.S_elder' (by (with_reducible repeat (first | apply Kd.S_alloc | apply Kd.S_drewN | apply Kd.S_drew)); exact HO_3.out) (Kd.R_base ho0) hb); have n1_ := Aside0.mk (Kd.R_lower ho0 (below_size (by repeat (first | (with_reducible first | exact HB.out | apply below_alloc | apply pw_below_drewN | apply below_drew1) | exact HB.out)))); have n2_ := Aside0.mk (below_step (by repeat (first | (with_reducible first | exact HB.out | apply below_alloc | apply pw_below_drewN | apply below_drew1) | exact HB.out)) hb); clear HO_3; clear HB; have HO_3 := n0_; have HO408 := n1_; have HB := n2_; clear n0_ n1_ n2_; (try clear hb); (try clear hb2); (try clear hk); (try clear hi); (try clear ho0); have p10 : 0 ≤ (x4_1 : Int) := of_decide_eq_true (by first | (with_reducible assumption) | assumption); have q10 : (x4_1 : Int) < ((x3_1.length : Int) : Int) := of_decide_eq_true (by first | (with_reducible assumption) | assumption); obtain ⟨go10, co10, eo10, gb10, gl10, cl10, HG10⟩ := Kd.S_form HO_3.out (by omega); (first | cases eo10 | (injection eo10 with ea_ en_ ec_; (first | subst ea_ | (injection ea_ with ea_; subst ea_)); subst ec_; clear en_)); have GB10 := Aside0.mk gb10; have GG10 := Aside0.mk HG10; clear gb10 gl10 HG10; obtain ⟨_, ce10, hcl10, hM10, hcc10, hfr10, _, _⟩ := Kd.S_elem HO_3.out [] (x4_1 : Int) p10 q10; obtain ⟨ve10_0, rfl, ge10_0⟩ := hM10; have hx10_0 := hcc10 0 _ rfl; have hf10_0 := hfr10 0; (try simp only [show ((Kd.slice 3 (Kd.int .i64))).sz = 1 from rfl, Nat.mul_one, Nat.add_zero] at hx10_0); (try simp only [show ((Kd.slice 3 (Kd.int .i64))).sz = 1 from rfl, Nat.mul_one, Nat.add_zero] at hf10_0); (try clear hcl10); (try clear hcc10); (try clear hfr10); (try clear hM10); replace p10 := eq_true p10; replace q10 := eq_true q10; have n_ := Aside0.mk (Kd.S_mono (ok' := (fun k_ => some k_ ≠ (v407 : Value).ownBlock)) HO_3.out (fun k_ hk => hk.2)); clear HO_3; have HO_3 := n_; clear n_; have HX12 := Aside0.mk (show Kd.S (Kd.slice 3 (Kd.int .i64)) 24 w11 w.heap.size (fun k_ => ((fun _ => True)) k_ ∧ ¬ ((fun k_ => some k_ = (v407 : Value).ownBlock)) k_) (.slice (some ⟨go10, 0, none⟩) x3_1.length co10) x3_1 from (by (with_reducible repeat (first | apply Kd.S_alloc | apply Kd.S_drewN | apply Kd.S_drew)); exact Kd.S_mono HO_3.out (fun k_ hk => ⟨trivial, fun e_ => hk e_⟩))); obtain ⟨oki12, ce12, hcl12, hM12, hcc12, hfr12, hoki12, hH12⟩ := Kd.S_elem HX12.out [] (x4_1 : Int) (of_decide_eq_true (by first | (with_reducible assumption) | assumption)) (by have h_ : (x4_1 : Int) < ((x3_1.length : Int) : Int) := of_decide_eq_true (by first | (with_reducible assumption) | assumption); first | exact h_ | (have e_ := (Kd.S_reads' HO_3.out).1; omega) | simpa using h_); obtain ⟨ve12_0, rfl, ge12_0⟩ := hM12; have HP12 := Kd.S_seg hH12 (of_decide_eq_true (by first | (with_reducible assumption) | assumption)) (by have h_ : (x4_1 : Int) < ((x3_1.length : Int) : Int) := of_decide_eq_true (by first | (with_reducible assumption) | assumption); first | exact h_ | (have e_ := (Kd.S_reads' HO_3.out).1; omega) | simpa using h_) (seg := [v407]) (j := 0) (show 1 ≤ 1 from by decide) (x' := t406) (Kd.M_row (Kd.R_mono (Kd.R_tight rfl (Kd.R_mono (ok' := fun k_ => ((fun _ => True)) k_ ∧ k_ ≠ go10) (Kd.R_apart' (HO408.out) (Kd.S_typed HO_3.out) (by decide)) (fun k_ hk => ⟨trivial, fun e_ => (hk.2) (by rw [e_]; rfl)⟩))) (fun _ h_ => Or.inr (h_)))) (fun _ hk => hk) (fun k_ hk_ => ((Kd.R_mono (ok' := fun k_ => ((fun _ => True)) k_ ∧ k_ ≠ go10) (Kd.R_apart' (HO408.out) (Kd.S_typed HO_3.out) (by decide)) (fun k_ hk => ⟨trivial, fun e_ => (hk.2) (by rw [e_]; rfl)⟩))).1 k_ hk_.symm); have hx12_0 := hcc12 0 _ rfl; (try simp only [show ((Kd.slice 3 (Kd.int .i64))).sz = 1 from rfl, Nat.mul_one, Nat.add_zero] at hx12_0); have hf12_0 := hfr12 0; (try simp only [show ((Kd.slice 3 (Kd.int .i64))).sz = 1 from rfl, Nat.mul_one, Nat.add_zero] at hf12_0); (try clear hcl12); (try clear hcc12); (try clear hfr12); (try clear hM12); (try clear hoki12); (try clear hH12); (try simp only [show ((Kd.slice 3 (Kd.int .i64))).sz = 1 from rfl, Nat.mul_one, Nat.add_zero] at HP12)) | ((with_reducible refine gate_store (t := 24) (p := 21) rfl ?_); refine store_event (t := 24) (p := 21) (v := ?vo_w13) (w1 := (w11.setCell ⟨go10, (x4_1 : Int).toNat, none⟩ (v407))) ?hg ?ho ?hn ?hr ?_; (case ho => rfl); (case hg => rfl); (case hn => rfl); (case hr => obtain ⟨A_, c_, e_, _, _⟩ := Kd.R_reads HO408.out; rw [e_]; (first | (go_simp; done) | (go_simp; rfl))); intro w13 hw; have hg : w11.grownBy w13 (some go10) := (by rw [hw]; exact HP12.2); have hp_ : Kd.S (Kd.slice 3 (Kd.int .i64)) 24 w13 w.heap.size (fun _ => True) (.slice (some ⟨go10, 0, none⟩) x3_1.length co10) y409 := (by rw [hw, Ny409.out]; exact HP12.1); clear HP12; have n0_ := Aside0.mk (hp_); have n1_ := Aside0.mk ((by rw [hw]; exact below_set (HB.out) GB10.out : Below w.heap.size w w13)); clear HO_3; clear HB; clear HO408; have HO_3 := n0_; have HB := n1_; clear n0_ n1_; clear hg hw hp_))
                go_roundg k1
                case measure => have := HK1.out; omega
                case rel => exact ⟨(y409), (wrap64 (x4_1 + 1)), (by first | rfl | (simp; done) | (simp [*]; done)), H', ⟨by have := HK1.out; omega⟩, ⟨by (with_reducible repeat (first | apply Kd.S_alloc | apply Kd.S_drewN | apply Kd.S_drew)); exact HO_3.out⟩, ⟨by repeat (first | (with_reducible first | exact HB.out | apply below_alloc | apply pw_below_drewN | apply below_drew1) | exact HB.out)⟩⟩
              · rw [if_neg c9] at H
                exact absurd H (by simp)
            · rw [if_neg c7] at H
              exact absurd H (by simp)
          · rw [if_neg c6] at H
            have c6b0 : decide (x4_1 < (l0.length : Int)) = false := decide_eq_false c6
            clear c6
            obtain rfl := Option.some.inj H
            go_wp2
            go_ret
            exact ⟨_, by first | rfl | (simp [errW_none, errW_some] <;> rfl) | (simp [*, errW_none, errW_some] <;> rfl), by (with_reducible repeat (first | apply Kd.S_alloc | apply Kd.S_drewN | apply Kd.S_drew)); exact HO_3.out, by repeat (first | (with_reducible first | exact HB.out | apply below_alloc | apply pw_below_drewN | apply below_drew1) | exact HB.out)⟩
    · rw [if_neg c3] at H
      exact absurd H (by simp)
  · rw [if_neg c2] at H
    exact absurd H (by simp)

end Go.Proofs.Ytllnieknogficaa.K
namespace Go.Proofs.Ytllnieknogficaa.K
open Go.RowKit Go.Proofs.YtllnieknogficaaW.PrintWords Go.Proofs.YtllnieknogficaaW.PrintLast Go.Proofs.YtllnieknogficaaW.PrintMore
attribute [local go_sem] max2_int min2_int max_two min_two max_three min_three max_four min_four   -- for this text's walks alone
set_option linter.unusedVariables false
set_option linter.unusedSimpArgs false

/-! ### laws_szIntS: function 124 -/
def laws_szIntS.f (l0 : List Int) (a1 : Int) : Option (Int) := if (wrap64 (a1 - (l0.length : Int))) < 0 then (some (-1)) else (some (wrap64 (a1 - (l0.length : Int))))
set_option maxHeartbeats 8000000 in
set_option maxRecDepth 100000 in
theorem laws_szIntS.calls (A0 : Option Addr) (c0 : Nat) (l0 : List Int) (a1 : Int) (r : Int) (w : World) (hr0 : Kd.C (Kd.int .i64) w A0 l0.length l0) (hc0 : l0.length ≤ c0) (h : laws_szIntS.f l0 a1 = some r) :
    Calls Try.prog 124 #[.slice A0 l0.length c0, .int .i64 a1] w fun e w' => e = .returned (.int .i64 r) ∧ Drawn0 w w' := by
  have HR0 := Aside0.mk hr0
  have HC0 := Aside0.mk hc0
  clear hr0 hc0
  have H : (if (wrap64 (a1 - (l0.length : Int))) < 0 then (some (-1)) else (some (wrap64 (a1 - (l0.length : Int))))) = some r := h
  clear h
  by_cases c3 : (wrap64 (a1 - (l0.length : Int))) < 0
  · rw [if_pos c3] at H
    have c3b0 : decide ((wrap64 (a1 - (l0.length : Int))) < 0) = true := decide_eq_true c3
    clear c3
    obtain rfl := Option.some.inj H
    go_enter Try.func124, Try.ntmps124
    go_wp2
    go_ret
    exact ⟨by first | rfl | (simp; done) | (simp [*]; done), by repeat (first | exact Drawn0.refl _ | apply Drawn0.step)⟩
  · rw [if_neg c3] at H
    have c3b0 : decide ((wrap64 (a1 - (l0.length : Int))) < 0) = false := decide_eq_false c3
    clear c3
    obtain rfl := Option.some.inj H
    go_enter Try.func124, Try.ntmps124
    go_wp2
    go_ret
    exact ⟨by first | rfl | (simp; done) | (simp [*]; done), by repeat (first | exact Drawn0.refl _ | apply Drawn0.step)⟩

end Go.Proofs.Ytllnieknogficaa.K
namespace Go.Proofs.Ytllnieknogficaa.K
open Go.RowKit Go.Proofs.YtllnieknogficaaW.PrintWords Go.Proofs.YtllnieknogficaaW.PrintLast Go.Proofs.YtllnieknogficaaW.PrintMore
attribute [local go_sem] max2_int min2_int max_two min_two max_three min_three max_four min_four   -- for this text's walks alone
set_option linter.unusedVariables false
set_option linter.unusedSimpArgs false

/-! ### laws_szIntSS: function 34 -/
def laws_szIntSS.l0 : Nat → List (List Int) → Int → Int → Option (Int)
  | 0, _, _, _ => none
  | k + 1, x0, x1, x5 => if x5 < (x0.length : Int) then (if 0 ≤ x5 then ((laws_szIntS.f (rd_L2 x0 x5) x1).bind fun t381 => (if t381 < 0 then (some (-1)) else (laws_szIntSS.l0 k x0 t381 (wrap64 (x5 + 1))))) else (none)) else (some x1)
def laws_szIntSS.f (k : Nat) (l0 : List (List Int)) (a1 : Int) : Option (Int) := if (wrap64 (a1 - (l0.length : Int))) < 0 then (some (-1)) else (laws_szIntSS.l0 k l0 (wrap64 (a1 - (l0.length : Int))) 0)
theorem laws_szIntSS.mono_l : ∀ k, (∀ y0 y1 y2, LeO (laws_szIntSS.l0 k y0 y1 y2) (laws_szIntSS.l0 (k + 1) y0 y1 y2))
  | 0 => fun _ _ _ r h => by simp [laws_szIntSS.l0] at h
  | k + 1 => by
    have ih0 := laws_szIntSS.mono_l k
    · intro y0 y1 y2
      unfold laws_szIntSS.l0
      repeat' first
      | (with_reducible exact ih0 _ _ _)
      | (with_reducible exact LeO.refl _)
      | (with_reducible exact LeO.none _)
      | (with_reducible refine LeO.ite ?_ ?_)
      | (with_reducible refine LeO.bind ?_ (fun _ => ?_))
      | exact ih0 _ _ _
      | exact LeO.none _
      | refine LeO.ite ?_ ?_
      | refine LeO.bind ?_ (fun _ => ?_)
theorem laws_szIntSS.mono : ∀ a0 a1 k, LeO (laws_szIntSS.f k a0 a1) (laws_szIntSS.f (k + 1) a0 a1) := by
  intro a0 a1 k
  have ih0 := laws_szIntSS.mono_l k
  unfold laws_szIntSS.f
  repeat' first
      | (with_reducible exact ih0 _ _ _)
      | (with_reducible exact LeO.refl _)
      | (with_reducible exact LeO.none _)
      | (with_reducible refine LeO.ite ?_ ?_)
      | (with_reducible refine LeO.bind ?_ (fun _ => ?_))
      | exact ih0 _ _ _
      | exact LeO.none _
      | refine LeO.ite ?_ ?_
      | refine LeO.bind ?_ (fun _ => ?_)
set_option maxHeartbeats 8000000 in
set_option maxRecDepth 100000 in
theorem laws_szIntSS.calls (k : Nat) (A0 : Option Addr) (c0 : Nat) (l0 : List (List Int)) (a1 : Int) (r : Int) (w : World) (hr0 : Kd.C (Kd.slice 3 (Kd.int .i64)) w A0 l0.length l0) (hc0 : l0.length ≤ c0) (h : laws_szIntSS.f k l0 a1 = some r) :
    Calls Try.prog 34 #[.slice A0 l0.length c0, .int .i64 a1] w fun e w' => e = .returned (.int .i64 r) ∧ Drawn0 w w' := by
  have HR0 := Aside0.mk hr0
  have HC0 := Aside0.mk hc0
  clear hr0 hc0
  have H : (if (wrap64 (a1 - (l0.length : Int))) < 0 then (some (-1)) else (laws_szIntSS.l0 k l0 (wrap64 (a1 - (l0.length : Int))) 0)) = some r := h
  clear h
  by_cases c3 : (wrap64 (a1 - (l0.length : Int))) < 0
  · rw [if_pos c3] at H
    have c3b0 : decide ((wrap64 (a1 - (l0.length : Int))) < 0) = true := decide_eq_true c3
    clear c3
    obtain rfl := Option.some.inj H
    go_enter Try.func34, Try.ntmps34
    go_wp2
    go_ret
    exact ⟨by first | rfl | (simp; done) | (simp [*]; done), by repeat (first | exact Drawn0.refl _ | apply Drawn0.step)⟩
  · rw [if_neg c3] at H
    have c3b0 : decide ((wrap64 (a1 - (l0.length : Int))) < 0) = false := decide_eq_false c3
    clear c3
    have H' := Aside0.mk H
    clear H
    go_enter Try.func34, Try.ntmps34
    go_wp2
    go_loopg [1, 5] k (fun kq v1 v5 w' => ∃ (x1_1 : Int) (x5_1 : Int), v1 = .int .i64 x1_1 ∧ v5 = .int .i64 x5_1 ∧ Aside0 (laws_szIntSS.l0 kq l0 x1_1 x5_1 = some r) ∧ Aside0 (kq ≤ k) ∧ Drawn0 w w')
    case atStart => exact ⟨(wrap64 (a1 - (l0.length : Int))), (0), (by first | rfl | (simp; done) | (simp [*]; done)), (by first | rfl | (simp; done) | (simp [*]; done)), H', ⟨Nat.le_refl _⟩, by repeat (first | exact Drawn0.refl _ | apply Drawn0.step)⟩
    case round =>
      clear H'
      try clear p2
      try clear c3
      try clear c3b0
      obtain ⟨x1_1, x5_1, rfl, rfl, HA, HK1, ⟨m1, rfl⟩⟩ := hrel
      cases gk with
      | zero => exact absurd HA.out (by simp [laws_szIntSS.l0])
      | succ k1 =>
        have H := HA.out
        clear HA
        simp only [laws_szIntSS.l0] at H
        by_cases c4 : x5_1 < (l0.length : Int)
        · rw [if_pos c4] at H
          have c4b0 : decide (x5_1 < (l0.length : Int)) = true := decide_eq_true c4
          clear c4
          by_cases c5 : 0 ≤ x5_1
          · rw [if_pos c5] at H
            have c5b0 : decide (0 ≤ x5_1) = true := decide_eq_true c5
            clear c5
            replace H := Option.bind_eq_some_iff.mp H
            obtain ⟨t381, A60, H⟩ := H
            replace H : (if t381 < 0 then (some (-1)) else (laws_szIntSS.l0 k1 l0 t381 (wrap64 (x5_1 + 1)))) = some r := H
            have A6 := Aside0.mk A60
            clear A60
            by_cases c7 : t381 < 0
            · rw [if_pos c7] at H
              have c7b0 : decide (t381 < 0) = true := decide_eq_true c7
              clear c7
              obtain rfl := Option.some.inj H
              have p380 : 0 ≤ (x5_1 : Int) := of_decide_eq_true (by first | (with_reducible assumption) | assumption)
              have q380 : x5_1 < (l0.length : Int) := of_decide_eq_true (by first | (with_reducible assumption) | assumption)
              obtain ⟨ad380, A380_0, c380_0, e380, hx380_0, hl380_0, hi380_0⟩ := at_L2 HR0.out x5_1 p380 q380
              cases e380
              have HR380_0 := Aside0.mk hi380_0
              have HC380_0 := Aside0.mk hl380_0
              clear hi380_0 hl380_0
              replace p380 := eq_true p380
              replace q380 := eq_true q380
              go_wp2_with (first | ((with_reducible refine gate_callee (f := 124) rfl ?_); refine goesL_ (some 23) rfl rfl Try.func124 (by kernel_rfl) rfl #[.slice A380_0 (rd_L2 l0 x5_1).length c380_0, .int .i64 x1_1] rfl (by (try simp only [List.map_toArray, List.map_cons, List.map_nil]); first | done | rfl | (simp only [List.length_drop, List.length_take]; rfl)) ?_; (with_reducible refine (laws_szIntS.calls _ _ (rd_L2 l0 x5_1) x1_1 t381 _ ?side1 ?side2 A6.out).mono ?_); (case side1 => repeat (first | exact HR380_0.out | (with_reducible refine Kd.C_alloc ?_ _) | (with_reducible refine Kd.C_drewN ?_ _) | (with_reducible refine Kd.C_drew ?_))); (case side2 => exact HC380_0.out); rintro e w' ⟨rfl, ⟨nd, rfl⟩⟩; refine ⟨_, rfl, ?_⟩))
              go_ret
              exact ⟨by first | rfl | (simp; done) | (simp [*]; done), by repeat (first | exact Drawn0.refl _ | apply Drawn0.step)⟩
            · rw [if_neg c7] at H
              have c7b0 : decide (t381 < 0) = false := decide_eq_false c7
              clear c7
              have H' := Aside0.mk H
              clear H
              have p380 : 0 ≤ (x5_1 : Int) := of_decide_eq_true (by first | (with_reducible assumption) | assumption)
              have q380 : x5_1 < (l0.length : Int) := of_decide_eq_true (by first | (with_reducible assumption) | assumption)
              obtain ⟨ad380, A380_0, c380_0, e380, hx380_0, hl380_0, hi380_0⟩ := at_L2 HR0.out x5_1 p380 q380
              cases e380
              have HR380_0 := Aside0.mk hi380_0
              have HC380_0 := Aside0.mk hl380_0
              clear hi380_0 hl380_0
              replace p380 := eq_true p380
              replace q380 := eq_true q380
              go_wp2_with (first | ((with_reducible refine gate_callee (f := 124) rfl ?_); refine goesL_ (some 23) rfl rfl Try.func124 (by kernel_rfl) rfl #[.slice A380_0 (rd_L2 l0 x5_1).length c380_0, .int .i64 x1_1] rfl (by (try simp only [List.map_toArray, List.map_cons, List.map_nil]); first | done | rfl | (simp only [List.length_drop, List.length_take]; rfl)) ?_; (with_reducible refine (laws_szIntS.calls _ _ (rd_L2 l0 x5_1) x1_1 t381 _ ?side1 ?side2 A6.out).mono ?_); (case side1 => repeat (first | exact HR380_0.out | (with_reducible refine Kd.C_alloc ?_ _) | (with_reducible refine Kd.C_drewN ?_ _) | (with_reducible refine Kd.C_drew ?_))); (case side2 => exact HC380_0.out); rintro e w' ⟨rfl, ⟨nd, rfl⟩⟩; refine ⟨_, rfl, ?_⟩))
              go_roundg k1
              case measure => have := HK1.out; omega
              case rel => exact ⟨(t381), (wrap64 (x5_1 + 1)), (by first | rfl | (simp; done) | (simp [*]; done)), (by first | rfl | (simp; done) | (simp [*]; done)), H', ⟨by have := HK1.out; omega⟩, by repeat (first | exact Drawn0.refl _ | apply Drawn0.step)⟩
          · rw [if_neg c5] at H
            exact absurd H (by simp)
        · rw [if_neg c4] at H
          have c4b0 : decide (x5_1 < (l0.length : Int)) = false := decide_eq_false c4
          clear c4
          obtain rfl := Option.some.inj H
          go_wp2
          go_ret
          exact ⟨by first | rfl | (simp; done) | (simp [*]; done), by repeat (first | exact Drawn0.refl _ | apply Drawn0.step)⟩

end Go.Proofs.Ytllnieknogficaa.K
